/- ChunkPlays: for every number and script the law returns true, and its arguments read afterwards as before. No condition. -/
import Derived.Test.YtdomngcedflapaaRows
import Derived.Test.YtdomngcedflapaaPlaysW
import Derived.Deep.Slices
import Derived.Deep.Strs
import Derived.WalkKit
import Derived.ProofKit
import Derived.OpenShut
import Derived.ShutString
import Derived.ChangeOld
import Derived.Below
import Derived.SizedLaws
import Derived.Carry
namespace Go.Proofs.Ytdomngcedflapaa.chunkPlays
open Go.ChangeShapes Go.WideShapes Go.ChangeAt Go.RowKit
open Go.ChangeMaps (open_string shut_string)
open Go.Proofs.YtdomngcedflapaaW.BackP Go.Proofs.YtdomngcedflapaaW.Ref
set_option linter.unusedVariables false
theorem own : ownKnob Try.prog.godebug = none := by kernel_rfl
theorem laidOut : laidOutB Try.prog = true := by kernel_rfl

/-- An op that came in, told by its five cells. -/
theorem op_cells {H : Type} {enc : TypeId × Value → H} {w : World} {base : Nat} {spare : Nat → Bool} {held : Bool} {n : Nat} {a : Addr} {cs : List Value} {y : DataW H × List MemPlace} (hc : w.cells? base a (Try.prog.cellsOf 55) = some cs)
    (ht : DataW.trod enc Try.prog w base spare held n 55 cs = some y) : ∃ o : Op5, w.cell? a = some (.int .i64 o.K) ∧ w.cell? ⟨a.block, a.off + 1, none⟩ = some (.int .i64 o.M) ∧ w.cell? ⟨a.block, a.off + 2, none⟩ = some (.int .i64 o.at_) ∧
      w.cell? ⟨a.block, a.off + 3, none⟩ = some (.int .i64 o.of_) ∧ w.cell? ⟨a.block, a.off + 4, none⟩ = some (.string o.txt) := by
  have e55 : Try.prog.cellsOf 55 = 5 := by kernel_rfl
  have e36 : Try.prog.cellsOf 36 = 3 := by kernel_rfl
  have e3 : Try.prog.cellsOf 3 = 1 := by kernel_rfl
  have e9 : Try.prog.cellsOf 9 = 1 := by kernel_rfl
  obtain ⟨_, hl, hcell⟩ := World.cells?_some hc
  rw [e55] at hl hcell
  obtain ⟨y0, y1, y2, m, _, _, h0, h1, h2⟩ := Go.Deep.trod_struct3 Try.underlying55 ht
  match cs, hl with
  | [c0, c1, c2, c3, c4], _ =>
    simp only [e3, e36] at h0 h1 h2
    obtain ⟨z0, z1, z2, m2, _, _, g0, g1, g2⟩ := Go.Deep.trod_struct3 Try.underlying36 h2
    simp only [e3, e9] at g0 g1 g2
    obtain ⟨v0, q0, _⟩ := DataW.trod_int Try.underlying3 h0
    obtain ⟨v1, q1, _⟩ := DataW.trod_int Try.underlying3 h1
    obtain ⟨v2, q2, _⟩ := DataW.trod_int Try.underlying3 g0
    obtain ⟨v3, q3, _⟩ := DataW.trod_int Try.underlying3 g1
    obtain ⟨v4, q4, _⟩ := DataW.trod_string Try.underlying9 g2
    simp at q0 q1 q2 q3 q4
    subst q0 q1 q2 q3 q4
    have a0 : a.add 0 = a := by simp [Addr.add]
    have aj : ∀ j, 0 < j → a.add j = ⟨a.block, a.off + j, none⟩ := fun j hj => by
      have : j ≠ 0 := by omega
      simp [Addr.add, this]
    have k0 := hcell 0 (by omega)
    have k1 := hcell 1 (by omega)
    have k2 := hcell 2 (by omega)
    have k3 := hcell 3 (by omega)
    have k4 := hcell 4 (by omega)
    rw [a0] at k0
    rw [aj 1 (by omega)] at k1
    rw [aj 2 (by omega)] at k2
    rw [aj 3 (by omega)] at k3
    rw [aj 4 (by omega)] at k4
    exact ⟨⟨v0, v1, v2, v3, v4⟩, k0, k1, k2, k3, k4⟩

set_option maxRecDepth 100000 in
theorem lifted (os : Os) (started : os.Started) (H : Type) (enc : TypeId × Value → H) :
    ReturnsInHanded {} Try.checked os 9 .any (Rows.chunkPlaysSpec.pre6 enc Try.prog Try.f9 Rows.chunkPlaysRow.domain false) (Rows.chunkPlaysSpec.post enc Try.prog Try.f9 false true false false) := by
  refine returnsInHanded_of_change_sized (C := Try.checked) own started (by kernel_rfl) Try.func9
    (ChangeSpec.witness6 (enc := enc) (C := Try.checked) false ⟨#[], #[.int .i64 0, .slice none 0 0], []⟩ 8 (by kernel_rfl) (by kernel_rfl) (by kernel_rfl) (by kernel_rfl)) ?_
  intro W base args ds gs before hval0 hW hcnd hsz0 _
  have hval : ∀ (j : Nat) t v, Try.f9.params[j]? = some t → args[j]? = some v → Value.okWide Try.prog W .any base t v := hval0
  have hW' := hW
  obtain ⟨p, q, hA0, hV, rfl, hfz, hnd⟩ := hW
  have hA : DataW.TrodAll enc Try.prog W 0 (fun _ => true) true Try.f9.params.toList args.toList ds p := hA0
  rw [Try.params9] at hA hval
  obtain ⟨v0, vs0, d0, ds0, p0, q0, hargs, rfl, rfl, h0, r0⟩ := trodAll_cons hA
  obtain ⟨v1, vs1, d1, ds1, p1, q1, rfl, rfl, rfl, h1, r1⟩ := trodAll_cons r0
  obtain ⟨rfl, rfl, rfl⟩ := trodAll_nil r1
  obtain rfl : args = #[v0, v1] := by cases args; simp_all
  obtain ⟨rfl, rfl⟩ := trodVars_none hV
  obtain ⟨A1, len1, cap1, rfl⟩ := okWide_slice Try.underlying48 (hval 1 48 v1 rfl rfl)
  have k1 := h1
  have lt1 : ∀ x ∈ p1, x.block < W.heap.size := by
    obtain ⟨m, hm⟩ := k1
    exact DataW.trod_lt m _ _ _ hm
  obtain ⟨ops, hO⟩ : ∃ ops : Nat → Op5, OpsAt W A1 len1 ops := by
    obtain ⟨fuel, hf⟩ := h1
    rcases Go.Deep.open_slice Try.underlying48 hf with ⟨hcs, _⟩ | ⟨x, ln, c, m, nn, D, Pl, hcs, _, hl, hm, hmm, _, hx⟩
    · simp [Value.cells] at hcs
      obtain ⟨rfl, rfl, rfl⟩ := hcs
      exact ⟨fun _ => ⟨0, 0, 0, 0, ByteArray.empty⟩, fun i hi => absurd hi (by omega)⟩
    · simp [Value.cells] at hcs
      obtain ⟨rfl, rfl, rfl⟩ := hcs
      have hml : len1 ≤ m := by rw [hmm]; split <;> omega
      have e55 : Try.prog.cellsOf 55 = 5 := by kernel_rfl
      have hex : ∀ i, ∃ o : Op5, i < len1 → W.cell? (x.add (i * 5)) = some (.int .i64 o.K) ∧ W.cell? ⟨(x.add (i * 5)).block, (x.add (i * 5)).off + 1, none⟩ = some (.int .i64 o.M) ∧ W.cell? ⟨(x.add (i * 5)).block, (x.add (i * 5)).off + 2, none⟩ = some (.int .i64 o.at_) ∧
          W.cell? ⟨(x.add (i * 5)).block, (x.add (i * 5)).off + 3, none⟩ = some (.int .i64 o.of_) ∧ W.cell? ⟨(x.add (i * 5)).block, (x.add (i * 5)).off + 4, none⟩ = some (.string o.txt) := fun i => by
        by_cases hi : i < len1
        · obtain ⟨cs', hc1, hc2⟩ := hx i (by omega)
          obtain ⟨o, ho⟩ := op_cells hc1 hc2
          rw [e55] at ho
          exact ⟨o, fun _ => ho⟩
        · exact ⟨⟨0, 0, 0, 0, ByteArray.empty⟩, fun h => absurd h hi⟩
      refine ⟨fun i => (hex i).choose, fun i hi => ⟨x, rfl, fun W' hW2 j hj => ?_⟩⟩
      obtain ⟨g0, g1, g2, g3, g4⟩ := (hex j).choose_spec hj
      exact ⟨cell_keep hW2 g0, cell_keep hW2 g1, cell_keep hW2 g2, cell_keep hW2 g3, cell_keep hW2 g4⟩
  obtain ⟨a0, rfl, rfl, rfl, w0⟩ := open_int Try.underlying3 (hval 0 3 v0 rfl rfl) h0
  clear hA0 hval0 hsz0
  refine (plays a0 A1 len1 cap1 ops W hO).mono fun e W' ⟨he, bel⟩ => ?_
  subst he
  exact ⟨_, rfl, _, _, _, [], _, [], hW', trodAll_mk1 (shut_bool Try.underlying4 _), (trodAll_cons_mk (shut_int Try.underlying3 w0) (trodAll_cons_mk (Below.trod laidOut (by kernel_rfl) (of_decide_eq_true (by kernel_rfl)) k1 bel lt1) trodAll_mk0)), rfl, bel.frame _, fun h => by cases h⟩
theorem over : Rows.chunkPlaysRow.holds Try.pinned (OpenSpec.ofChange Rows.chunkPlaysSpec) :=
  OpenClaim.holds_of_wide 9 Try.f9 rfl rfl rfl rfl rfl rfl rfl ⟨rfl, rfl, rfl, rfl, rfl⟩ rfl rfl rfl rfl rfl (by kernel_rfl) Try.func9 (by kernel_rfl)
    (of_decide_eq_true (by kernel_rfl)) (by unfold Func.isWrapper; first | (rw [if_pos (by decide +kernel)]; kernel_rfl) | (rw [if_neg (by decide +kernel)]; exact ⟨rfl, rfl⟩))
    (fun os started H enc _ => lifted os started H enc)
theorem proved : Rows.ChunkPlaysSaid := over
#print axioms proved
end Go.Proofs.Ytdomngcedflapaa.chunkPlays
namespace Go.Proofs.Ytdomngcedflapaa
/-- The row, under a short name, for the claim. -/
theorem chunkPlays_holds : Rows.ChunkPlaysSaid := chunkPlays.proved
end Go.Proofs.Ytdomngcedflapaa
