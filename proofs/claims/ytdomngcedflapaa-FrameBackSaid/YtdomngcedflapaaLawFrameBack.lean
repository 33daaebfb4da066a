/- FrameBack: for every list of payloads and every cut the law returns true, and its arguments read afterwards as before. No condition. -/
import Derived.Test.YtdomngcedflapaaRows
import Derived.Test.YtdomngcedflapaaPureFrameBack
import Derived.SliceStrings
import Derived.WalkKit
import Derived.ProofKit
import Derived.OpenShut
import Derived.ShutString
import Derived.ChangeOld
import Derived.Below
import Derived.SizedLaws
import Derived.Carry
namespace Go.Proofs.Ytdomngcedflapaa.frameBack
open Go.ChangeShapes Go.WideShapes Go.ChangeAt Go.RowKit
open Go.ChangeMaps (open_string shut_string)
open Go.Proofs.YtdomngcedflapaaW.PrintWords
set_option linter.unusedVariables false
theorem own : ownKnob Try.prog.godebug = none := by kernel_rfl
theorem laidOut : laidOutB Try.prog = true := by kernel_rfl

/-- A row of strings that came in, told by its list. -/
theorem footString (w : World) (A : Option Addr) (n : Nat) (l : List ByteArray) (hn : l.length = n) (hm : n ≤ 9223372036854775807)
    (h : 0 < n → ∃ ad : Addr, A = some ad ∧ ∀ i : Nat, ∀ hi : i < l.length, w.cell? (ad.add i) = some (.string l[i])) : Kd.F Kd.string w (fun _ => True) A n l := by
  intro W' hW
  refine ⟨hn, hm, fun h0 => ?_⟩
  obtain ⟨ad, e, hc⟩ := h h0
  refine ⟨ad, e, fun j p hj => ?_⟩
  obtain ⟨hlt, hp⟩ := List.getElem?_eq_some_iff.1 hj
  refine ⟨[.string p], rfl, rfl, fun i u hu => ?_⟩
  have hc1 := hc j hlt
  rw [hp] at hc1
  have hi : i = 0 ∧ u = .string p := by
    cases i with
    | zero => exact ⟨rfl, by simpa using hu.symm⟩
    | succ i => simp at hu
  obtain ⟨rfl, rfl⟩ := hi
  have e2 : ad.add (j * 1 + 0) = ad.add j := by simp
  have hb := World.block_lt_of_cell? w _ hc1
  have e3 : Kd.string.sz = 1 := rfl
  rw [e3, e2]
  exact (World.cell?_of_block (w := w) (w' := W') (hW _ trivial hb)).trans hc1

set_option maxRecDepth 100000 in
theorem lifted (os : Os) (started : os.Started) (H : Type) (enc : TypeId × Value → H) :
    ReturnsInHanded {} Try.checked os 17 .any (Rows.frameBackSpec.pre6 enc Try.prog Try.f17 Rows.frameBackRow.domain false) (Rows.frameBackSpec.post enc Try.prog Try.f17 false true false false) := by
  refine returnsInHanded_of_change_sized (C := Try.checked) own started (by kernel_rfl) Try.func17
    (ChangeSpec.witness6 (enc := enc) (C := Try.checked) false ⟨#[], #[.slice none 0 0, .int .i64 0], []⟩ 8 (by kernel_rfl) (by kernel_rfl) (by kernel_rfl) (by kernel_rfl)) ?_
  intro W base args ds gs before hval0 hW hcnd hsz0 _
  have hval : ∀ (j : Nat) t v, Try.f17.params[j]? = some t → args[j]? = some v → Value.okWide Try.prog W .any base t v := hval0
  have hW' := hW
  obtain ⟨p, q, hA0, hV, rfl, hfz, hnd⟩ := hW
  have hA : DataW.TrodAll enc Try.prog W 0 (fun _ => true) true Try.f17.params.toList args.toList ds p := hA0
  rw [Try.params17] at hA hval
  obtain ⟨v0, vs0, d0, ds0, p0, q0, hargs, rfl, rfl, h0, r0⟩ := trodAll_cons hA
  obtain ⟨v1, vs1, d1, ds1, p1, q1, rfl, rfl, rfl, h1, r1⟩ := trodAll_cons r0
  obtain ⟨rfl, rfl, rfl⟩ := trodAll_nil r1
  obtain rfl : args = #[v0, v1] := by cases args; simp_all
  obtain ⟨rfl, rfl⟩ := trodVars_none hV
  obtain ⟨A0, len0, cap0, rfl⟩ := okWide_slice Try.underlying66 (hval 0 66 v0 rfl rfl)
  have k0 := h0
  have lt0 : ∀ x ∈ p0, x.block < W.heap.size := by
    obtain ⟨m, hm⟩ := k0
    exact DataW.trod_lt m _ _ _ hm
  obtain ⟨l, hll, hlc, hF⟩ : ∃ l : List ByteArray, l.length = len0 ∧ len0 ≤ cap0 ∧ Kd.F Kd.string W (fun _ => True) A0 len0 l := by
    obtain ⟨fuel, hf⟩ := h0
    rcases open_strings Try.underlying66 Try.underlying9 (by kernel_rfl) hf with ⟨hcs, _⟩ | ⟨x, ln, c, ss, hcs, _, hl, hm, hz, _, hcell, _⟩
    · simp [Value.cells] at hcs
      obtain ⟨rfl, rfl, rfl⟩ := hcs
      exact ⟨[], rfl, Nat.le_refl _, footString W none 0 [] rfl (by omega) (fun h => absurd h (by omega))⟩
    · simp [Value.cells] at hcs
      obtain ⟨rfl, rfl, rfl⟩ := hcs
      have hz' : ss.length = cap0 := by simpa using hz
      have hlen : (ss.take len0).length = len0 := by rw [List.length_take]; omega
      refine ⟨ss.take len0, hlen, hl, footString W (some x) len0 _ hlen (by unfold maxLen at hm; omega) (fun _ => ⟨x, rfl, fun i hi => ?_⟩)⟩
      have hi2 : i < ss.length := by omega
      rw [hcell i hi2, List.getElem_take]
      simp [List.getD, hi2]
  obtain ⟨a1, rfl, rfl, rfl, w1⟩ := open_int Try.underlying3 (hval 1 3 v1 rfl rfl) h1
  clear hA0 hval0 hsz0
  obtain ⟨k, hk⟩ := Pure.FrameBack l a1
  subst hll
  refine (PFrame.barquelaw02_FrameBack.calls k (fun _ => True) A0 cap0 l a1 true W ⟨A0, cap0, rfl, hlc, hF⟩ hk).mono fun e W' ⟨he, bel⟩ => ?_
  subst he
  exact ⟨_, rfl, _, _, _, [], _, [], hW', trodAll_mk1 (shut_bool Try.underlying4 _), (trodAll_cons_mk (Below.trod laidOut (by kernel_rfl) (of_decide_eq_true (by kernel_rfl)) k0 bel lt0) (trodAll_cons_mk (shut_int Try.underlying3 w1) trodAll_mk0)), rfl, bel.frame _, fun h => by cases h⟩
theorem over : Rows.frameBackRow.holds Try.pinned (OpenSpec.ofChange Rows.frameBackSpec) :=
  OpenClaim.holds_of_wide 17 Try.f17 rfl rfl rfl rfl rfl rfl rfl ⟨rfl, rfl, rfl, rfl, rfl⟩ rfl rfl rfl rfl rfl (by kernel_rfl) Try.func17 (by kernel_rfl)
    (of_decide_eq_true (by kernel_rfl)) (by unfold Func.isWrapper; first | (rw [if_pos (by decide +kernel)]; kernel_rfl) | (rw [if_neg (by decide +kernel)]; exact ⟨rfl, rfl⟩))
    (fun os started H enc _ => lifted os started H enc)
theorem proved : Rows.FrameBackSaid := over
#print axioms proved
end Go.Proofs.Ytdomngcedflapaa.frameBack
namespace Go.Proofs.Ytdomngcedflapaa
/-- The row, under a short name, for the claim. -/
theorem frameBack_holds : Rows.FrameBackSaid := frameBack.proved
end Go.Proofs.Ytdomngcedflapaa
