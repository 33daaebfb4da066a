/- The document's box in memory; the walks of its All and Missing. -/
import Derived.Test.YtdomngcedflapaaBackP
import Derived.Deep.QuietTactic
namespace Go.Proofs.YtdomngcedflapaaW.Ref
open Go.RowKit Go.Proofs.Ytdomngcedflapaa Go.Proofs.YtdomngcedflapaaW.PrintWords Go.Proofs.YtdomngcedflapaaW.PrintLast Go.Proofs.YtdomngcedflapaaW.PrintMore
open Go.Proofs.YtdomngcedflapaaW.Box

/-- The places' cells. -/
def mix : List ByteArray → List Bool → List Value
  | p :: P, h :: H => .bool h :: .string p :: mix P H
  | _, _ => []

theorem mix_get0 : ∀ (P : List ByteArray) (H : List Bool) (i : Nat), H.length = P.length → i < P.length → (mix P H)[i * 2]? = some (.bool (H.getD i false))
  | [], _, i, _, hi => absurd hi (Nat.not_lt_zero _)
  | p :: P, [], i, hl, _ => by simp at hl
  | p :: P, h :: H, 0, _, _ => rfl
  | p :: P, h :: H, i + 1, hl, hi => by
    have ih := mix_get0 P H i (by simpa using hl) (by simpa using hi)
    rw [show (i + 1) * 2 = i * 2 + 1 + 1 by omega]
    simpa [mix] using ih

theorem mix_get1 : ∀ (P : List ByteArray) (H : List Bool) (i : Nat), H.length = P.length → i < P.length → (mix P H)[i * 2 + 1]? = some (.string (P.getD i ByteArray.empty))
  | [], _, i, _, hi => absurd hi (Nat.not_lt_zero _)
  | p :: P, [], i, hl, _ => by simp at hl
  | p :: P, h :: H, 0, _, _ => rfl
  | p :: P, h :: H, i + 1, hl, hi => by
    have ih := mix_get1 P H i (by simpa using hl) (by simpa using hi)
    rw [show (i + 1) * 2 + 1 = i * 2 + 1 + 1 + 1 by omega]
    simpa [mix] using ih

theorem mix_set : ∀ (P : List ByteArray) (H : List Bool) (i : Nat) (b : Bool) (t : ByteArray), H.length = P.length → i < P.length → ((mix P H).set (i * 2) (.bool b)).set (i * 2 + 1) (.string t) = mix (P.set i t) (H.set i b)
  | [], _, i, _, _, _, hi => absurd hi (Nat.not_lt_zero _)
  | p :: P, [], i, _, _, hl, _ => by simp at hl
  | p :: P, h :: H, 0, _, _, _, _ => rfl
  | p :: P, h :: H, i + 1, b, t, hl, hi => by
    have ih := mix_set P H i b t (by simpa using hl) (by simpa using hi)
    rw [show (i + 1) * 2 = i * 2 + 1 + 1 by omega, show i * 2 + 1 + 1 + 1 = (i * 2 + 1) + 1 + 1 by omega]
    simp [mix, ih]

/-- The document's box in memory. -/
structure RAt (w : World) (a b : Nat) (x : Bx) : Prop where
  box : w.heap[a]? = some (.cells #[.slice (some ⟨b, 0, none⟩) x.P.length x.P.length] 52 (0, 0))
  cells : w.heap[b]? = some (.cells (mix x.P x.H).toArray 84 (0, 0))
  len : x.H.length = x.P.length
  ab : a ≠ b

section
variable {w : World} {a b : Nat} {x : Bx}
theorem RAt.c0 (r : RAt w a b x) : w.cell? ⟨a, 0, none⟩ = some (.slice (some ⟨b, 0, none⟩) x.P.length x.P.length) := by rw [Lib.cell_of_heap r.box]; rfl
theorem RAt.ch (r : RAt w a b x) (i : Nat) (hi : i < x.P.length) : w.cell? ⟨b, i * 2, none⟩ = some (.bool (x.H.getD i false)) := by
  rw [Lib.cell_of_heap r.cells]
  simpa using mix_get0 x.P x.H i r.len hi
theorem RAt.cp (r : RAt w a b x) (i : Nat) (hi : i < x.P.length) : w.cell? ⟨b, i * 2 + 1, none⟩ = some (.string (x.P.getD i ByteArray.empty)) := by
  rw [Lib.cell_of_heap r.cells]
  simpa using mix_get1 x.P x.H i r.len hi
theorem RAt.fr (r : RAt w a b x) (i : Nat) : w.frozen? ⟨b, i, none⟩ = false := Lib.frozen_of_heap r.cells i
theorem RAt.move {w' : World} (r : RAt w a b x) (ea : w'.heap[a]? = w.heap[a]?) (eb : w'.heap[b]? = w.heap[b]?) : RAt w' a b x := ⟨ea.trans r.box, eb.trans r.cells, r.len, r.ab⟩
theorem RAt.below {w' : World} (r : RAt w a b x) (hb : Below w.heap.size w w') : RAt w' a b x := r.move (hb.block _ (heap_lt r.box)) (hb.block _ (heap_lt r.cells))
theorem RAt.only {w' : World} (r : RAt w a b x) {S : Nat → Prop} (hb : Only S w w') (ha : ¬ S a) (hb' : ¬ S b) : RAt w' a b x := r.move (hb.block _ (heap_lt r.box) ha) (hb.block _ (heap_lt r.cells) hb')
end

/-- The first j texts, one behind the other. -/
def joinP (P : List ByteArray) : Nat → ByteArray
  | 0 => ⟨#[]⟩
  | j + 1 => joinP P j ++ P.getD j ByteArray.empty

/-- All texts' sizes are small. -/
def Small (x : Bx) : Prop := ∀ j, (x.P.getD j ByteArray.empty).size ≤ 300

theorem joinP_size {x : Bx} (h : Small x) : ∀ j, (joinP x.P j).size ≤ 300 * j
  | 0 => Nat.le_refl _
  | j + 1 => by
    have := joinP_size h j
    have := h j
    unfold joinP
    rw [ByteArray.size_append]
    omega

set_option maxRecDepth 100000 in
set_option maxHeartbeats 2000000 in
theorem all_calls {w : World} {a b : Nat} {x : Bx} (r : RAt w a b x) (hs : Small x) (hn : x.P.length ≤ 60) :
    Calls Try.prog 52 #[.pointer (some ⟨a, 0, none⟩)] w fun e w' => e = .returned (.string (joinP x.P x.P.length)) ∧ w' = w := by
  have HR := Aside0.mk r
  have HS := Aside0.mk hs
  have c0 := r.c0
  clear r hs
  go_enter Try.func52, Try.ntmps52
  go_wp2
  go_loopg [3, 4] x.P.length (fun kq v3 v4 w' => ∃ j : Nat, v3 = .string (joinP x.P j) ∧ v4 = .int .i64 (j : Int) ∧ Aside0 (j + kq = x.P.length) ∧ w' = w)
  case atStart => exact ⟨0, rfl, rfl, ⟨by omega⟩, rfl⟩
  case round =>
    obtain ⟨j, rfl, rfl, HK, rfl⟩ := hrel
    by_cases hj : j < x.P.length
    · obtain ⟨k1, rfl⟩ : ∃ k1, gk = k1 + 1 := ⟨gk - 1, by have := HK.out; omega⟩
      have d0 : decide ((j : Int) < (x.P.length : Int)) = true := decide_eq_true (by omega)
      have d0n : decide (j < x.P.length) = true := decide_eq_true hj
      have d1 : ((j : Int) < (x.P.length : Int)) = True := eq_true (by omega)
      have d1n : (j < x.P.length) = True := eq_true hj
      have d2 : (0 ≤ (j : Int)) = True := eq_true (by omega)
      have d3 : IntKind.i64.wrap ((j : Int) + 1) = ((j + 1 : Nat) : Int) := by rw [IntKind.wrap_i64]; omega
      have cp := HR.out.cp j hj
      have s1 := joinP_size HS.out j
      have s2 := HS.out j
      have HJ : Aside0 (joinP x.P (j + 1) = joinP x.P j ++ x.P.getD j ByteArray.empty) := ⟨rfl⟩
      generalize x.P.getD j ByteArray.empty = y at cp s2 HJ
      have s3 : (joinP x.P j).size + y.size ≤ 9223372036854775807 := by omega
      clear hj s1 s2
      go_wp2
      go_roundg k1
      case measure => omega
      case rel => exact ⟨j + 1, by rw [HJ.out], rfl, ⟨by have := HK.out; omega⟩, rfl⟩
    · obtain rfl : j = x.P.length := by have := HK.out; omega
      have d0 : decide ((x.P.length : Int) < (x.P.length : Int)) = false := decide_eq_false (by omega)
      go_wp2
      go_ret
      exact ⟨rfl, rfl⟩

theorem rinfo3 : (Try.prog.info? 3).map (fun i => (i.zero, i.size, i.bytes)) = some (some (.int .i64 0), 1, 8) := by kernel_rfl

set_option maxRecDepth 100000 in
set_option maxHeartbeats 2000000 in
theorem rmiss_calls {w : World} {a b : Nat} {x : Bx} (r : RAt w a b x) (hm : x.P.length ≤ 60) :
    Calls Try.prog 36 #[.pointer (some ⟨a, 0, none⟩)] w fun e w' => ∃ v, e = .returned v ∧ Kd.R (Kd.int .i64) 3 w' w.heap.size (fun _ => True) v (missN x.H (x.P.length : Int) x.P.length) ∧ Below w.heap.size w w' := by
  have HR := Aside0.mk r
  have HB := Aside0.mk (Below.refl w.heap.size w)
  clear r
  go_enter Try.func36, Try.ntmps36
  go_wp2
  go_loopg [3, 4] x.P.length (fun kq v3 v4 w' => ∃ j : Nat, v4 = .int .i64 (j : Int) ∧ Aside0 (j + kq = x.P.length) ∧ Aside0 (Kd.R (Kd.int .i64) 3 w' w.heap.size (fun _ => True) v3 (missN x.H (x.P.length : Int) j)) ∧ Aside0 (Below w.heap.size w w'))
  case atStart => exact ⟨0, rfl, ⟨by omega⟩, ⟨Kd.R_nil _ _ _ _ _⟩, HB⟩
  case round =>
    clear HB
    obtain ⟨j, rfl, HK, HO, HB⟩ := hrel
    have HRw := Aside0.mk (HR.out.below HB.out)
    have c0 := HRw.out.c0
    obtain ⟨A5, c5, e5⟩ := Kd.R_slice HO.out
    subst e5
    by_cases hj : j < x.P.length
    · obtain ⟨k1, rfl⟩ : ∃ k1, gk = k1 + 1 := ⟨gk - 1, by have := HK.out; omega⟩
      have d0 : decide ((j : Int) < (x.P.length : Int)) = true := decide_eq_true (by omega)
      have d0n : decide (j < x.P.length) = true := decide_eq_true hj
      have d1 : ((j : Int) < (x.P.length : Int)) = True := eq_true (by omega)
      have d1n : (j < x.P.length) = True := eq_true hj
      have d2 : (0 ≤ (j : Int)) = True := eq_true (by omega)
      have d3 : IntKind.i64.wrap ((j : Int) + 1) = ((j + 1 : Nat) : Int) := by rw [IntKind.wrap_i64]; omega
      have ch := HRw.out.ch j hj
      have hml := missN_length x.H (x.P.length : Int) j
      by_cases hh : x.H.getD j false = true
      · rw [hh] at ch
        have em : missN x.H (x.P.length : Int) (j + 1) = missN x.H (x.P.length : Int) j := by
          rw [missN, if_neg (by rintro ⟨h, _⟩; rw [hh] at h; cases h)]
        clear hh hj hml
        go_wp2
        go_roundg k1
        case measure => omega
        case rel => exact ⟨j + 1, rfl, ⟨by have := HK.out; omega⟩, ⟨em.symm ▸ HO.out⟩, HB⟩
      · have hf : x.H.getD j false = false := by simpa using hh
        rw [hf] at ch
        have em : missN x.H (x.P.length : Int) (j + 1) = missN x.H (x.P.length : Int) j ++ [(j : Int)] := by
          rw [missN, if_pos ⟨hf, by omega⟩]
        have EM := Aside0.mk em
        have LM := Aside0.mk hml
        clear hh hf em hj hml
        go_wp2_with (first | ((with_reducible refine gate_builtin (b := .append) (xs := #[.tmp 23, .tmp 25]) rfl ?_); at_builtin; refine Kd.R_append (Kd.int .i64) (w0 := w) w.heap.size rfl (.tmp 23) (.tmp 25) 42 3 (.int .i64 0) 8 rfl Try.underlying42 rinfo3 rfl (by decide) (by omega) (.slice A5 (missN x.H (x.P.length : Int) j).length c5) (missN x.H (x.P.length : Int) j) (j : Int) [.int .i64 (j : Int)] (fun _ => True) (fun _ => False) rfl rfl ?aP (fun _ hk => hk.elim) ?aF ?aO ?aB ?aS ?aL ?_; (case aP => exact rfl); (case aB => exact (by repeat (first | (with_reducible first | exact HB.out | apply below_alloc | apply pw_below_drewN | apply below_drew1) | exact HB.out))); (case aF => exact (fun _ _ => trivial)); (case aO => exact (by (with_reducible repeat (first | apply Kd.R_alloc | apply Kd.R_drewN | apply Kd.R_drew)); exact HO.out)); (case aS => exact (below_size (by repeat (first | (with_reducible first | exact HB.out | apply below_alloc | apply pw_below_drewN | apply below_drew1) | exact HB.out)))); (case aL => have := LM.out; have := HK.out; omega); intro v104 w7 ho hb hg hat; rw [← EM.out] at ho; have n0_ := Aside0.mk (hb); have n1_ := Aside0.mk (ho); clear HB; clear HO; have HB := n0_; have HO := n1_; clear n0_ n1_; clear ho hb hg hat))
        go_roundg k1
        case measure => omega
        case rel => exact ⟨j + 1, rfl, ⟨by have := HK.out; omega⟩, HO, HB⟩
    · obtain rfl : j = x.P.length := by have := HK.out; omega
      have d0 : decide ((x.P.length : Int) < (x.P.length : Int)) = false := decide_eq_false (by omega)
      go_wp2
      go_ret
      exact ⟨_, rfl, HO.out, HB.out⟩

end Go.Proofs.YtdomngcedflapaaW.Ref
