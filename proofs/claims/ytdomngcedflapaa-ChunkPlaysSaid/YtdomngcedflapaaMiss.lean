/- The walk of Missing. -/
import Derived.Test.YtdomngcedflapaaPlay
namespace Go.Proofs.YtdomngcedflapaaW.Box
open Go.RowKit Go.Proofs.Ytdomngcedflapaa Go.Proofs.YtdomngcedflapaaW.PrintWords Go.Proofs.YtdomngcedflapaaW.PrintLast Go.Proofs.YtdomngcedflapaaW.PrintMore

/-- The first places that lack, among the first j places, at most so many. -/
def missN (H : List Bool) (most : Int) : Nat → List Int
  | 0 => []
  | j + 1 => if H.getD j false = false ∧ ((missN H most j).length : Int) < most then missN H most j ++ [(j : Int)] else missN H most j

theorem missN_length (H : List Bool) (most : Int) : ∀ j, (missN H most j).length ≤ j
  | 0 => Nat.le_refl _
  | j + 1 => by
    have := missN_length H most j
    unfold missN
    split
    · rw [List.length_append]
      simp
      exact this
    · omega

theorem info3' : (Try.prog.info? 3).map (fun i => (i.zero, i.size, i.bytes)) = some (some (.int .i64 0), 1, 8) := by kernel_rfl

set_option maxRecDepth 100000 in
set_option maxHeartbeats 2000000 in
theorem missing_calls {w : World} {a p h : Nat} {x : Bx} (b0 : At w a p h x) (hm : x.P.length ≤ 4096) (most : Int) :
    Calls Try.prog 33 #[.pointer (some ⟨a, 0, none⟩), .int .i64 most] w fun e w' => ∃ v, e = .returned v ∧ Kd.R (Kd.int .i64) 3 w' w.heap.size (fun _ => True) v (missN x.H most x.P.length) ∧ Below w.heap.size w w' := by
  have c1 := BoxAt.c1 b0
  have HX0 := Aside0.mk b0
  have HB := Aside0.mk (Below.refl w.heap.size w)
  clear b0
  go_enter Try.func33, Try.ntmps33
  go_wp2
  go_loopg [5, 15] x.P.length (fun kq v5 v15 w' => ∃ j : Nat, v15 = .int .i64 (j : Int) ∧ Aside0 (j + kq = x.P.length) ∧ Aside0 (Kd.R (Kd.int .i64) 3 w' w.heap.size (fun _ => True) v5 (missN x.H most j)) ∧ Aside0 (Below w.heap.size w w'))
  case atStart => exact ⟨0, rfl, ⟨by omega⟩, ⟨Kd.R_nil _ _ _ _ _⟩, HB⟩
  case round =>
    clear HB
    obtain ⟨j, rfl, HK, HO, HB⟩ := hrel
    have HXw := Aside0.mk (At.below HX0.out HB.out)
    obtain ⟨A5, c5, e5⟩ := Kd.R_slice HO.out
    subst e5
    by_cases hj : j < x.P.length
    · obtain ⟨k1, rfl⟩ : ∃ k1, gk = k1 + 1 := ⟨gk - 1, by have := HK.out; omega⟩
      have d0 : decide ((j : Int) < (x.P.length : Int)) = true := decide_eq_true (by omega)
      have d1 : ((j : Int) < (x.P.length : Int)) = True := eq_true (by omega)
      have d2 : (0 ≤ (j : Int)) = True := eq_true (by omega)
      have d3 : IntKind.i64.wrap ((j : Int) + 1) = ((j + 1 : Nat) : Int) := by rw [IntKind.wrap_i64]; omega
      have ch := BoxAt.ch HXw.out j hj
      by_cases hh : x.H.getD j false = true
      · rw [hh] at ch
        have em : missN x.H most (j + 1) = missN x.H most j := by
          rw [missN, if_neg (by rintro ⟨h, _⟩; rw [hh] at h; cases h)]
        clear hh
        go_wp2
        go_roundg k1
        case measure => omega
        case rel => exact ⟨j + 1, rfl, ⟨by have := HK.out; omega⟩, ⟨em.symm ▸ HO.out⟩, HB⟩
      · have hf : x.H.getD j false = false := by simpa using hh
        rw [hf] at ch
        by_cases hl : ((missN x.H most j).length : Int) < most
        · have d4 : decide (((missN x.H most j).length : Int) < most) = true := decide_eq_true hl
          have em : missN x.H most (j + 1) = missN x.H most j ++ [(j : Int)] := by
            rw [missN, if_pos ⟨hf, hl⟩]
          have EM := Aside0.mk em
          have LM := Aside0.mk (missN_length x.H most j)
          clear hh hf hl em
          go_wp2_with (first | ((with_reducible refine gate_builtin (b := .append) (xs := #[.tmp 28, .tmp 30]) rfl ?_); at_builtin; refine Kd.R_append (Kd.int .i64) (w0 := w) w.heap.size rfl (.tmp 28) (.tmp 30) 42 3 (.int .i64 0) 8 rfl Try.underlying42 info3' rfl (by decide) (by omega) (.slice A5 (missN x.H most j).length c5) (missN x.H most j) (j : Int) [.int .i64 (j : Int)] (fun _ => True) (fun _ => False) rfl rfl ?aP (fun _ hk => hk.elim) ?aF ?aO ?aB ?aS ?aL ?_; (case aP => exact rfl); (case aB => exact (by repeat (first | (with_reducible first | exact HB.out | apply below_alloc | apply pw_below_drewN | apply below_drew1) | exact HB.out))); (case aF => exact (fun _ _ => trivial)); (case aO => exact (by (with_reducible repeat (first | apply Kd.R_alloc | apply Kd.R_drewN | apply Kd.R_drew)); exact HO.out)); (case aS => exact (below_size (by repeat (first | (with_reducible first | exact HB.out | apply below_alloc | apply pw_below_drewN | apply below_drew1) | exact HB.out)))); (case aL => have := LM.out; omega); intro v104 w7 ho hb hg hat; rw [← EM.out] at ho; have n0_ := Aside0.mk (hb); have n1_ := Aside0.mk (ho); clear HB; clear HO; have HB := n0_; have HO := n1_; clear n0_ n1_; clear ho hb hg hat))
          go_roundg k1
          case measure => omega
          case rel => exact ⟨j + 1, rfl, ⟨by have := HK.out; omega⟩, HO, HB⟩
        · have d4 : decide (((missN x.H most j).length : Int) < most) = false := decide_eq_false hl
          have em : missN x.H most (j + 1) = missN x.H most j := by
            rw [missN, if_neg (by rintro ⟨_, h⟩; exact hl h)]
          clear hh hf hl
          go_wp2
          go_roundg k1
          case measure => omega
          case rel => exact ⟨j + 1, rfl, ⟨by have := HK.out; omega⟩, ⟨em.symm ▸ HO.out⟩, HB⟩
    · obtain rfl : j = x.P.length := by have := HK.out; omega
      have d0 : decide ((x.P.length : Int) < (x.P.length : Int)) = false := decide_eq_false (by omega)
      go_wp2
      go_ret
      exact ⟨_, rfl, HO.out, HB.out⟩

end Go.Proofs.YtdomngcedflapaaW.Box
