-- Written by the session's own program (wip/mkprint.py, pr.sh), out of the walk over the given translation
import Derived.Test.YtdomngcedflapaaPFramex0
import Derived.Test.YtdomngcedflapaaPFramex4
namespace Go.Proofs.Ytdomngcedflapaa.PFrame
open Go.RowKit Go.Proofs.YtdomngcedflapaaW.PrintWords Go.Proofs.YtdomngcedflapaaW.PrintLast Go.Proofs.YtdomngcedflapaaW.PrintMore
attribute [local go_sem] max2_int min2_int max_two min_two max_three min_three max_four min_four   -- for this text's walks alone
open Go.Proofs.YtdomngcedflapaaW.Mine
attribute [local go_sem high] unary_xor_u32
set_option linter.unusedVariables false
set_option linter.unusedSimpArgs false

/-! ### barqueref02_Add: function 23 -/
def barqueref02_Add.l0 : Nat → Int → List Int → Int → Option (Int)
  | 0, _, _, _ => none
  | k + 1, x5, x6, x7 => if x7 < (x6.length : Int) then (if 0 ≤ x7 then (if (wrap64 ((Int.tmod x5 2) + (rd x6 x7))) = 1 then (barqueref02_Add.l0 k (Go.bits .xor .i64 (wrap64 (Int.tdiv x5 2)) 3988292384) x6 (wrap64 (x7 + 1))) else (barqueref02_Add.l0 k (wrap64 (Int.tdiv x5 2)) x6 (wrap64 (x7 + 1)))) else (none)) else (some (wrap64 (4294967295 - x5)))
def barqueref02_Add.f (k : Nat) (a0 : Int) (a1 : ByteArray) : Option (Int) := (barqueref02_bits.f k a1).bind fun t106 => (barqueref02_Add.l0 k (wrap64 (4294967295 - (Go.bits .and .i64 a0 4294967295))) t106 0)
theorem barqueref02_Add.mono_l : ∀ k, (∀ y0 y1 y2, LeO (barqueref02_Add.l0 k y0 y1 y2) (barqueref02_Add.l0 (k + 1) y0 y1 y2))
  | 0 => fun _ _ _ r h => by simp [barqueref02_Add.l0] at h
  | k + 1 => by
    have ih0 := barqueref02_Add.mono_l k
    · intro y0 y1 y2
      unfold barqueref02_Add.l0
      repeat' first
      | (with_reducible exact ih0 _ _ _)
      | (with_reducible exact barqueref02_bits.mono _ _)
      | (with_reducible exact LeO.refl _)
      | (with_reducible exact LeO.none _)
      | (with_reducible refine LeO.ite ?_ ?_)
      | (with_reducible refine LeO.bind ?_ (fun _ => ?_))
      | exact ih0 _ _ _
      | exact barqueref02_bits.mono _ _
      | exact LeO.none _
      | refine LeO.ite ?_ ?_
      | refine LeO.bind ?_ (fun _ => ?_)
theorem barqueref02_Add.mono : ∀ a0 a1 k, LeO (barqueref02_Add.f k a0 a1) (barqueref02_Add.f (k + 1) a0 a1) := by
  intro a0 a1 k
  have ih0 := barqueref02_Add.mono_l k
  unfold barqueref02_Add.f
  repeat' first
      | (with_reducible exact ih0 _ _ _)
      | (with_reducible exact barqueref02_bits.mono _ _)
      | (with_reducible exact LeO.refl _)
      | (with_reducible exact LeO.none _)
      | (with_reducible refine LeO.ite ?_ ?_)
      | (with_reducible refine LeO.bind ?_ (fun _ => ?_))
      | exact ih0 _ _ _
      | exact barqueref02_bits.mono _ _
      | exact LeO.none _
      | refine LeO.ite ?_ ?_
      | refine LeO.bind ?_ (fun _ => ?_)
set_option maxHeartbeats 8000000 in
set_option maxRecDepth 100000 in
theorem barqueref02_Add.calls (k : Nat) (a0 : Int) (a1 : ByteArray) (r : Int) (w : World) (h : barqueref02_Add.f k a0 a1 = some r) :
    Calls Try.prog 23 #[.int .i64 a0, .string a1] w fun e w' => e = .returned (.int .i64 r) ∧ Below w.heap.size w w' := by
  have HB := Aside0.mk (Below.refl w.heap.size w)
  have H : ((barqueref02_bits.f k a1).bind fun t106 => (barqueref02_Add.l0 k (wrap64 (4294967295 - (Go.bits .and .i64 a0 4294967295))) t106 0)) = some r := h
  clear h
  replace H := Option.bind_eq_some_iff.mp H
  obtain ⟨t106, A30, H⟩ := H
  replace H : (barqueref02_Add.l0 k (wrap64 (4294967295 - (Go.bits .and .i64 a0 4294967295))) t106 0) = some r := H
  have A3 := Aside0.mk A30
  clear A30
  have H' := Aside0.mk H
  clear H
  go_enter Try.func23, Try.ntmps23
  go_wp2_with (first | ((with_reducible refine gate_callee (f := 47) rfl ?_); refine goesL_ (some 13) rfl rfl Try.func47 (by kernel_rfl) rfl #[.string a1] rfl (by (try simp only [List.map_toArray, List.map_cons, List.map_nil]); first | done | rfl | (simp only [List.length_drop, List.length_take]; rfl)) ?_; (with_reducible refine (barqueref02_bits.calls k a1 t106 _ A3.out).mono ?_); rintro e w4 ⟨v107, rfl, ho0, hb⟩; refine ⟨_, rfl, ?_⟩; have n0_ := Aside0.mk (Kd.R_lower ho0 (below_size (by repeat (first | (with_reducible first | exact HB.out | apply below_alloc | apply pw_below_drewN | apply below_drew1) | exact HB.out)))); have n1_ := Aside0.mk (below_step (by repeat (first | (with_reducible first | exact HB.out | apply below_alloc | apply pw_below_drewN | apply below_drew1) | exact HB.out)) hb); clear HB; have HO108 := n0_; have HB := n1_; clear n0_ n1_; (try clear hb); (try clear hb2); (try clear hk); (try clear hi); (try clear ho0)))
  go_loopg [5, 7] k (fun kq v5 v7 w' => ∃ (x5_1 : Int) (x7_1 : Int), v5 = .int .i64 x5_1 ∧ v7 = .int .i64 x7_1 ∧ Aside0 (barqueref02_Add.l0 kq x5_1 t106 x7_1 = some r) ∧ Aside0 (kq ≤ k) ∧ Aside0 (Kd.R (Kd.int .i64) 3 w' w.heap.size (fun _ => True) v107 t106) ∧ Aside0 (Below w.heap.size w w'))
  case atStart => exact ⟨(wrap64 (4294967295 - (Go.bits .and .i64 a0 4294967295))), (0), (by first | rfl | (simp; done) | (simp [*]; done)), (by first | rfl | (simp; done) | (simp [*]; done)), H', ⟨Nat.le_refl _⟩, ⟨by (with_reducible repeat (first | apply Kd.R_alloc | apply Kd.R_drewN | apply Kd.R_drew)); exact HO108.out⟩, ⟨by repeat (first | (with_reducible first | exact HB.out | apply below_alloc | apply pw_below_drewN | apply below_drew1) | exact HB.out)⟩⟩
  case round =>
    clear H'
    try clear c2
    try clear p2
    try clear c4
    obtain ⟨x5_1, x7_1, rfl, rfl, HA, HK1, HO_6, HB⟩ := hrel
    cases gk with
    | zero => exact absurd HA.out (by simp [barqueref02_Add.l0])
    | succ k1 =>
      have H := HA.out
      clear HA
      simp only [barqueref02_Add.l0] at H
      by_cases c5 : x7_1 < (t106.length : Int)
      · rw [if_pos c5] at H
        have c5b0 : decide (x7_1 < (t106.length : Int)) = true := decide_eq_true c5
        clear c5
        by_cases c6 : 0 ≤ x7_1
        · rw [if_pos c6] at H
          have c6b0 : decide (0 ≤ x7_1) = true := decide_eq_true c6
          clear c6
          by_cases c7 : (wrap64 ((Int.tmod x5_1 2) + (rd t106 x7_1))) = 1
          · rw [if_pos c7] at H
            have c7b0 : ((wrap64 ((Int.tmod x5_1 2) + (rd t106 x7_1))) == 1) = true := beq_iff_eq.mpr c7
            have c7b1 : ((wrap64 ((Int.tmod x5_1 2) + (rd t106 x7_1))) != 1) = false := bne_eq_false_iff_eq.mpr c7
            (try (have c7b2 : ((((Int.tmod x5_1 2) + (rd t106 x7_1))) == 1) = true := by have z_ : ((wrap64 ((Int.tmod x5_1 2) + (rd t106 x7_1))) == 1) = true := beq_iff_eq.mpr c7; rw [show wrap64 ((Int.tmod x5_1 2) + (rd t106 x7_1)) = ((Int.tmod x5_1 2) + (rd t106 x7_1)) from by unfold wrap64; omega] at z_; exact z_))
            (try (have c7b3 : ((((Int.tmod x5_1 2) + (rd t106 x7_1))) != 1) = false := by have z_ : ((wrap64 ((Int.tmod x5_1 2) + (rd t106 x7_1))) != 1) = false := bne_eq_false_iff_eq.mpr c7; rw [show wrap64 ((Int.tmod x5_1 2) + (rd t106 x7_1)) = ((Int.tmod x5_1 2) + (rd t106 x7_1)) from by unfold wrap64; omega] at z_; exact z_))
            clear c7
            have H' := Aside0.mk H
            clear H
            obtain ⟨Ao8, co8, eo8⟩ := Kd.R_slice HO_6.out
            subst eo8
            have p109 : 0 ≤ (x7_1 : Int) := of_decide_eq_true (by first | (with_reducible assumption) | assumption)
            have q109 : x7_1 < (t106.length : Int) := of_decide_eq_true (by first | (with_reducible assumption) | assumption)
            obtain ⟨ad109, e109, hx109_0⟩ := Kd.at_int (Kd.R_reads' HO_6.out).2.2 x7_1 p109 q109
            cases e109
            replace p109 := eq_true p109
            replace q109 := eq_true q109
            go_wp2
            go_roundg k1
            case measure => have := HK1.out; omega
            case rel => exact ⟨(Go.bits .xor .i64 (wrap64 (Int.tdiv x5_1 2)) 3988292384), (wrap64 (x7_1 + 1)), (by first | rfl | (simp; done) | (simp [*]; done)), (by first | rfl | (simp; done) | (simp [*]; done)), H', ⟨by have := HK1.out; omega⟩, ⟨by (with_reducible repeat (first | apply Kd.R_alloc | apply Kd.R_drewN | apply Kd.R_drew)); exact HO_6.out⟩, ⟨by repeat (first | (with_reducible first | exact HB.out | apply below_alloc | apply pw_below_drewN | apply below_drew1) | exact HB.out)⟩⟩
          · rw [if_neg c7] at H
            have c7b0 : ((wrap64 ((Int.tmod x5_1 2) + (rd t106 x7_1))) == 1) = false := beq_eq_false_iff_ne.mpr c7
            have c7b1 : ((wrap64 ((Int.tmod x5_1 2) + (rd t106 x7_1))) != 1) = true := bne_iff_ne.mpr c7
            (try (have c7b2 : ((((Int.tmod x5_1 2) + (rd t106 x7_1))) == 1) = false := by have z_ : ((wrap64 ((Int.tmod x5_1 2) + (rd t106 x7_1))) == 1) = false := beq_eq_false_iff_ne.mpr c7; rw [show wrap64 ((Int.tmod x5_1 2) + (rd t106 x7_1)) = ((Int.tmod x5_1 2) + (rd t106 x7_1)) from by unfold wrap64; omega] at z_; exact z_))
            (try (have c7b3 : ((((Int.tmod x5_1 2) + (rd t106 x7_1))) != 1) = true := by have z_ : ((wrap64 ((Int.tmod x5_1 2) + (rd t106 x7_1))) != 1) = true := bne_iff_ne.mpr c7; rw [show wrap64 ((Int.tmod x5_1 2) + (rd t106 x7_1)) = ((Int.tmod x5_1 2) + (rd t106 x7_1)) from by unfold wrap64; omega] at z_; exact z_))
            have H' := Aside0.mk H
            clear H
            obtain ⟨Ao9, co9, eo9⟩ := Kd.R_slice HO_6.out
            subst eo9
            have p109 : 0 ≤ (x7_1 : Int) := of_decide_eq_true (by first | (with_reducible assumption) | assumption)
            have q109 : x7_1 < (t106.length : Int) := of_decide_eq_true (by first | (with_reducible assumption) | assumption)
            obtain ⟨ad109, e109, hx109_0⟩ := Kd.at_int (Kd.R_reads' HO_6.out).2.2 x7_1 p109 q109
            cases e109
            replace p109 := eq_true p109
            replace q109 := eq_true q109
            go_wp2
            go_roundg k1
            case measure => have := HK1.out; omega
            case rel => exact ⟨(wrap64 (Int.tdiv x5_1 2)), (wrap64 (x7_1 + 1)), (by first | rfl | (simp; done) | (simp [*]; done)), (by first | rfl | (simp; done) | (simp [*]; done)), H', ⟨by have := HK1.out; omega⟩, ⟨by (with_reducible repeat (first | apply Kd.R_alloc | apply Kd.R_drewN | apply Kd.R_drew)); exact HO_6.out⟩, ⟨by repeat (first | (with_reducible first | exact HB.out | apply below_alloc | apply pw_below_drewN | apply below_drew1) | exact HB.out)⟩⟩
        · rw [if_neg c6] at H
          exact absurd H (by simp)
      · rw [if_neg c5] at H
        have c5b0 : decide (x7_1 < (t106.length : Int)) = false := decide_eq_false c5
        clear c5
        obtain rfl := Option.some.inj H
        obtain ⟨Ao10, co10, eo10⟩ := Kd.R_slice HO_6.out
        subst eo10
        go_wp2
        go_ret
        exact ⟨by first | rfl | (simp [errW_none, errW_some] <;> rfl) | (simp [*, errW_none, errW_some] <;> rfl), by repeat (first | (with_reducible first | exact HB.out | apply below_alloc | apply pw_below_drewN | apply below_drew1) | exact HB.out)⟩

end Go.Proofs.Ytdomngcedflapaa.PFrame
