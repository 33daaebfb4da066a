-- Written by the session's own program (wip/mkprint.py, pr.sh), out of the walk over the given translation
import Derived.Test.YtdomngcedflapaaPFramex0
import Derived.Test.YtdomngcedflapaaPFramex6
import Derived.Test.YtdomngcedflapaaPFramex32
namespace Go.Proofs.Ytdomngcedflapaa.PFrame
open Go.RowKit Go.Proofs.YtdomngcedflapaaW.PrintWords Go.Proofs.YtdomngcedflapaaW.PrintLast Go.Proofs.YtdomngcedflapaaW.PrintMore
attribute [local go_sem] max2_int min2_int max_two min_two max_three min_three max_four min_four   -- for this text's walks alone
open Go.Proofs.YtdomngcedflapaaW.Mine
attribute [local go_sem high] unary_xor_u32
set_option linter.unusedVariables false
set_option linter.unusedSimpArgs false

/-! ### barqueref02_Frame: function 42 -/
def barqueref02_Frame.f (k : Nat) (a0 : ByteArray) : Option (ByteArray × Int) := if (a0.size : Int) > 65536 then (some ((⟨#[]⟩ : ByteArray), 4)) else ((barqueref02_four.f k (a0.size : Int)).bind fun t202 => (if 2 + t202.size ≤ 9223372036854775807 then (if t202.size + a0.size ≤ 9223372036854775807 then ((barqueref02_Sum.f k (t202 ++ a0)).bind fun t203 => ((barqueref02_four.f k t203).bind fun t204 => (if ((⟨#[181, 126]⟩ : ByteArray) ++ t202).size + t204.size ≤ 9223372036854775807 then (if (((⟨#[181, 126]⟩ : ByteArray) ++ t202) ++ t204).size + a0.size ≤ 9223372036854775807 then (some ((((⟨#[181, 126]⟩ : ByteArray) ++ t202) ++ t204) ++ a0, 0)) else (none)) else (none)))) else (none)) else (none)))
theorem barqueref02_Frame.mono : ∀ a0 k, LeO (barqueref02_Frame.f k a0) (barqueref02_Frame.f (k + 1) a0) := by
  intro a0 k
  unfold barqueref02_Frame.f
  repeat' first
      | (with_reducible exact barqueref02_Sum.mono _ _)
      | (with_reducible exact barqueref02_four.mono _ _)
      | (with_reducible exact LeO.refl _)
      | (with_reducible exact LeO.none _)
      | (with_reducible refine LeO.ite ?_ ?_)
      | (with_reducible refine LeO.bind ?_ (fun _ => ?_))
      | exact barqueref02_Sum.mono _ _
      | exact barqueref02_four.mono _ _
      | exact LeO.none _
      | refine LeO.ite ?_ ?_
      | refine LeO.bind ?_ (fun _ => ?_)
set_option maxHeartbeats 8000000 in
set_option maxRecDepth 100000 in
theorem barqueref02_Frame.calls (k : Nat) (a0 : ByteArray) (r1 : ByteArray) (r2 : Int) (w : World) (h : barqueref02_Frame.f k a0 = some (r1, r2)) :
    Calls Try.prog 42 #[.string a0] w fun e w' => e = .returned (.tuple #[.string r1, .int .i64 r2]) ∧ Below w.heap.size w w' := by
  have HB := Aside0.mk (Below.refl w.heap.size w)
  have H : (if (a0.size : Int) > 65536 then (some ((⟨#[]⟩ : ByteArray), 4)) else ((barqueref02_four.f k (a0.size : Int)).bind fun t202 => (if 2 + t202.size ≤ 9223372036854775807 then (if t202.size + a0.size ≤ 9223372036854775807 then ((barqueref02_Sum.f k (t202 ++ a0)).bind fun t203 => ((barqueref02_four.f k t203).bind fun t204 => (if ((⟨#[181, 126]⟩ : ByteArray) ++ t202).size + t204.size ≤ 9223372036854775807 then (if (((⟨#[181, 126]⟩ : ByteArray) ++ t202) ++ t204).size + a0.size ≤ 9223372036854775807 then (some ((((⟨#[181, 126]⟩ : ByteArray) ++ t202) ++ t204) ++ a0, 0)) else (none)) else (none)))) else (none)) else (none)))) = some (r1, r2) := h
  clear h
  by_cases c2 : (a0.size : Int) > 65536
  · rw [if_pos c2] at H
    have c2b0 : decide (65536 < (a0.size : Int)) = true := decide_eq_true c2
    have c2b1 : decide (65536 < a0.size) = true := decide_eq_true (by omega)
    clear c2
    simp only [Option.some.injEq, Prod.mk.injEq] at H
    obtain ⟨rfl, rfl⟩ := H
    go_enter Try.func42, Try.ntmps42
    go_wp2
    go_ret2
    exact ⟨by first | rfl | (simp [errW_none, errW_some] <;> rfl) | (simp [*, errW_none, errW_some] <;> rfl), by repeat (first | (with_reducible first | exact HB.out | apply below_alloc | apply pw_below_drewN | apply below_drew1) | exact HB.out)⟩
  · rw [if_neg c2] at H
    have c2b0 : decide (65536 < (a0.size : Int)) = false := decide_eq_false c2
    have c2b1 : decide (65536 < a0.size) = false := decide_eq_false (by omega)
    clear c2
    replace H := Option.bind_eq_some_iff.mp H
    obtain ⟨t202, A30, H⟩ := H
    replace H : (if 2 + t202.size ≤ 9223372036854775807 then (if t202.size + a0.size ≤ 9223372036854775807 then ((barqueref02_Sum.f k (t202 ++ a0)).bind fun t203 => ((barqueref02_four.f k t203).bind fun t204 => (if ((⟨#[181, 126]⟩ : ByteArray) ++ t202).size + t204.size ≤ 9223372036854775807 then (if (((⟨#[181, 126]⟩ : ByteArray) ++ t202) ++ t204).size + a0.size ≤ 9223372036854775807 then (some ((((⟨#[181, 126]⟩ : ByteArray) ++ t202) ++ t204) ++ a0, 0)) else (none)) else (none)))) else (none)) else (none)) = some (r1, r2) := H
    have A3 := Aside0.mk A30
    clear A30
    by_cases c4 : 2 + t202.size ≤ 9223372036854775807
    · rw [if_pos c4] at H
      have c4b0 := eq_true c4
      have c4b1 : decide (2 + t202.size ≤ 9223372036854775807) = true := decide_eq_true c4
      try have c4b2 : (9223372036854775807 < 2 + t202.size) = False := eq_false (Nat.not_lt.2 c4)
      by_cases c5 : t202.size + a0.size ≤ 9223372036854775807
      · rw [if_pos c5] at H
        have c5b0 := eq_true c5
        have c5b1 : decide (t202.size + a0.size ≤ 9223372036854775807) = true := decide_eq_true c5
        try have c5b2 : (9223372036854775807 < t202.size + a0.size) = False := eq_false (Nat.not_lt.2 c5)
        replace H := Option.bind_eq_some_iff.mp H
        obtain ⟨t203, A60, H⟩ := H
        replace H : ((barqueref02_four.f k t203).bind fun t204 => (if ((⟨#[181, 126]⟩ : ByteArray) ++ t202).size + t204.size ≤ 9223372036854775807 then (if (((⟨#[181, 126]⟩ : ByteArray) ++ t202) ++ t204).size + a0.size ≤ 9223372036854775807 then (some ((((⟨#[181, 126]⟩ : ByteArray) ++ t202) ++ t204) ++ a0, 0)) else (none)) else (none))) = some (r1, r2) := H
        have A6 := Aside0.mk A60
        clear A60
        replace H := Option.bind_eq_some_iff.mp H
        obtain ⟨t204, A70, H⟩ := H
        replace H : (if ((⟨#[181, 126]⟩ : ByteArray) ++ t202).size + t204.size ≤ 9223372036854775807 then (if (((⟨#[181, 126]⟩ : ByteArray) ++ t202) ++ t204).size + a0.size ≤ 9223372036854775807 then (some ((((⟨#[181, 126]⟩ : ByteArray) ++ t202) ++ t204) ++ a0, 0)) else (none)) else (none)) = some (r1, r2) := H
        have A7 := Aside0.mk A70
        clear A70
        by_cases c8 : ((⟨#[181, 126]⟩ : ByteArray) ++ t202).size + t204.size ≤ 9223372036854775807
        · rw [if_pos c8] at H
          have c8b0 := eq_true c8
          have c8b1 : decide (((⟨#[181, 126]⟩ : ByteArray) ++ t202).size + t204.size ≤ 9223372036854775807) = true := decide_eq_true c8
          try have c8b2 : (9223372036854775807 < ((⟨#[181, 126]⟩ : ByteArray) ++ t202).size + t204.size) = False := eq_false (Nat.not_lt.2 c8)
          try (have c8b3 := c8b2; (repeat rw [ByteArray.size_append] at c8b3); try rw [size_two_bytes] at c8b3)
          by_cases c9 : (((⟨#[181, 126]⟩ : ByteArray) ++ t202) ++ t204).size + a0.size ≤ 9223372036854775807
          · rw [if_pos c9] at H
            have c9b0 := eq_true c9
            have c9b1 : decide ((((⟨#[181, 126]⟩ : ByteArray) ++ t202) ++ t204).size + a0.size ≤ 9223372036854775807) = true := decide_eq_true c9
            try have c9b2 : (9223372036854775807 < (((⟨#[181, 126]⟩ : ByteArray) ++ t202) ++ t204).size + a0.size) = False := eq_false (Nat.not_lt.2 c9)
            try (have c9b3 := c9b2; (repeat rw [ByteArray.size_append] at c9b3); try rw [size_two_bytes] at c9b3)
            simp only [Option.some.injEq, Prod.mk.injEq] at H
            obtain ⟨rfl, rfl⟩ := H
            go_enter Try.func42, Try.ntmps42
            go_wp2_with (first | ((with_reducible refine gate_callee (f := 60) rfl ?_); refine goesL_ (some 10) rfl rfl Try.func60 (by kernel_rfl) rfl #[.int .i64 (a0.size : Int)] rfl (by (try simp only [List.map_toArray, List.map_cons, List.map_nil]); first | done | rfl | (simp only [List.length_drop, List.length_take]; rfl)) ?_; (with_reducible refine (barqueref02_four.calls k (a0.size : Int) t202 _ A3.out).mono ?_); rintro e w10 ⟨rfl, hb⟩; refine ⟨_, rfl, ?_⟩; have n0_ := Aside0.mk (below_step (by repeat (first | (with_reducible first | exact HB.out | apply below_alloc | apply pw_below_drewN | apply below_drew1) | exact HB.out)) hb); clear HB; have HB := n0_; clear n0_; (try clear hb); (try clear hb2); (try clear hk); (try clear hi)) | ((with_reducible refine gate_callee (f := 20) rfl ?_); refine goesL_ (some 16) rfl rfl Try.func20 (by kernel_rfl) rfl #[.string (t202 ++ a0)] rfl (by (try simp only [List.map_toArray, List.map_cons, List.map_nil]); first | done | rfl | (simp only [List.length_drop, List.length_take]; rfl)) ?_; (with_reducible refine (barqueref02_Sum.calls k (t202 ++ a0) t203 _ A6.out).mono ?_); rintro e w11 ⟨rfl, hb⟩; refine ⟨_, rfl, ?_⟩; have n0_ := Aside0.mk (below_step (by repeat (first | (with_reducible first | exact HB.out | apply below_alloc | apply pw_below_drewN | apply below_drew1) | exact HB.out)) hb); clear HB; have HB := n0_; clear n0_; (try clear hb); (try clear hb2); (try clear hk); (try clear hi)) | ((with_reducible refine gate_callee (f := 60) rfl ?_); refine goesL_ (some 17) rfl rfl Try.func60 (by kernel_rfl) rfl #[.int .i64 t203] rfl (by (try simp only [List.map_toArray, List.map_cons, List.map_nil]); first | done | rfl | (simp only [List.length_drop, List.length_take]; rfl)) ?_; (with_reducible refine (barqueref02_four.calls k t203 t204 _ A7.out).mono ?_); rintro e w12 ⟨rfl, hb⟩; refine ⟨_, rfl, ?_⟩; have n0_ := Aside0.mk (below_step (by repeat (first | (with_reducible first | exact HB.out | apply below_alloc | apply pw_below_drewN | apply below_drew1) | exact HB.out)) hb); clear HB; have HB := n0_; clear n0_; (try clear hb); (try clear hb2); (try clear hk); (try clear hi)))
            go_ret2
            exact ⟨by first | rfl | (simp [errW_none, errW_some] <;> rfl) | (simp [*, errW_none, errW_some] <;> rfl), by repeat (first | (with_reducible first | exact HB.out | apply below_alloc | apply pw_below_drewN | apply below_drew1) | exact HB.out)⟩
          · rw [if_neg c9] at H
            exact absurd H (by simp)
        · rw [if_neg c8] at H
          exact absurd H (by simp)
      · rw [if_neg c5] at H
        exact absurd H (by simp)
    · rw [if_neg c4] at H
      exact absurd H (by simp)

end Go.Proofs.Ytdomngcedflapaa.PFrame
