-- Written by the session's own program (wip/mkprint.py, pr.sh), out of the walk over the given translation
import Derived.Test.YtdomngcedflapaaPFramex0
import Derived.Test.YtdomngcedflapaaPFramex2
import Derived.Test.YtdomngcedflapaaPFramex3
import Derived.Test.YtdomngcedflapaaPFramex5
import Derived.Test.YtdomngcedflapaaPFramex7
namespace Go.Proofs.Ytdomngcedflapaa.PFrame
open Go.RowKit Go.Proofs.YtdomngcedflapaaW.PrintWords Go.Proofs.YtdomngcedflapaaW.PrintLast Go.Proofs.YtdomngcedflapaaW.PrintMore
attribute [local go_sem] max2_int min2_int max_two min_two max_three min_three max_four min_four   -- for this text's walks alone
open Go.Proofs.YtdomngcedflapaaW.Mine
attribute [local go_sem high] unary_xor_u32
set_option linter.unusedVariables false
set_option linter.unusedSimpArgs false

/-! ### barquelaw02_FrameAdds: function 4 -/
def barquelaw02_FrameAdds.j0 : Nat → Int → ByteArray → ByteArray → Bool → Option (Bool)
  | 0, _, _, _, _ => none
  | k + 1, x0, x1, x2, x14 => if x14 = true then ((barquelaw02_awake.f k).bind fun t118 => (some t118)) else ((frame_Add.f k x0 x1).bind fun t119 => ((barqueref02_Add.f k x0 x1).bind fun t120 => (if t119 = t120 then ((frame_Sum.f k x1).bind fun t121 => ((frame_Add.f k t121 x2).bind fun t122 => (if x1.size + x2.size ≤ 9223372036854775807 then ((frame_Sum.f k (x1 ++ x2)).bind fun t123 => (if t122 = t123 then ((barquelaw02_awake.f k).bind fun t124 => (some t124)) else (some false))) else (none)))) else (some false))))
def barquelaw02_FrameAdds.f (k : Nat) (a0 : Int) (a1 : ByteArray) (a2 : ByteArray) : Option (Bool) := if (a1.size : Int) > 2048 then (barquelaw02_FrameAdds.j0 k a0 a1 a2 true) else (barquelaw02_FrameAdds.j0 k a0 a1 a2 (decide ((a2.size : Int) > 2048)))
theorem barquelaw02_FrameAdds.mono_l : ∀ k, (∀ y0 y1 y2 y3, LeO (barquelaw02_FrameAdds.j0 k y0 y1 y2 y3) (barquelaw02_FrameAdds.j0 (k + 1) y0 y1 y2 y3))
  | 0 => fun _ _ _ _ r h => by simp [barquelaw02_FrameAdds.j0] at h
  | k + 1 => by
    have ih0 := barquelaw02_FrameAdds.mono_l k
    · intro y0 y1 y2 y3
      unfold barquelaw02_FrameAdds.j0
      repeat' first
      | (with_reducible exact ih0 _ _ _ _)
      | (with_reducible exact barquelaw02_awake.mono _)
      | (with_reducible exact barqueref02_Add.mono _ _ _)
      | (with_reducible exact frame_Add.mono _ _ _)
      | (with_reducible exact frame_Sum.mono _ _)
      | (with_reducible exact LeO.refl _)
      | (with_reducible exact LeO.none _)
      | (with_reducible refine LeO.ite ?_ ?_)
      | (with_reducible refine LeO.bind ?_ (fun _ => ?_))
      | exact ih0 _ _ _ _
      | exact barquelaw02_awake.mono _
      | exact barqueref02_Add.mono _ _ _
      | exact frame_Add.mono _ _ _
      | exact frame_Sum.mono _ _
      | exact LeO.none _
      | refine LeO.ite ?_ ?_
      | refine LeO.bind ?_ (fun _ => ?_)
theorem barquelaw02_FrameAdds.mono : ∀ a0 a1 a2 k, LeO (barquelaw02_FrameAdds.f k a0 a1 a2) (barquelaw02_FrameAdds.f (k + 1) a0 a1 a2) := by
  intro a0 a1 a2 k
  have ih0 := barquelaw02_FrameAdds.mono_l k
  unfold barquelaw02_FrameAdds.f
  repeat' first
      | (with_reducible exact ih0 _ _ _ _)
      | (with_reducible exact barquelaw02_awake.mono _)
      | (with_reducible exact barqueref02_Add.mono _ _ _)
      | (with_reducible exact frame_Add.mono _ _ _)
      | (with_reducible exact frame_Sum.mono _ _)
      | (with_reducible exact LeO.refl _)
      | (with_reducible exact LeO.none _)
      | (with_reducible refine LeO.ite ?_ ?_)
      | (with_reducible refine LeO.bind ?_ (fun _ => ?_))
      | exact ih0 _ _ _ _
      | exact barquelaw02_awake.mono _
      | exact barqueref02_Add.mono _ _ _
      | exact frame_Add.mono _ _ _
      | exact frame_Sum.mono _ _
      | exact LeO.none _
      | refine LeO.ite ?_ ?_
      | refine LeO.bind ?_ (fun _ => ?_)
set_option maxHeartbeats 8000000 in
set_option maxRecDepth 100000 in
theorem barquelaw02_FrameAdds.calls (k : Nat) (a0 : Int) (a1 : ByteArray) (a2 : ByteArray) (r : Bool) (w : World) (h : barquelaw02_FrameAdds.f k a0 a1 a2 = some r) :
    Calls Try.prog 4 #[.int .i64 a0, .string a1, .string a2] w fun e w' => e = .returned (.bool r) ∧ Below w.heap.size w w' := by
  have HB := Aside0.mk (Below.refl w.heap.size w)
  have H : (if (a1.size : Int) > 2048 then (barquelaw02_FrameAdds.j0 k a0 a1 a2 true) else (barquelaw02_FrameAdds.j0 k a0 a1 a2 (decide ((a2.size : Int) > 2048)))) = some r := h
  clear h
  have HC4 := Aside0.mk H
  clear H
  go_enter Try.func4, Try.ntmps4
  go_upto_region 1 with (fail)
  go_cut [14] (fun v14 wc => ∃ (kq : Nat) (x14_3 : Bool), v14 = .bool x14_3 ∧ Aside0 (barquelaw02_FrameAdds.j0 kq a0 a1 a2 x14_3 = some r) ∧ Aside0 (kq ≤ k) ∧ Aside0 (Below w.heap.size w wc))
  case first =>
    have H := HC4.out
    clear HC4
    by_cases c5 : (a1.size : Int) > 2048
    · rw [if_pos c5] at H
      have c5b0 : decide (2048 < (a1.size : Int)) = true := decide_eq_true c5
      have c5b1 : decide (2048 < a1.size) = true := decide_eq_true (by omega)
      clear c5
      (first | rw [c5b0] | (simp only [i64_w, i32_w]; rw [c5b0]) | skip)
      have H' := Aside0.mk H
      clear H
      go_wp2
      go_meet
      case rel => exact ⟨_, (true), (by first | rfl | (simp; done) | (simp [*]; done)), H', ⟨by first | omega | exact Nat.le_refl _⟩, ⟨by repeat (first | (with_reducible first | exact HB.out | apply below_alloc | apply pw_below_drewN | apply below_drew1) | exact HB.out)⟩⟩
    · rw [if_neg c5] at H
      have c5b0 : decide (2048 < (a1.size : Int)) = false := decide_eq_false c5
      have c5b1 : decide (2048 < a1.size) = false := decide_eq_false (by omega)
      clear c5
      (first | rw [c5b0] | (simp only [i64_w, i32_w]; rw [c5b0]) | skip)
      have H' := Aside0.mk H
      clear H
      go_wp2
      go_meet
      case rel => exact ⟨_, (decide ((a2.size : Int) > 2048)), (by first | rfl | (simp; done) | (simp [*]; done)), H', ⟨by first | omega | exact Nat.le_refl _⟩, ⟨by repeat (first | (with_reducible first | exact HB.out | apply below_alloc | apply pw_below_drewN | apply below_drew1) | exact HB.out)⟩⟩
  case rest =>
    clear HC4
    try clear p2
    try clear c4
    try clear c5
    try clear c5b0
    try clear c5b1
    obtain ⟨kq, x14_3, rfl, HA, HJ3, HB⟩ := hcut
    cases kq with
    | zero => exact absurd HA.out (by simp [barquelaw02_FrameAdds.j0])
    | succ kj3 =>
      have H := HA.out
      clear HA
      simp only [barquelaw02_FrameAdds.j0] at H
      by_cases c6 : x14_3 = true
      · subst c6
        have H1 : ((barquelaw02_awake.f kj3).bind fun t118 => (some t118)) = some r := by rw [if_pos rfl] at H; exact H
        clear H
        have H := H1
        clear H1
        replace H := Option.bind_eq_some_iff.mp H
        obtain ⟨t118, A70, H⟩ := H
        replace H : (some t118) = some r := H
        have A7 := Aside0.mk A70
        clear A70
        obtain rfl := Option.some.inj H
        go_wp2_with (first | ((with_reducible refine gate_callee (f := 21) rfl ?_); refine goesL_ (some 15) rfl rfl Try.func21 (by kernel_rfl) rfl #[] rfl (by (try simp only [List.map_toArray, List.map_cons, List.map_nil]); first | done | rfl | (simp only [List.length_drop, List.length_take]; rfl)) ?_; (with_reducible refine (barquelaw02_awake.calls kj3  t118 _ A7.out).mono ?_); rintro e w' ⟨rfl, ⟨nd, rfl⟩⟩; refine ⟨_, rfl, ?_⟩))
        go_ret
        exact ⟨by first | rfl | (simp [errW_none, errW_some] <;> rfl) | (simp [*, errW_none, errW_some] <;> rfl), by repeat (first | (with_reducible first | exact HB.out | apply below_alloc | apply pw_below_drewN | apply below_drew1) | exact HB.out)⟩
      · replace c6 := Bool.eq_false_iff.mpr c6
        subst c6
        have H1 : ((frame_Add.f kj3 a0 a1).bind fun t119 => ((barqueref02_Add.f kj3 a0 a1).bind fun t120 => (if t119 = t120 then ((frame_Sum.f kj3 a1).bind fun t121 => ((frame_Add.f kj3 t121 a2).bind fun t122 => (if a1.size + a2.size ≤ 9223372036854775807 then ((frame_Sum.f kj3 (a1 ++ a2)).bind fun t123 => (if t122 = t123 then ((barquelaw02_awake.f kj3).bind fun t124 => (some t124)) else (some false))) else (none)))) else (some false)))) = some r := by rw [if_neg (show ¬ (false = true) by decide)] at H; exact H
        clear H
        have H := H1
        clear H1
        replace H := Option.bind_eq_some_iff.mp H
        obtain ⟨t119, A80, H⟩ := H
        replace H : ((barqueref02_Add.f kj3 a0 a1).bind fun t120 => (if t119 = t120 then ((frame_Sum.f kj3 a1).bind fun t121 => ((frame_Add.f kj3 t121 a2).bind fun t122 => (if a1.size + a2.size ≤ 9223372036854775807 then ((frame_Sum.f kj3 (a1 ++ a2)).bind fun t123 => (if t122 = t123 then ((barquelaw02_awake.f kj3).bind fun t124 => (some t124)) else (some false))) else (none)))) else (some false))) = some r := H
        have A8 := Aside0.mk A80
        clear A80
        replace H := Option.bind_eq_some_iff.mp H
        obtain ⟨t120, A90, H⟩ := H
        replace H : (if t119 = t120 then ((frame_Sum.f kj3 a1).bind fun t121 => ((frame_Add.f kj3 t121 a2).bind fun t122 => (if a1.size + a2.size ≤ 9223372036854775807 then ((frame_Sum.f kj3 (a1 ++ a2)).bind fun t123 => (if t122 = t123 then ((barquelaw02_awake.f kj3).bind fun t124 => (some t124)) else (some false))) else (none)))) else (some false)) = some r := H
        have A9 := Aside0.mk A90
        clear A90
        by_cases c10 : t119 = t120
        · rw [if_pos c10] at H
          have c10b0 : (t119 == t120) = true := beq_iff_eq.mpr c10
          have c10b1 : (t119 != t120) = false := bne_eq_false_iff_eq.mpr c10
          clear c10
          replace H := Option.bind_eq_some_iff.mp H
          obtain ⟨t121, A110, H⟩ := H
          replace H : ((frame_Add.f kj3 t121 a2).bind fun t122 => (if a1.size + a2.size ≤ 9223372036854775807 then ((frame_Sum.f kj3 (a1 ++ a2)).bind fun t123 => (if t122 = t123 then ((barquelaw02_awake.f kj3).bind fun t124 => (some t124)) else (some false))) else (none))) = some r := H
          have A11 := Aside0.mk A110
          clear A110
          replace H := Option.bind_eq_some_iff.mp H
          obtain ⟨t122, A120, H⟩ := H
          replace H : (if a1.size + a2.size ≤ 9223372036854775807 then ((frame_Sum.f kj3 (a1 ++ a2)).bind fun t123 => (if t122 = t123 then ((barquelaw02_awake.f kj3).bind fun t124 => (some t124)) else (some false))) else (none)) = some r := H
          have A12 := Aside0.mk A120
          clear A120
          by_cases c13 : a1.size + a2.size ≤ 9223372036854775807
          · rw [if_pos c13] at H
            have c13b0 := eq_true c13
            have c13b1 : decide (a1.size + a2.size ≤ 9223372036854775807) = true := decide_eq_true c13
            try have c13b2 : (9223372036854775807 < a1.size + a2.size) = False := eq_false (Nat.not_lt.2 c13)
            replace H := Option.bind_eq_some_iff.mp H
            obtain ⟨t123, A140, H⟩ := H
            replace H : (if t122 = t123 then ((barquelaw02_awake.f kj3).bind fun t124 => (some t124)) else (some false)) = some r := H
            have A14 := Aside0.mk A140
            clear A140
            by_cases c15 : t122 = t123
            · rw [if_pos c15] at H
              have c15b0 : (t122 == t123) = true := beq_iff_eq.mpr c15
              have c15b1 : (t122 != t123) = false := bne_eq_false_iff_eq.mpr c15
              clear c15
              replace H := Option.bind_eq_some_iff.mp H
              obtain ⟨t124, A160, H⟩ := H
              replace H : (some t124) = some r := H
              have A16 := Aside0.mk A160
              clear A160
              obtain rfl := Option.some.inj H
              go_wp2_with (first | ((with_reducible refine gate_callee (f := 22) rfl ?_); refine goesL_ (some 18) rfl rfl Try.func22 (by kernel_rfl) rfl #[.int .i64 a0, .string a1] rfl (by (try simp only [List.map_toArray, List.map_cons, List.map_nil]); first | done | rfl | (simp only [List.length_drop, List.length_take]; rfl)) ?_; (with_reducible refine (frame_Add.calls kj3 a0 a1 t119 _ A8.out).mono ?_); rintro e w' ⟨rfl, ⟨nd, rfl⟩⟩; refine ⟨_, rfl, ?_⟩) | ((with_reducible refine gate_callee (f := 23) rfl ?_); refine goesL_ (some 21) rfl rfl Try.func23 (by kernel_rfl) rfl #[.int .i64 a0, .string a1] rfl (by (try simp only [List.map_toArray, List.map_cons, List.map_nil]); first | done | rfl | (simp only [List.length_drop, List.length_take]; rfl)) ?_; (with_reducible refine (barqueref02_Add.calls kj3 a0 a1 t120 _ A9.out).mono ?_); rintro e w17 ⟨rfl, hb⟩; refine ⟨_, rfl, ?_⟩; have n0_ := Aside0.mk (below_step (by repeat (first | (with_reducible first | exact HB.out | apply below_alloc | apply pw_below_drewN | apply below_drew1) | exact HB.out)) hb); clear HB; have HB := n0_; clear n0_; (try clear hb); (try clear hb2); (try clear hk); (try clear hi)) | (go_at_call 19; (with_reducible refine (frame_Sum.calls kj3 a1 t121 _ A11.out).mono ?_); rintro e w' ⟨rfl, ⟨nd, rfl⟩⟩) | (go_at_call 22; (with_reducible refine (frame_Add.calls kj3 t121 a2 t122 _ A12.out).mono ?_); rintro e w' ⟨rfl, ⟨nd, rfl⟩⟩) | (go_at_call 19; (with_reducible refine (frame_Sum.calls kj3 (a1 ++ a2) t123 _ A14.out).mono ?_); rintro e w' ⟨rfl, ⟨nd, rfl⟩⟩) | (go_at_call 21; (with_reducible refine (barquelaw02_awake.calls kj3  t124 _ A16.out).mono ?_); rintro e w' ⟨rfl, ⟨nd, rfl⟩⟩))
              go_ret
              exact ⟨by first | rfl | (simp [errW_none, errW_some] <;> rfl) | (simp [*, errW_none, errW_some] <;> rfl), by repeat (first | (with_reducible first | exact HB.out | apply below_alloc | apply pw_below_drewN | apply below_drew1) | exact HB.out)⟩
            · rw [if_neg c15] at H
              have c15b0 : (t122 == t123) = false := beq_eq_false_iff_ne.mpr c15
              have c15b1 : (t122 != t123) = true := bne_iff_ne.mpr c15
              obtain rfl := Option.some.inj H
              go_wp2_with (first | ((with_reducible refine gate_callee (f := 22) rfl ?_); refine goesL_ (some 18) rfl rfl Try.func22 (by kernel_rfl) rfl #[.int .i64 a0, .string a1] rfl (by (try simp only [List.map_toArray, List.map_cons, List.map_nil]); first | done | rfl | (simp only [List.length_drop, List.length_take]; rfl)) ?_; (with_reducible refine (frame_Add.calls kj3 a0 a1 t119 _ A8.out).mono ?_); rintro e w' ⟨rfl, ⟨nd, rfl⟩⟩; refine ⟨_, rfl, ?_⟩) | ((with_reducible refine gate_callee (f := 23) rfl ?_); refine goesL_ (some 21) rfl rfl Try.func23 (by kernel_rfl) rfl #[.int .i64 a0, .string a1] rfl (by (try simp only [List.map_toArray, List.map_cons, List.map_nil]); first | done | rfl | (simp only [List.length_drop, List.length_take]; rfl)) ?_; (with_reducible refine (barqueref02_Add.calls kj3 a0 a1 t120 _ A9.out).mono ?_); rintro e w18 ⟨rfl, hb⟩; refine ⟨_, rfl, ?_⟩; have n0_ := Aside0.mk (below_step (by repeat (first | (with_reducible first | exact HB.out | apply below_alloc | apply pw_below_drewN | apply below_drew1) | exact HB.out)) hb); clear HB; have HB := n0_; clear n0_; (try clear hb); (try clear hb2); (try clear hk); (try clear hi)) | (go_at_call 19; (with_reducible refine (frame_Sum.calls kj3 a1 t121 _ A11.out).mono ?_); rintro e w' ⟨rfl, ⟨nd, rfl⟩⟩) | (go_at_call 22; (with_reducible refine (frame_Add.calls kj3 t121 a2 t122 _ A12.out).mono ?_); rintro e w' ⟨rfl, ⟨nd, rfl⟩⟩) | (go_at_call 19; (with_reducible refine (frame_Sum.calls kj3 (a1 ++ a2) t123 _ A14.out).mono ?_); rintro e w' ⟨rfl, ⟨nd, rfl⟩⟩))
              go_ret
              exact ⟨by first | rfl | (simp [errW_none, errW_some] <;> rfl) | (simp [*, errW_none, errW_some] <;> rfl), by repeat (first | (with_reducible first | exact HB.out | apply below_alloc | apply pw_below_drewN | apply below_drew1) | exact HB.out)⟩
          · rw [if_neg c13] at H
            exact absurd H (by simp)
        · rw [if_neg c10] at H
          have c10b0 : (t119 == t120) = false := beq_eq_false_iff_ne.mpr c10
          have c10b1 : (t119 != t120) = true := bne_iff_ne.mpr c10
          obtain rfl := Option.some.inj H
          go_wp2_with (first | ((with_reducible refine gate_callee (f := 22) rfl ?_); refine goesL_ (some 18) rfl rfl Try.func22 (by kernel_rfl) rfl #[.int .i64 a0, .string a1] rfl (by (try simp only [List.map_toArray, List.map_cons, List.map_nil]); first | done | rfl | (simp only [List.length_drop, List.length_take]; rfl)) ?_; (with_reducible refine (frame_Add.calls kj3 a0 a1 t119 _ A8.out).mono ?_); rintro e w' ⟨rfl, ⟨nd, rfl⟩⟩; refine ⟨_, rfl, ?_⟩) | ((with_reducible refine gate_callee (f := 23) rfl ?_); refine goesL_ (some 21) rfl rfl Try.func23 (by kernel_rfl) rfl #[.int .i64 a0, .string a1] rfl (by (try simp only [List.map_toArray, List.map_cons, List.map_nil]); first | done | rfl | (simp only [List.length_drop, List.length_take]; rfl)) ?_; (with_reducible refine (barqueref02_Add.calls kj3 a0 a1 t120 _ A9.out).mono ?_); rintro e w19 ⟨rfl, hb⟩; refine ⟨_, rfl, ?_⟩; have n0_ := Aside0.mk (below_step (by repeat (first | (with_reducible first | exact HB.out | apply below_alloc | apply pw_below_drewN | apply below_drew1) | exact HB.out)) hb); clear HB; have HB := n0_; clear n0_; (try clear hb); (try clear hb2); (try clear hk); (try clear hi)))
          go_ret
          exact ⟨by first | rfl | (simp [errW_none, errW_some] <;> rfl) | (simp [*, errW_none, errW_some] <;> rfl), by repeat (first | (with_reducible first | exact HB.out | apply below_alloc | apply pw_below_drewN | apply below_drew1) | exact HB.out)⟩

/-- THE ONE PURE STATEMENT of barquelaw02_FrameAdds: yours. -/
def barquelaw02_FrameAdds.Pure : Prop := ∀ (a0 : Int) (a1 : ByteArray) (a2 : ByteArray), (Lit.int .i64 a0).wf = true → a1.size ≤ 140737488351232 → a2.size ≤ 140737488351232 → ∃ k, barquelaw02_FrameAdds.f k a0 a1 a2 = some true
theorem barquelaw02_FrameAdds.walk (P : barquelaw02_FrameAdds.Pure) (a0 : Int) (a1 : ByteArray) (a2 : ByteArray) (w : World) (w0 : (Lit.int .i64 a0).wf = true) (w1 : a1.size ≤ 140737488351232) (w2 : a2.size ≤ 140737488351232) :
    Calls Try.prog 4 #[.int .i64 a0, .string a1, .string a2] w fun e w' => e = .returned (.bool true) ∧ Below w.heap.size w w' := by
  obtain ⟨k, h⟩ := P a0 a1 a2 w0 w1 w2
  refine (barquelaw02_FrameAdds.calls k a0 a1 a2 true w h).mono ?_
  rintro e w' ⟨rfl, hd⟩
  exact ⟨rfl, hd⟩

end Go.Proofs.Ytdomngcedflapaa.PFrame
