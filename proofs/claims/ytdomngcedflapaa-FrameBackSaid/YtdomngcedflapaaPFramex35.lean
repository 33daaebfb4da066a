-- Written by the session's own program (wip/mkprint.py, pr.sh), out of the walk over the given translation
import Derived.Test.YtdomngcedflapaaPFramex0
import Derived.Test.YtdomngcedflapaaPFramex7
import Derived.Test.YtdomngcedflapaaPFramex16
import Derived.Test.YtdomngcedflapaaPFramex18
import Derived.Test.YtdomngcedflapaaAll
namespace Go.Proofs.Ytdomngcedflapaa.PFrame
open Go.RowKit Go.Proofs.YtdomngcedflapaaW.PrintWords Go.Proofs.YtdomngcedflapaaW.PrintLast Go.Proofs.YtdomngcedflapaaW.PrintMore
attribute [local go_sem] max2_int min2_int max_two min_two max_three min_three max_four min_four   -- for this text's walks alone
open Go.Proofs.YtdomngcedflapaaW.Mine
attribute [local go_sem high] unary_xor_u32
set_option linter.unusedVariables false
set_option linter.unusedSimpArgs false

/-! ### barquelaw02_FrameBack: function 17 -/
mutual
def barquelaw02_FrameBack.j0 : Nat → List ByteArray → Int → Option (Bool)
  | 0, _, _ => none
  | k + 1, x0, x1 => barquelaw02_FrameBack.l0 k x0 x1 0
def barquelaw02_FrameBack.l0 : Nat → List ByteArray → Int → Int → Option (Bool)
  | 0, _, _, _ => none
  | k + 1, x0, x1, x5 => if x5 < (x0.length : Int) then (if 0 ≤ x5 then (if ((rdOf ByteArray.empty x0 x5).size : Int) > 500 then ((barquelaw02_awake.f k).bind fun t230 => (some t230)) else (barquelaw02_FrameBack.l0 k x0 x1 (wrap64 (x5 + 1)))) else (none)) else ((frame_All.f k x0).bind fun bt231 => ((frame_Scan.f k bt231.1).bind fun bt233 => (if bt231.2 = 0 then ((barquelaw02_texts.f k x0 bt233.1).bind fun t238 => (if t238 = true then (if bt233.2.1 = (bt231.1.size : Int) then (barquelaw02_FrameBack.j2 k x0 x1 bt231.1 (bt233.2.2 != 0)) else (barquelaw02_FrameBack.j2 k x0 x1 bt231.1 true)) else (barquelaw02_FrameBack.j2 k x0 x1 bt231.1 true))) else (barquelaw02_FrameBack.j2 k x0 x1 bt231.1 true))))
def barquelaw02_FrameBack.j2 : Nat → List ByteArray → Int → ByteArray → Bool → Option (Bool)
  | 0, _, _, _, _ => none
  | k + 1, x0, x1, x6, x60 => if x60 = true then (some false) else (if (x0.length : Int) = 0 then (barquelaw02_FrameBack.j3 k x0 x1 x6 true) else (if x1 < 1 then (barquelaw02_FrameBack.j3 k x0 x1 x6 true) else (if 0 ≤ (wrap64 ((x0.length : Int) - 1)) then (if (wrap64 ((x0.length : Int) - 1)) < (x0.length : Int) then (barquelaw02_FrameBack.j3 k x0 x1 x6 (decide (x1 > (wrap64 (((rdOf ByteArray.empty x0 (wrap64 ((x0.length : Int) - 1))).size : Int) + 10))))) else (none)) else (none))))
def barquelaw02_FrameBack.j3 : Nat → List ByteArray → Int → ByteArray → Bool → Option (Bool)
  | 0, _, _, _, _ => none
  | k + 1, x0, x1, x6, x79 => if x79 = true then ((barquelaw02_awake.f k).bind fun t240 => (some t240)) else (if 0 ≤ (wrap64 ((x6.size : Int) - x1)) then (if (wrap64 ((x6.size : Int) - x1)) ≤ (x6.size : Int) then ((frame_Scan.f k (x6.extract 0 ((wrap64 ((x6.size : Int) - x1)) : Int).toNat)).bind fun bt241 => (if 0 ≤ (wrap64 ((x0.length : Int) - 1)) then (if (wrap64 ((x0.length : Int) - 1)) ≤ (x0.length : Int) then ((barquelaw02_texts.f k bt241.1 (x0.take ((wrap64 ((x0.length : Int) - 1)) : Int).toNat)).bind fun t251 => (if t251 = true then (if (wrap64 ((x0.length : Int) - 1)) < (x0.length : Int) then (if bt241.2.1 = (wrap64 ((wrap64 ((x6.size : Int) - ((rdOf ByteArray.empty x0 (wrap64 ((x0.length : Int) - 1))).size : Int))) - 10)) then (if bt241.2.2 = 0 then ((barquelaw02_awake.f k).bind fun t253 => (some t253)) else (some false)) else (some false)) else (none)) else (some false))) else (none)) else (none))) else (none)) else (none))
end
def barquelaw02_FrameBack.f (k : Nat) (l0 : List ByteArray) (a1 : Int) : Option (Bool) := if (l0.length : Int) > 20 then (if 20 ≤ (l0.length : Int) then (barquelaw02_FrameBack.j0 k (l0.take 20) a1) else (none)) else (barquelaw02_FrameBack.j0 k l0 a1)
theorem barquelaw02_FrameBack.mono_l : ∀ k, (∀ y0 y1, LeO (barquelaw02_FrameBack.j0 k y0 y1) (barquelaw02_FrameBack.j0 (k + 1) y0 y1)) ∧ (∀ y0 y1 y2, LeO (barquelaw02_FrameBack.l0 k y0 y1 y2) (barquelaw02_FrameBack.l0 (k + 1) y0 y1 y2)) ∧ (∀ y0 y1 y2 y3, LeO (barquelaw02_FrameBack.j2 k y0 y1 y2 y3) (barquelaw02_FrameBack.j2 (k + 1) y0 y1 y2 y3)) ∧ (∀ y0 y1 y2 y3, LeO (barquelaw02_FrameBack.j3 k y0 y1 y2 y3) (barquelaw02_FrameBack.j3 (k + 1) y0 y1 y2 y3))
  | 0 => ⟨fun _ _ r h => by simp [barquelaw02_FrameBack.j0] at h, fun _ _ _ r h => by simp [barquelaw02_FrameBack.l0] at h, fun _ _ _ _ r h => by simp [barquelaw02_FrameBack.j2] at h, fun _ _ _ _ r h => by simp [barquelaw02_FrameBack.j3] at h⟩
  | k + 1 => by
    obtain ⟨ih0, ih1, ih2, ih3⟩ := barquelaw02_FrameBack.mono_l k
    refine ⟨?_, ?_, ?_, ?_⟩
    · intro y0 y1
      unfold barquelaw02_FrameBack.j0
      repeat' first
      | (with_reducible exact ih0 _ _)
      | (with_reducible exact ih1 _ _ _)
      | (with_reducible exact ih2 _ _ _ _)
      | (with_reducible exact ih3 _ _ _ _)
      | (with_reducible exact barquelaw02_awake.mono _)
      | (with_reducible exact barquelaw02_texts.mono _ _ _)
      | (with_reducible exact frame_All.mono _ _)
      | (with_reducible exact frame_Scan.mono _ _)
      | (with_reducible exact LeO.refl _)
      | (with_reducible exact LeO.none _)
      | (with_reducible refine LeO.ite ?_ ?_)
      | (with_reducible refine LeO.bind ?_ (fun _ => ?_))
      | exact ih0 _ _
      | exact ih1 _ _ _
      | exact ih2 _ _ _ _
      | exact ih3 _ _ _ _
      | exact barquelaw02_awake.mono _
      | exact barquelaw02_texts.mono _ _ _
      | exact frame_All.mono _ _
      | exact frame_Scan.mono _ _
      | exact LeO.none _
      | refine LeO.ite ?_ ?_
      | refine LeO.bind ?_ (fun _ => ?_)
    · intro y0 y1 y2
      unfold barquelaw02_FrameBack.l0
      repeat' first
      | (with_reducible exact ih0 _ _)
      | (with_reducible exact ih1 _ _ _)
      | (with_reducible exact ih2 _ _ _ _)
      | (with_reducible exact ih3 _ _ _ _)
      | (with_reducible exact barquelaw02_awake.mono _)
      | (with_reducible exact barquelaw02_texts.mono _ _ _)
      | (with_reducible exact frame_All.mono _ _)
      | (with_reducible exact frame_Scan.mono _ _)
      | (with_reducible exact LeO.refl _)
      | (with_reducible exact LeO.none _)
      | (with_reducible refine LeO.ite ?_ ?_)
      | (with_reducible refine LeO.bind ?_ (fun _ => ?_))
      | exact ih0 _ _
      | exact ih1 _ _ _
      | exact ih2 _ _ _ _
      | exact ih3 _ _ _ _
      | exact barquelaw02_awake.mono _
      | exact barquelaw02_texts.mono _ _ _
      | exact frame_All.mono _ _
      | exact frame_Scan.mono _ _
      | exact LeO.none _
      | refine LeO.ite ?_ ?_
      | refine LeO.bind ?_ (fun _ => ?_)
    · intro y0 y1 y2 y3
      unfold barquelaw02_FrameBack.j2
      repeat' first
      | (with_reducible exact ih0 _ _)
      | (with_reducible exact ih1 _ _ _)
      | (with_reducible exact ih2 _ _ _ _)
      | (with_reducible exact ih3 _ _ _ _)
      | (with_reducible exact barquelaw02_awake.mono _)
      | (with_reducible exact barquelaw02_texts.mono _ _ _)
      | (with_reducible exact frame_All.mono _ _)
      | (with_reducible exact frame_Scan.mono _ _)
      | (with_reducible exact LeO.refl _)
      | (with_reducible exact LeO.none _)
      | (with_reducible refine LeO.ite ?_ ?_)
      | (with_reducible refine LeO.bind ?_ (fun _ => ?_))
      | exact ih0 _ _
      | exact ih1 _ _ _
      | exact ih2 _ _ _ _
      | exact ih3 _ _ _ _
      | exact barquelaw02_awake.mono _
      | exact barquelaw02_texts.mono _ _ _
      | exact frame_All.mono _ _
      | exact frame_Scan.mono _ _
      | exact LeO.none _
      | refine LeO.ite ?_ ?_
      | refine LeO.bind ?_ (fun _ => ?_)
    · intro y0 y1 y2 y3
      unfold barquelaw02_FrameBack.j3
      repeat' first
      | (with_reducible exact ih0 _ _)
      | (with_reducible exact ih1 _ _ _)
      | (with_reducible exact ih2 _ _ _ _)
      | (with_reducible exact ih3 _ _ _ _)
      | (with_reducible exact barquelaw02_awake.mono _)
      | (with_reducible exact barquelaw02_texts.mono _ _ _)
      | (with_reducible exact frame_All.mono _ _)
      | (with_reducible exact frame_Scan.mono _ _)
      | (with_reducible exact LeO.refl _)
      | (with_reducible exact LeO.none _)
      | (with_reducible refine LeO.ite ?_ ?_)
      | (with_reducible refine LeO.bind ?_ (fun _ => ?_))
      | exact ih0 _ _
      | exact ih1 _ _ _
      | exact ih2 _ _ _ _
      | exact ih3 _ _ _ _
      | exact barquelaw02_awake.mono _
      | exact barquelaw02_texts.mono _ _ _
      | exact frame_All.mono _ _
      | exact frame_Scan.mono _ _
      | exact LeO.none _
      | refine LeO.ite ?_ ?_
      | refine LeO.bind ?_ (fun _ => ?_)
theorem barquelaw02_FrameBack.mono : ∀ a0 a1 k, LeO (barquelaw02_FrameBack.f k a0 a1) (barquelaw02_FrameBack.f (k + 1) a0 a1) := by
  intro a0 a1 k
  obtain ⟨ih0, ih1, ih2, ih3⟩ := barquelaw02_FrameBack.mono_l k
  unfold barquelaw02_FrameBack.f
  repeat' first
      | (with_reducible exact ih0 _ _)
      | (with_reducible exact ih1 _ _ _)
      | (with_reducible exact ih2 _ _ _ _)
      | (with_reducible exact ih3 _ _ _ _)
      | (with_reducible exact barquelaw02_awake.mono _)
      | (with_reducible exact barquelaw02_texts.mono _ _ _)
      | (with_reducible exact frame_All.mono _ _)
      | (with_reducible exact frame_Scan.mono _ _)
      | (with_reducible exact LeO.refl _)
      | (with_reducible exact LeO.none _)
      | (with_reducible refine LeO.ite ?_ ?_)
      | (with_reducible refine LeO.bind ?_ (fun _ => ?_))
      | exact ih0 _ _
      | exact ih1 _ _ _
      | exact ih2 _ _ _ _
      | exact ih3 _ _ _ _
      | exact barquelaw02_awake.mono _
      | exact barquelaw02_texts.mono _ _ _
      | exact frame_All.mono _ _
      | exact frame_Scan.mono _ _
      | exact LeO.none _
      | refine LeO.ite ?_ ?_
      | refine LeO.bind ?_ (fun _ => ?_)
set_option maxHeartbeats 8000000 in
set_option maxRecDepth 100000 in
theorem barquelaw02_FrameBack.calls (k : Nat) (P0_ : Nat → Prop) (A0 : Option Addr) (c0 : Nat) (l0 : List ByteArray) (a1 : Int) (r : Bool) (w : World) (hs0 : Kd.V Kd.string 9 w w.heap.size (fun k_ => P0_ k_) (.slice A0 l0.length c0) l0) (h : barquelaw02_FrameBack.f k l0 a1 = some r) :
    Calls Try.prog 17 #[.slice A0 l0.length c0, .int .i64 a1] w fun e w' => e = .returned (.bool r) ∧ Below w.heap.size w w' := by
  have HO0 := Aside0.mk (show Kd.V Kd.string 9 w w.heap.size (fun k_ => (P0_ k_ ∨ w.heap.size ≤ k_)) (.slice A0 l0.length c0) l0 from Kd.V_mono hs0 (fun k_ hk => .inl hk))
  have HB := Aside0.mk (Below.refl w.heap.size w)
  have H : (if (l0.length : Int) > 20 then (if 20 ≤ (l0.length : Int) then (barquelaw02_FrameBack.j0 k (l0.take 20) a1) else (none)) else (barquelaw02_FrameBack.j0 k l0 a1)) = some r := h
  clear h
  have HC3 := Aside0.mk H
  clear H
  go_enter Try.func17, Try.ntmps17
  go_upto_if 16 with (fail)
  go_cut [0] (fun v0 wc => ∃ (kq : Nat) (x0_2 : List ByteArray), Aside0 (barquelaw02_FrameBack.j0 kq x0_2 a1 = some r) ∧ Aside0 (kq ≤ k) ∧ Aside0 (Kd.V Kd.string 9 wc w.heap.size (fun k_ => (P0_ k_ ∨ w.heap.size ≤ k_)) v0 x0_2) ∧ Aside0 (Below w.heap.size w wc))
  case first =>
    have H := HC3.out
    clear HC3
    by_cases c4 : (l0.length : Int) > 20
    · rw [if_pos c4] at H
      have c4b0 : decide (20 < (l0.length : Int)) = true := decide_eq_true c4
      have c4b1 : decide (20 < l0.length) = true := decide_eq_true (by omega)
      clear c4
      (first | rw [c4b0] | (simp only [i64_w, i32_w]; rw [c4b0]) | skip)
      by_cases c5 : 20 ≤ (l0.length : Int)
      · rw [if_pos c5] at H
        have c5b0 := eq_true c5
        have c5b1 : decide (20 ≤ (l0.length : Int)) = true := decide_eq_true c5
        clear c5
        obtain ⟨y224, hy224⟩ : ∃ y_ : List ByteArray, y_ = (l0.take 20) := ⟨_, rfl⟩
        replace H : (barquelaw02_FrameBack.j0 k y224 a1) = some r := by first | (rw [hy224]; with_reducible exact H) | (have H2_ := (Option.bind_some _ _).symm.trans H; rw [hy224]; with_reducible exact H2_) | (have H2_ := (Option.bind_some _ _).symm.trans H; with_reducible exact H2_) | with_reducible exact H | (rw [hy224]; exact H) | exact H
        have Ny224 := Aside0.mk hy224
        clear hy224
        have H' := Aside0.mk H
        clear H
        have q6 : (20 : Int) ≤ ((l0.length : Int) : Int) := of_decide_eq_true (by first | (with_reducible assumption) | assumption)
        obtain ⟨i06, hi06, _, hsz6, _⟩ := info_parts info9
        have hroom6 : l0.length ≤ c0 := (Kd.V_reads' HO0.out).2.1
        have hC6 : Kd.F Kd.string _ _ A0 l0.length l0 := (Kd.V_at (base := w.heap.size) HO0.out).2.2
        have hcut6 := cut_to (P := Try.prog) 66 9 .i64 Try.underlying66 hi06 A0 l0.length c0 20 (by omega) q6 hroom6
        have hr6 := Kd.F_take (m := 20) hC6 (by omega)
        have hy6 : y224.length = (20 : Int).toNat := (by rw [Ny224.out, List.length_take]; omega)
        rw [← Ny224.out] at hr6
        rw [← hy6] at hcut6
        have HO228 := Aside0.mk (show Kd.V Kd.string 9 _ w.heap.size _ (.slice A0 y224.length c0) y224 from Kd.V_mk (by omega) hr6)
        have HC228 := Aside0.mk (show y224.length ≤ c0 from by omega)
        clear hr6 hC6 hroom6 hi06 hsz6
        have KY6 := Aside0.mk hy6
        clear hy6
        replace q6 := eq_true q6
        go_wp2
        go_meet
        case rel => exact ⟨_, (y224), H', ⟨by first | omega | exact Nat.le_refl _⟩, ⟨by (with_reducible repeat (first | apply Kd.V_alloc | apply Kd.V_drewN | apply Kd.V_drew)); exact HO228.out⟩, ⟨by repeat (first | (with_reducible first | exact HB.out | apply below_alloc | apply pw_below_drewN | apply below_drew1) | exact HB.out)⟩⟩
      · rw [if_neg c5] at H
        exact absurd H (by simp)
    · rw [if_neg c4] at H
      have c4b0 : decide (20 < (l0.length : Int)) = false := decide_eq_false c4
      have c4b1 : decide (20 < l0.length) = false := decide_eq_false (by omega)
      clear c4
      (first | rw [c4b0] | (simp only [i64_w, i32_w]; rw [c4b0]) | skip)
      have H' := Aside0.mk H
      clear H
      go_wp2
      go_meet
      case rel => exact ⟨_, (l0), H', ⟨by first | omega | exact Nat.le_refl _⟩, ⟨by (with_reducible repeat (first | apply Kd.V_alloc | apply Kd.V_drewN | apply Kd.V_drew)); exact HO0.out⟩, ⟨by repeat (first | (with_reducible first | exact HB.out | apply below_alloc | apply pw_below_drewN | apply below_drew1) | exact HB.out)⟩⟩
  case rest =>
    clear HC3
    try clear c1
    try clear p2
    try clear c4
    try clear c4b0
    try clear c4b1
    try clear c5
    try clear c5b0
    try clear c5b1
    try clear q6
    try clear q6
    obtain ⟨kq, x0_2, HA, HJ2, HO_0, HB⟩ := hcut
    cases kq with
    | zero => exact absurd HA.out (by simp [barquelaw02_FrameBack.j0])
    | succ kj2 =>
      have H := HA.out
      clear HA
      simp only [barquelaw02_FrameBack.j0] at H
      have H' := Aside0.mk H
      clear H
      go_wp2
      go_loopg [5] kj2 (fun kq v5 w' => ∃ (x5_2 : Int), v5 = .int .i64 x5_2 ∧ Aside0 (barquelaw02_FrameBack.l0 kq x0_2 a1 x5_2 = some r) ∧ Aside0 (kq ≤ kj2) ∧ Aside0 (Kd.V Kd.string 9 w' w.heap.size (fun k_ => (P0_ k_ ∨ w.heap.size ≤ k_)) u0 x0_2) ∧ Aside0 (Below w.heap.size w w'))
      case atStart => exact ⟨(0), (by first | rfl | (simp; done) | (simp [*]; done)), H', ⟨Nat.le_refl _⟩, ⟨by (with_reducible repeat (first | apply Kd.V_alloc | apply Kd.V_drewN | apply Kd.V_drew)); exact HO_0.out⟩, ⟨by repeat (first | (with_reducible first | exact HB.out | apply below_alloc | apply pw_below_drewN | apply below_drew1) | exact HB.out)⟩⟩
      case round =>
        clear H'
        try clear c1
        try clear p2
        try clear c4
        try clear c4b0
        try clear c4b1
        try clear c5
        try clear c5b0
        try clear c5b1
        try clear q6
        try clear p2
        try clear q6
        obtain ⟨x5_2, rfl, HA, HK2, HO_0, HB⟩ := hrel
        cases gk with
        | zero => exact absurd HA.out (by simp [barquelaw02_FrameBack.l0])
        | succ k2 =>
          have H := HA.out
          clear HA
          simp only [barquelaw02_FrameBack.l0] at H
          by_cases c7 : x5_2 < (x0_2.length : Int)
          · rw [if_pos c7] at H
            have c7b0 : decide (x5_2 < (x0_2.length : Int)) = true := decide_eq_true c7
            clear c7
            by_cases c8 : 0 ≤ x5_2
            · rw [if_pos c8] at H
              have c8b0 : decide (0 ≤ x5_2) = true := decide_eq_true c8
              clear c8
              by_cases c9 : ((rdOf ByteArray.empty x0_2 x5_2).size : Int) > 500
              · rw [if_pos c9] at H
                have c9b0 : decide (500 < ((rdOf ByteArray.empty x0_2 x5_2).size : Int)) = true := decide_eq_true c9
                have c9b1 : decide (500 < (rdOf ByteArray.empty x0_2 x5_2).size) = true := decide_eq_true (by omega)
                clear c9
                replace H := Option.bind_eq_some_iff.mp H
                obtain ⟨t230, A100, H⟩ := H
                replace H : (some t230) = some r := H
                have A10 := Aside0.mk A100
                clear A100
                obtain rfl := Option.some.inj H
                obtain ⟨Ao11, co11, eo11⟩ := Kd.V_slice HO_0.out
                subst eo11
                have p229 : 0 ≤ (x5_2 : Int) := of_decide_eq_true (by first | (with_reducible assumption) | assumption)
                have q229 : x5_2 < (x0_2.length : Int) := of_decide_eq_true (by first | (with_reducible assumption) | assumption)
                obtain ⟨ad229, e229, hx229_0⟩ := Kd.at_string (Kd.V_reads' HO_0.out).2.2 x5_2 p229 q229
                cases e229
                replace p229 := eq_true p229
                replace q229 := eq_true q229
                go_wp2_with (first | ((with_reducible refine gate_callee (f := 21) rfl ?_); refine goesL_ (some 31) rfl rfl Try.func21 (by kernel_rfl) rfl #[] rfl (by (try simp only [List.map_toArray, List.map_cons, List.map_nil]); first | done | rfl | (simp only [List.length_drop, List.length_take]; rfl)) ?_; (with_reducible refine (barquelaw02_awake.calls k2  t230 _ A10.out).mono ?_); rintro e w' ⟨rfl, ⟨nd, rfl⟩⟩; refine ⟨_, rfl, ?_⟩))
                go_ret
                exact ⟨by first | rfl | (simp [errW_none, errW_some] <;> rfl) | (simp [*, errW_none, errW_some] <;> rfl), by repeat (first | (with_reducible first | exact HB.out | apply below_alloc | apply pw_below_drewN | apply below_drew1) | exact HB.out)⟩
              · rw [if_neg c9] at H
                have c9b0 : decide (500 < ((rdOf ByteArray.empty x0_2 x5_2).size : Int)) = false := decide_eq_false c9
                have c9b1 : decide (500 < (rdOf ByteArray.empty x0_2 x5_2).size) = false := decide_eq_false (by omega)
                clear c9
                have H' := Aside0.mk H
                clear H
                obtain ⟨Ao12, co12, eo12⟩ := Kd.V_slice HO_0.out
                subst eo12
                have p229 : 0 ≤ (x5_2 : Int) := of_decide_eq_true (by first | (with_reducible assumption) | assumption)
                have q229 : x5_2 < (x0_2.length : Int) := of_decide_eq_true (by first | (with_reducible assumption) | assumption)
                obtain ⟨ad229, e229, hx229_0⟩ := Kd.at_string (Kd.V_reads' HO_0.out).2.2 x5_2 p229 q229
                cases e229
                replace p229 := eq_true p229
                replace q229 := eq_true q229
                go_wp2
                go_roundg k2
                case measure => have := HJ2.out; have := HK2.out; omega
                case rel => exact ⟨(wrap64 (x5_2 + 1)), (by first | rfl | (simp; done) | (simp [*]; done)), H', ⟨by have := HJ2.out; have := HK2.out; omega⟩, ⟨by (with_reducible repeat (first | apply Kd.V_alloc | apply Kd.V_drewN | apply Kd.V_drew)); exact HO_0.out⟩, ⟨by repeat (first | (with_reducible first | exact HB.out | apply below_alloc | apply pw_below_drewN | apply below_drew1) | exact HB.out)⟩⟩
            · rw [if_neg c8] at H
              exact absurd H (by simp)
          · rw [if_neg c7] at H
            have c7b0 : decide (x5_2 < (x0_2.length : Int)) = false := decide_eq_false c7
            clear c7
            replace H := Option.bind_eq_some_iff.mp H
            obtain ⟨⟨t231, t232⟩, A130, H⟩ := H
            replace H : ((frame_Scan.f k2 t231).bind fun bt233 => (if t232 = 0 then ((barquelaw02_texts.f k2 x0_2 bt233.1).bind fun t238 => (if t238 = true then (if bt233.2.1 = (t231.size : Int) then (barquelaw02_FrameBack.j2 k2 x0_2 a1 t231 (bt233.2.2 != 0)) else (barquelaw02_FrameBack.j2 k2 x0_2 a1 t231 true)) else (barquelaw02_FrameBack.j2 k2 x0_2 a1 t231 true))) else (barquelaw02_FrameBack.j2 k2 x0_2 a1 t231 true))) = some r := H
            have A13 := Aside0.mk A130
            clear A130
            replace H := Option.bind_eq_some_iff.mp H
            obtain ⟨⟨t233, t234, t235⟩, A140, H⟩ := H
            replace H : (if t232 = 0 then ((barquelaw02_texts.f k2 x0_2 t233).bind fun t238 => (if t238 = true then (if t234 = (t231.size : Int) then (barquelaw02_FrameBack.j2 k2 x0_2 a1 t231 (t235 != 0)) else (barquelaw02_FrameBack.j2 k2 x0_2 a1 t231 true)) else (barquelaw02_FrameBack.j2 k2 x0_2 a1 t231 true))) else (barquelaw02_FrameBack.j2 k2 x0_2 a1 t231 true)) = some r := H
            have A14 := Aside0.mk A140
            clear A140
            have HC15 := Aside0.mk H
            clear H
            obtain ⟨Ao16, co16, eo16⟩ := Kd.V_slice HO_0.out
            subst eo16
            go_upto_region 10 with (first | ((with_reducible refine gate_callee (f := 41) rfl ?_); refine goesL_ (some 34) rfl rfl Try.func41 (by kernel_rfl) rfl #[.slice Ao16 x0_2.length co16] rfl (by (try simp only [List.map_toArray, List.map_cons, List.map_nil]); first | done | rfl | (simp only [List.length_drop, List.length_take]; rfl)) ?_; (with_reducible refine (frame_All.calls k2 _ _ x0_2 t231 t232 _ ?side1 ?side2 A13.out).mono ?_); (case side1 => repeat (first | exact (Kd.V_reads' HO_0.out).2.2 | (with_reducible refine Kd.C_alloc ?_ _) | (with_reducible refine Kd.C_drewN ?_ _) | (with_reducible refine Kd.C_drew ?_))); (case side2 => exact (Kd.V_reads' HO_0.out).2.1); rintro e w17 ⟨rfl, hb⟩; refine ⟨_, rfl, ?_⟩; have n0_ := Aside0.mk (Kd.V_below (by (with_reducible repeat (first | apply Kd.V_alloc | apply Kd.V_drewN | apply Kd.V_drew)); exact HO_0.out) hb); have n1_ := Aside0.mk (below_step (by repeat (first | (with_reducible first | exact HB.out | apply below_alloc | apply pw_below_drewN | apply below_drew1) | exact HB.out)) hb); clear HO_0; clear HB; have HO_0 := n0_; have HB := n1_; clear n0_ n1_; (try clear hb); (try clear hb2); (try clear hk); (try clear hi)) | ((with_reducible refine gate_callee (f := 43) rfl ?_); refine goesL_ (some 39) rfl rfl Try.func43 (by kernel_rfl) rfl #[.string t231] rfl (by (try simp only [List.map_toArray, List.map_cons, List.map_nil]); first | done | rfl | (simp only [List.length_drop, List.length_take]; rfl)) ?_; (with_reducible refine (frame_Scan.calls k2 t231 t233 t234 t235 _ A14.out).mono ?_); rintro e w18 ⟨v236, rfl, ho0, hb⟩; refine ⟨_, rfl, ?_⟩; have n0_ := Aside0.mk (Kd.V_elder' (by (with_reducible repeat (first | apply Kd.V_alloc | apply Kd.V_drewN | apply Kd.V_drew)); exact HO_0.out) (Kd.R_base ho0) hb); have n1_ := Aside0.mk (Kd.R_lower (Kd.R_newM (M := fun k_ => (w.heap.size ≤ k_)) ho0 (below_size (by repeat (first | (with_reducible first | exact HB.out | apply below_alloc | apply pw_below_drewN | apply below_drew1) | exact HB.out))) (fun k_ h_ => h_)) (below_size (by repeat (first | (with_reducible first | exact HB.out | apply below_alloc | apply pw_below_drewN | apply below_drew1) | exact HB.out)))); have n2_ := Aside0.mk (below_step (by repeat (first | (with_reducible first | exact HB.out | apply below_alloc | apply pw_below_drewN | apply below_drew1) | exact HB.out)) hb); clear HO_0; clear HB; have HO_0 := n0_; have HO237 := n1_; have HB := n2_; clear n0_ n1_ n2_; (try clear hb); (try clear hb2); (try clear hk); (try clear hi); (try clear ho0)))
            (try simp only [Act.put, List.setIfInBounds_toArray, List.set_cons_zero, List.set_cons_succ])
            go_cut [60] (fun v60 wc => ∃ (kq : Nat) (x60_14 : Bool), v60 = .bool x60_14 ∧ Aside0 (barquelaw02_FrameBack.j2 kq x0_2 a1 t231 x60_14 = some r) ∧ Aside0 (kq ≤ k2) ∧ Aside0 (Kd.V Kd.string 9 wc w.heap.size (fun k_ => (P0_ k_ ∨ w.heap.size ≤ k_)) (.slice Ao16 x0_2.length co16) x0_2) ∧ Aside0 (Below w.heap.size w wc))
            case first =>
              have H := HC15.out
              clear HC15
              by_cases c19 : t232 = 0
              · rw [if_pos c19] at H
                have c19b0 : (t232 == 0) = true := beq_iff_eq.mpr c19
                have c19b1 : (t232 != 0) = false := bne_eq_false_iff_eq.mpr c19
                clear c19
                (first | rw [c19b0] | (simp only [i64_w, i32_w]; rw [c19b0]) | skip)
                replace H := Option.bind_eq_some_iff.mp H
                obtain ⟨t238, A200, H⟩ := H
                replace H : (if t238 = true then (if t234 = (t231.size : Int) then (barquelaw02_FrameBack.j2 k2 x0_2 a1 t231 (t235 != 0)) else (barquelaw02_FrameBack.j2 k2 x0_2 a1 t231 true)) else (barquelaw02_FrameBack.j2 k2 x0_2 a1 t231 true)) = some r := H
                have A20 := Aside0.mk A200
                clear A200
                by_cases c21 : t238 = true
                · subst c21
                  have H1 : (if t234 = (t231.size : Int) then (barquelaw02_FrameBack.j2 k2 x0_2 a1 t231 (t235 != 0)) else (barquelaw02_FrameBack.j2 k2 x0_2 a1 t231 true)) = some r := by rw [if_pos rfl] at H; exact H
                  clear H
                  have H := H1
                  clear H1
                  by_cases c22 : t234 = (t231.size : Int)
                  · rw [if_pos c22] at H
                    have c22b0 : (t234 == (t231.size : Int)) = true := beq_iff_eq.mpr c22
                    have c22b1 : (t234 != (t231.size : Int)) = false := bne_eq_false_iff_eq.mpr c22
                    clear c22
                    have H' := Aside0.mk H
                    clear H
                    obtain ⟨Ao23, co23, eo23⟩ := Kd.R_slice HO237.out
                    subst eo23
                    go_wp2_with (first | (go_at_call 45; (with_reducible refine (barquelaw02_texts.calls k2 _ _ x0_2 _ _ t233 true _ ?side1 ?side2 ?side3 ?side4 A20.out).mono ?_); (case side1 => repeat (first | exact (Kd.V_reads' HO_0.out).2.2 | (with_reducible refine Kd.C_alloc ?_ _) | (with_reducible refine Kd.C_drewN ?_ _) | (with_reducible refine Kd.C_drew ?_))); (case side2 => exact (Kd.V_reads' HO_0.out).2.1); (case side3 => repeat (first | exact (Kd.R_reads' HO237.out).2.2 | (with_reducible refine Kd.C_alloc ?_ _) | (with_reducible refine Kd.C_drewN ?_ _) | (with_reducible refine Kd.C_drew ?_))); (case side4 => exact (Kd.R_reads' HO237.out).2.1); rintro e w' ⟨rfl, ⟨nd, rfl⟩⟩))
                    go_meet
                    case rel => exact ⟨_, ((t235 != 0)), (by first | rfl | (simp; done) | (simp [*]; done)), H', ⟨by have := HJ2.out; have := HK2.out; first | omega | exact Nat.le_refl _⟩, ⟨by (with_reducible repeat (first | apply Kd.V_alloc | apply Kd.V_drewN | apply Kd.V_drew)); exact Kd.V_mono HO_0.out (fun _ hk => hk.1)⟩, ⟨by repeat (first | (with_reducible first | exact HB.out | apply below_alloc | apply pw_below_drewN | apply below_drew1) | exact HB.out)⟩⟩
                  · rw [if_neg c22] at H
                    have c22b0 : (t234 == (t231.size : Int)) = false := beq_eq_false_iff_ne.mpr c22
                    have c22b1 : (t234 != (t231.size : Int)) = true := bne_iff_ne.mpr c22
                    have H' := Aside0.mk H
                    clear H
                    obtain ⟨Ao24, co24, eo24⟩ := Kd.R_slice HO237.out
                    subst eo24
                    go_wp2_with (first | (go_at_call 45; (with_reducible refine (barquelaw02_texts.calls k2 _ _ x0_2 _ _ t233 true _ ?side1 ?side2 ?side3 ?side4 A20.out).mono ?_); (case side1 => repeat (first | exact (Kd.V_reads' HO_0.out).2.2 | (with_reducible refine Kd.C_alloc ?_ _) | (with_reducible refine Kd.C_drewN ?_ _) | (with_reducible refine Kd.C_drew ?_))); (case side2 => exact (Kd.V_reads' HO_0.out).2.1); (case side3 => repeat (first | exact (Kd.R_reads' HO237.out).2.2 | (with_reducible refine Kd.C_alloc ?_ _) | (with_reducible refine Kd.C_drewN ?_ _) | (with_reducible refine Kd.C_drew ?_))); (case side4 => exact (Kd.R_reads' HO237.out).2.1); rintro e w' ⟨rfl, ⟨nd, rfl⟩⟩))
                    go_meet
                    case rel => exact ⟨_, (true), (by first | rfl | (simp; done) | (simp [*]; done)), H', ⟨by have := HJ2.out; have := HK2.out; first | omega | exact Nat.le_refl _⟩, ⟨by (with_reducible repeat (first | apply Kd.V_alloc | apply Kd.V_drewN | apply Kd.V_drew)); exact Kd.V_mono HO_0.out (fun _ hk => hk.1)⟩, ⟨by repeat (first | (with_reducible first | exact HB.out | apply below_alloc | apply pw_below_drewN | apply below_drew1) | exact HB.out)⟩⟩
                · replace c21 := Bool.eq_false_iff.mpr c21
                  subst c21
                  have H1 : (barquelaw02_FrameBack.j2 k2 x0_2 a1 t231 true) = some r := by rw [if_neg (show ¬ (false = true) by decide)] at H; exact H
                  clear H
                  have H := H1
                  clear H1
                  have H' := Aside0.mk H
                  clear H
                  obtain ⟨Ao25, co25, eo25⟩ := Kd.R_slice HO237.out
                  subst eo25
                  go_wp2_with (first | (go_at_call 45; (with_reducible refine (barquelaw02_texts.calls k2 _ _ x0_2 _ _ t233 false _ ?side1 ?side2 ?side3 ?side4 A20.out).mono ?_); (case side1 => repeat (first | exact (Kd.V_reads' HO_0.out).2.2 | (with_reducible refine Kd.C_alloc ?_ _) | (with_reducible refine Kd.C_drewN ?_ _) | (with_reducible refine Kd.C_drew ?_))); (case side2 => exact (Kd.V_reads' HO_0.out).2.1); (case side3 => repeat (first | exact (Kd.R_reads' HO237.out).2.2 | (with_reducible refine Kd.C_alloc ?_ _) | (with_reducible refine Kd.C_drewN ?_ _) | (with_reducible refine Kd.C_drew ?_))); (case side4 => exact (Kd.R_reads' HO237.out).2.1); rintro e w' ⟨rfl, ⟨nd, rfl⟩⟩))
                  go_meet
                  case rel => exact ⟨_, (true), (by first | rfl | (simp; done) | (simp [*]; done)), H', ⟨by have := HJ2.out; have := HK2.out; first | omega | exact Nat.le_refl _⟩, ⟨by (with_reducible repeat (first | apply Kd.V_alloc | apply Kd.V_drewN | apply Kd.V_drew)); exact Kd.V_mono HO_0.out (fun _ hk => hk.1)⟩, ⟨by repeat (first | (with_reducible first | exact HB.out | apply below_alloc | apply pw_below_drewN | apply below_drew1) | exact HB.out)⟩⟩
              · rw [if_neg c19] at H
                have c19b0 : (t232 == 0) = false := beq_eq_false_iff_ne.mpr c19
                have c19b1 : (t232 != 0) = true := bne_iff_ne.mpr c19
                (first | rw [c19b0] | (simp only [i64_w, i32_w]; rw [c19b0]) | skip)
                have H' := Aside0.mk H
                clear H
                go_wp2
                go_meet
                case rel => exact ⟨_, (true), (by first | rfl | (simp; done) | (simp [*]; done)), H', ⟨by have := HJ2.out; have := HK2.out; first | omega | exact Nat.le_refl _⟩, ⟨by (with_reducible repeat (first | apply Kd.V_alloc | apply Kd.V_drewN | apply Kd.V_drew)); exact Kd.V_mono HO_0.out (fun _ hk => hk.1)⟩, ⟨by repeat (first | (with_reducible first | exact HB.out | apply below_alloc | apply pw_below_drewN | apply below_drew1) | exact HB.out)⟩⟩
            case rest =>
              clear HC15
              try clear c1
              try clear c2
              try clear p2
              try clear q2
              try clear hx2
              try clear c4
              try clear c4b0
              try clear c4b1
              try clear c5
              try clear c5b0
              try clear c5b1
              try clear p6
              try clear q6
              try clear c7
              try clear c7b0
              try clear c8
              try clear c8b0
              try clear c9
              try clear c9b0
              try clear c9b1
              try clear c17
              try clear c19
              try clear c19b0
              try clear c19b1
              try clear c21
              try clear c22
              try clear c22b0
              try clear c22b1
              try clear p22
              try clear q22
              try clear hx22
              try clear hx229_0
              try clear p2
              try clear p229
              try clear q229
              try clear q6
              obtain ⟨kq, x60_14, rfl, HA, HJ14, HO_0, HB⟩ := hcut
              cases kq with
              | zero => exact absurd HA.out (by simp [barquelaw02_FrameBack.j2])
              | succ kj14 =>
                have H := HA.out
                clear HA
                simp only [barquelaw02_FrameBack.j2] at H
                by_cases c26 : x60_14 = true
                · subst c26
                  have H1 : (some false) = some r := by rw [if_pos rfl] at H; exact H
                  clear H
                  have H := H1
                  clear H1
                  obtain rfl := Option.some.inj H
                  go_wp2
                  go_ret
                  exact ⟨by first | rfl | (simp [errW_none, errW_some] <;> rfl) | (simp [*, errW_none, errW_some] <;> rfl), by repeat (first | (with_reducible first | exact HB.out | apply below_alloc | apply pw_below_drewN | apply below_drew1) | exact HB.out)⟩
                · replace c26 := Bool.eq_false_iff.mpr c26
                  subst c26
                  have H1 : (if (x0_2.length : Int) = 0 then (barquelaw02_FrameBack.j3 kj14 x0_2 a1 t231 true) else (if a1 < 1 then (barquelaw02_FrameBack.j3 kj14 x0_2 a1 t231 true) else (if 0 ≤ (wrap64 ((x0_2.length : Int) - 1)) then (if (wrap64 ((x0_2.length : Int) - 1)) < (x0_2.length : Int) then (barquelaw02_FrameBack.j3 kj14 x0_2 a1 t231 (decide (a1 > (wrap64 (((rdOf ByteArray.empty x0_2 (wrap64 ((x0_2.length : Int) - 1))).size : Int) + 10))))) else (none)) else (none)))) = some r := by rw [if_neg (show ¬ (false = true) by decide)] at H; exact H
                  clear H
                  have H := H1
                  clear H1
                  have HC27 := Aside0.mk H
                  clear H
                  go_upto_region 12 with (fail)
                  go_cut [79] (fun v79 wc => ∃ (kq : Nat) (x79_26 : Bool), v79 = .bool x79_26 ∧ Aside0 (barquelaw02_FrameBack.j3 kq x0_2 a1 t231 x79_26 = some r) ∧ Aside0 (kq ≤ kj14) ∧ Aside0 (Kd.V Kd.string 9 wc w.heap.size (fun k_ => (P0_ k_ ∨ w.heap.size ≤ k_)) (.slice Ao16 x0_2.length co16) x0_2) ∧ Aside0 (Below w.heap.size w wc))
                  case first =>
                    have H := HC27.out
                    clear HC27
                    by_cases c28 : (x0_2.length : Int) = 0
                    · rw [if_pos c28] at H
                      have c28b0 : ((x0_2.length : Int) == 0) = true := beq_iff_eq.mpr c28
                      have c28b1 : ((x0_2.length : Int) != 0) = false := bne_eq_false_iff_eq.mpr c28
                      clear c28
                      (first | rw [c28b0] | (simp only [i64_w, i32_w]; rw [c28b0]) | skip)
                      have H' := Aside0.mk H
                      clear H
                      go_wp2
                      go_meet
                      case rel => exact ⟨_, (true), (by first | rfl | (simp; done) | (simp [*]; done)), H', ⟨by have := HJ2.out; have := HK2.out; have := HJ14.out; first | omega | exact Nat.le_refl _⟩, ⟨by (with_reducible repeat (first | apply Kd.V_alloc | apply Kd.V_drewN | apply Kd.V_drew)); exact HO_0.out⟩, ⟨by repeat (first | (with_reducible first | exact HB.out | apply below_alloc | apply pw_below_drewN | apply below_drew1) | exact HB.out)⟩⟩
                    · rw [if_neg c28] at H
                      have c28b0 : ((x0_2.length : Int) == 0) = false := beq_eq_false_iff_ne.mpr c28
                      have c28b1 : ((x0_2.length : Int) != 0) = true := bne_iff_ne.mpr c28
                      have c28b2 : ¬ (x0_2 = []) := fun h_ => c28 (by rw [h_]; rfl)
                      (first | rw [c28b0] | (simp only [i64_w, i32_w]; rw [c28b0]) | skip)
                      by_cases c29 : a1 < 1
                      · rw [if_pos c29] at H
                        have c29b0 : decide (a1 < 1) = true := decide_eq_true c29
                        clear c29
                        have H' := Aside0.mk H
                        clear H
                        go_wp2
                        go_meet
                        case rel => exact ⟨_, (true), (by first | rfl | (simp; done) | (simp [*]; done)), H', ⟨by have := HJ2.out; have := HK2.out; have := HJ14.out; first | omega | exact Nat.le_refl _⟩, ⟨by (with_reducible repeat (first | apply Kd.V_alloc | apply Kd.V_drewN | apply Kd.V_drew)); exact HO_0.out⟩, ⟨by repeat (first | (with_reducible first | exact HB.out | apply below_alloc | apply pw_below_drewN | apply below_drew1) | exact HB.out)⟩⟩
                      · rw [if_neg c29] at H
                        have c29b0 : decide (a1 < 1) = false := decide_eq_false c29
                        clear c29
                        obtain ⟨ji30, hji30⟩ : ∃ j_ : Int, (wrap64 ((x0_2.length : Int) - 1)) = j_ := ⟨_, rfl⟩
                        replace H : (if 0 ≤ (ji30) then (if (ji30) < (x0_2.length : Int) then (barquelaw02_FrameBack.j3 kj14 x0_2 a1 t231 (decide (a1 > (wrap64 (((rdOf ByteArray.empty x0_2 (ji30)).size : Int) + 10))))) else (none)) else (none)) = some r := by first | (rw [hji30] at H; exact H) | (simp only [hji30] at H ⊢; exact H)
                        have hji30w : (IntKind.i64.wrap ((x0_2.length : Int) - 1)) = ji30 := (i64_w _).trans hji30
                        by_cases c31 : 0 ≤ (ji30)
                        · rw [if_pos c31] at H
                          have c31b0 : decide (0 ≤ (ji30)) = true := decide_eq_true c31
                          clear c31
                          by_cases c32 : (ji30) < (x0_2.length : Int)
                          · rw [if_pos c32] at H
                            have c32b0 : decide ((ji30) < (x0_2.length : Int)) = true := decide_eq_true c32
                            clear c32
                            have H' := Aside0.mk H
                            clear H
                            have p239 : 0 ≤ ((ji30) : Int) := of_decide_eq_true (by first | (with_reducible assumption) | assumption)
                            have q239 : (ji30) < (x0_2.length : Int) := of_decide_eq_true (by first | (with_reducible assumption) | assumption)
                            obtain ⟨ad239, e239, hx239_0⟩ := Kd.at_string (Kd.V_reads' HO_0.out).2.2 (ji30) p239 q239
                            cases e239
                            replace p239 := eq_true p239
                            replace q239 := eq_true q239
                            go_wp2
                            go_meet
                            case rel => exact ⟨_, (decide (a1 > (wrap64 (((rdOf ByteArray.empty x0_2 (ji30)).size : Int) + 10)))), (by first | rfl | (simp; done) | (simp only [← hji30] <;> (first | rfl | simp)) | (simp [*]; done)), H', ⟨by have := HJ2.out; have := HK2.out; have := HJ14.out; first | omega | exact Nat.le_refl _⟩, ⟨by (with_reducible repeat (first | apply Kd.V_alloc | apply Kd.V_drewN | apply Kd.V_drew)); exact HO_0.out⟩, ⟨by repeat (first | (with_reducible first | exact HB.out | apply below_alloc | apply pw_below_drewN | apply below_drew1) | exact HB.out)⟩⟩
                          · rw [if_neg c32] at H
                            exact absurd H (by simp)
                        · rw [if_neg c31] at H
                          exact absurd H (by simp)
                  case rest =>
                    clear HC27
                    try clear c1
                    try clear c2
                    try clear p2
                    try clear q2
                    try clear hx2
                    try clear c3
                    try clear c4
                    try clear c4b0
                    try clear c4b1
                    try clear c5
                    try clear c5b0
                    try clear c5b1
                    try clear p6
                    try clear q6
                    try clear c7
                    try clear c7b0
                    try clear c8
                    try clear c8b0
                    try clear c9
                    try clear c9b0
                    try clear c9b1
                    try clear c17
                    try clear c19
                    try clear c19b0
                    try clear c19b1
                    try clear c21
                    try clear c22
                    try clear c22b0
                    try clear c22b1
                    try clear p22
                    try clear q22
                    try clear hx22
                    try clear p23
                    try clear q23
                    try clear hx23
                    try clear c26
                    try clear c28
                    try clear c28b0
                    try clear c28b1
                    try clear c28b2
                    try clear c29
                    try clear c29b0
                    try clear c31
                    try clear c31b0
                    try clear c32
                    try clear c32b0
                    try clear hx229_0
                    try clear hx239_0
                    try clear p2
                    try clear p22
                    try clear p229
                    try clear p239
                    try clear p6
                    try clear q2
                    try clear q22
                    try clear q229
                    try clear q239
                    try clear q6
                    obtain ⟨kq, x79_26, rfl, HA, HJ26, HO_0, HB⟩ := hcut
                    cases kq with
                    | zero => exact absurd HA.out (by simp [barquelaw02_FrameBack.j3])
                    | succ kj26 =>
                      have H := HA.out
                      clear HA
                      simp only [barquelaw02_FrameBack.j3] at H
                      by_cases c33 : x79_26 = true
                      · subst c33
                        have H1 : ((barquelaw02_awake.f kj26).bind fun t240 => (some t240)) = some r := by rw [if_pos rfl] at H; exact H
                        clear H
                        have H := H1
                        clear H1
                        replace H := Option.bind_eq_some_iff.mp H
                        obtain ⟨t240, A340, H⟩ := H
                        replace H : (some t240) = some r := H
                        have A34 := Aside0.mk A340
                        clear A340
                        obtain rfl := Option.some.inj H
                        go_wp2_with (first | ((with_reducible refine gate_callee (f := 21) rfl ?_); refine goesL_ (some 80) rfl rfl Try.func21 (by kernel_rfl) rfl #[] rfl (by (try simp only [List.map_toArray, List.map_cons, List.map_nil]); first | done | rfl | (simp only [List.length_drop, List.length_take]; rfl)) ?_; (with_reducible refine (barquelaw02_awake.calls kj26  t240 _ A34.out).mono ?_); rintro e w' ⟨rfl, ⟨nd, rfl⟩⟩; refine ⟨_, rfl, ?_⟩))
                        go_ret
                        exact ⟨by first | rfl | (simp [errW_none, errW_some] <;> rfl) | (simp [*, errW_none, errW_some] <;> rfl), by repeat (first | (with_reducible first | exact HB.out | apply below_alloc | apply pw_below_drewN | apply below_drew1) | exact HB.out)⟩
                      · replace c33 := Bool.eq_false_iff.mpr c33
                        subst c33
                        have H1 : (if 0 ≤ (wrap64 ((t231.size : Int) - a1)) then (if (wrap64 ((t231.size : Int) - a1)) ≤ (t231.size : Int) then ((frame_Scan.f kj26 (t231.extract 0 ((wrap64 ((t231.size : Int) - a1)) : Int).toNat)).bind fun bt241 => (if 0 ≤ (wrap64 ((x0_2.length : Int) - 1)) then (if (wrap64 ((x0_2.length : Int) - 1)) ≤ (x0_2.length : Int) then ((barquelaw02_texts.f kj26 bt241.1 (x0_2.take ((wrap64 ((x0_2.length : Int) - 1)) : Int).toNat)).bind fun t251 => (if t251 = true then (if (wrap64 ((x0_2.length : Int) - 1)) < (x0_2.length : Int) then (if bt241.2.1 = (wrap64 ((wrap64 ((t231.size : Int) - ((rdOf ByteArray.empty x0_2 (wrap64 ((x0_2.length : Int) - 1))).size : Int))) - 10)) then (if bt241.2.2 = 0 then ((barquelaw02_awake.f kj26).bind fun t253 => (some t253)) else (some false)) else (some false)) else (none)) else (some false))) else (none)) else (none))) else (none)) else (none)) = some r := by rw [if_neg (show ¬ (false = true) by decide)] at H; exact H
                        clear H
                        have H := H1
                        clear H1
                        obtain ⟨ji35, hji35⟩ : ∃ j_ : Int, (wrap64 ((t231.size : Int) - a1)) = j_ := ⟨_, rfl⟩
                        replace H : (if 0 ≤ (ji35) then (if (ji35) ≤ (t231.size : Int) then ((frame_Scan.f kj26 (t231.extract 0 ((ji35) : Int).toNat)).bind fun bt241 => (if 0 ≤ (wrap64 ((x0_2.length : Int) - 1)) then (if (wrap64 ((x0_2.length : Int) - 1)) ≤ (x0_2.length : Int) then ((barquelaw02_texts.f kj26 bt241.1 (x0_2.take ((wrap64 ((x0_2.length : Int) - 1)) : Int).toNat)).bind fun t251 => (if t251 = true then (if (wrap64 ((x0_2.length : Int) - 1)) < (x0_2.length : Int) then (if bt241.2.1 = (wrap64 ((wrap64 ((t231.size : Int) - ((rdOf ByteArray.empty x0_2 (wrap64 ((x0_2.length : Int) - 1))).size : Int))) - 10)) then (if bt241.2.2 = 0 then ((barquelaw02_awake.f kj26).bind fun t253 => (some t253)) else (some false)) else (some false)) else (none)) else (some false))) else (none)) else (none))) else (none)) else (none)) = some r := by first | (rw [hji35] at H; exact H) | (simp only [hji35] at H ⊢; exact H)
                        have hji35w : (IntKind.i64.wrap ((t231.size : Int) - a1)) = ji35 := (i64_w _).trans hji35
                        by_cases c36 : 0 ≤ (ji35)
                        · rw [if_pos c36] at H
                          have c36b0 := eq_true c36
                          have c36b1 : decide (0 ≤ (ji35)) = true := decide_eq_true c36
                          clear c36
                          by_cases c37 : (ji35) ≤ (t231.size : Int)
                          · rw [if_pos c37] at H
                            have c37b0 := eq_true c37
                            have c37b1 : decide ((ji35) ≤ (t231.size : Int)) = true := decide_eq_true c37
                            clear c37
                            replace H := Option.bind_eq_some_iff.mp H
                            obtain ⟨⟨t241, t242, t243⟩, A380, H⟩ := H
                            replace H : (if 0 ≤ (wrap64 ((x0_2.length : Int) - 1)) then (if (wrap64 ((x0_2.length : Int) - 1)) ≤ (x0_2.length : Int) then ((barquelaw02_texts.f kj26 t241 (x0_2.take ((wrap64 ((x0_2.length : Int) - 1)) : Int).toNat)).bind fun t251 => (if t251 = true then (if (wrap64 ((x0_2.length : Int) - 1)) < (x0_2.length : Int) then (if t242 = (wrap64 ((wrap64 ((t231.size : Int) - ((rdOf ByteArray.empty x0_2 (wrap64 ((x0_2.length : Int) - 1))).size : Int))) - 10)) then (if t243 = 0 then ((barquelaw02_awake.f kj26).bind fun t253 => (some t253)) else (some false)) else (some false)) else (none)) else (some false))) else (none)) else (none)) = some r := H
                            have A38 := Aside0.mk A380
                            clear A380
                            obtain ⟨ji39, hji39⟩ : ∃ j_ : Int, (wrap64 ((x0_2.length : Int) - 1)) = j_ := ⟨_, rfl⟩
                            replace H : (if 0 ≤ (ji39) then (if (ji39) ≤ (x0_2.length : Int) then ((barquelaw02_texts.f kj26 t241 (x0_2.take ((ji39) : Int).toNat)).bind fun t251 => (if t251 = true then (if (ji39) < (x0_2.length : Int) then (if t242 = (wrap64 ((wrap64 ((t231.size : Int) - ((rdOf ByteArray.empty x0_2 (ji39)).size : Int))) - 10)) then (if t243 = 0 then ((barquelaw02_awake.f kj26).bind fun t253 => (some t253)) else (some false)) else (some false)) else (none)) else (some false))) else (none)) else (none)) = some r := by first | (rw [hji39] at H; exact H) | (simp only [hji39] at H ⊢; exact H)
                            (try rw [hji39] at A38)
                            have hji39w : (IntKind.i64.wrap ((x0_2.length : Int) - 1)) = ji39 := (i64_w _).trans hji39
                            by_cases c40 : 0 ≤ (ji39)
                            · rw [if_pos c40] at H
                              have c40b0 := eq_true c40
                              have c40b1 : decide (0 ≤ (ji39)) = true := decide_eq_true c40
                              clear c40
                              by_cases c41 : (ji39) ≤ (x0_2.length : Int)
                              · rw [if_pos c41] at H
                                have c41b0 := eq_true c41
                                have c41b1 : decide ((ji39) ≤ (x0_2.length : Int)) = true := decide_eq_true c41
                                clear c41
                                obtain ⟨y246, hy246⟩ : ∃ y_ : List ByteArray, y_ = (x0_2.take ((ji39) : Int).toNat) := ⟨_, rfl⟩
                                replace H : ((barquelaw02_texts.f kj26 t241 y246).bind fun t251 => (if t251 = true then (if (ji39) < (x0_2.length : Int) then (if t242 = (wrap64 ((wrap64 ((t231.size : Int) - ((rdOf ByteArray.empty x0_2 (ji39)).size : Int))) - 10)) then (if t243 = 0 then ((barquelaw02_awake.f kj26).bind fun t253 => (some t253)) else (some false)) else (some false)) else (none)) else (some false))) = some r := by first | (rw [hy246]; with_reducible exact H) | (have H2_ := (Option.bind_some _ _).symm.trans H; rw [hy246]; with_reducible exact H2_) | (have H2_ := (Option.bind_some _ _).symm.trans H; with_reducible exact H2_) | with_reducible exact H | (rw [hy246]; exact H) | exact H
                                have Ny246 := Aside0.mk hy246
                                clear hy246
                                replace H := Option.bind_eq_some_iff.mp H
                                obtain ⟨t251, A420, H⟩ := H
                                replace H : (if t251 = true then (if (ji39) < (x0_2.length : Int) then (if t242 = (wrap64 ((wrap64 ((t231.size : Int) - ((rdOf ByteArray.empty x0_2 (ji39)).size : Int))) - 10)) then (if t243 = 0 then ((barquelaw02_awake.f kj26).bind fun t253 => (some t253)) else (some false)) else (some false)) else (none)) else (some false)) = some r := H
                                have A42 := Aside0.mk A420
                                clear A420
                                by_cases c43 : t251 = true
                                · subst c43
                                  have H1 : (if (ji39) < (x0_2.length : Int) then (if t242 = (wrap64 ((wrap64 ((t231.size : Int) - ((rdOf ByteArray.empty x0_2 (ji39)).size : Int))) - 10)) then (if t243 = 0 then ((barquelaw02_awake.f kj26).bind fun t253 => (some t253)) else (some false)) else (some false)) else (none)) = some r := by rw [if_pos rfl] at H; exact H
                                  clear H
                                  have H := H1
                                  clear H1
                                  by_cases c44 : (ji39) < (x0_2.length : Int)
                                  · rw [if_pos c44] at H
                                    have c44b0 : decide ((ji39) < (x0_2.length : Int)) = true := decide_eq_true c44
                                    clear c44
                                    by_cases c45 : t242 = (wrap64 ((wrap64 ((t231.size : Int) - ((rdOf ByteArray.empty x0_2 (ji39)).size : Int))) - 10))
                                    · rw [if_pos c45] at H
                                      have c45b0 : (t242 == (wrap64 ((wrap64 ((t231.size : Int) - ((rdOf ByteArray.empty x0_2 (ji39)).size : Int))) - 10))) = true := beq_iff_eq.mpr c45
                                      have c45b1 : (t242 != (wrap64 ((wrap64 ((t231.size : Int) - ((rdOf ByteArray.empty x0_2 (ji39)).size : Int))) - 10))) = false := bne_eq_false_iff_eq.mpr c45
                                      (try (have c45b2 : (t242 == (((wrap64 ((t231.size : Int) - ((rdOf ByteArray.empty x0_2 (ji39)).size : Int))) - 10))) = true := by have z_ : (t242 == (wrap64 ((wrap64 ((t231.size : Int) - ((rdOf ByteArray.empty x0_2 (ji39)).size : Int))) - 10))) = true := beq_iff_eq.mpr c45; rw [show wrap64 ((wrap64 ((t231.size : Int) - ((rdOf ByteArray.empty x0_2 (ji39)).size : Int))) - 10) = ((wrap64 ((t231.size : Int) - ((rdOf ByteArray.empty x0_2 (ji39)).size : Int))) - 10) from by unfold wrap64; omega] at z_; exact z_))
                                      (try (have c45b3 : (t242 != (((wrap64 ((t231.size : Int) - ((rdOf ByteArray.empty x0_2 (ji39)).size : Int))) - 10))) = false := by have z_ : (t242 != (wrap64 ((wrap64 ((t231.size : Int) - ((rdOf ByteArray.empty x0_2 (ji39)).size : Int))) - 10))) = false := bne_eq_false_iff_eq.mpr c45; rw [show wrap64 ((wrap64 ((t231.size : Int) - ((rdOf ByteArray.empty x0_2 (ji39)).size : Int))) - 10) = ((wrap64 ((t231.size : Int) - ((rdOf ByteArray.empty x0_2 (ji39)).size : Int))) - 10) from by unfold wrap64; omega] at z_; exact z_))
                                      clear c45
                                      by_cases c46 : t243 = 0
                                      · rw [if_pos c46] at H
                                        have c46b0 : (t243 == 0) = true := beq_iff_eq.mpr c46
                                        have c46b1 : (t243 != 0) = false := bne_eq_false_iff_eq.mpr c46
                                        clear c46
                                        replace H := Option.bind_eq_some_iff.mp H
                                        obtain ⟨t253, A470, H⟩ := H
                                        replace H : (some t253) = some r := H
                                        have A47 := Aside0.mk A470
                                        clear A470
                                        obtain rfl := Option.some.inj H
                                        go_wp2_with (first | ((with_reducible refine gate_callee (f := 43) rfl ?_); refine goesL_ (some 88) rfl rfl Try.func43 (by kernel_rfl) rfl #[.string (t231.extract 0 ((ji35) : Int).toNat)] rfl (by (try simp only [List.map_toArray, List.map_cons, List.map_nil]); first | done | (simp only [hji35]; rfl) | rfl | (simp only [List.length_drop, List.length_take]; rfl)) ?_; (with_reducible refine (frame_Scan.calls kj26 (t231.extract 0 ((ji35) : Int).toNat) t241 t242 t243 _ A38.out).mono ?_); rintro e w48 ⟨v244, rfl, ho0, hb⟩; refine ⟨_, rfl, ?_⟩; have n0_ := Aside0.mk (Kd.V_elder' (by (with_reducible repeat (first | apply Kd.V_alloc | apply Kd.V_drewN | apply Kd.V_drew)); exact HO_0.out) (Kd.R_base ho0) hb); have n1_ := Aside0.mk (Kd.R_lower (Kd.R_newM (M := fun k_ => (w.heap.size ≤ k_)) ho0 (below_size (by repeat (first | (with_reducible first | exact HB.out | apply below_alloc | apply pw_below_drewN | apply below_drew1) | exact HB.out))) (fun k_ h_ => h_)) (below_size (by repeat (first | (with_reducible first | exact HB.out | apply below_alloc | apply pw_below_drewN | apply below_drew1) | exact HB.out)))); have n2_ := Aside0.mk (below_step (by repeat (first | (with_reducible first | exact HB.out | apply below_alloc | apply pw_below_drewN | apply below_drew1) | exact HB.out)) hb); clear HO_0; clear HB; have HO_0 := n0_; have HO245 := n1_; have HB := n2_; clear n0_ n1_ n2_; (try clear hb); (try clear hb2); (try clear hk); (try clear hi); (try clear ho0); have q49 : ((ji39) : Int) ≤ ((x0_2.length : Int) : Int) := of_decide_eq_true (by first | (with_reducible assumption) | assumption); obtain ⟨i049, hi049, _, hsz49, _⟩ := info_parts info9; have hroom49 : x0_2.length ≤ co16 := (Kd.V_reads' HO_0.out).2.1; have hC49 : Kd.F Kd.string _ _ Ao16 x0_2.length x0_2 := (Kd.V_at (base := w.heap.size) HO_0.out).2.2; have hcut49 := cut_to (P := Try.prog) 66 9 .i64 Try.underlying66 hi049 Ao16 x0_2.length co16 (ji39) (of_decide_eq_true (by first | (with_reducible assumption) | assumption)) q49 hroom49; have hr49 := Kd.F_take (m := ((ji39) : Int).toNat) hC49 (by omega); have hy49 : y246.length = ((ji39) : Int).toNat := (by rw [Ny246.out, List.length_take]; omega); rw [← Ny246.out] at hr49; rw [← hy49] at hcut49; have HO250 := Aside0.mk (show Kd.V Kd.string 9 _ w.heap.size _ (.slice Ao16 y246.length co16) y246 from Kd.V_mk (by omega) hr49); have HC250 := Aside0.mk (show y246.length ≤ co16 from by omega); clear hr49 hC49 hroom49 hi049 hsz49; have KY49 := Aside0.mk hy49; clear hy49; replace q49 := eq_true q49; obtain ⟨Ao50, co50, eo50⟩ := Kd.R_slice HO245.out; subst eo50) | ((with_reducible refine gate_callee (f := 45) rfl ?_); refine goesL_ (some 98) rfl rfl Try.func45 (by kernel_rfl) rfl #[.slice Ao50 t241.length co50, .slice Ao16 y246.length co16] rfl (by (try simp only [List.map_toArray, List.map_cons, List.map_nil]); first | done | rfl | (simp only [List.length_drop, List.length_take]; rfl)) ?_; (with_reducible refine (barquelaw02_texts.calls kj26 _ _ t241 _ _ y246 true _ ?side1 ?side2 ?side3 ?side4 A42.out).mono ?_); (case side1 => repeat (first | exact (Kd.R_reads' HO245.out).2.2 | (with_reducible refine Kd.C_alloc ?_ _) | (with_reducible refine Kd.C_drewN ?_ _) | (with_reducible refine Kd.C_drew ?_))); (case side2 => exact (Kd.R_reads' HO245.out).2.1); (case side3 => repeat (first | exact (Kd.V_reads' HO250.out).2.2 | (with_reducible refine Kd.C_alloc ?_ _) | (with_reducible refine Kd.C_drewN ?_ _) | (with_reducible refine Kd.C_drew ?_))); (case side4 => exact (Kd.V_reads' HO250.out).2.1); rintro e w' ⟨rfl, ⟨nd, rfl⟩⟩; refine ⟨_, rfl, ?_⟩; have p252 : 0 ≤ ((ji39) : Int) := of_decide_eq_true (by first | (with_reducible assumption) | assumption); have q252 : (ji39) < (x0_2.length : Int) := of_decide_eq_true (by first | (with_reducible assumption) | assumption); obtain ⟨ad252, e252, hx252_0⟩ := Kd.at_string (Kd.V_reads' HO_0.out).2.2 (ji39) p252 q252; cases e252; replace p252 := eq_true p252; replace q252 := eq_true q252) | (go_at_call 21; (with_reducible refine (barquelaw02_awake.calls kj26  t253 _ A47.out).mono ?_); rintro e w' ⟨rfl, ⟨nd, rfl⟩⟩))
                                        go_ret
                                        exact ⟨by first | rfl | (simp [errW_none, errW_some] <;> rfl) | (simp only [← hji35, ← hji39]; first | rfl | (simp [errW_none, errW_some] <;> rfl)) | (simp [*, errW_none, errW_some] <;> rfl), by repeat (first | (with_reducible first | exact HB.out | apply below_alloc | apply pw_below_drewN | apply below_drew1) | exact HB.out)⟩
                                      · rw [if_neg c46] at H
                                        have c46b0 : (t243 == 0) = false := beq_eq_false_iff_ne.mpr c46
                                        have c46b1 : (t243 != 0) = true := bne_iff_ne.mpr c46
                                        obtain rfl := Option.some.inj H
                                        go_wp2_with (first | ((with_reducible refine gate_callee (f := 43) rfl ?_); refine goesL_ (some 88) rfl rfl Try.func43 (by kernel_rfl) rfl #[.string (t231.extract 0 ((ji35) : Int).toNat)] rfl (by (try simp only [List.map_toArray, List.map_cons, List.map_nil]); first | done | (simp only [hji35]; rfl) | rfl | (simp only [List.length_drop, List.length_take]; rfl)) ?_; (with_reducible refine (frame_Scan.calls kj26 (t231.extract 0 ((ji35) : Int).toNat) t241 t242 t243 _ A38.out).mono ?_); rintro e w51 ⟨v244, rfl, ho0, hb⟩; refine ⟨_, rfl, ?_⟩; have n0_ := Aside0.mk (Kd.V_elder' (by (with_reducible repeat (first | apply Kd.V_alloc | apply Kd.V_drewN | apply Kd.V_drew)); exact HO_0.out) (Kd.R_base ho0) hb); have n1_ := Aside0.mk (Kd.R_lower (Kd.R_newM (M := fun k_ => (w.heap.size ≤ k_)) ho0 (below_size (by repeat (first | (with_reducible first | exact HB.out | apply below_alloc | apply pw_below_drewN | apply below_drew1) | exact HB.out))) (fun k_ h_ => h_)) (below_size (by repeat (first | (with_reducible first | exact HB.out | apply below_alloc | apply pw_below_drewN | apply below_drew1) | exact HB.out)))); have n2_ := Aside0.mk (below_step (by repeat (first | (with_reducible first | exact HB.out | apply below_alloc | apply pw_below_drewN | apply below_drew1) | exact HB.out)) hb); clear HO_0; clear HB; have HO_0 := n0_; have HO245 := n1_; have HB := n2_; clear n0_ n1_ n2_; (try clear hb); (try clear hb2); (try clear hk); (try clear hi); (try clear ho0); have q52 : ((ji39) : Int) ≤ ((x0_2.length : Int) : Int) := of_decide_eq_true (by first | (with_reducible assumption) | assumption); obtain ⟨i052, hi052, _, hsz52, _⟩ := info_parts info9; have hroom52 : x0_2.length ≤ co16 := (Kd.V_reads' HO_0.out).2.1; have hC52 : Kd.F Kd.string _ _ Ao16 x0_2.length x0_2 := (Kd.V_at (base := w.heap.size) HO_0.out).2.2; have hcut52 := cut_to (P := Try.prog) 66 9 .i64 Try.underlying66 hi052 Ao16 x0_2.length co16 (ji39) (of_decide_eq_true (by first | (with_reducible assumption) | assumption)) q52 hroom52; have hr52 := Kd.F_take (m := ((ji39) : Int).toNat) hC52 (by omega); have hy52 : y246.length = ((ji39) : Int).toNat := (by rw [Ny246.out, List.length_take]; omega); rw [← Ny246.out] at hr52; rw [← hy52] at hcut52; have HO250 := Aside0.mk (show Kd.V Kd.string 9 _ w.heap.size _ (.slice Ao16 y246.length co16) y246 from Kd.V_mk (by omega) hr52); have HC250 := Aside0.mk (show y246.length ≤ co16 from by omega); clear hr52 hC52 hroom52 hi052 hsz52; have KY52 := Aside0.mk hy52; clear hy52; replace q52 := eq_true q52; obtain ⟨Ao53, co53, eo53⟩ := Kd.R_slice HO245.out; subst eo53) | ((with_reducible refine gate_callee (f := 45) rfl ?_); refine goesL_ (some 98) rfl rfl Try.func45 (by kernel_rfl) rfl #[.slice Ao53 t241.length co53, .slice Ao16 y246.length co16] rfl (by (try simp only [List.map_toArray, List.map_cons, List.map_nil]); first | done | rfl | (simp only [List.length_drop, List.length_take]; rfl)) ?_; (with_reducible refine (barquelaw02_texts.calls kj26 _ _ t241 _ _ y246 true _ ?side1 ?side2 ?side3 ?side4 A42.out).mono ?_); (case side1 => repeat (first | exact (Kd.R_reads' HO245.out).2.2 | (with_reducible refine Kd.C_alloc ?_ _) | (with_reducible refine Kd.C_drewN ?_ _) | (with_reducible refine Kd.C_drew ?_))); (case side2 => exact (Kd.R_reads' HO245.out).2.1); (case side3 => repeat (first | exact (Kd.V_reads' HO250.out).2.2 | (with_reducible refine Kd.C_alloc ?_ _) | (with_reducible refine Kd.C_drewN ?_ _) | (with_reducible refine Kd.C_drew ?_))); (case side4 => exact (Kd.V_reads' HO250.out).2.1); rintro e w' ⟨rfl, ⟨nd, rfl⟩⟩; refine ⟨_, rfl, ?_⟩; have p252 : 0 ≤ ((ji39) : Int) := of_decide_eq_true (by first | (with_reducible assumption) | assumption); have q252 : (ji39) < (x0_2.length : Int) := of_decide_eq_true (by first | (with_reducible assumption) | assumption); obtain ⟨ad252, e252, hx252_0⟩ := Kd.at_string (Kd.V_reads' HO_0.out).2.2 (ji39) p252 q252; cases e252; replace p252 := eq_true p252; replace q252 := eq_true q252))
                                        go_ret
                                        exact ⟨by first | rfl | (simp [errW_none, errW_some] <;> rfl) | (simp only [← hji35, ← hji39]; first | rfl | (simp [errW_none, errW_some] <;> rfl)) | (simp [*, errW_none, errW_some] <;> rfl), by repeat (first | (with_reducible first | exact HB.out | apply below_alloc | apply pw_below_drewN | apply below_drew1) | exact HB.out)⟩
                                    · rw [if_neg c45] at H
                                      have c45b0 : (t242 == (wrap64 ((wrap64 ((t231.size : Int) - ((rdOf ByteArray.empty x0_2 (ji39)).size : Int))) - 10))) = false := beq_eq_false_iff_ne.mpr c45
                                      have c45b1 : (t242 != (wrap64 ((wrap64 ((t231.size : Int) - ((rdOf ByteArray.empty x0_2 (ji39)).size : Int))) - 10))) = true := bne_iff_ne.mpr c45
                                      (try (have c45b2 : (t242 == (((wrap64 ((t231.size : Int) - ((rdOf ByteArray.empty x0_2 (ji39)).size : Int))) - 10))) = false := by have z_ : (t242 == (wrap64 ((wrap64 ((t231.size : Int) - ((rdOf ByteArray.empty x0_2 (ji39)).size : Int))) - 10))) = false := beq_eq_false_iff_ne.mpr c45; rw [show wrap64 ((wrap64 ((t231.size : Int) - ((rdOf ByteArray.empty x0_2 (ji39)).size : Int))) - 10) = ((wrap64 ((t231.size : Int) - ((rdOf ByteArray.empty x0_2 (ji39)).size : Int))) - 10) from by unfold wrap64; omega] at z_; exact z_))
                                      (try (have c45b3 : (t242 != (((wrap64 ((t231.size : Int) - ((rdOf ByteArray.empty x0_2 (ji39)).size : Int))) - 10))) = true := by have z_ : (t242 != (wrap64 ((wrap64 ((t231.size : Int) - ((rdOf ByteArray.empty x0_2 (ji39)).size : Int))) - 10))) = true := bne_iff_ne.mpr c45; rw [show wrap64 ((wrap64 ((t231.size : Int) - ((rdOf ByteArray.empty x0_2 (ji39)).size : Int))) - 10) = ((wrap64 ((t231.size : Int) - ((rdOf ByteArray.empty x0_2 (ji39)).size : Int))) - 10) from by unfold wrap64; omega] at z_; exact z_))
                                      obtain rfl := Option.some.inj H
                                      go_wp2_with (first | ((with_reducible refine gate_callee (f := 43) rfl ?_); refine goesL_ (some 88) rfl rfl Try.func43 (by kernel_rfl) rfl #[.string (t231.extract 0 ((ji35) : Int).toNat)] rfl (by (try simp only [List.map_toArray, List.map_cons, List.map_nil]); first | done | (simp only [hji35]; rfl) | rfl | (simp only [List.length_drop, List.length_take]; rfl)) ?_; (with_reducible refine (frame_Scan.calls kj26 (t231.extract 0 ((ji35) : Int).toNat) t241 t242 t243 _ A38.out).mono ?_); rintro e w54 ⟨v244, rfl, ho0, hb⟩; refine ⟨_, rfl, ?_⟩; have n0_ := Aside0.mk (Kd.V_elder' (by (with_reducible repeat (first | apply Kd.V_alloc | apply Kd.V_drewN | apply Kd.V_drew)); exact HO_0.out) (Kd.R_base ho0) hb); have n1_ := Aside0.mk (Kd.R_lower (Kd.R_newM (M := fun k_ => (w.heap.size ≤ k_)) ho0 (below_size (by repeat (first | (with_reducible first | exact HB.out | apply below_alloc | apply pw_below_drewN | apply below_drew1) | exact HB.out))) (fun k_ h_ => h_)) (below_size (by repeat (first | (with_reducible first | exact HB.out | apply below_alloc | apply pw_below_drewN | apply below_drew1) | exact HB.out)))); have n2_ := Aside0.mk (below_step (by repeat (first | (with_reducible first | exact HB.out | apply below_alloc | apply pw_below_drewN | apply below_drew1) | exact HB.out)) hb); clear HO_0; clear HB; have HO_0 := n0_; have HO245 := n1_; have HB := n2_; clear n0_ n1_ n2_; (try clear hb); (try clear hb2); (try clear hk); (try clear hi); (try clear ho0); have q55 : ((ji39) : Int) ≤ ((x0_2.length : Int) : Int) := of_decide_eq_true (by first | (with_reducible assumption) | assumption); obtain ⟨i055, hi055, _, hsz55, _⟩ := info_parts info9; have hroom55 : x0_2.length ≤ co16 := (Kd.V_reads' HO_0.out).2.1; have hC55 : Kd.F Kd.string _ _ Ao16 x0_2.length x0_2 := (Kd.V_at (base := w.heap.size) HO_0.out).2.2; have hcut55 := cut_to (P := Try.prog) 66 9 .i64 Try.underlying66 hi055 Ao16 x0_2.length co16 (ji39) (of_decide_eq_true (by first | (with_reducible assumption) | assumption)) q55 hroom55; have hr55 := Kd.F_take (m := ((ji39) : Int).toNat) hC55 (by omega); have hy55 : y246.length = ((ji39) : Int).toNat := (by rw [Ny246.out, List.length_take]; omega); rw [← Ny246.out] at hr55; rw [← hy55] at hcut55; have HO250 := Aside0.mk (show Kd.V Kd.string 9 _ w.heap.size _ (.slice Ao16 y246.length co16) y246 from Kd.V_mk (by omega) hr55); have HC250 := Aside0.mk (show y246.length ≤ co16 from by omega); clear hr55 hC55 hroom55 hi055 hsz55; have KY55 := Aside0.mk hy55; clear hy55; replace q55 := eq_true q55; obtain ⟨Ao56, co56, eo56⟩ := Kd.R_slice HO245.out; subst eo56) | ((with_reducible refine gate_callee (f := 45) rfl ?_); refine goesL_ (some 98) rfl rfl Try.func45 (by kernel_rfl) rfl #[.slice Ao56 t241.length co56, .slice Ao16 y246.length co16] rfl (by (try simp only [List.map_toArray, List.map_cons, List.map_nil]); first | done | rfl | (simp only [List.length_drop, List.length_take]; rfl)) ?_; (with_reducible refine (barquelaw02_texts.calls kj26 _ _ t241 _ _ y246 true _ ?side1 ?side2 ?side3 ?side4 A42.out).mono ?_); (case side1 => repeat (first | exact (Kd.R_reads' HO245.out).2.2 | (with_reducible refine Kd.C_alloc ?_ _) | (with_reducible refine Kd.C_drewN ?_ _) | (with_reducible refine Kd.C_drew ?_))); (case side2 => exact (Kd.R_reads' HO245.out).2.1); (case side3 => repeat (first | exact (Kd.V_reads' HO250.out).2.2 | (with_reducible refine Kd.C_alloc ?_ _) | (with_reducible refine Kd.C_drewN ?_ _) | (with_reducible refine Kd.C_drew ?_))); (case side4 => exact (Kd.V_reads' HO250.out).2.1); rintro e w' ⟨rfl, ⟨nd, rfl⟩⟩; refine ⟨_, rfl, ?_⟩; have p252 : 0 ≤ ((ji39) : Int) := of_decide_eq_true (by first | (with_reducible assumption) | assumption); have q252 : (ji39) < (x0_2.length : Int) := of_decide_eq_true (by first | (with_reducible assumption) | assumption); obtain ⟨ad252, e252, hx252_0⟩ := Kd.at_string (Kd.V_reads' HO_0.out).2.2 (ji39) p252 q252; cases e252; replace p252 := eq_true p252; replace q252 := eq_true q252))
                                      go_ret
                                      exact ⟨by first | rfl | (simp [errW_none, errW_some] <;> rfl) | (simp only [← hji35, ← hji39]; first | rfl | (simp [errW_none, errW_some] <;> rfl)) | (simp [*, errW_none, errW_some] <;> rfl), by repeat (first | (with_reducible first | exact HB.out | apply below_alloc | apply pw_below_drewN | apply below_drew1) | exact HB.out)⟩
                                  · rw [if_neg c44] at H
                                    exact absurd H (by simp)
                                · replace c43 := Bool.eq_false_iff.mpr c43
                                  subst c43
                                  have H1 : (some false) = some r := by rw [if_neg (show ¬ (false = true) by decide)] at H; exact H
                                  clear H
                                  have H := H1
                                  clear H1
                                  obtain rfl := Option.some.inj H
                                  go_wp2_with (first | ((with_reducible refine gate_callee (f := 43) rfl ?_); refine goesL_ (some 88) rfl rfl Try.func43 (by kernel_rfl) rfl #[.string (t231.extract 0 ((ji35) : Int).toNat)] rfl (by (try simp only [List.map_toArray, List.map_cons, List.map_nil]); first | done | (simp only [hji35]; rfl) | rfl | (simp only [List.length_drop, List.length_take]; rfl)) ?_; (with_reducible refine (frame_Scan.calls kj26 (t231.extract 0 ((ji35) : Int).toNat) t241 t242 t243 _ A38.out).mono ?_); rintro e w57 ⟨v244, rfl, ho0, hb⟩; refine ⟨_, rfl, ?_⟩; have n0_ := Aside0.mk (Kd.V_elder' (by (with_reducible repeat (first | apply Kd.V_alloc | apply Kd.V_drewN | apply Kd.V_drew)); exact HO_0.out) (Kd.R_base ho0) hb); have n1_ := Aside0.mk (Kd.R_lower (Kd.R_newM (M := fun k_ => (w.heap.size ≤ k_)) ho0 (below_size (by repeat (first | (with_reducible first | exact HB.out | apply below_alloc | apply pw_below_drewN | apply below_drew1) | exact HB.out))) (fun k_ h_ => h_)) (below_size (by repeat (first | (with_reducible first | exact HB.out | apply below_alloc | apply pw_below_drewN | apply below_drew1) | exact HB.out)))); have n2_ := Aside0.mk (below_step (by repeat (first | (with_reducible first | exact HB.out | apply below_alloc | apply pw_below_drewN | apply below_drew1) | exact HB.out)) hb); clear HO_0; clear HB; have HO_0 := n0_; have HO245 := n1_; have HB := n2_; clear n0_ n1_ n2_; (try clear hb); (try clear hb2); (try clear hk); (try clear hi); (try clear ho0); have q58 : ((ji39) : Int) ≤ ((x0_2.length : Int) : Int) := of_decide_eq_true (by first | (with_reducible assumption) | assumption); obtain ⟨i058, hi058, _, hsz58, _⟩ := info_parts info9; have hroom58 : x0_2.length ≤ co16 := (Kd.V_reads' HO_0.out).2.1; have hC58 : Kd.F Kd.string _ _ Ao16 x0_2.length x0_2 := (Kd.V_at (base := w.heap.size) HO_0.out).2.2; have hcut58 := cut_to (P := Try.prog) 66 9 .i64 Try.underlying66 hi058 Ao16 x0_2.length co16 (ji39) (of_decide_eq_true (by first | (with_reducible assumption) | assumption)) q58 hroom58; have hr58 := Kd.F_take (m := ((ji39) : Int).toNat) hC58 (by omega); have hy58 : y246.length = ((ji39) : Int).toNat := (by rw [Ny246.out, List.length_take]; omega); rw [← Ny246.out] at hr58; rw [← hy58] at hcut58; have HO250 := Aside0.mk (show Kd.V Kd.string 9 _ w.heap.size _ (.slice Ao16 y246.length co16) y246 from Kd.V_mk (by omega) hr58); have HC250 := Aside0.mk (show y246.length ≤ co16 from by omega); clear hr58 hC58 hroom58 hi058 hsz58; have KY58 := Aside0.mk hy58; clear hy58; replace q58 := eq_true q58; obtain ⟨Ao59, co59, eo59⟩ := Kd.R_slice HO245.out; subst eo59) | ((with_reducible refine gate_callee (f := 45) rfl ?_); refine goesL_ (some 98) rfl rfl Try.func45 (by kernel_rfl) rfl #[.slice Ao59 t241.length co59, .slice Ao16 y246.length co16] rfl (by (try simp only [List.map_toArray, List.map_cons, List.map_nil]); first | done | rfl | (simp only [List.length_drop, List.length_take]; rfl)) ?_; (with_reducible refine (barquelaw02_texts.calls kj26 _ _ t241 _ _ y246 false _ ?side1 ?side2 ?side3 ?side4 A42.out).mono ?_); (case side1 => repeat (first | exact (Kd.R_reads' HO245.out).2.2 | (with_reducible refine Kd.C_alloc ?_ _) | (with_reducible refine Kd.C_drewN ?_ _) | (with_reducible refine Kd.C_drew ?_))); (case side2 => exact (Kd.R_reads' HO245.out).2.1); (case side3 => repeat (first | exact (Kd.V_reads' HO250.out).2.2 | (with_reducible refine Kd.C_alloc ?_ _) | (with_reducible refine Kd.C_drewN ?_ _) | (with_reducible refine Kd.C_drew ?_))); (case side4 => exact (Kd.V_reads' HO250.out).2.1); rintro e w' ⟨rfl, ⟨nd, rfl⟩⟩; refine ⟨_, rfl, ?_⟩))
                                  go_ret
                                  exact ⟨by first | rfl | (simp [errW_none, errW_some] <;> rfl) | (simp only [← hji35, ← hji39]; first | rfl | (simp [errW_none, errW_some] <;> rfl)) | (simp [*, errW_none, errW_some] <;> rfl), by repeat (first | (with_reducible first | exact HB.out | apply below_alloc | apply pw_below_drewN | apply below_drew1) | exact HB.out)⟩
                              · rw [if_neg c41] at H
                                exact absurd H (by simp)
                            · rw [if_neg c40] at H
                              exact absurd H (by simp)
                          · rw [if_neg c37] at H
                            exact absurd H (by simp)
                        · rw [if_neg c36] at H
                          exact absurd H (by simp)

end Go.Proofs.Ytdomngcedflapaa.PFrame
