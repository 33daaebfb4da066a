-- Written by the session's own program (wip/mkprint.py, pr.sh), out of the walk over the given translation
import Derived.Test.YtdomngcedflapaaPChunkx0
namespace Go.Proofs.Ytdomngcedflapaa.PChunk
open Go.RowKit Go.Proofs.YtdomngcedflapaaW.PrintWords Go.Proofs.YtdomngcedflapaaW.PrintLast Go.Proofs.YtdomngcedflapaaW.PrintMore
attribute [local go_sem] max2_int min2_int max_two min_two max_three min_three max_four min_four   -- for this text's walks alone
open Go.Proofs.YtdomngcedflapaaW.Mine
attribute [local go_sem high] unary_xor_u32
set_option linter.unusedVariables false
set_option linter.unusedSimpArgs false

/-! ### chunk_Cut: function 24 -/
def chunk_Cut.l0 : Nat → ByteArray → Int → Int → List (S36) → Int → Int → Option ((List (S36)) × Int)
  | 0, _, _, _, _, _, _ => none
  | k + 1, x0, x1, x6, x7, x24, x25 => if x25 < x24 then (if 0 ≤ (wrap64 (x25 * x1)) then (if (wrap64 (x25 * x1)) ≤ (mn (wrap64 ((wrap64 (x25 + 1)) * x1)) (x0.size : Int)) then (if (mn (wrap64 ((wrap64 (x25 + 1)) * x1)) (x0.size : Int)) ≤ (x0.size : Int) then (if x7.length < 4398046511104 then (chunk_Cut.l0 k x0 x1 x6 (x7 ++ [(⟨x25, x6, x0.extract ((wrap64 (x25 * x1)) : Int).toNat ((mn (wrap64 ((wrap64 (x25 + 1)) * x1)) (x0.size : Int)) : Int).toNat⟩ : S36)]) x24 (wrap64 (x25 + 1))) else (none)) else (none)) else (none)) else (none)) else (some (x7, 0))
def chunk_Cut.f (k : Nat) (a0 : ByteArray) (a1 : Int) : Option ((List (S36)) × Int) := if a1 < 1 then (some (([] : List (S36)), 1)) else (if (a0.size : Int) > 524288 then (some (([] : List (S36)), 4)) else (if a1 = 0 then (none) else (if (mx 1 (wrap64 (Int.tdiv (wrap64 ((wrap64 ((a0.size : Int) + a1)) - 1)) a1))) > 4096 then (some (([] : List (S36)), 7)) else (chunk_Cut.l0 k a0 a1 (mx 1 (wrap64 (Int.tdiv (wrap64 ((wrap64 ((a0.size : Int) + a1)) - 1)) a1))) ([] : List (S36)) (mx 1 (wrap64 (Int.tdiv (wrap64 ((wrap64 ((a0.size : Int) + a1)) - 1)) a1))) 0))))
theorem chunk_Cut.mono_l : ∀ k, (∀ y0 y1 y2 y3 y4 y5, LeO (chunk_Cut.l0 k y0 y1 y2 y3 y4 y5) (chunk_Cut.l0 (k + 1) y0 y1 y2 y3 y4 y5))
  | 0 => fun _ _ _ _ _ _ r h => by simp [chunk_Cut.l0] at h
  | k + 1 => by
    have ih0 := chunk_Cut.mono_l k
    · intro y0 y1 y2 y3 y4 y5
      unfold chunk_Cut.l0
      repeat' first
      | (with_reducible exact ih0 _ _ _ _ _ _)
      | (with_reducible exact LeO.refl _)
      | (with_reducible exact LeO.none _)
      | (with_reducible refine LeO.ite ?_ ?_)
      | (with_reducible refine LeO.bind ?_ (fun _ => ?_))
      | exact ih0 _ _ _ _ _ _
      | exact LeO.none _
      | refine LeO.ite ?_ ?_
      | refine LeO.bind ?_ (fun _ => ?_)
theorem chunk_Cut.mono : ∀ a0 a1 k, LeO (chunk_Cut.f k a0 a1) (chunk_Cut.f (k + 1) a0 a1) := by
  intro a0 a1 k
  have ih0 := chunk_Cut.mono_l k
  unfold chunk_Cut.f
  repeat' first
      | (with_reducible exact ih0 _ _ _ _ _ _)
      | (with_reducible exact LeO.refl _)
      | (with_reducible exact LeO.none _)
      | (with_reducible refine LeO.ite ?_ ?_)
      | (with_reducible refine LeO.bind ?_ (fun _ => ?_))
      | exact ih0 _ _ _ _ _ _
      | exact LeO.none _
      | refine LeO.ite ?_ ?_
      | refine LeO.bind ?_ (fun _ => ?_)
set_option maxHeartbeats 8000000 in
set_option maxRecDepth 100000 in
theorem chunk_Cut.calls (k : Nat) (a0 : ByteArray) (a1 : Int) (r1 : List (S36)) (r2 : Int) (w : World) (h : chunk_Cut.f k a0 a1 = some (r1, r2)) :
    Calls Try.prog 24 #[.string a0, .int .i64 a1] w fun e w' => ∃ v0_ : Value, e = .returned (.tuple #[v0_, .int .i64 r2]) ∧ Kd.R k36 36 w' w.heap.size (fun _ => True) v0_ r1 ∧ Below w.heap.size w w' := by
  have hu36 := Try.underlying36
  have HB := Aside0.mk (Below.refl w.heap.size w)
  have H : (if a1 < 1 then (some (([] : List (S36)), 1)) else (if (a0.size : Int) > 524288 then (some (([] : List (S36)), 4)) else (if a1 = 0 then (none) else (if (mx 1 (wrap64 (Int.tdiv (wrap64 ((wrap64 ((a0.size : Int) + a1)) - 1)) a1))) > 4096 then (some (([] : List (S36)), 7)) else (chunk_Cut.l0 k a0 a1 (mx 1 (wrap64 (Int.tdiv (wrap64 ((wrap64 ((a0.size : Int) + a1)) - 1)) a1))) ([] : List (S36)) (mx 1 (wrap64 (Int.tdiv (wrap64 ((wrap64 ((a0.size : Int) + a1)) - 1)) a1))) 0))))) = some (r1, r2) := h
  clear h
  by_cases c3 : a1 < 1
  · rw [if_pos c3] at H
    have c3b0 : decide (a1 < 1) = true := decide_eq_true c3
    clear c3
    simp only [Option.some.injEq, Prod.mk.injEq] at H
    obtain ⟨rfl, rfl⟩ := H
    go_enter Try.func24, Try.ntmps24
    go_wp2
    go_ret2
    exact ⟨_, by first | rfl | (simp [errW_none, errW_some] <;> rfl) | (simp [*, errW_none, errW_some] <;> rfl), by first | exact Kd.R_nil _ _ _ _ _ | exact Kd.N_nil _ _ _ _ _ | exact Kd.V_nil _ _ _ _ _ | exact Kd.Q_nil _ _ _ _ _ | exact Kd.S_nil _ _ _ _ _, by repeat (first | (with_reducible first | exact HB.out | apply below_alloc | apply pw_below_drewN | apply below_drew1) | exact HB.out)⟩
  · rw [if_neg c3] at H
    have c3b0 : decide (a1 < 1) = false := decide_eq_false c3
    clear c3
    by_cases c4 : (a0.size : Int) > 524288
    · rw [if_pos c4] at H
      have c4b0 : decide (524288 < (a0.size : Int)) = true := decide_eq_true c4
      have c4b1 : decide (524288 < a0.size) = true := decide_eq_true (by omega)
      clear c4
      simp only [Option.some.injEq, Prod.mk.injEq] at H
      obtain ⟨rfl, rfl⟩ := H
      go_enter Try.func24, Try.ntmps24
      go_wp2
      go_ret2
      exact ⟨_, by first | rfl | (simp [errW_none, errW_some] <;> rfl) | (simp [*, errW_none, errW_some] <;> rfl), by first | exact Kd.R_nil _ _ _ _ _ | exact Kd.N_nil _ _ _ _ _ | exact Kd.V_nil _ _ _ _ _ | exact Kd.Q_nil _ _ _ _ _ | exact Kd.S_nil _ _ _ _ _, by repeat (first | (with_reducible first | exact HB.out | apply below_alloc | apply pw_below_drewN | apply below_drew1) | exact HB.out)⟩
    · rw [if_neg c4] at H
      have c4b0 : decide (524288 < (a0.size : Int)) = false := decide_eq_false c4
      have c4b1 : decide (524288 < a0.size) = false := decide_eq_false (by omega)
      clear c4
      by_cases c5 : a1 = 0
      · rw [if_pos c5] at H
        exact absurd H (by simp)
      · rw [if_neg c5] at H
        have c5b0 : (a1 == 0) = false := beq_eq_false_iff_ne.mpr c5
        have c5b1 : (a1 != 0) = true := bne_iff_ne.mpr c5
        obtain ⟨ji6, hji6⟩ : ∃ j_ : Int, (mx 1 (wrap64 (Int.tdiv (wrap64 ((wrap64 ((a0.size : Int) + a1)) - 1)) a1))) = j_ := ⟨_, rfl⟩
        replace H : (if (ji6) > 4096 then (some (([] : List (S36)), 7)) else (chunk_Cut.l0 k a0 a1 ji6 ([] : List (S36)) ji6 0)) = some (r1, r2) := by first | (rw [hji6] at H; exact H) | (simp only [hji6] at H ⊢; exact H)
        (try (have hji6l : 1 ≤ ji6 := by (rw [← hji6]; unfold mx; (repeat' split) <;> omega)))
        (try (have hji6m : 0 ≤ ji6 := by omega))
        have hji6_ : (if 1 < (wrap64 (Int.tdiv (wrap64 ((wrap64 ((a0.size : Int) + a1)) - 1)) a1)) then (wrap64 (Int.tdiv (wrap64 ((wrap64 ((a0.size : Int) + a1)) - 1)) a1)) else 1) = ji6 := hji6
        by_cases c7 : (ji6) > 4096
        · rw [if_pos c7] at H
          have c7b0 : decide (4096 < (ji6)) = true := decide_eq_true c7
          clear c7
          simp only [Option.some.injEq, Prod.mk.injEq] at H
          obtain ⟨rfl, rfl⟩ := H
          go_enter Try.func24, Try.ntmps24
          go_wp2
          go_ret2
          exact ⟨_, by first | rfl | (simp [errW_none, errW_some] <;> rfl) | (simp only [← hji6]; first | rfl | (simp [errW_none, errW_some] <;> rfl)) | (simp [*, errW_none, errW_some] <;> rfl), by first | exact Kd.R_nil _ _ _ _ _ | exact Kd.N_nil _ _ _ _ _ | exact Kd.V_nil _ _ _ _ _ | exact Kd.Q_nil _ _ _ _ _ | exact Kd.S_nil _ _ _ _ _, by repeat (first | (with_reducible first | exact HB.out | apply below_alloc | apply pw_below_drewN | apply below_drew1) | exact HB.out)⟩
        · rw [if_neg c7] at H
          have c7b0 : decide (4096 < (ji6)) = false := decide_eq_false c7
          clear c7
          have H' := Aside0.mk H
          clear H
          go_enter Try.func24, Try.ntmps24
          go_wp2
          go_loopg [7, 25] k (fun kq v7 v25 w' => ∃ (x7_1 : List (S36)) (x25_1 : Int), v25 = .int .i64 x25_1 ∧ Aside0 (chunk_Cut.l0 kq a0 a1 ji6 x7_1 ji6 x25_1 = some (r1, r2)) ∧ Aside0 (kq ≤ k) ∧ Aside0 (Kd.R k36 36 w' w.heap.size (fun _ => True) v7 x7_1) ∧ Aside0 (Below w.heap.size w w'))
          case atStart => exact ⟨(([] : List (S36))), (0), (by first | rfl | (simp; done) | (simp [*]; done)), H', ⟨Nat.le_refl _⟩, ⟨by first | exact Kd.R_nil _ _ _ _ _ | exact Kd.N_nil _ _ _ _ _ | exact Kd.V_nil _ _ _ _ _ | exact Kd.Q_nil _ _ _ _ _ | exact Kd.S_nil _ _ _ _ _⟩, ⟨by repeat (first | (with_reducible first | exact HB.out | apply below_alloc | apply pw_below_drewN | apply below_drew1) | exact HB.out)⟩⟩
          case round =>
            clear H'
            try clear c2
            try clear p2
            try clear c3
            try clear c3b0
            try clear c4
            try clear c4b0
            try clear c4b1
            try clear c5
            try clear c5b0
            try clear c5b1
            try clear p6
            try clear c7
            try clear c7b0
            obtain ⟨x7_1, x25_1, rfl, HA, HK1, HO_7, HB⟩ := hrel
            cases gk with
            | zero => exact absurd HA.out (by simp [chunk_Cut.l0])
            | succ k1 =>
              have H := HA.out
              clear HA
              simp only [chunk_Cut.l0] at H
              by_cases c8 : x25_1 < ji6
              · rw [if_pos c8] at H
                have c8b0 : decide (x25_1 < ji6) = true := decide_eq_true c8
                clear c8
                obtain ⟨ji9, hji9⟩ : ∃ j_ : Int, (mn (wrap64 ((wrap64 (x25_1 + 1)) * a1)) (a0.size : Int)) = j_ := ⟨_, rfl⟩
                replace H : (if 0 ≤ (wrap64 (x25_1 * a1)) then (if (wrap64 (x25_1 * a1)) ≤ (ji9) then (if (ji9) ≤ (a0.size : Int) then (if x7_1.length < 4398046511104 then (chunk_Cut.l0 k1 a0 a1 ji6 (x7_1 ++ [(⟨x25_1, ji6, a0.extract ((wrap64 (x25_1 * a1)) : Int).toNat ((ji9) : Int).toNat⟩ : S36)]) ji6 (wrap64 (x25_1 + 1))) else (none)) else (none)) else (none)) else (none)) = some (r1, r2) := by first | (rw [hji9] at H; exact H) | (simp only [hji9] at H ⊢; exact H)
                have hji9_ : (if (a0.size : Int) < (wrap64 ((wrap64 (x25_1 + 1)) * a1)) then (a0.size : Int) else (wrap64 ((wrap64 (x25_1 + 1)) * a1))) = ji9 := hji9
                obtain ⟨ji10, hji10⟩ : ∃ j_ : Int, (wrap64 (x25_1 * a1)) = j_ := ⟨_, rfl⟩
                replace H : (if 0 ≤ (ji10) then (if (ji10) ≤ (ji9) then (if (ji9) ≤ (a0.size : Int) then (if x7_1.length < 4398046511104 then (chunk_Cut.l0 k1 a0 a1 ji6 (x7_1 ++ [(⟨x25_1, ji6, a0.extract ((ji10) : Int).toNat ((ji9) : Int).toNat⟩ : S36)]) ji6 (wrap64 (x25_1 + 1))) else (none)) else (none)) else (none)) else (none)) = some (r1, r2) := by first | (rw [hji10] at H; exact H) | (simp only [hji10] at H ⊢; exact H)
                have hji10w : (IntKind.i64.wrap (x25_1 * a1)) = ji10 := (i64_w _).trans hji10
                by_cases c11 : 0 ≤ (ji10)
                · rw [if_pos c11] at H
                  have c11b0 := eq_true c11
                  have c11b1 : decide (0 ≤ (ji10)) = true := decide_eq_true c11
                  clear c11
                  by_cases c12 : (ji10) ≤ (ji9)
                  · rw [if_pos c12] at H
                    have c12b0 := eq_true c12
                    have c12b1 : decide ((ji10) ≤ (ji9)) = true := decide_eq_true c12
                    clear c12
                    by_cases c13 : (ji9) ≤ (a0.size : Int)
                    · rw [if_pos c13] at H
                      have c13b0 := eq_true c13
                      have c13b1 : decide ((ji9) ≤ (a0.size : Int)) = true := decide_eq_true c13
                      clear c13
                      by_cases c14 : x7_1.length < 4398046511104
                      · rw [if_pos c14] at H
                        have LMc14 := Aside0.mk c14
                        clear c14
                        obtain ⟨y101, hy101⟩ : ∃ y_ : List (S36), y_ = (x7_1 ++ [(⟨x25_1, ji6, a0.extract ((ji10) : Int).toNat ((ji9) : Int).toNat⟩ : S36)]) := ⟨_, rfl⟩
                        replace H : (chunk_Cut.l0 k1 a0 a1 ji6 y101 ji6 (wrap64 (x25_1 + 1))) = some (r1, r2) := by first | (rw [hy101]; with_reducible exact H) | (have H2_ := (Option.bind_some _ _).symm.trans H; rw [hy101]; with_reducible exact H2_) | (have H2_ := (Option.bind_some _ _).symm.trans H; with_reducible exact H2_) | with_reducible exact H | (rw [hy101]; exact H) | exact H
                        have Ny101 := Aside0.mk hy101
                        clear hy101
                        have H' := Aside0.mk H
                        clear H
                        go_wp2_with (first | ((with_reducible refine gate_builtin (b := .append) (xs := #[.tmp 28, .tmp 44]) rfl ?_); at_builtin; refine Kd.R_append k36 (w0 := w) w.heap.size rfl (.tmp 28) (.tmp 44) 29 36 (.agg #[(.int .i64 0), (.int .i64 0), (.string ⟨#[]⟩)]) 32 rfl Try.underlying29 info36 rfl (by decide) (by omega) u7 x7_1 (⟨x25_1, ji6, a0.extract ((ji10) : Int).toNat ((ji9) : Int).toNat⟩ : S36) [.int .i64 x25_1, .int .i64 ji6, .string (a0.extract ((ji10) : Int).toNat ((ji9) : Int).toNat)] (fun _ => True) (fun _ => False) rfl rfl ?aP (fun _ hk => hk.elim) ?aF ?aO ?aB ?aS ?aL ?_; (case aP => exact k36_mkM _ _ _ (⟨x25_1, ji6, a0.extract ((ji10) : Int).toNat ((ji9) : Int).toNat⟩ : S36)); (case aB => exact (by repeat (first | (with_reducible first | exact HB.out | apply below_alloc | apply pw_below_drewN | apply below_drew1) | exact HB.out))); (case aF => exact (fun _ _ => trivial)); (case aO => exact (by (with_reducible repeat (first | apply Kd.R_alloc | apply Kd.R_drewN | apply Kd.R_drew)); exact HO_7.out)); (case aS => exact (below_size (by repeat (first | (with_reducible first | exact HB.out | apply below_alloc | apply pw_below_drewN | apply below_drew1) | exact HB.out)))); (case aL => have := LMc14.out; omega); intro v102 w15 ho hb hg hat; rw [← Ny101.out] at ho; have n0_ := Aside0.mk (hb); have n1_ := Aside0.mk (ho); clear HB; clear HO_7; have HB := n0_; have HO103 := n1_; clear n0_ n1_; clear ho hb hg hat))
                        go_roundg k1
                        case measure => have := HK1.out; omega
                        case rel => exact ⟨(y101), (wrap64 (x25_1 + 1)), (by first | rfl | (simp; done) | (simp [*]; done)), H', ⟨by have := HK1.out; omega⟩, ⟨by (with_reducible repeat (first | apply Kd.R_alloc | apply Kd.R_drewN | apply Kd.R_drew)); exact HO103.out⟩, ⟨by repeat (first | (with_reducible first | exact HB.out | apply below_alloc | apply pw_below_drewN | apply below_drew1) | exact HB.out)⟩⟩
                      · rw [if_neg c14] at H
                        exact absurd H (by simp)
                    · rw [if_neg c13] at H
                      exact absurd H (by simp)
                  · rw [if_neg c12] at H
                    exact absurd H (by simp)
                · rw [if_neg c11] at H
                  exact absurd H (by simp)
              · rw [if_neg c8] at H
                have c8b0 : decide (x25_1 < ji6) = false := decide_eq_false c8
                clear c8
                simp only [Option.some.injEq, Prod.mk.injEq] at H
                obtain ⟨rfl, rfl⟩ := H
                go_wp2
                go_ret2
                exact ⟨_, by first | rfl | (simp [errW_none, errW_some] <;> rfl) | (simp only [← hji6]; first | rfl | (simp [errW_none, errW_some] <;> rfl)) | (simp [*, errW_none, errW_some] <;> rfl), by (with_reducible repeat (first | apply Kd.R_alloc | apply Kd.R_drewN | apply Kd.R_drew)); exact HO_7.out, by repeat (first | (with_reducible first | exact HB.out | apply below_alloc | apply pw_below_drewN | apply below_drew1) | exact HB.out)⟩

end Go.Proofs.Ytdomngcedflapaa.PChunk
