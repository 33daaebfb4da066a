/- ChunkOther: a part of another text in a place that has one is refused. -/
import Derived.Test.YtdomngcedflapaaPlay
import Derived.Test.YtdomngcedflapaaZero
namespace Go.Proofs.YtdomngcedflapaaW.Other
open Go.RowKit Go.Proofs.Ytdomngcedflapaa Go.Proofs.YtdomngcedflapaaW.PrintWords Go.Proofs.YtdomngcedflapaaW.PrintLast Go.Proofs.YtdomngcedflapaaW.PrintMore
open Go.Proofs.YtdomngcedflapaaW.Mine Go.Proofs.YtdomngcedflapaaW.Box Go.Proofs.YtdomngcedflapaaW.Zero

theorem put_first (m i : Nat) (s : ByteArray) (hi : i < m) (hs : s.size ≤ 524288) :
    (Bx.fresh m).put i m s = (⟨(List.replicate m ByteArray.empty).set i s, (List.replicate m false).set i true, (m : Int) - 1, 0 + s.size⟩, 0) := by
  unfold Bx.put Bx.fresh
  simp only [List.length_replicate, Int.toNat_natCast]
  rw [if_neg (by omega), if_neg (by omega), if_neg (by simp [List.getD, hi]), if_neg (by omega)]

theorem put_again (m i : Nat) (s t : ByteArray) (l b : Int) (hi : i < m) :
    (Bx.mk ((List.replicate m ByteArray.empty).set i s) ((List.replicate m false).set i true) l b).put i m t = (⟨(List.replicate m ByteArray.empty).set i s, (List.replicate m false).set i true, l, b⟩, if s = t then 0 else 6) := by
  unfold Bx.put
  simp only [List.length_set, List.length_replicate, Int.toNat_natCast]
  rw [if_neg (by omega), if_neg (by omega), if_pos (by simp [List.getD, hi])]
  simp [List.getD, hi]

/-- A block new to a world that lies above. -/
theorem below_alloc1 {a w : World} (h : Below a.heap.size a w) (o : Obj) : Below a.heap.size a (w.alloc o) := h.alloc h.size o

theorem three_ge {W : World} {a p h B : Nat} (hs : W.heap.size ≤ a ∧ W.heap.size ≤ p ∧ W.heap.size ≤ h) (hB : B ≤ W.heap.size) : B ≤ a ∧ B ≤ p ∧ B ≤ h := ⟨by omega, by omega, by omega⟩

theorem bytes_ne {s t : ByteArray} (h : s ≠ t) : (s.toList == t.toList) = false := by
  refine beq_eq_false_iff_ne.mpr (fun he => h ?_)
  rw [ByteArray.toList_eq, ByteArray.toList_eq] at he
  cases s with
  | mk d => cases t with
    | mk d2 => exact congrArg ByteArray.mk (Array.ext' he)


set_option maxRecDepth 100000 in
set_option maxHeartbeats 1000000 in
theorem out0 (n at_ : Int) (s t : ByteArray) (w : World) (h0 : (n < 1)) : Calls Try.prog 11 #[.int .i64 n, .int .i64 at_, .string s, .string t] w fun e w' => e = .returned (.bool true) ∧ Below w.heap.size w w' := by
  have HB := Aside0.mk (Below.refl w.heap.size w)
  have t0 : decide (n < 1) = true := decide_eq_true h0
  clear h0
  go_enter Try.func11, Try.ntmps11
  go_wp2_with (first
    | (go_at_call 27; refine (awake_calls _).mono ?_; rintro e w5 ⟨rfl, hb⟩; have n0_ := Aside0.mk (below_step (by repeat (first | (with_reducible first | exact HB.out | apply below_alloc | apply pw_below_drewN | apply below_drew1) | exact HB.out)) hb); clear HB; have HB := n0_; clear n0_ hb))
  go_ret
  exact ⟨rfl, HB.out⟩

set_option maxRecDepth 100000 in
set_option maxHeartbeats 1000000 in
theorem out1 (n at_ : Int) (s t : ByteArray) (w : World) (h0 : ¬ (n < 1)) (h1 : (60 < n)) : Calls Try.prog 11 #[.int .i64 n, .int .i64 at_, .string s, .string t] w fun e w' => e = .returned (.bool true) ∧ Below w.heap.size w w' := by
  have HB := Aside0.mk (Below.refl w.heap.size w)
  have t0 : decide (n < 1) = false := decide_eq_false h0
  have t1 : decide (60 < n) = true := decide_eq_true h1
  clear h0 h1
  go_enter Try.func11, Try.ntmps11
  go_wp2_with (first
    | (go_at_call 27; refine (awake_calls _).mono ?_; rintro e w5 ⟨rfl, hb⟩; have n0_ := Aside0.mk (below_step (by repeat (first | (with_reducible first | exact HB.out | apply below_alloc | apply pw_below_drewN | apply below_drew1) | exact HB.out)) hb); clear HB; have HB := n0_; clear n0_ hb))
  go_ret
  exact ⟨rfl, HB.out⟩

set_option maxRecDepth 100000 in
set_option maxHeartbeats 1000000 in
theorem out2 (n at_ : Int) (s t : ByteArray) (w : World) (h0 : ¬ (n < 1)) (h1 : ¬ (60 < n)) (h2 : (at_ < 0)) : Calls Try.prog 11 #[.int .i64 n, .int .i64 at_, .string s, .string t] w fun e w' => e = .returned (.bool true) ∧ Below w.heap.size w w' := by
  have HB := Aside0.mk (Below.refl w.heap.size w)
  have t0 : decide (n < 1) = false := decide_eq_false h0
  have t1 : decide (60 < n) = false := decide_eq_false h1
  have t2 : decide (at_ < 0) = true := decide_eq_true h2
  clear h0 h1 h2
  go_enter Try.func11, Try.ntmps11
  go_wp2_with (first
    | (go_at_call 27; refine (awake_calls _).mono ?_; rintro e w5 ⟨rfl, hb⟩; have n0_ := Aside0.mk (below_step (by repeat (first | (with_reducible first | exact HB.out | apply below_alloc | apply pw_below_drewN | apply below_drew1) | exact HB.out)) hb); clear HB; have HB := n0_; clear n0_ hb))
  go_ret
  exact ⟨rfl, HB.out⟩

set_option maxRecDepth 100000 in
set_option maxHeartbeats 1000000 in
theorem out3 (n at_ : Int) (s t : ByteArray) (w : World) (h0 : ¬ (n < 1)) (h1 : ¬ (60 < n)) (h2 : ¬ (at_ < 0)) (h3 : (n ≤ at_)) : Calls Try.prog 11 #[.int .i64 n, .int .i64 at_, .string s, .string t] w fun e w' => e = .returned (.bool true) ∧ Below w.heap.size w w' := by
  have HB := Aside0.mk (Below.refl w.heap.size w)
  have t0 : decide (n < 1) = false := decide_eq_false h0
  have t1 : decide (60 < n) = false := decide_eq_false h1
  have t2 : decide (at_ < 0) = false := decide_eq_false h2
  have t3 : decide (n ≤ at_) = true := decide_eq_true h3
  clear h0 h1 h2 h3
  go_enter Try.func11, Try.ntmps11
  go_wp2_with (first
    | (go_at_call 27; refine (awake_calls _).mono ?_; rintro e w5 ⟨rfl, hb⟩; have n0_ := Aside0.mk (below_step (by repeat (first | (with_reducible first | exact HB.out | apply below_alloc | apply pw_below_drewN | apply below_drew1) | exact HB.out)) hb); clear HB; have HB := n0_; clear n0_ hb))
  go_ret
  exact ⟨rfl, HB.out⟩

set_option maxRecDepth 100000 in
set_option maxHeartbeats 1000000 in
theorem out4 (n at_ : Int) (s t : ByteArray) (w : World) (h0 : ¬ (n < 1)) (h1 : ¬ (60 < n)) (h2 : ¬ (at_ < 0)) (h3 : ¬ (n ≤ at_)) (h4 : (300 < (s.size : Int))) : Calls Try.prog 11 #[.int .i64 n, .int .i64 at_, .string s, .string t] w fun e w' => e = .returned (.bool true) ∧ Below w.heap.size w w' := by
  have HB := Aside0.mk (Below.refl w.heap.size w)
  have t0 : decide (n < 1) = false := decide_eq_false h0
  have t1 : decide (60 < n) = false := decide_eq_false h1
  have t2 : decide (at_ < 0) = false := decide_eq_false h2
  have t3 : decide (n ≤ at_) = false := decide_eq_false h3
  have t4 : decide (300 < (s.size : Int)) = true := decide_eq_true h4
  clear h0 h1 h2 h3 h4
  go_enter Try.func11, Try.ntmps11
  go_wp2_with (first
    | (go_at_call 27; refine (awake_calls _).mono ?_; rintro e w5 ⟨rfl, hb⟩; have n0_ := Aside0.mk (below_step (by repeat (first | (with_reducible first | exact HB.out | apply below_alloc | apply pw_below_drewN | apply below_drew1) | exact HB.out)) hb); clear HB; have HB := n0_; clear n0_ hb))
  go_ret
  exact ⟨rfl, HB.out⟩

set_option maxRecDepth 100000 in
set_option maxHeartbeats 1000000 in
theorem out5 (n at_ : Int) (s t : ByteArray) (w : World) (h0 : ¬ (n < 1)) (h1 : ¬ (60 < n)) (h2 : ¬ (at_ < 0)) (h3 : ¬ (n ≤ at_)) (h4 : ¬ (300 < (s.size : Int))) (h5 : (300 < (t.size : Int))) : Calls Try.prog 11 #[.int .i64 n, .int .i64 at_, .string s, .string t] w fun e w' => e = .returned (.bool true) ∧ Below w.heap.size w w' := by
  have HB := Aside0.mk (Below.refl w.heap.size w)
  have t0 : decide (n < 1) = false := decide_eq_false h0
  have t1 : decide (60 < n) = false := decide_eq_false h1
  have t2 : decide (at_ < 0) = false := decide_eq_false h2
  have t3 : decide (n ≤ at_) = false := decide_eq_false h3
  have t4 : decide (300 < (s.size : Int)) = false := decide_eq_false h4
  have t5 : decide (300 < (t.size : Int)) = true := decide_eq_true h5
  clear h0 h1 h2 h3 h4 h5
  go_enter Try.func11, Try.ntmps11
  go_wp2_with (first
    | (go_at_call 27; refine (awake_calls _).mono ?_; rintro e w5 ⟨rfl, hb⟩; have n0_ := Aside0.mk (below_step (by repeat (first | (with_reducible first | exact HB.out | apply below_alloc | apply pw_below_drewN | apply below_drew1) | exact HB.out)) hb); clear HB; have HB := n0_; clear n0_ hb))
  go_ret
  exact ⟨rfl, HB.out⟩

set_option maxRecDepth 100000 in
set_option maxHeartbeats 2000000 in
theorem inside (m i : Nat) (s t : ByteArray) (w : World) (hm : 1 ≤ m) (hm2 : m ≤ 60) (hi : i < m) (hs : s.size ≤ 300) (ht : t.size ≤ 300) : Calls Try.prog 11 #[.int .i64 (m : Int), .int .i64 (i : Int), .string s, .string t] w fun e w' => e = .returned (.bool true) ∧ Below w.heap.size w w' := by
  have HB := Aside0.mk (Below.refl w.heap.size w)
  have t0 : decide ((m : Int) < 1) = false := decide_eq_false (by omega)
  have t1 : decide (60 < (m : Int)) = false := decide_eq_false (by omega)
  have t2 : decide ((i : Int) < 0) = false := decide_eq_false (by omega)
  have t3 : decide ((m : Int) ≤ (i : Int)) = false := decide_eq_false (by omega)
  have t3n : decide (m ≤ i) = false := decide_eq_false (by omega)
  have t4 : decide (300 < (s.size : Int)) = false := decide_eq_false (by omega)
  have t5 : decide (300 < (t.size : Int)) = false := decide_eq_false (by omega)
  have t6 : IntKind.i64.wrap ((m : Int) - 1) = (m : Int) - 1 := by rw [IntKind.wrap_i64]; omega
  have HN := Aside0.mk (fun W => fresh_calls m W hm (by omega))
  obtain ⟨x1, hx1, e1⟩ : ∃ x1 : Bx, (Bx.fresh m).put i m s = (x1, 0) ∧ x1 = ⟨(List.replicate m ByteArray.empty).set i s, (List.replicate m false).set i true, (m : Int) - 1, 0 + s.size⟩ := ⟨_, put_first m i s hi (by omega), rfl⟩
  have h2 : x1.put i m t = (x1, if s = t then 0 else 6) := by rw [e1]; exact put_again m i s t _ _ hi
  have h3 : x1.put i m s = (x1, 0) := by rw [e1, put_again m i s s _ _ hi, if_pos rfl]
  have el : x1.left = (m : Int) - 1 := by rw [e1]
  have eb : x1.bytes = s.size := by rw [e1]; show (0 : Int) + _ = _; omega
  clear e1
  have P1 := Aside0.mk (fun W a p h (b : At W a p h (Bx.fresh m)) => put_calls b (i : Int) (m : Int) s (by show (0 : Int) ≤ 0; omega) (by show (0 : Int) ≤ _; omega) (by show (0 : Int) ≤ (m : Int); omega) (by show (m : Int) ≤ _; omega))
  have P2 := Aside0.mk (fun W a p h (b : At W a p h x1) => put_calls b (i : Int) (m : Int) t (by omega) (by omega) (by omega) (by omega))
  have P3 := Aside0.mk (fun W a p h (b : At W a p h x1) => put_calls b (i : Int) (m : Int) s (by omega) (by omega) (by omega) (by omega))
  have L := Aside0.mk (fun W a p h (b : At W a p h x1) => left_at b)
  rw [hx1] at P1
  rw [h2] at P2
  rw [h3] at P3
  dsimp only at P1 P2 P3
  rw [el] at L
  clear hx1 h2 h3 el eb hm hm2 hi hs ht
  by_cases hst : s = t
  · have t7 : (s.toList == t.toList) = true := by rw [hst]; simp
    have t8 : (s.toList != t.toList) = false := by rw [hst]; simp
    rw [if_pos hst] at P2
    clear hst
    go_enter Try.func11, Try.ntmps11
    go_wp2_with (first
      | (go_at_call 34; refine (HN.out _).mono ?_; rintro e w4 ⟨a4, p4, h4, rfl, hx4, hs4, hb⟩; have n0_ := Aside0.mk (below_step (by repeat (first | (with_reducible first | exact HB.out | apply below_alloc | apply pw_below_drewN | apply below_drew1) | exact HB.out)) hb); have HX := Aside0.mk hx4; have HS := Aside0.mk (three_ge hs4 (below_size (by repeat (first | (with_reducible first | exact HB.out | apply below_alloc | apply pw_below_drewN | apply below_drew1) | exact HB.out)))); clear HB hx4 hs4; have HB := n0_; clear n0_ hb)
      | (go_at_call 30; refine (P1.out _ _ _ _ (At.below HX.out (by repeat (with_reducible first | exact Below.refl _ _ | apply below_alloc1 | apply pw_below_drewN | apply below_drew1)))).mono ?_; rintro e w6 ⟨rfl, hx6, ho6⟩; have n0_ := Aside0.mk (Below.only (by repeat (first | (with_reducible first | exact HB.out | apply below_alloc | apply pw_below_drewN | apply below_drew1) | exact HB.out)) ho6 HS.out (below_size (by repeat (first | (with_reducible first | exact HB.out | apply below_alloc | apply pw_below_drewN | apply below_drew1) | exact HB.out)))); have n1_ := Aside0.mk hx6; clear HB HX P1; have HB := n0_; have HX := n1_; clear n0_ n1_ hx6 ho6)
      | (go_at_call 30; refine (P2.out _ _ _ _ (At.below HX.out (by repeat (with_reducible first | exact Below.refl _ _ | apply below_alloc1 | apply pw_below_drewN | apply below_drew1)))).mono ?_; rintro e w6 ⟨rfl, hx6, ho6⟩; have n0_ := Aside0.mk (Below.only (by repeat (first | (with_reducible first | exact HB.out | apply below_alloc | apply pw_below_drewN | apply below_drew1) | exact HB.out)) ho6 HS.out (below_size (by repeat (first | (with_reducible first | exact HB.out | apply below_alloc | apply pw_below_drewN | apply below_drew1) | exact HB.out)))); have n1_ := Aside0.mk hx6; clear HB HX P2; have HB := n0_; have HX := n1_; clear n0_ n1_ hx6 ho6)
      | (go_at_call 30; refine (P3.out _ _ _ _ (At.below HX.out (by repeat (with_reducible first | exact Below.refl _ _ | apply below_alloc1 | apply pw_below_drewN | apply below_drew1)))).mono ?_; rintro e w6 ⟨rfl, hx6, ho6⟩; have n0_ := Aside0.mk (Below.only (by repeat (first | (with_reducible first | exact HB.out | apply below_alloc | apply pw_below_drewN | apply below_drew1) | exact HB.out)) ho6 HS.out (below_size (by repeat (first | (with_reducible first | exact HB.out | apply below_alloc | apply pw_below_drewN | apply below_drew1) | exact HB.out)))); have n1_ := Aside0.mk hx6; clear HB HX P3; have HB := n0_; have HX := n1_; clear n0_ n1_ hx6 ho6)
      | (go_at_call 32; refine (L.out _ _ _ _ HX.out).mono ?_; rintro e w7 ⟨rfl, rfl⟩)
      | (go_at_call 27; refine (awake_calls _).mono ?_; rintro e w5 ⟨rfl, hb⟩; have n0_ := Aside0.mk (below_step (by repeat (first | (with_reducible first | exact HB.out | apply below_alloc | apply pw_below_drewN | apply below_drew1) | exact HB.out)) hb); clear HB; have HB := n0_; clear n0_ hb))
    go_ret
    exact ⟨rfl, HB.out⟩
  · have t7 : (s.toList == t.toList) = false := bytes_ne hst
    have t8 : (s.toList != t.toList) = true := by rw [bne, t7]; rfl
    rw [if_neg hst] at P2
    clear hst
    go_enter Try.func11, Try.ntmps11
    go_wp2_with (first
      | (go_at_call 34; refine (HN.out _).mono ?_; rintro e w4 ⟨a4, p4, h4, rfl, hx4, hs4, hb⟩; have n0_ := Aside0.mk (below_step (by repeat (first | (with_reducible first | exact HB.out | apply below_alloc | apply pw_below_drewN | apply below_drew1) | exact HB.out)) hb); have HX := Aside0.mk hx4; have HS := Aside0.mk (three_ge hs4 (below_size (by repeat (first | (with_reducible first | exact HB.out | apply below_alloc | apply pw_below_drewN | apply below_drew1) | exact HB.out)))); clear HB hx4 hs4; have HB := n0_; clear n0_ hb)
      | (go_at_call 30; refine (P1.out _ _ _ _ (At.below HX.out (by repeat (with_reducible first | exact Below.refl _ _ | apply below_alloc1 | apply pw_below_drewN | apply below_drew1)))).mono ?_; rintro e w6 ⟨rfl, hx6, ho6⟩; have n0_ := Aside0.mk (Below.only (by repeat (first | (with_reducible first | exact HB.out | apply below_alloc | apply pw_below_drewN | apply below_drew1) | exact HB.out)) ho6 HS.out (below_size (by repeat (first | (with_reducible first | exact HB.out | apply below_alloc | apply pw_below_drewN | apply below_drew1) | exact HB.out)))); have n1_ := Aside0.mk hx6; clear HB HX P1; have HB := n0_; have HX := n1_; clear n0_ n1_ hx6 ho6)
      | (go_at_call 30; refine (P2.out _ _ _ _ (At.below HX.out (by repeat (with_reducible first | exact Below.refl _ _ | apply below_alloc1 | apply pw_below_drewN | apply below_drew1)))).mono ?_; rintro e w6 ⟨rfl, hx6, ho6⟩; have n0_ := Aside0.mk (Below.only (by repeat (first | (with_reducible first | exact HB.out | apply below_alloc | apply pw_below_drewN | apply below_drew1) | exact HB.out)) ho6 HS.out (below_size (by repeat (first | (with_reducible first | exact HB.out | apply below_alloc | apply pw_below_drewN | apply below_drew1) | exact HB.out)))); have n1_ := Aside0.mk hx6; clear HB HX P2; have HB := n0_; have HX := n1_; clear n0_ n1_ hx6 ho6)
      | (go_at_call 30; refine (P3.out _ _ _ _ (At.below HX.out (by repeat (with_reducible first | exact Below.refl _ _ | apply below_alloc1 | apply pw_below_drewN | apply below_drew1)))).mono ?_; rintro e w6 ⟨rfl, hx6, ho6⟩; have n0_ := Aside0.mk (Below.only (by repeat (first | (with_reducible first | exact HB.out | apply below_alloc | apply pw_below_drewN | apply below_drew1) | exact HB.out)) ho6 HS.out (below_size (by repeat (first | (with_reducible first | exact HB.out | apply below_alloc | apply pw_below_drewN | apply below_drew1) | exact HB.out)))); have n1_ := Aside0.mk hx6; clear HB HX P3; have HB := n0_; have HX := n1_; clear n0_ n1_ hx6 ho6)
      | (go_at_call 32; refine (L.out _ _ _ _ HX.out).mono ?_; rintro e w7 ⟨rfl, rfl⟩)
      | (go_at_call 27; refine (awake_calls _).mono ?_; rintro e w5 ⟨rfl, hb⟩; have n0_ := Aside0.mk (below_step (by repeat (first | (with_reducible first | exact HB.out | apply below_alloc | apply pw_below_drewN | apply below_drew1) | exact HB.out)) hb); clear HB; have HB := n0_; clear n0_ hb))
    go_ret
    exact ⟨rfl, HB.out⟩

theorem law (n at_ : Int) (s t : ByteArray) (w : World) : Calls Try.prog 11 #[.int .i64 n, .int .i64 at_, .string s, .string t] w fun e w' => e = .returned (.bool true) ∧ Below w.heap.size w w' := by
  by_cases h0 : n < 1
  · exact out0 n at_ s t w h0
  by_cases h1 : 60 < n
  · exact out1 n at_ s t w h0 h1
  by_cases h2 : at_ < 0
  · exact out2 n at_ s t w h0 h1 h2
  by_cases h3 : n ≤ at_
  · exact out3 n at_ s t w h0 h1 h2 h3
  by_cases h4 : 300 < (s.size : Int)
  · exact out4 n at_ s t w h0 h1 h2 h3 h4
  by_cases h5 : 300 < (t.size : Int)
  · exact out5 n at_ s t w h0 h1 h2 h3 h4 h5
  obtain ⟨m, rfl⟩ : ∃ m : Nat, n = (m : Int) := ⟨n.toNat, by omega⟩
  obtain ⟨i, rfl⟩ : ∃ i : Nat, at_ = (i : Int) := ⟨at_.toNat, by omega⟩
  exact inside m i s t w (by omega) (by omega) (by omega) (by omega) (by omega)

end Go.Proofs.YtdomngcedflapaaW.Other
