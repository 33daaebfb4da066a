/- ChunkLong: parts that are too long together. -/
import Derived.Test.YtdomngcedflapaaOther
namespace Go.Proofs.YtdomngcedflapaaW.Long
open Go.RowKit Go.Proofs.Ytdomngcedflapaa Go.Proofs.YtdomngcedflapaaW.PrintWords Go.Proofs.YtdomngcedflapaaW.PrintLast Go.Proofs.YtdomngcedflapaaW.PrintMore
open Go.Proofs.YtdomngcedflapaaW.Mine Go.Proofs.YtdomngcedflapaaW.Box Go.Proofs.YtdomngcedflapaaW.Zero Go.Proofs.YtdomngcedflapaaW.Other

theorem put_0 (k : Nat) (s : ByteArray) (hs : s.size = 524288) :
    (Bx.mk ((List.replicate 2 ByteArray.empty).set 1 s) ((List.replicate 2 false).set 1 true) ((2 : Nat) - 1 : Int) (0 + s.size)).put 0 2 (zs k) =
    if 0 < k then (⟨(List.replicate 2 ByteArray.empty).set 1 s, (List.replicate 2 false).set 1 true, ((2 : Nat) : Int) - 1, 0 + s.size⟩, 4)
    else (⟨((List.replicate 2 ByteArray.empty).set 1 s).set 0 (zs k), ((List.replicate 2 false).set 1 true).set 0 true, ((2 : Nat) : Int) - 1 - 1, 0 + s.size + (zs k).size⟩, 0) := by
  unfold Bx.put
  simp only [List.length_set, List.length_replicate, zs_size, hs]
  rw [if_neg (by decide), if_neg (by decide), if_neg (by decide)]
  by_cases hk : 0 < k
  · rw [if_pos (by omega), if_pos hk]
  · rw [if_neg (by omega), if_neg hk]
    rfl

theorem cut_long (k : Nat) (hk : k ≤ 2) : ∃ l, Cut.cutS (zs (524288 + k)) 1024 = (l, if 0 < k then 4 else 0) := by
  unfold Cut.cutS
  rw [zs_size, if_neg (by omega)]
  by_cases h : 0 < k
  · rw [if_pos (by omega), if_pos h]
    exact ⟨_, rfl⟩
  · obtain rfl : k = 0 := by omega
    rw [if_neg (by omega), if_neg h, if_neg (by decide)]
    exact ⟨_, rfl⟩

set_option maxRecDepth 100000 in
set_option maxHeartbeats 1000000 in
theorem out0 (more : Int) (w : World) (h0 : more < 0) : Calls Try.prog 12 #[.int .i64 more] w fun e w' => e = .returned (.bool true) ∧ Below w.heap.size w w' := by
  have HB := Aside0.mk (Below.refl w.heap.size w)
  have t0 : decide (more < 0) = true := decide_eq_true h0
  clear h0
  go_enter Try.func12, Try.ntmps12
  go_wp2_with (first
    | (go_at_call 27; refine (awake_calls _).mono ?_; rintro e w5 ⟨rfl, hb⟩; have n0_ := Aside0.mk (below_step (by repeat (first | (with_reducible first | exact HB.out | apply below_alloc | apply pw_below_drewN | apply below_drew1) | exact HB.out)) hb); clear HB; have HB := n0_; clear n0_ hb))
  go_ret
  exact ⟨rfl, HB.out⟩

set_option maxRecDepth 100000 in
set_option maxHeartbeats 1000000 in
theorem out1 (more : Int) (w : World) (h0 : ¬ (more < 0)) (h1 : 2 < more) : Calls Try.prog 12 #[.int .i64 more] w fun e w' => e = .returned (.bool true) ∧ Below w.heap.size w w' := by
  have HB := Aside0.mk (Below.refl w.heap.size w)
  have t0 : decide (more < 0) = false := decide_eq_false h0
  have t1 : decide (2 < more) = true := decide_eq_true h1
  clear h0 h1
  go_enter Try.func12, Try.ntmps12
  go_wp2_with (first
    | (go_at_call 27; refine (awake_calls _).mono ?_; rintro e w5 ⟨rfl, hb⟩; have n0_ := Aside0.mk (below_step (by repeat (first | (with_reducible first | exact HB.out | apply below_alloc | apply pw_below_drewN | apply below_drew1) | exact HB.out)) hb); clear HB; have HB := n0_; clear n0_ hb))
  go_ret
  exact ⟨rfl, HB.out⟩

set_option maxRecDepth 100000 in
set_option maxHeartbeats 2000000 in
theorem inside (k : Nat) (hk : k ≤ 2) (w : World) : Calls Try.prog 12 #[.int .i64 (k : Int)] w fun e w' => e = .returned (.bool true) ∧ Below w.heap.size w w' := by
  have HB := Aside0.mk (Below.refl w.heap.size w)
  obtain ⟨NN, hN⟩ : ∃ NN : Nat, NN = 524288 := ⟨_, rfl⟩
  have t0 : decide ((k : Int) < 0) = false := decide_eq_false (by omega)
  have t1 : decide (2 < (k : Int)) = false := decide_eq_false (by omega)
  have t1n : decide (2 < k) = false := decide_eq_false (by omega)
  obtain ⟨M, hM⟩ : ∃ M : Nat, M = 524288 + k := ⟨_, rfl⟩
  have t2 : IntKind.i64.wrap (524288 + (k : Int)) = (M : Int) := by rw [IntKind.wrap_i64]; omega
  have HN := Aside0.mk (fun W => fresh_calls 2 W (by omega) (by omega))
  rw [show ((2 : Nat) : Int) = 2 from rfl] at HN
  obtain ⟨x1, hx1, e1⟩ : ∃ x1 : Bx, (Bx.fresh 2).put 1 2 (zs NN) = (x1, 0) ∧ x1 = ⟨(List.replicate 2 ByteArray.empty).set 1 (zs NN), (List.replicate 2 false).set 1 true, ((2 : Nat) : Int) - 1, 0 + (zs NN).size⟩ := ⟨_, put_first 2 1 (zs NN) (by omega) (by rw [zs_size]; omega), rfl⟩
  obtain ⟨l, hc⟩ := cut_long k hk
  rw [← hM] at hc
  have hcut := fun W => cut_calls (zs M) 1024 (by omega) W
  rw [hc] at hcut
  have HC := Aside0.mk hcut
  have h2 := put_0 k (zs NN) (by rw [zs_size]; omega)
  rw [← e1] at h2
  have el : x1.left = 1 := by rw [e1]; rfl
  have eb : x1.bytes = 524288 := by rw [e1]; show (0 : Int) + _ = _; rw [zs_size]; omega
  clear e1
  have m0 := make27 NN (by omega)
  have v0 := conv27 NN
  rw [show (NN : Int) = 524288 by omega] at m0
  have m1 := make27 k (by omega)
  have v1 := conv27 k
  have m2 := make27 M (by omega)
  have v2 := conv27 M
  have P1 := Aside0.mk (fun W a p h (b : At W a p h (Bx.fresh 2)) => put_calls b 1 2 (zs NN) (by show (0 : Int) ≤ 0; omega) (by show (0 : Int) ≤ _; omega) (by show (0 : Int) ≤ 2; omega) (by show (2 : Int) ≤ _; omega))
  have P2 := Aside0.mk (fun W a p h (b : At W a p h x1) => put_calls b 0 2 (zs k) (by omega) (by omega) (by omega) (by omega))
  rw [hx1] at P1
  clear hx1 hcut hc
  have hp : 0 < k ∨ k = 0 := by omega
  rcases hp with hp | hp
  · have t4 : ((k : Int) == 0) = false := beq_eq_false_iff_ne.mpr (by omega)
    have t4n : (k == 0) = false := beq_eq_false_iff_ne.mpr (by omega)
    rw [if_pos hp] at h2 HC
    rw [h2] at P2
    have L := Aside0.mk (fun W a p h (b : At W a p h x1) => left_at b)
    rw [el] at L
    dsimp only at P1 P2 HC
    clear h2 el eb hp hN hk hM
    go_enter Try.func12, Try.ntmps12
    go_wp2_with (first
      | (go_at_call 34; refine (HN.out _).mono ?_; rintro e w4 ⟨a4, p4, h4, rfl, hx4, hs4, hb⟩; have n0_ := Aside0.mk (below_step (by repeat (first | (with_reducible first | exact HB.out | apply below_alloc | apply pw_below_drewN | apply below_drew1) | exact HB.out)) hb); have HX := Aside0.mk hx4; have HS := Aside0.mk (three_ge hs4 (below_size (by repeat (first | (with_reducible first | exact HB.out | apply below_alloc | apply pw_below_drewN | apply below_drew1) | exact HB.out)))); clear HB hx4 hs4; have HB := n0_; clear n0_ hb)
      | (go_at_call 30; refine (P1.out _ _ _ _ (At.below HX.out (by repeat (with_reducible first | exact Below.refl _ _ | apply below_alloc1 | apply pw_below_drewN | apply below_drew1)))).mono ?_; rintro e w6 ⟨rfl, hx6, ho6⟩; have n0_ := Aside0.mk (Below.only (by repeat (first | (with_reducible first | exact HB.out | apply below_alloc | apply pw_below_drewN | apply below_drew1) | exact HB.out)) ho6 HS.out (below_size (by repeat (first | (with_reducible first | exact HB.out | apply below_alloc | apply pw_below_drewN | apply below_drew1) | exact HB.out)))); have n1_ := Aside0.mk hx6; clear HB HX P1; have HB := n0_; have HX := n1_; clear n0_ n1_ hx6 ho6)
      | (go_at_call 30; refine (P2.out _ _ _ _ (At.below HX.out (by repeat (with_reducible first | exact Below.refl _ _ | apply below_alloc1 | apply pw_below_drewN | apply below_drew1)))).mono ?_; rintro e w6 ⟨rfl, hx6, ho6⟩; have n0_ := Aside0.mk (Below.only (by repeat (first | (with_reducible first | exact HB.out | apply below_alloc | apply pw_below_drewN | apply below_drew1) | exact HB.out)) ho6 HS.out (below_size (by repeat (first | (with_reducible first | exact HB.out | apply below_alloc | apply pw_below_drewN | apply below_drew1) | exact HB.out)))); have n1_ := Aside0.mk hx6; clear HB HX P2; have HB := n0_; have HX := n1_; clear n0_ n1_ hx6 ho6)
      | (go_at_call 24; refine (HC.out _).mono ?_; rintro e w3 ⟨A3, c3, rfl, hr, hb⟩; clear hr; have n1_ := Aside0.mk (At.below HX.out (below_step (by repeat (with_reducible first | exact Below.refl _ _ | apply below_alloc1 | apply pw_below_drewN | apply below_drew1)) hb)); have n0_ := Aside0.mk (below_step (by repeat (first | (with_reducible first | exact HB.out | apply below_alloc | apply pw_below_drewN | apply below_drew1) | exact HB.out)) hb); clear HB HX; have HB := n0_; have HX := n1_; clear n0_ n1_ hb)
      | (go_at_call 32; refine (L.out _ _ _ _ HX.out).mono ?_; rintro e w7 ⟨rfl, rfl⟩)
      | (go_at_call 27; refine (awake_calls _).mono ?_; rintro e w5 ⟨rfl, hb⟩; have n0_ := Aside0.mk (below_step (by repeat (first | (with_reducible first | exact HB.out | apply below_alloc | apply pw_below_drewN | apply below_drew1) | exact HB.out)) hb); clear HB; have HB := n0_; clear n0_ hb))
    go_ret
    exact ⟨rfl, HB.out⟩
  · have t4 : ((k : Int) == 0) = true := beq_iff_eq.mpr (by omega)
    have t4n : (k == 0) = true := beq_iff_eq.mpr hp
    rw [if_neg (by omega)] at h2 HC
    obtain ⟨x2, e2⟩ : ∃ x2 : Bx, x2 = ⟨((List.replicate 2 ByteArray.empty).set 1 (zs NN)).set 0 (zs k), ((List.replicate 2 false).set 1 true).set 0 true, ((2 : Nat) : Int) - 1 - 1, 0 + (zs NN).size + (zs k).size⟩ := ⟨_, rfl⟩
    rw [← e2] at h2
    rw [h2] at P2
    have el2 : x2.left = 0 := by rw [e2]; rfl
    have L := Aside0.mk (fun W a p h (b : At W a p h x2) => left_at b)
    rw [el2] at L
    dsimp only at P1 P2 HC
    clear h2 el eb hp hN hk hM e2 el2
    go_enter Try.func12, Try.ntmps12
    go_wp2_with (first
      | (go_at_call 34; refine (HN.out _).mono ?_; rintro e w4 ⟨a4, p4, h4, rfl, hx4, hs4, hb⟩; have n0_ := Aside0.mk (below_step (by repeat (first | (with_reducible first | exact HB.out | apply below_alloc | apply pw_below_drewN | apply below_drew1) | exact HB.out)) hb); have HX := Aside0.mk hx4; have HS := Aside0.mk (three_ge hs4 (below_size (by repeat (first | (with_reducible first | exact HB.out | apply below_alloc | apply pw_below_drewN | apply below_drew1) | exact HB.out)))); clear HB hx4 hs4; have HB := n0_; clear n0_ hb)
      | (go_at_call 30; refine (P1.out _ _ _ _ (At.below HX.out (by repeat (with_reducible first | exact Below.refl _ _ | apply below_alloc1 | apply pw_below_drewN | apply below_drew1)))).mono ?_; rintro e w6 ⟨rfl, hx6, ho6⟩; have n0_ := Aside0.mk (Below.only (by repeat (first | (with_reducible first | exact HB.out | apply below_alloc | apply pw_below_drewN | apply below_drew1) | exact HB.out)) ho6 HS.out (below_size (by repeat (first | (with_reducible first | exact HB.out | apply below_alloc | apply pw_below_drewN | apply below_drew1) | exact HB.out)))); have n1_ := Aside0.mk hx6; clear HB HX P1; have HB := n0_; have HX := n1_; clear n0_ n1_ hx6 ho6)
      | (go_at_call 30; refine (P2.out _ _ _ _ (At.below HX.out (by repeat (with_reducible first | exact Below.refl _ _ | apply below_alloc1 | apply pw_below_drewN | apply below_drew1)))).mono ?_; rintro e w6 ⟨rfl, hx6, ho6⟩; have n0_ := Aside0.mk (Below.only (by repeat (first | (with_reducible first | exact HB.out | apply below_alloc | apply pw_below_drewN | apply below_drew1) | exact HB.out)) ho6 HS.out (below_size (by repeat (first | (with_reducible first | exact HB.out | apply below_alloc | apply pw_below_drewN | apply below_drew1) | exact HB.out)))); have n1_ := Aside0.mk hx6; clear HB HX P2; have HB := n0_; have HX := n1_; clear n0_ n1_ hx6 ho6)
      | (go_at_call 24; refine (HC.out _).mono ?_; rintro e w3 ⟨A3, c3, rfl, hr, hb⟩; clear hr; have n1_ := Aside0.mk (At.below HX.out (below_step (by repeat (with_reducible first | exact Below.refl _ _ | apply below_alloc1 | apply pw_below_drewN | apply below_drew1)) hb)); have n0_ := Aside0.mk (below_step (by repeat (first | (with_reducible first | exact HB.out | apply below_alloc | apply pw_below_drewN | apply below_drew1) | exact HB.out)) hb); clear HB HX; have HB := n0_; have HX := n1_; clear n0_ n1_ hb)
      | (go_at_call 32; refine (L.out _ _ _ _ HX.out).mono ?_; rintro e w7 ⟨rfl, rfl⟩)
      | (go_at_call 27; refine (awake_calls _).mono ?_; rintro e w5 ⟨rfl, hb⟩; have n0_ := Aside0.mk (below_step (by repeat (first | (with_reducible first | exact HB.out | apply below_alloc | apply pw_below_drewN | apply below_drew1) | exact HB.out)) hb); clear HB; have HB := n0_; clear n0_ hb))
    go_ret
    exact ⟨rfl, HB.out⟩

theorem law (more : Int) (w : World) : Calls Try.prog 12 #[.int .i64 more] w fun e w' => e = .returned (.bool true) ∧ Below w.heap.size w w' := by
  by_cases h0 : more < 0
  · exact out0 more w h0
  by_cases h1 : 2 < more
  · exact out1 more w h0 h1
  obtain ⟨k, rfl⟩ : ∃ k : Nat, more = (k : Int) := ⟨more.toNat, by omega⟩
  exact inside k (by omega) w

end Go.Proofs.YtdomngcedflapaaW.Long
