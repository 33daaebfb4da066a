/- ChunkMany: 4096 parts and no more. -/
import Derived.Test.YtdomngcedflapaaZero
namespace Go.Proofs.YtdomngcedflapaaW.Many
open Go.RowKit Go.Proofs.Ytdomngcedflapaa Go.Proofs.YtdomngcedflapaaW.PrintWords Go.Proofs.YtdomngcedflapaaW.PrintLast Go.Proofs.YtdomngcedflapaaW.PrintMore
open Go.Proofs.YtdomngcedflapaaW.Mine Go.Proofs.YtdomngcedflapaaW.Box Go.Proofs.YtdomngcedflapaaW.Zero

theorem many_one (n : Nat) (h : 1 ≤ n) : Cut.many n 1 = n := by
  unfold Cut.many
  rw [Nat.div_one]
  omega

set_option maxRecDepth 100000 in
set_option maxHeartbeats 2000000 in
theorem out (more : Int) (w : World) (hm : more < 0 ∨ 2 < more) : Calls Try.prog 8 #[.int .i64 more] w fun e w' => e = .returned (.bool true) ∧ Below w.heap.size w w' := by
  have HB := Aside0.mk (Below.refl w.heap.size w)
  by_cases h0 : more < 0
  · have t0 : decide (more < 0) = true := decide_eq_true h0
    clear hm h0
    go_enter Try.func8, Try.ntmps8
    go_wp2_with (first
      | (go_at_call 27; refine (awake_calls _).mono ?_; rintro e w3 ⟨rfl, hb⟩; have n0_ := Aside0.mk (below_step (by repeat (first | (with_reducible first | exact HB.out | apply below_alloc | apply pw_below_drewN | apply below_drew1) | exact HB.out)) hb); clear HB; have HB := n0_; clear n0_ hb))
    go_ret
    exact ⟨rfl, HB.out⟩
  · have t0 : decide (more < 0) = false := decide_eq_false h0
    have t1 : decide (2 < more) = true := decide_eq_true (by omega)
    clear hm h0
    go_enter Try.func8, Try.ntmps8
    go_wp2_with (first
      | (go_at_call 27; refine (awake_calls _).mono ?_; rintro e w3 ⟨rfl, hb⟩; have n0_ := Aside0.mk (below_step (by repeat (first | (with_reducible first | exact HB.out | apply below_alloc | apply pw_below_drewN | apply below_drew1) | exact HB.out)) hb); clear HB; have HB := n0_; clear n0_ hb))
    go_ret
    exact ⟨rfl, HB.out⟩

set_option maxRecDepth 100000 in
set_option maxHeartbeats 2000000 in
theorem at0 (more : Int) (n : Nat) (hn : (n : Int) = 4096 + more) (w : World) (hm : more = 0) : Calls Try.prog 8 #[.int .i64 more] w fun e w' => e = .returned (.bool true) ∧ Below w.heap.size w w' := by
  have HB := Aside0.mk (Below.refl w.heap.size w)
  have t0 : decide (more < 0) = false := decide_eq_false (by omega)
  have t1 : decide (2 < more) = false := decide_eq_false (by omega)
  have t2 : IntKind.i64.wrap (4096 + more) = (n : Int) := by rw [IntKind.wrap_i64]; omega
  have t3 : (more == 0) = true := beq_iff_eq.mpr hm
  have m27 := make27 n (by omega)
  have v27 := conv27 n
  have hc : ∃ l, Cut.cutS (zs n) 1 = (l, 0) ∧ l.length = n := by
    refine ⟨Cut.parts (zs n) (1 : Int).toNat, ?_, ?_⟩
    · unfold Cut.cutS
      rw [zs_size, if_neg (by omega), if_neg (by omega), if_neg (by show ¬ 4096 < Cut.many n 1; rw [many_one n (by omega)]; omega)]
    · rw [Cut.parts_length, zs_size]
      exact many_one n (by omega)
  obtain ⟨l, hc, hl⟩ := hc
  have t4 : ((l.length : Int) == 4096) = true := beq_iff_eq.mpr (by omega)
  have hcut := fun W => cut_calls (zs n) 1 (by omega) W
  rw [hc] at hcut
  have hnew := fun W => new_calls n W (by omega) (by omega)
  have HC := Aside0.mk hcut
  have HN := Aside0.mk hnew
  clear hcut hnew hc hl hm hn
  go_enter Try.func8, Try.ntmps8
  go_wp2_with (first
    | (go_at_call 24; refine (HC.out _).mono ?_; rintro e w3 ⟨A3, c3, rfl, hr, hb⟩; clear hr; have n0_ := Aside0.mk (below_step (by repeat (first | (with_reducible first | exact HB.out | apply below_alloc | apply pw_below_drewN | apply below_drew1) | exact HB.out)) hb); clear HB; have HB := n0_; clear n0_ hb)
    | (go_at_call 34; refine (HN.out _).mono ?_; rintro e w4 ⟨a4, p4, h4, rfl, hr, hs, hb⟩; clear hr hs; have n0_ := Aside0.mk (below_step (by repeat (first | (with_reducible first | exact HB.out | apply below_alloc | apply pw_below_drewN | apply below_drew1) | exact HB.out)) hb); clear HB; have HB := n0_; clear n0_ hb)
    | (go_at_call 27; refine (awake_calls _).mono ?_; rintro e w5 ⟨rfl, hb⟩; have n0_ := Aside0.mk (below_step (by repeat (first | (with_reducible first | exact HB.out | apply below_alloc | apply pw_below_drewN | apply below_drew1) | exact HB.out)) hb); clear HB; have HB := n0_; clear n0_ hb))
  go_ret
  exact ⟨rfl, HB.out⟩

set_option maxRecDepth 100000 in
set_option maxHeartbeats 2000000 in
theorem at1 (more : Int) (n : Nat) (hn : (n : Int) = 4096 + more) (w : World) (hm : 0 < more) (hm2 : more ≤ 2) : Calls Try.prog 8 #[.int .i64 more] w fun e w' => e = .returned (.bool true) ∧ Below w.heap.size w w' := by
  have HB := Aside0.mk (Below.refl w.heap.size w)
  have t0 : decide (more < 0) = false := decide_eq_false (by omega)
  have t1 : decide (2 < more) = false := decide_eq_false (by omega)
  have t2 : IntKind.i64.wrap (4096 + more) = (n : Int) := by rw [IntKind.wrap_i64]; omega
  have t3 : (more == 0) = false := beq_eq_false_iff_ne.mpr (by omega)
  have m27 := make27 n (by omega)
  have v27 := conv27 n
  have hc : Cut.cutS (zs n) 1 = ([], 7) := by
    unfold Cut.cutS
    rw [zs_size, if_neg (by omega), if_neg (by omega), if_pos (by show 4096 < Cut.many n 1; rw [many_one n (by omega)]; omega)]
  have hcut := fun W => cut_calls (zs n) 1 (by omega) W
  rw [hc] at hcut
  have hnew := fun W => new_refused (n : Int) W (by omega)
  have HC := Aside0.mk hcut
  have HN := Aside0.mk hnew
  clear hcut hnew hc hm hn
  go_enter Try.func8, Try.ntmps8
  go_wp2_with (first
    | (go_at_call 24; refine (HC.out _).mono ?_; rintro e w3 ⟨A3, c3, rfl, hr, hb⟩; clear hr; have n0_ := Aside0.mk (below_step (by repeat (first | (with_reducible first | exact HB.out | apply below_alloc | apply pw_below_drewN | apply below_drew1) | exact HB.out)) hb); clear HB; have HB := n0_; clear n0_ hb)
    | (go_at_call 34; refine (HN.out _).mono ?_; rintro e w4 ⟨rfl, rfl⟩)
    | (go_at_call 27; refine (awake_calls _).mono ?_; rintro e w5 ⟨rfl, hb⟩; have n0_ := Aside0.mk (below_step (by repeat (first | (with_reducible first | exact HB.out | apply below_alloc | apply pw_below_drewN | apply below_drew1) | exact HB.out)) hb); clear HB; have HB := n0_; clear n0_ hb))
  go_ret
  exact ⟨rfl, HB.out⟩

theorem law (more : Int) (w : World) : Calls Try.prog 8 #[.int .i64 more] w fun e w' => e = .returned (.bool true) ∧ Below w.heap.size w w' := by
  by_cases h : more < 0 ∨ 2 < more
  · exact out more w h
  · by_cases h0 : more = 0
    · exact at0 more (4096 + more).toNat (by omega) w h0
    · exact at1 more (4096 + more).toNat (by omega) w (by omega) (by omega)

end Go.Proofs.YtdomngcedflapaaW.Many
