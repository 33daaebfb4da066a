/- The walk of ChunkPlays, whole. -/
import Derived.Test.YtdomngcedflapaaPlays
namespace Go.Proofs.YtdomngcedflapaaW.Ref
open Go.RowKit Go.Proofs.Ytdomngcedflapaa Go.Proofs.YtdomngcedflapaaW.PrintWords Go.Proofs.YtdomngcedflapaaW.PrintLast Go.Proofs.YtdomngcedflapaaW.PrintMore
open Go.Proofs.YtdomngcedflapaaW.Box Go.Proofs.YtdomngcedflapaaW.BackP Go.Proofs.YtdomngcedflapaaW.Zero Go.Proofs.YtdomngcedflapaaW.Other

/-- A call of a script. -/
structure Op5 where
  K : Int
  M : Int
  at_ : Int
  of_ : Int
  txt : ByteArray

/-- A script in memory. -/
def OpsAt (w : World) (A : Option Addr) (len : Nat) (ops : Nat → Op5) : Prop := ∀ i, i < len → ∃ ad, A = some ad ∧ ∀ w', Below w.heap.size w w' → ∀ j, j < len →
  w'.cell? (ad.add (j * 5)) = some (.int .i64 (ops j).K) ∧ w'.cell? ⟨(ad.add (j * 5)).block, (ad.add (j * 5)).off + 1, none⟩ = some (.int .i64 (ops j).M) ∧
  w'.cell? ⟨(ad.add (j * 5)).block, (ad.add (j * 5)).off + 2, none⟩ = some (.int .i64 (ops j).at_) ∧ w'.cell? ⟨(ad.add (j * 5)).block, (ad.add (j * 5)).off + 3, none⟩ = some (.int .i64 (ops j).of_) ∧
  w'.cell? ⟨(ad.add (j * 5)).block, (ad.add (j * 5)).off + 4, none⟩ = some (.string (ops j).txt)

theorem below_four {B : Nat} {w0 w w' : World} {a p h rb : Nat} (hb : Below B w0 w) (ho : Only (Four a p h rb) w w') (hs : ∀ k, Four a p h rb k → B ≤ k) (hB : B ≤ w.heap.size) : Below B w0 w' :=
  hb.trans (ho.below hB hs)

theorem both_fresh {w : World} {a p h m : Nat} (b : At w a p h (Bx.fresh m)) (C : Array Value) (hC : (mix (List.replicate m ByteArray.empty) (List.replicate m false)).toArray = C) :
    Both ((w.alloc (.cells C 84)).alloc (.cells #[.slice (some ⟨w.heap.size, 0, none⟩) m m] 52)) a p h (w.heap.size + 1) w.heap.size m (Bx.fresh m) := by
  have h1 := heap_lt b.box
  have h2 := heap_lt b.parts
  have h3 := heap_lt b.has
  have hb : Below w.heap.size w ((w.alloc (.cells C 84)).alloc (.cells #[.slice (some ⟨w.heap.size, 0, none⟩) m m] 52)) := ((Below.refl _ w).alloc (Nat.le_refl _) _).alloc (by simp) _
  have e : ((w.alloc (.cells C 84)).alloc (.cells #[.slice (some ⟨w.heap.size, 0, none⟩) m m] 52)).heap = (w.heap.push (.cells C 84)).push (.cells #[.slice (some ⟨w.heap.size, 0, none⟩) m m] 52) := rfl
  refine ⟨At.below b hb, ⟨?_, ?_, by simp [Bx.fresh], by omega⟩, fine_fresh m, fun hk => by rcases hk with hk | hk | hk <;> omega, fun hk => by rcases hk with hk | hk | hk <;> omega⟩
  · rw [e, Array.getElem?_push, if_pos (by simp)]
    simp [Bx.fresh]
  · rw [e, Array.getElem?_push, if_neg (by simp), Array.getElem?_push, if_pos rfl, ← hC]
    rfl

set_option maxRecDepth 100000 in
set_option maxHeartbeats 2000000 in
theorem plays_out (n : Int) (v : Value) (w : World) (hn : n < 1 ∨ 4096 < n) : Calls Try.prog 9 #[.int .i64 n, v] w fun e w' => e = .returned (.bool true) ∧ Below w.heap.size w w' := by
  have HB := Aside0.mk (Below.refl w.heap.size w)
  have HN := Aside0.mk (fun W => new_refused n W hn)
  by_cases h1 : n < 1
  · have t0 : decide (n < 1) = true := decide_eq_true h1
    clear hn h1
    go_enter Try.func9, Try.ntmps9
    go_wp2_with (first
      | (go_at_call 34; refine (HN.out _).mono ?_; rintro e w4 ⟨rfl, rfl⟩)
      | (go_at_call 27; refine (awake_calls _).mono ?_; rintro e w5 ⟨rfl, hb⟩; have n0_ := Aside0.mk (below_step (by repeat (first | (with_reducible first | exact HB.out | apply below_alloc | apply pw_below_drewN | apply below_drew1) | exact HB.out)) hb); clear HB; have HB := n0_; clear n0_ hb))
    go_ret
    exact ⟨rfl, by repeat (first | exact HB.out | apply below_alloc | apply pw_below_drewN | apply below_drew1)⟩
  · have t0 : decide (n < 1) = false := decide_eq_false h1
    have t1 : decide (4096 < n) = true := decide_eq_true (by omega)
    clear hn h1
    go_enter Try.func9, Try.ntmps9
    go_wp2_with (first
      | (go_at_call 34; refine (HN.out _).mono ?_; rintro e w4 ⟨rfl, rfl⟩)
      | (go_at_call 27; refine (awake_calls _).mono ?_; rintro e w5 ⟨rfl, hb⟩; have n0_ := Aside0.mk (below_step (by repeat (first | (with_reducible first | exact HB.out | apply below_alloc | apply pw_below_drewN | apply below_drew1) | exact HB.out)) hb); clear HB; have HB := n0_; clear n0_ hb))
    go_ret
    exact ⟨rfl, by repeat (first | exact HB.out | apply below_alloc | apply pw_below_drewN | apply below_drew1)⟩

set_option maxRecDepth 100000 in
set_option maxHeartbeats 2000000 in
theorem plays_big (m : Nat) (v : Value) (w : World) (h0 : 60 < m) (h1 : m ≤ 4096) : Calls Try.prog 9 #[.int .i64 (m : Int), v] w fun e w' => e = .returned (.bool true) ∧ Below w.heap.size w w' := by
  have HB := Aside0.mk (Below.refl w.heap.size w)
  have HN := Aside0.mk (fun W => fresh_calls m W (by omega) h1)
  have t0 : decide ((m : Int) < 1) = false := decide_eq_false (by omega)
  have t1 : decide (4096 < (m : Int)) = false := decide_eq_false (by omega)
  have t1n : decide (4096 < m) = false := decide_eq_false (by omega)
  have t2 : decide (60 < (m : Int)) = true := decide_eq_true (by omega)
  have t2n : decide (60 < m) = true := decide_eq_true h0
  have OF : Aside0 (∀ W a p h, At W a p h (Bx.fresh m) → Calls Try.prog 31 #[.pointer (some ⟨a, 0, none⟩)] W fun e w' => e = .returned (.int .i64 (m : Int)) ∧ w' = W) := ⟨fun W a p h b => by
    have := of_at b
    rw [show (Bx.fresh m).P.length = m by simp [Bx.fresh]] at this
    exact this⟩
  have LF : Aside0 (∀ W a p h, At W a p h (Bx.fresh m) → Calls Try.prog 32 #[.pointer (some ⟨a, 0, none⟩)] W fun e w' => e = .returned (.int .i64 (m : Int)) ∧ w' = W) := ⟨fun W a p h b => left_at b⟩
  clear h0 h1
  go_enter Try.func9, Try.ntmps9
  go_wp2_with (first
    | (go_at_call 34; refine (HN.out _).mono ?_; rintro e w4 ⟨a4, p4, h4, rfl, hx4, hs4, hb⟩; have n0_ := Aside0.mk (below_step (by repeat (first | (with_reducible first | exact HB.out | apply below_alloc | apply pw_below_drewN | apply below_drew1) | exact HB.out)) hb); have HX := Aside0.mk hx4; have HS := Aside0.mk (three_ge hs4 (below_size (by repeat (first | (with_reducible first | exact HB.out | apply below_alloc | apply pw_below_drewN | apply below_drew1) | exact HB.out)))); have HSZ := Aside0.mk (below_size n0_.out); clear HB hx4 hs4; have HB := n0_; clear n0_ hb)
    | (go_at_call 31; refine (OF.out _ _ _ _ HX.out).mono ?_; rintro e w7 ⟨rfl, rfl⟩)
    | (go_at_call 32; refine (LF.out _ _ _ _ HX.out).mono ?_; rintro e w7 ⟨rfl, rfl⟩)
    | (go_at_call 27; refine (awake_calls _).mono ?_; rintro e w5 ⟨rfl, hb⟩; have n0_ := Aside0.mk (below_step (by repeat (first | (with_reducible first | exact HB.out | apply below_alloc | apply pw_below_drewN | apply below_drew1) | exact HB.out)) hb); clear HB; have HB := n0_; clear n0_ hb))
  go_ret
  exact ⟨rfl, by repeat (first | exact HB.out | apply below_alloc | apply pw_below_drewN | apply below_drew1)⟩

set_option maxRecDepth 100000 in
set_option maxHeartbeats 4000000 in
theorem plays_in (m : Nat) (A : Option Addr) (len cap : Nat) (ops : Nat → Op5) (w : World) (h0 : 1 ≤ m) (h1 : m ≤ 60) (hops : OpsAt w A len ops) : Calls Try.prog 9 #[.int .i64 (m : Int), .slice A len cap] w fun e w' => e = .returned (.bool true) ∧ Below w.heap.size w w' := by
  have HB := Aside0.mk (Below.refl w.heap.size w)
  have HN := Aside0.mk (fun W => fresh_calls m W h0 (by omega))
  have HOPS := Aside0.mk hops
  have t0 : decide ((m : Int) < 1) = false := decide_eq_false (by omega)
  have t1 : decide (4096 < (m : Int)) = false := decide_eq_false (by omega)
  have t1n : decide (4096 < m) = false := decide_eq_false (by omega)
  have t2 : decide (60 < (m : Int)) = false := decide_eq_false (by omega)
  have t2n : decide (60 < m) = false := decide_eq_false (by omega)
  have m50 := make50 m h1
  obtain ⟨C, hC⟩ : ∃ C, (mix (List.replicate m ByteArray.empty) (List.replicate m false)).toArray = C := ⟨_, rfl⟩
  rw [hC] at m50
  have HC := Aside0.mk hC
  have HM1 := Aside0.mk h0
  have HM60 := Aside0.mk h1
  clear hC h0 h1 hops
  go_enter Try.func9, Try.ntmps9
  go_wp2_with (first | (go_at_call 34; refine (HN.out _).mono ?_; rintro e w4 ⟨a4, p4, h4, rfl, hx4, hs4, hb⟩; have n0_ := Aside0.mk (below_step (by repeat (first | (with_reducible first | exact HB.out | apply below_alloc | apply pw_below_drewN | apply below_drew1) | exact HB.out)) hb); have HX := Aside0.mk hx4; have HS := Aside0.mk (three_ge hs4 (below_size (by repeat (first | (with_reducible first | exact HB.out | apply below_alloc | apply pw_below_drewN | apply below_drew1) | exact HB.out)))); have HSZ := Aside0.mk (below_size n0_.out); clear HB hx4 hs4; have HB := n0_; clear n0_ hb))
  clear m50
  go_loopg [8] len (fun kq v8 w' => ∃ (j : Nat) (x : Bx), v8 = .int .i64 (j : Int) ∧ Aside0 (j + kq = len) ∧ Aside0 (Both w' a4 p4 h4 (w4.heap.size + 1) w4.heap.size m x) ∧ Aside0 (Below w.heap.size w w'))
  case atStart => exact ⟨0, Bx.fresh m, rfl, ⟨by omega⟩, ⟨both_fresh HX.out C HC.out⟩, ⟨by repeat (first | exact HB.out | apply below_alloc | apply pw_below_drewN | apply below_drew1)⟩⟩
  case round =>
    have HG : Aside0 (∀ k, Four a4 p4 h4 w4.heap.size k → w.heap.size ≤ k) := ⟨fun k hk => by
      have h1 := HS.out
      have h2 := HSZ.out
      rcases hk with (rfl | rfl | rfl) | rfl <;> omega⟩
    clear HX HB
    obtain ⟨j, x, rfl, HK, HO, HB⟩ := hrel
    by_cases hj : j < len
    · have d0 : decide ((j : Int) < (len : Int)) = true := decide_eq_true (by omega)
      have d0n : decide (j < len) = true := decide_eq_true hj
      by_cases h8 : j < 80
      · have d1 : decide ((j : Int) < 80) = true := decide_eq_true (by omega)
        have d1n : decide (j < 80) = true := decide_eq_true h8
        obtain ⟨k1, rfl⟩ : ∃ k1, gk = k1 + 1 := ⟨gk - 1, by have := HK.out; omega⟩
        have d2 : ((j : Int) < (len : Int)) = True := eq_true (by omega)
        have d2n : (j < len) = True := eq_true hj
        have d3 : (0 ≤ (j : Int)) = True := eq_true (by omega)
        have d4 : IntKind.i64.wrap ((j : Int) + 1) = ((j + 1 : Nat) : Int) := by rw [IntKind.wrap_i64]; omega
        obtain ⟨ad, hA, hcell⟩ := HOPS.out j hj
        subst hA
        obtain ⟨o0, o1, o2, o3, o4⟩ := hcell _ HB.out j hj
        clear hcell
        generalize ops j = op at o0 o1 o2 o3 o4
        have SC := Aside0.mk (fun W y (b : Both W a4 p4 h4 (w4.heap.size + 1) w4.heap.size m y) => step_calls b HM1.out HM60.out op.K op.M op.at_ op.of_ op.txt)
        clear hj h8
        go_wp2_with (first
          | (go_at_call 35; refine (SC.out _ _ HO.out).mono ?_; rintro e w5 ⟨rfl, ⟨x5, hx5⟩, ho5⟩; have n0_ := Aside0.mk (below_four (by repeat (first | (with_reducible first | exact HB.out | apply below_alloc | apply pw_below_drewN | apply below_drew1) | exact HB.out)) ho5 HG.out (below_size (by repeat (first | (with_reducible first | exact HB.out | apply below_alloc | apply pw_below_drewN | apply below_drew1) | exact HB.out)))); have n1_ := Aside0.mk hx5; clear HB HO hx5 ho5; have HB := n0_; have HO := n1_; clear n0_ n1_)
          | (go_at_call 32; refine (left_both HO.out).mono ?_; rintro e w7 ⟨rfl, rfl⟩)
          | (go_at_call 36; refine (rmiss_both HO.out HM60.out).mono ?_; rintro e w6 ⟨A6, c6, rfl, hb⟩; have n1_ := Aside0.mk (HO.out.keep hb); have n0_ := Aside0.mk (below_step (by repeat (first | (with_reducible first | exact HB.out | apply below_alloc | apply pw_below_drewN | apply below_drew1) | exact HB.out)) hb); clear HB HO hb; have HB := n0_; have HO := n1_; clear n0_ n1_)
          | (go_at_call 31; refine (of_both HO.out).mono ?_; rintro e w7 ⟨rfl, rfl⟩))
        go_roundg k1
        case measure => omega
        case rel => exact ⟨j + 1, _, rfl, ⟨by have := HK.out; omega⟩, HO, HB⟩
      · have d1 : decide ((j : Int) < 80) = false := decide_eq_false (by omega)
        have d1n : decide (j < 80) = false := decide_eq_false h8
        clear hj h8
        go_wp2_with (first
          | (go_at_call 27; refine (awake_calls _).mono ?_; rintro e w5 ⟨rfl, hb⟩; have n0_ := Aside0.mk (below_step (by repeat (first | (with_reducible first | exact HB.out | apply below_alloc | apply pw_below_drewN | apply below_drew1) | exact HB.out)) hb); clear HB; have HB := n0_; clear n0_ hb))
        go_ret
        exact ⟨rfl, by repeat (first | exact HB.out | apply below_alloc | apply pw_below_drewN | apply below_drew1)⟩
    · have d0 : decide ((j : Int) < (len : Int)) = false := decide_eq_false (by omega)
      have d0n : decide (j < len) = false := decide_eq_false hj
      clear hj
      go_wp2_with (first
        | (go_at_call 27; refine (awake_calls _).mono ?_; rintro e w5 ⟨rfl, hb⟩; have n0_ := Aside0.mk (below_step (by repeat (first | (with_reducible first | exact HB.out | apply below_alloc | apply pw_below_drewN | apply below_drew1) | exact HB.out)) hb); clear HB; have HB := n0_; clear n0_ hb))
      go_ret
      exact ⟨rfl, by repeat (first | exact HB.out | apply below_alloc | apply pw_below_drewN | apply below_drew1)⟩

theorem plays (n : Int) (A : Option Addr) (len cap : Nat) (ops : Nat → Op5) (w : World) (hops : OpsAt w A len ops) : Calls Try.prog 9 #[.int .i64 n, .slice A len cap] w fun e w' => e = .returned (.bool true) ∧ Below w.heap.size w w' := by
  by_cases h : n < 1 ∨ 4096 < n
  · exact plays_out n _ w h
  obtain ⟨m, rfl⟩ : ∃ m : Nat, n = (m : Int) := ⟨n.toNat, by omega⟩
  by_cases h6 : 60 < m
  · exact plays_big m _ w h6 (by omega)
  · exact plays_in m A len cap ops w (by omega) (by omega) hops

end Go.Proofs.YtdomngcedflapaaW.Ref
