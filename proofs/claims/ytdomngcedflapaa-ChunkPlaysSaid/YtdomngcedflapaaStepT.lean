/- The walks of step where the call is Text or Clear. -/
import Derived.Test.YtdomngcedflapaaStepM
import Derived.Test.YtdomngcedflapaaClear
namespace Go.Proofs.YtdomngcedflapaaW.Ref
open Go.RowKit Go.Proofs.Ytdomngcedflapaa Go.Proofs.YtdomngcedflapaaW.PrintWords Go.Proofs.YtdomngcedflapaaW.PrintLast Go.Proofs.YtdomngcedflapaaW.PrintMore
open Go.Proofs.YtdomngcedflapaaW.Box Go.Proofs.YtdomngcedflapaaW.BackP

set_option maxRecDepth 100000 in
set_option maxHeartbeats 4000000 in
theorem text_walk {w : World} {a p h ra rb n : Nat} {x : Bx} (hB : Both w a p h ra rb n x) (hn : n ≤ 60) (M at_ of_ : Int) (txt : ByteArray) :
    Calls Try.prog 35 #[.pointer (some ⟨a, 0, none⟩), .pointer (some ⟨ra, 0, none⟩), .agg #[.int .i64 2, .int .i64 M, .int .i64 at_, .int .i64 of_, .string txt]] w
      fun e w' => e = .returned (.bool true) ∧ Below w.heap.size w w' := by
  have HB := Aside0.mk (Below.refl w.heap.size w)
  have HX := Aside0.mk hB.b
  have HR := Aside0.mk hB.r
  have lp := hB.fine.lp
  have hcnt := missN_cnt x.H (n : Int) n (Int.le_refl _)
  have hleft := hB.fine.left
  have R36 := Aside0.mk (fun W (r : RAt W ra rb x) => rmiss_at r (by rw [lp]; exact hn))
  rw [lp] at R36
  by_cases h0 : 0 < x.left
  · have T28 := Aside0.mk (fun W (b : At W a p h x) => text_short b h0)
    generalize missN x.H (n : Int) n = L at hcnt R36
    generalize L.length = q at hcnt R36
    have t1 : decide (0 < (q : Int)) = true := decide_eq_true (by omega)
    have t1n : decide (0 < q) = true := decide_eq_true (by omega)
    have t2 : ((⟨#[]⟩ : ByteArray).toList == (⟨#[]⟩ : ByteArray).toList) = true := by simp
    clear hB lp hcnt hleft hn h0
    go_enter Try.func35, Try.ntmps35
    go_wp2_with (first
      | (go_at_call 28; refine (T28.out _ (At.below HX.out (by repeat (first | (with_reducible first | exact HB.out | apply below_alloc | apply pw_below_drewN | apply below_drew1) | exact HB.out)))).mono ?_; rintro e w4 ⟨rfl, rfl⟩)
      | (go_at_call 36; refine (R36.out _ (HR.out.below (by repeat (first | (with_reducible first | exact HB.out | apply below_alloc | apply pw_below_drewN | apply below_drew1) | exact HB.out)))).mono ?_; rintro e w3 ⟨A3, c3, rfl, h3c, h3k, h3g, hb⟩; have n0_ := Aside0.mk (below_step (by repeat (first | (with_reducible first | exact HB.out | apply below_alloc | apply pw_below_drewN | apply below_drew1) | exact HB.out)) hb); clear HB h3k h3c h3g hb; have HB := n0_; clear n0_))
    go_ret
    exact ⟨rfl, by repeat (first | exact HB.out | apply below_alloc | apply pw_below_drewN | apply below_drew1)⟩
  · have hs := hB.fine.small
    have hjs := joinP_size hs x.P.length
    have T28 := Aside0.mk (fun W (b : At W a p h x) => text_full b h0 (by omega) (by rw [← joinP_all]; omega))
    have A52 := Aside0.mk (fun W (r : RAt W ra rb x) => all_calls r hs (by omega))
    rw [joinP_all] at A52
    generalize joinAll x.P = z at T28 A52
    generalize missN x.H (n : Int) n = L at hcnt R36
    generalize L.length = q at hcnt R36
    have t1 : decide (0 < (q : Int)) = false := decide_eq_false (by omega)
    have t1n : decide (0 < q) = false := decide_eq_false (by omega)
    have t2 : (z.toList == z.toList) = true := by simp
    clear hB lp hcnt hleft hn h0 hs hjs
    go_enter Try.func35, Try.ntmps35
    go_wp2_with (first
      | (go_at_call 28; refine (T28.out _ (At.below HX.out (by repeat (first | (with_reducible first | exact HB.out | apply below_alloc | apply pw_below_drewN | apply below_drew1) | exact HB.out)))).mono ?_; rintro e w4 ⟨rfl, hb⟩; have n0_ := Aside0.mk (below_step (by repeat (first | (with_reducible first | exact HB.out | apply below_alloc | apply pw_below_drewN | apply below_drew1) | exact HB.out)) hb); clear HB hb; have HB := n0_; clear n0_)
      | (go_at_call 36; refine (R36.out _ (HR.out.below (by repeat (first | (with_reducible first | exact HB.out | apply below_alloc | apply pw_below_drewN | apply below_drew1) | exact HB.out)))).mono ?_; rintro e w3 ⟨A3, c3, rfl, h3c, h3k, h3g, hb⟩; have n0_ := Aside0.mk (below_step (by repeat (first | (with_reducible first | exact HB.out | apply below_alloc | apply pw_below_drewN | apply below_drew1) | exact HB.out)) hb); clear HB h3k h3c h3g hb; have HB := n0_; clear n0_)
      | (go_at_call 52; refine (A52.out _ (HR.out.below (by repeat (first | (with_reducible first | exact HB.out | apply below_alloc | apply pw_below_drewN | apply below_drew1) | exact HB.out)))).mono ?_; rintro e w5 ⟨rfl, rfl⟩))
    go_ret
    exact ⟨rfl, by repeat (first | exact HB.out | apply below_alloc | apply pw_below_drewN | apply below_drew1)⟩

/-! ### Clear -/

theorem RAt.wipe {w : World} {a b : Nat} {P : List ByteArray} {H : List Bool} {l' b' : Int} (r : RAt w a b ⟨P, H, l', b'⟩) {i : Nat} (hi : i < P.length) (l2 b2 : Int) :
    RAt ((w.setCell ⟨b, i * 2, none⟩ (.bool false)).setCell ⟨b, i * 2 + 1, none⟩ (.string ByteArray.empty)) a b ⟨P.set i ByteArray.empty, H.set i false, l2, b2⟩ := by
  have hlen : H.length = P.length := r.len
  refine ⟨?_, ?_, by simp [hlen], r.ab⟩
  · refine (Below.heap_setCell _ ⟨b, i * 2 + 1, none⟩ (.string ByteArray.empty) a r.ab).trans ((Below.heap_setCell _ ⟨b, i * 2, none⟩ (.bool false) a r.ab).trans ?_)
    rw [r.box]
    simp
  · have e1 := Go.Joins.block_setCell (i := i * 2) r.cells (.bool false)
    have e2 := Go.Joins.block_setCell (i := i * 2 + 1) e1 (.string ByteArray.empty)
    rw [e2, List.setIfInBounds_toArray, List.setIfInBounds_toArray, mix_set P H i false ByteArray.empty hlen hi]

/-- A list of which the first j elements are z. -/
def wiped {α : Type} (z : α) (l : List α) (j : Nat) : List α := List.replicate j z ++ l.drop j

theorem wiped_set {α : Type} (z : α) (l : List α) (j : Nat) (h : j < l.length) : (wiped z l j).set j z = wiped z l (j + 1) := by
  unfold wiped
  rw [List.set_append_right _ _ (by simp)]
  rw [List.length_replicate, Nat.sub_self, List.drop_eq_getElem_cons h, List.set_cons_zero, List.replicate_succ']
  simp

theorem wiped_length {α : Type} (z : α) (l : List α) (j : Nat) (h : j ≤ l.length) : (wiped z l j).length = l.length := by
  unfold wiped
  rw [List.length_append, List.length_replicate, List.length_drop]
  omega

theorem wiped_all {α : Type} (z : α) (l : List α) : wiped z l l.length = List.replicate l.length z := by
  unfold wiped
  rw [List.drop_length, List.append_nil]

set_option maxRecDepth 100000 in
set_option maxHeartbeats 4000000 in
theorem clear_walk {w : World} {a p h ra rb n : Nat} {x : Bx} (hB : Both w a p h ra rb n x) (hn0 : 1 ≤ n) (hn : n ≤ 60) (K M at_ of_ : Int) (txt : ByteArray) (hk0 : K ≠ 0) (hk1 : K ≠ 1) (hk2 : K ≠ 2) :
    Calls Try.prog 35 #[.pointer (some ⟨a, 0, none⟩), .pointer (some ⟨ra, 0, none⟩), .agg #[.int .i64 K, .int .i64 M, .int .i64 at_, .int .i64 of_, .string txt]] w
      fun e w' => e = .returned (.bool true) ∧ Both w' a p h ra rb n (Bx.fresh n) ∧ Only (Four a p h rb) w w' := by
  have lp := hB.fine.lp
  have lh := hB.fine.lh
  have t0 : (K == 0) = false := beq_eq_false_iff_ne.mpr hk0
  have t1 : (K == 1) = false := beq_eq_false_iff_ne.mpr hk1
  have t2 : (K == 2) = false := beq_eq_false_iff_ne.mpr hk2
  have C29 := Aside0.mk (fun W (b : At W a p h x) => clear_calls b (by omega))
  rw [lp] at C29
  obtain ⟨w1, hw1⟩ : ∃ w1, w1 = w.alloc (.cells #[.int .i64 K, .int .i64 M, .int .i64 at_, .int .i64 of_, .string txt] 55) := ⟨_, rfl⟩
  have HS := Aside0.mk (St.begin hB (.int .i64 K) (.int .i64 M) at_ of_ txt)
  rw [← hw1] at HS
  have HW1 := Aside0.mk hw1
  have HF := Aside0.mk (fine_fresh n)
  have HLP := Aside0.mk lp
  have HLH := Aside0.mk lh
  have HN := Aside0.mk hn
  clear hB hk0 hk1 hk2 lp lh hw1 hn hn0
  go_enter Try.func35, Try.ntmps35
  go_wp2_with (first
    | (go_at_call 29; rw [← HW1.out]; refine (C29.out _ HS.out.b).mono ?_; rintro e w3 ⟨rfl, hx, ho⟩; have n_ := Aside0.mk (HS.out.put hx ho); clear HS hx ho; have HS := n_; clear n_))
  go_loopg [10] n (fun kq v10 w' => ∃ j : Nat, v10 = .int .i64 (j : Int) ∧ Aside0 (j + kq = n) ∧ Aside0 (St w w' a p h ra rb w.heap.size at_ of_ txt (Bx.fresh n) ⟨wiped ByteArray.empty x.P j, wiped false x.H j, 0, 0⟩))
  case atStart => exact ⟨0, rfl, ⟨by omega⟩, ⟨by
    have s := HS.out
    exact ⟨s.b, ⟨s.r.box, s.r.cells, s.r.len, s.r.ab⟩, s.c, s.o, s.k0, s.d1, s.d2⟩⟩⟩
  case round =>
    clear HS
    obtain ⟨j, rfl, HK, HS⟩ := hrel
    have hjn : j ≤ n := by have := HK.out; omega
    have hl1 : (wiped ByteArray.empty x.P j).length = n := by rw [wiped_length _ _ _ (by rw [HLP.out]; exact hjn)]; exact HLP.out
    have c0 := HS.out.r.c0
    dsimp only at c0
    rw [hl1] at c0
    by_cases hj : j < n
    · obtain ⟨k1, rfl⟩ : ∃ k1, gk = k1 + 1 := ⟨gk - 1, by have := HK.out; omega⟩
      have ch := HS.out.r.ch j (by show j < (wiped ByteArray.empty x.P j).length; omega)
      have cp := HS.out.r.cp j (by show j < (wiped ByteArray.empty x.P j).length; omega)
      have f0 := HS.out.r.fr (j * 2)
      have f1 := HS.out.r.fr (j * 2 + 1)
      have d0 : decide ((j : Int) < (n : Int)) = true := decide_eq_true (by omega)
      have d0n : decide (j < n) = true := decide_eq_true hj
      have d1 : ((j : Int) < (n : Int)) = True := eq_true (by omega)
      have d1n : (j < n) = True := eq_true hj
      have d2 : (0 ≤ (j : Int)) = True := eq_true (by omega)
      have d3 : IntKind.i64.wrap ((j : Int) + 1) = ((j + 1 : Nat) : Int) := by rw [IntKind.wrap_i64]; have := HN.out; omega
      have HJ := Aside0.mk hj
      have HL1 := Aside0.mk hl1
      clear hj hjn hl1
      go_wp2
      go_roundg k1
      case measure => omega
      case rel =>
        have e1 : (wiped ByteArray.empty x.P j).set j ByteArray.empty = wiped ByteArray.empty x.P (j + 1) := wiped_set _ _ _ (by have := HLP.out; have := HJ.out; omega)
        have e2 : (wiped false x.H j).set j false = wiped false x.H (j + 1) := wiped_set _ _ _ (by have := HLH.out; have := HJ.out; omega)
        have r2 := RAt.wipe (i := j) HS.out.r (by rw [HL1.out]; exact HJ.out) 0 0
        rw [e1, e2] at r2
        exact ⟨j + 1, rfl, ⟨by have := HK.out; omega⟩, ⟨HS.out.rput r2 (Only.setCell (S := fun k => k = rb) (Only.setCell (S := fun k => k = rb) ⟨rfl, rfl, rfl, Nat.le_refl _, fun _ _ _ => rfl⟩ (Or.inl rfl) _) (Or.inl rfl) _)⟩⟩
    · obtain rfl : j = n := by omega
      have d0 : decide ((j : Int) < (j : Int)) = false := decide_eq_false (by omega)
      clear hj hjn
      go_wp2
      go_ret
      have s := HS.out
      have e1 : wiped ByteArray.empty x.P j = List.replicate j ByteArray.empty := by
        have := wiped_all ByteArray.empty x.P
        rwa [HLP.out] at this
      have e2 : wiped false x.H j = List.replicate j false := by
        have := wiped_all false x.H
        rwa [HLH.out] at this
      refine ⟨rfl, ⟨s.b, ?_, HF.out, s.d1, s.d2⟩, s.o⟩
      have r := s.r
      rw [e1, e2] at r
      exact ⟨r.box, r.cells, r.len, r.ab⟩

end Go.Proofs.YtdomngcedflapaaW.Ref
