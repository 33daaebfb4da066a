/- The walk of step where the call is Missing. -/
import Derived.Test.YtdomngcedflapaaStepP
import Derived.Test.YtdomngcedflapaaPChunkx28
namespace Go.Proofs.YtdomngcedflapaaW.Ref
open Go.RowKit Go.Proofs.Ytdomngcedflapaa Go.Proofs.YtdomngcedflapaaW.PrintWords Go.Proofs.YtdomngcedflapaaW.PrintLast Go.Proofs.YtdomngcedflapaaW.PrintMore
open Go.Proofs.YtdomngcedflapaaW.Box Go.Proofs.YtdomngcedflapaaW.BackP Go.Proofs.YtdomngcedflapaaW.Mine Go.Proofs.YtdomngcedflapaaW.Crc

theorem below_drawn {B : Nat} {w w1 w2 : World} (h : Below B w w1) (hd : Drawn0 w1 w2) : Below B w w2 := by
  obtain ⟨m, rfl⟩ := hd
  exact pw_below_drewN h _

theorem ints_l0 (l : List Int) (hl : l.length ≤ 1000000000) (d : Nat) : ∀ i : Nat, i ≤ l.length → l.length - i = d → Ev (fun k => PChunk.barqueref12_Ints.l0 k l l (i : Int)) true := by
  induction d with
  | zero =>
    intro i hi hd
    refine Ev.step (f := fun _ => some true) (fun k => ?_) (Ev.now _)
    simp only [PChunk.barqueref12_Ints.l0]
    rw [if_neg (by omega)]
  | succ d ih =>
    intro i hi hd
    refine Ev.step (f := fun k => PChunk.barqueref12_Ints.l0 k l l ((i + 1 : Nat) : Int)) (fun k => ?_) (ih (i + 1) (by omega) (by omega))
    have e1 : wrap64 ((i : Int) + 1) = ((i + 1 : Nat) : Int) := by rw [Cut.wrap64_id (by omega) (by omega)]; rfl
    simp only [PChunk.barqueref12_Ints.l0]
    rw [if_pos (by omega), if_pos (by omega), if_pos (by omega), if_pos trivial, e1]

theorem ints_same (l : List Int) (hl : l.length ≤ 1000000000) : Ev (fun k => PChunk.barqueref12_Ints.f k l l) true := by
  unfold PChunk.barqueref12_Ints.f
  refine evPos rfl ?_
  exact ints_l0 l hl l.length 0 (by omega) (by omega)

theorem ints_calls (l : List Int) (hl : l.length ≤ 1000000000) (W : World) (A0 : Option Addr) (c0 : Nat) (A1 : Option Addr) (c1 : Nat) (h0 : Kd.C (Kd.int .i64) W A0 l.length l) (hc0 : l.length ≤ c0) (h1 : Kd.C (Kd.int .i64) W A1 l.length l) (hc1 : l.length ≤ c1) :
    Calls Try.prog 51 #[.slice A0 l.length c0, .slice A1 l.length c1] W fun e w' => e = .returned (.bool true) ∧ Below W.heap.size W w' := by
  obtain ⟨k, hk⟩ := Ev.rounds (ints_same l hl)
  refine (PChunk.barqueref12_Ints.calls k A0 c0 l A1 c1 l true W h0 hc0 h1 hc1 hk).mono ?_
  rintro e w' ⟨rfl, hd⟩
  exact ⟨rfl, below_drawn (Below.refl _ W) hd⟩

theorem slice_form {w' : World} {base : Nat} {ok : Nat → Prop} {v : Value} {l : List Int} (hr : Kd.R (Kd.int .i64) 3 w' base ok v l) : ∃ A c, v = .slice A l.length c ∧ l.length ≤ c ∧ Kd.C (Kd.int .i64) w' A l.length l ∧ (0 < l.length → ∃ g, A = some ⟨g, 0, none⟩) := by
  obtain ⟨A, c, rfl⟩ := Kd.R_slice hr
  have h := Kd.R_reads' hr
  refine ⟨A, c, rfl, h.2.1, h.2.2, fun h0 => ?_⟩
  obtain ⟨_, inner, ho, _⟩ := hr
  rcases ho.2 with ⟨e1, e2⟩ | ⟨g, cap, cur, e1, _⟩
  · omega
  · injection e1 with e1 e2 e3
    exact ⟨g, e1⟩

theorem rmiss_at {w : World} {a b : Nat} {x : Bx} (r : RAt w a b x) (hm : x.P.length ≤ 60) :
    Calls Try.prog 36 #[.pointer (some ⟨a, 0, none⟩)] w fun e w' => ∃ A c, e = .returned (.slice A (missN x.H (x.P.length : Int) x.P.length).length c) ∧ (missN x.H (x.P.length : Int) x.P.length).length ≤ c ∧
      Kd.C (Kd.int .i64) w' A (missN x.H (x.P.length : Int) x.P.length).length (missN x.H (x.P.length : Int) x.P.length) ∧ (0 < (missN x.H (x.P.length : Int) x.P.length).length → ∃ g, A = some ⟨g, 0, none⟩) ∧ Below w.heap.size w w' := by
  refine (rmiss_calls r hm).mono ?_
  rintro e w' ⟨v, rfl, hr, hb⟩
  obtain ⟨A, c, rfl, h1, h2, h3⟩ := slice_form hr
  exact ⟨A, c, rfl, h1, h2, h3, hb⟩

theorem bmiss_at {w : World} {a p h : Nat} {x : Bx} (b : At w a p h x) (hm : x.P.length ≤ 4096) (most : Int) :
    Calls Try.prog 33 #[.pointer (some ⟨a, 0, none⟩), .int .i64 most] w fun e w' => ∃ A c, e = .returned (.slice A (missN x.H most x.P.length).length c) ∧ (missN x.H most x.P.length).length ≤ c ∧
      Kd.C (Kd.int .i64) w' A (missN x.H most x.P.length).length (missN x.H most x.P.length) ∧ (0 < (missN x.H most x.P.length).length → ∃ g, A = some ⟨g, 0, none⟩) ∧ Below w.heap.size w w' := by
  refine (missing_calls b hm most).mono ?_
  rintro e w' ⟨v, rfl, hr, hb⟩
  obtain ⟨A, c, rfl, h1, h2, h3⟩ := slice_form hr
  exact ⟨A, c, rfl, h1, h2, h3, hb⟩

set_option maxRecDepth 100000 in
set_option maxHeartbeats 4000000 in
theorem miss_walk {w : World} {a p h ra rb n : Nat} {x : Bx} (hB : Both w a p h ra rb n x) (hn : n ≤ 60) (M at_ of_ : Int) (txt : ByteArray) :
    Calls Try.prog 35 #[.pointer (some ⟨a, 0, none⟩), .pointer (some ⟨ra, 0, none⟩), .agg #[.int .i64 1, .int .i64 M, .int .i64 at_, .int .i64 of_, .string txt]] w
      fun e w' => e = .returned (.bool true) ∧ Below w.heap.size w w' := by
  have HB := Aside0.mk (Below.refl w.heap.size w)
  have HX := Aside0.mk hB.b
  have HR := Aside0.mk hB.r
  have lp := hB.fine.lp
  have HN : Aside0 (∀ w3, Below (w.alloc (.cells #[.int .i64 1, .int .i64 M, .int .i64 at_, .int .i64 of_, .string txt] 55)).heap.size (w.alloc (.cells #[.int .i64 1, .int .i64 M, .int .i64 at_, .int .i64 of_, .string txt] 55)) w3 → w3.cell? ⟨w.heap.size, 1, none⟩ = some (.int .i64 M)) :=
    ⟨fun w3 hb => cell_keep hb (World.cell?_alloc_mark w _ _ _ 1)⟩
  have htake := missN_take x.H M (n : Int) n (Int.le_refl _)
  have hll := missN_length x.H (n : Int) n
  have hml := missN_length x.H M n
  have R36 := Aside0.mk (fun W (r : RAt W ra rb x) => rmiss_at r (by rw [lp]; exact hn))
  have M33 := Aside0.mk (fun W (b : At W a p h x) => bmiss_at b (by rw [lp]; omega) M)
  rw [lp] at R36 M33
  generalize missN x.H (n : Int) n = L at htake hll R36
  generalize missN x.H M n = l at htake hml M33
  have I51 := Aside0.mk (fun W A0 c0 A1 c1 h0 hc0 h1 hc1 => ints_calls l (by omega) W A0 c0 A1 c1 h0 hc0 h1 hc1)
  clear hB lp
  by_cases h1 : M < (L.length : Int)
  · have t1 : decide (M < (L.length : Int)) = true := decide_eq_true h1
    by_cases h2 : M < 0
    · have t2 : decide (M < 0) = true := decide_eq_true h2
      have e : l = [] := by rw [htake, show M.toNat = 0 by omega, List.take_zero]
      subst e
      have HE := Aside0.mk (fun W => (Kd.R_reads' (Kd.R_nil (Kd.int .i64) 3 W 0 (fun _ => True))).2.2)
      dsimp only [List.length_nil] at M33 I51 HE
      clear htake hll hml hn h1 h2
      go_enter Try.func35, Try.ntmps35
      go_wp2_with (first
        | (go_at_call 36; refine (R36.out _ (HR.out.below (by repeat (first | (with_reducible first | exact HB.out | apply below_alloc | apply pw_below_drewN | apply below_drew1) | exact HB.out)))).mono ?_; rintro e w3 ⟨A3, c3, rfl, h3c, h3k, h3g, hb⟩; have cN := HN.out _ hb;  have HK1 := Aside0.mk h3k; have HC1 := Aside0.mk h3c; have n0_ := Aside0.mk (below_step (by repeat (first | (with_reducible first | exact HB.out | apply below_alloc | apply pw_below_drewN | apply below_drew1) | exact HB.out)) hb); clear HB h3k h3c hb; have HB := n0_; clear n0_)
        | (go_at_call 33; refine (M33.out _ (At.below HX.out (by repeat (first | (with_reducible first | exact HB.out | apply below_alloc | apply pw_below_drewN | apply below_drew1) | exact HB.out)))).mono ?_; rintro e w4 ⟨A4, c4, rfl, h4c, h4k, _, hb⟩;  have HK0 := Aside0.mk h4k; have HC0 := Aside0.mk h4c; have n0_ := Aside0.mk (below_step (by repeat (first | (with_reducible first | exact HB.out | apply below_alloc | apply pw_below_drewN | apply below_drew1) | exact HB.out)) hb); clear HB h4k h4c hb; have HB := n0_; clear n0_)
        | (go_at_call 51; refine (I51.out _ _ _ _ _ HK0.out HC0.out (HE.out _) (Nat.le_refl _)).mono ?_; rintro e w5 ⟨rfl, hb⟩; have n0_ := Aside0.mk (below_step (by repeat (first | (with_reducible first | exact HB.out | apply below_alloc | apply pw_below_drewN | apply below_drew1) | exact HB.out)) hb); clear HB hb; have HB := n0_; clear n0_))
      go_ret
      exact ⟨rfl, HB.out⟩
    · have t2 : decide (M < 0) = false := decide_eq_false h2
      obtain ⟨k, rfl⟩ : ∃ k : Nat, M = (k : Int) := ⟨M.toNat, by omega⟩
      rw [Int.toNat_natCast] at htake
      have hk : k < L.length := by omega
      have hkl : l.length = k := by rw [htake, List.length_take]; omega
      have HT : Aside0 (∀ W A, Kd.C (Kd.int .i64) W A L.length L → Kd.C (Kd.int .i64) W A k l) := ⟨fun W A hc => by
        have := Kd.C_take hc (m := k) (by omega)
        rw [← htake, hkl] at this
        exact this⟩
      rw [hkl] at M33 I51
      have t1n : decide (k < L.length) = true := decide_eq_true hk
      have t3 : (0 ≤ (k : Int)) = True := eq_true (by omega)
      have HKL := Aside0.mk hk
      clear htake hll hml hn h1 h2 hkl hk
      go_enter Try.func35, Try.ntmps35
      go_wp2_with (first
        | (go_at_call 36; refine (R36.out _ (HR.out.below (by repeat (first | (with_reducible first | exact HB.out | apply below_alloc | apply pw_below_drewN | apply below_drew1) | exact HB.out)))).mono ?_; rintro e w3 ⟨A3, c3, rfl, h3c, h3k, h3g, hb⟩; have cN := HN.out _ hb; obtain ⟨g3, hg3⟩ := h3g (by have := HKL.out; omega); subst hg3; have t5 : ((k : Int) ≤ (c3 : Int)) = True := eq_true (by have := HKL.out; omega); have t5n : (k ≤ c3) = True := eq_true (by have := HKL.out; omega); have HK1 := Aside0.mk h3k; have HC1 := Aside0.mk h3c; have n0_ := Aside0.mk (below_step (by repeat (first | (with_reducible first | exact HB.out | apply below_alloc | apply pw_below_drewN | apply below_drew1) | exact HB.out)) hb); clear HB h3k h3c hb; have HB := n0_; clear n0_)
        | (go_at_call 33; refine (M33.out _ (At.below HX.out (by repeat (first | (with_reducible first | exact HB.out | apply below_alloc | apply pw_below_drewN | apply below_drew1) | exact HB.out)))).mono ?_; rintro e w4 ⟨A4, c4, rfl, h4c, h4k, _, hb⟩; have n1_ := Aside0.mk (Kd.C_below HK1.out hb); clear HK1; have HK1 := n1_; clear n1_; have HK0 := Aside0.mk h4k; have HC0 := Aside0.mk h4c; have n0_ := Aside0.mk (below_step (by repeat (first | (with_reducible first | exact HB.out | apply below_alloc | apply pw_below_drewN | apply below_drew1) | exact HB.out)) hb); clear HB h4k h4c hb; have HB := n0_; clear n0_)
        | (go_at_call 51; refine (I51.out _ _ _ _ _ HK0.out HC0.out (HT.out _ _ HK1.out) (by have := HC1.out; have := HKL.out; omega)).mono ?_; rintro e w5 ⟨rfl, hb⟩; have n0_ := Aside0.mk (below_step (by repeat (first | (with_reducible first | exact HB.out | apply below_alloc | apply pw_below_drewN | apply below_drew1) | exact HB.out)) hb); clear HB hb; have HB := n0_; clear n0_))
      go_ret
      exact ⟨rfl, HB.out⟩
  · have t1 : decide (M < (L.length : Int)) = false := decide_eq_false h1
    have e : l = L := by rw [htake, List.take_of_length_le (by omega)]
    subst e
    clear htake hll hml hn h1
    go_enter Try.func35, Try.ntmps35
    go_wp2_with (first
      | (go_at_call 36; refine (R36.out _ (HR.out.below (by repeat (first | (with_reducible first | exact HB.out | apply below_alloc | apply pw_below_drewN | apply below_drew1) | exact HB.out)))).mono ?_; rintro e w3 ⟨A3, c3, rfl, h3c, h3k, h3g, hb⟩; have cN := HN.out _ hb;  have HK1 := Aside0.mk h3k; have HC1 := Aside0.mk h3c; have n0_ := Aside0.mk (below_step (by repeat (first | (with_reducible first | exact HB.out | apply below_alloc | apply pw_below_drewN | apply below_drew1) | exact HB.out)) hb); clear HB h3k h3c hb; have HB := n0_; clear n0_)
      | (go_at_call 33; refine (M33.out _ (At.below HX.out (by repeat (first | (with_reducible first | exact HB.out | apply below_alloc | apply pw_below_drewN | apply below_drew1) | exact HB.out)))).mono ?_; rintro e w4 ⟨A4, c4, rfl, h4c, h4k, _, hb⟩; have n1_ := Aside0.mk (Kd.C_below HK1.out hb); clear HK1; have HK1 := n1_; clear n1_; have HK0 := Aside0.mk h4k; have HC0 := Aside0.mk h4c; have n0_ := Aside0.mk (below_step (by repeat (first | (with_reducible first | exact HB.out | apply below_alloc | apply pw_below_drewN | apply below_drew1) | exact HB.out)) hb); clear HB h4k h4c hb; have HB := n0_; clear n0_)
      | (go_at_call 51; refine (I51.out _ _ _ _ _ HK0.out HC0.out HK1.out HC1.out).mono ?_; rintro e w5 ⟨rfl, hb⟩; have n0_ := Aside0.mk (below_step (by repeat (first | (with_reducible first | exact HB.out | apply below_alloc | apply pw_below_drewN | apply below_drew1) | exact HB.out)) hb); clear HB hb; have HB := n0_; clear n0_))
    go_ret
    exact ⟨rfl, HB.out⟩

end Go.Proofs.YtdomngcedflapaaW.Ref
