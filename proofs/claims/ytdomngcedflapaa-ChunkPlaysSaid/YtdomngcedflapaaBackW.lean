/- The walk of ChunkBack. -/
import Derived.Test.YtdomngcedflapaaBackC
import Derived.Deep.CutBlock
namespace Go.Proofs.YtdomngcedflapaaW.BackP
open Go.RowKit Go.Proofs.Ytdomngcedflapaa Go.Proofs.YtdomngcedflapaaW.PrintWords Go.Proofs.YtdomngcedflapaaW.PrintLast Go.Proofs.YtdomngcedflapaaW.PrintMore
open Go.Proofs.YtdomngcedflapaaW.Mine Go.Proofs.YtdomngcedflapaaW.Box Go.Proofs.YtdomngcedflapaaW.Zero Go.Proofs.YtdomngcedflapaaW.Other

/-- The order that came in, in memory. -/
def OrdAt (w : World) (A : Option Addr) (len : Nat) (ord : List Int) : Prop :=
  ord.length = len ∧ ∀ i, i < len → ∃ ad, A = some ad ∧ ∀ w', Below w.heap.size w w' → ∀ j, j < len → w'.cell? (ad.add j) = some (.int .i64 (ord.getD j 0))

theorem only_refl (S : Nat → Prop) (w : World) : Only S w w := ⟨rfl, rfl, rfl, Nat.le_refl _, fun _ _ _ => rfl⟩

theorem only_cell {S : Nat → Prop} {w w' : World} (h : Only S w w') {g j : Nat} {v : Value} (hc : w.cell? ⟨g, j, none⟩ = some v) (hS : ¬ S g) : w'.cell? ⟨g, j, none⟩ = some v :=
  (World.cell?_of_block (h.block _ (World.block_lt_of_cell? w _ hc) hS)).trans hc

theorem mem_take_succ {m : List Int} {k : Nat} {v : Int} (h : v ∈ m.take (k + 1)) : v ∈ m.take k ∨ v = m.getD k 0 := by
  rw [List.take_add_one] at h
  rcases List.mem_append.1 h with h | h
  · exact Or.inl h
  · right
    cases e : m[k]? with
    | none => rw [e] at h; simp at h
    | some u => rw [e] at h; simp at h; simp [List.getD, e, h]

/-- Missing, its answer in none of the box's blocks. -/
theorem miss_at2 {w : World} {a p h : Nat} {x : Bx} (b0 : At w a p h x) (hm : x.P.length ≤ 4096) (most : Int) :
    Calls Try.prog 33 #[.pointer (some ⟨a, 0, none⟩), .int .i64 most] w fun e w' => ∃ A c, e = .returned (.slice A (missN x.H most x.P.length).length c) ∧
      (∀ i, i < (missN x.H most x.P.length).length → ∃ g, A = some ⟨g, 0, none⟩ ∧ ¬ Three a p h g ∧ ∀ j, j < (missN x.H most x.P.length).length → w'.cell? ⟨g, j, none⟩ = some (.int .i64 ((missN x.H most x.P.length).getD j 0))) ∧ Below w.heap.size w w' := by
  refine (miss_at b0 hm most).mono ?_
  rintro e w' ⟨A, c, rfl, h1, hb⟩
  refine ⟨A, c, rfl, fun i hi => ?_, hb⟩
  obtain ⟨g, e1, hg, _, h2⟩ := h1 i hi
  have la := heap_lt b0.box
  have lp := heap_lt b0.parts
  have lh := heap_lt b0.has
  exact ⟨g, e1, fun hk => by rcases hk with rfl | rfl | rfl <;> omega, h2⟩

theorem low {B B' : Nat} {a b : World} (h : B ≤ B') (k : Below B' a b) : Below B a b := ⟨k.os, k.tape, k.output, k.size, fun i hi => k.block i (by omega)⟩

set_option maxRecDepth 100000 in
set_option maxHeartbeats 4000000 in
theorem law (s : ByteArray) (a : Int) (A : Option Addr) (len cap : Nat) (ord : List Int) (w : World) (ha : a ≤ 9223372036854775807) (hord : OrdAt w A len ord) :
    Calls Try.prog 18 #[.string s, .int .i64 a, .slice A len cap] w fun e w' => e = .returned (.bool true) ∧ Below w.heap.size w w' := by
  have HB := Aside0.mk (Below.refl w.heap.size w)
  have HORD := Aside0.mk hord
  clear hord
  go_enter Try.func18, Try.ntmps18
  go_upto_if 18 with (fail)
  go_cut [0] (fun v0 wc => ∃ s' : ByteArray, v0 = .string s' ∧ Aside0 (s'.size ≤ 20000) ∧ Aside0 (Below w.heap.size w wc))
  case first =>
    by_cases c3 : (s.size : Int) > 20000
    · have c3b0 : decide (20000 < (s.size : Int)) = true := decide_eq_true c3
      have c3b1 : decide (20000 < s.size) = true := decide_eq_true (by omega)
      have c5b0 : (20000 ≤ (s.size : Int)) = True := eq_true (by omega)
      (first | rw [c3b0] | (simp only [i64_w, i32_w]; rw [c3b0]) | skip)
      go_wp2
      go_meet
      case rel => exact ⟨s.extract 0 20000, (by first | rfl | (simp; done) | (simp [*]; done)), ⟨by rw [ByteArray.size_extract]; omega⟩, HB⟩
    · have c3b0 : decide (20000 < (s.size : Int)) = false := decide_eq_false c3
      have c3b1 : decide (20000 < s.size) = false := decide_eq_false (by omega)
      (first | rw [c3b0] | (simp only [i64_w, i32_w]; rw [c3b0]) | skip)
      go_wp2
      go_meet
      case rel => exact ⟨s, rfl, ⟨by omega⟩, HB⟩
  case rest =>
    clear HB
    obtain ⟨s', rfl, HS', HB⟩ := hcut
    by_cases h0 : (Cut.cutS s' a).2 = 0
    · by_cases h5 : 500 < (Cut.cutS s' a).1.length
      · -- too many
        have HC := Aside0.mk (fun W => cut_calls s' a ha W)
        generalize (Cut.cutS s' a).2 = e2 at h0 HC
        generalize (Cut.cutS s' a).1 = l at h5 HC
        subst h0
        generalize l.length = nn at h5 HC
        have d0 : decide (500 < (nn : Int)) = true := decide_eq_true (by omega)
        have d1 : decide (500 < nn) = true := decide_eq_true (by omega)
        clear h5
        go_wp2_with (first
          | (go_at_call 24; refine (HC.out _).mono ?_; rintro e w3 ⟨A3, c3, rfl, hr, hb⟩; clear hr; have n0_ := Aside0.mk (below_step (by repeat (first | (with_reducible first | exact HB.out | apply below_alloc | apply pw_below_drewN | apply below_drew1) | exact HB.out)) hb); clear HB; have HB := n0_; clear n0_ hb)
          | (go_at_call 27; refine (awake_calls _).mono ?_; rintro e w5 ⟨rfl, hb⟩; have n0_ := Aside0.mk (below_step (by repeat (first | (with_reducible first | exact HB.out | apply below_alloc | apply pw_below_drewN | apply below_drew1) | exact HB.out)) hb); clear HB; have HB := n0_; clear n0_ hb))
        go_ret
        exact ⟨rfl, HB.out⟩
      · have hsz : Cut.cutS s' a = (Cut.parts s' a.toNat, 0) ∧ 1 ≤ a ∧ Cut.many s'.size a.toNat ≤ 4096 := by
          unfold Cut.cutS at h0 ⊢
          by_cases q1 : a < 1
          · rw [if_pos q1] at h0; exact absurd h0 (by decide)
          rw [if_neg q1] at h0 ⊢
          by_cases q2 : s'.size > 524288
          · rw [if_pos q2] at h0; exact absurd h0 (by decide)
          rw [if_neg q2] at h0 ⊢
          by_cases q3 : Cut.many s'.size a.toNat > 4096
          · rw [if_pos q3] at h0; exact absurd h0 (by decide)
          rw [if_neg q3]
          exact ⟨rfl, by omega, by omega⟩
        obtain ⟨hc, ha1, hm4⟩ := hsz
        rw [hc] at h5
        have h5' : ¬ 500 < Cut.many s'.size a.toNat := by rw [← Cut.parts_length]; exact h5
        clear h5 hc h0
        obtain ⟨sz, rfl⟩ : ∃ sz : Nat, a = (sz : Int) := ⟨a.toNat, by omega⟩
        rw [Int.toNat_natCast] at h5' hm4
        have hn1 := Cut.many_pos s'.size sz
        have HJ := Aside0.mk (join_parts s' sz (by omega))
        have htot := tot_part s' sz (Cut.many s'.size sz)
        obtain ⟨n, hn⟩ : ∃ n, Cut.many s'.size sz = n := ⟨_, rfl⟩
        have HCT := Aside0.mk (fun W => cut_at s' sz n (by omega) (by omega) (by have := HS'.out; omega) hn (by omega) W)
        rw [hn] at htot hn1 HJ h5'
        obtain ⟨f, hf⟩ : ∃ f : Nat → ByteArray, Cut.part s' sz = f := ⟨_, rfl⟩
        rw [hf] at HCT HJ htot
        have ht' : tot f n ≤ 524288 := by have := HS'.out; rw [htot]; omega
        have HT := Aside0.mk ht'
        have HN1 := Aside0.mk hn1
        have HN2 := Aside0.mk h5'
        have HNW := Aside0.mk (fun W => fresh_calls n W hn1 (by omega))
        have e0 : decide (500 < (n : Int)) = false := decide_eq_false (by omega)
        have e0n : decide (500 < n) = false := decide_eq_false (by omega)
        have e1 : ((n : Int) == 0) = false := beq_eq_false_iff_ne.mpr (by omega)
        have e1n : (n == 0) = false := beq_eq_false_iff_ne.mpr (by omega)
        have e2 : ((0 : Int) < (n : Int)) = True := eq_true (by omega)
        have e2n : (0 < n) = True := eq_true (by omega)
        clear hn htot ht' hn1 h5' hm4 hf ha1 ha
        go_upto_block 0 with (first
          | (go_at_call 24; refine (HCT.out _).mono ?_; rintro e w3 ⟨g3, c3, rfl, hp3, hb⟩; have HP := Aside0.mk hp3; have HW := Aside0.mk (below_step (by repeat (first | (with_reducible first | exact HB.out | apply below_alloc | apply pw_below_drewN | apply below_drew1) | exact HB.out)) hb); clear HB; have HB := Aside0.mk (Below.refl w3.heap.size w3); have cof := (hp3 0 (by have := HN1.out; omega)).2.1; simp only [Nat.zero_mul, Nat.zero_add] at cof; clear hb hp3)
          | (go_at_call 34; refine (HNW.out _).mono ?_; rintro e w4 ⟨a4, p4, h4, rfl, hx4, hs4, hb⟩; have n0_ := Aside0.mk (below_step (by repeat (first | (with_reducible first | exact HB.out | apply below_alloc | apply pw_below_drewN | apply below_drew1) | exact HB.out)) hb); have HX := Aside0.mk hx4; have HS := Aside0.mk (three_ge hs4 (below_size (by repeat (first | (with_reducible first | exact HB.out | apply below_alloc | apply pw_below_drewN | apply below_drew1) | exact HB.out)))); clear HB hx4 hs4 cof; have HB := n0_; clear n0_ hb))
        go_cut [] (fun wc2 => ∃ x : Bx, Aside0 (Good f n x) ∧ Aside0 (At wc2 a4 p4 h4 x) ∧ Aside0 (Below w3.heap.size w3 wc2))
        case first =>
          go_wp2
          go_loopg [11] len (fun kq v11 w' => ∃ (j : Nat) (x : Bx), v11 = .int .i64 (j : Int) ∧ Aside0 (j + kq = len) ∧ Aside0 (Good f n x) ∧ Aside0 (At w' a4 p4 h4 x) ∧ Aside0 (Below w3.heap.size w3 w'))
          case atStart => exact ⟨0, Bx.fresh n, rfl, ⟨by omega⟩, ⟨good_fresh f n⟩, HX, HB⟩
          case round =>
            clear HX HB
            obtain ⟨j, x, rfl, HK, HG, HX, HB⟩ := hrel
            by_cases hj : j < len
            · have d0 : decide ((j : Int) < (len : Int)) = true := decide_eq_true (by omega)
              have d0n : decide (j < len) = true := decide_eq_true hj
              by_cases h3 : j < 300
              · have d1 : decide ((j : Int) < 300) = true := decide_eq_true (by omega)
                have d1n : decide (j < 300) = true := decide_eq_true h3
                obtain ⟨k1, rfl⟩ : ∃ k1, gk = k1 + 1 := ⟨gk - 1, by have := HK.out; omega⟩
                have d2 : ((j : Int) < (len : Int)) = True := eq_true (by omega)
                have d2n : (j < len) = True := eq_true hj
                have d3 : (0 ≤ (j : Int)) = True := eq_true (by omega)
                have d4 : IntKind.i64.wrap ((j : Int) + 1) = ((j + 1 : Nat) : Int) := by rw [IntKind.wrap_i64]; omega
                obtain ⟨ad, hA, hcell⟩ := HORD.out.2 j hj
                subst hA
                have co := hcell _ (HW.out.trans (low HW.out.size HB.out)) j hj
                clear hcell
                generalize ord.getD j 0 = o at co
                by_cases ho : 0 ≤ o
                · by_cases ho2 : o < (n : Int)
                  · obtain ⟨i, rfl⟩ : ∃ i : Nat, o = (i : Int) := ⟨o.toNat, by omega⟩
                    have hi : i < n := by omega
                    have o0 : decide (0 ≤ (i : Int)) = true := decide_eq_true (by omega)
                    have o1 : decide ((i : Int) < (n : Int)) = true := decide_eq_true ho2
                    have o1n : decide (i < n) = true := decide_eq_true hi
                    have o2 : ((i : Int) < (n : Int)) = True := eq_true ho2
                    have o2n : (i < n) = True := eq_true hi
                    have o3 : (0 ≤ (i : Int)) = True := eq_true ho
                    obtain ⟨q0, q1, q2⟩ := (HP.out.keep HB.out) i hi
                    obtain ⟨x', hput, hg', _⟩ := good_put HG.out HT.out i hi
                    have P1 := Aside0.mk (fun W a p h (b : At W a p h x) => put_calls b (i : Int) (n : Int) (f i) HG.out.b0 (HG.out.b1 HT.out) HG.out.l0 (HG.out.l1 (by have := HN2.out; omega)))
                    rw [hput] at P1
                    dsimp only at P1
                    have HG' := Aside0.mk hg'
                    clear hput hg' hi ho ho2 hj h3
                    go_wp2_with (first | (go_at_call 30; refine (P1.out _ _ _ _ (At.below HX.out (by repeat (with_reducible first | exact Below.refl _ _ | apply below_alloc1 | apply pw_below_drewN | apply below_drew1)))).mono ?_; rintro e w6 ⟨rfl, hx6, ho6⟩; have n0_ := Aside0.mk (Below.only (by repeat (first | (with_reducible first | exact HB.out | apply below_alloc | apply pw_below_drewN | apply below_drew1) | exact HB.out)) ho6 HS.out (below_size (by repeat (first | (with_reducible first | exact HB.out | apply below_alloc | apply pw_below_drewN | apply below_drew1) | exact HB.out)))); have n1_ := Aside0.mk hx6;  clear HB HX P1; have HB := n0_; have HX := n1_; clear n0_ n1_ hx6 ho6))
                    go_roundg k1
                    case measure => omega
                    case rel => exact ⟨j + 1, x', rfl, ⟨by have := HK.out; omega⟩, HG', HX, HB⟩
                  · have o0 : decide (0 ≤ o) = true := decide_eq_true ho
                    have o1 : decide (o < (n : Int)) = false := decide_eq_false ho2
                    clear ho ho2 hj h3
                    go_wp2
                    go_roundg k1
                    case measure => omega
                    case rel => exact ⟨j + 1, x, rfl, ⟨by have := HK.out; omega⟩, HG, HX, HB⟩
                · have o0 : decide (0 ≤ o) = false := decide_eq_false ho
                  clear ho hj h3
                  go_wp2
                  go_roundg k1
                  case measure => omega
                  case rel => exact ⟨j + 1, x, rfl, ⟨by have := HK.out; omega⟩, HG, HX, HB⟩
              · have d1 : decide ((j : Int) < 300) = false := decide_eq_false (by omega)
                have d1n : decide (j < 300) = false := decide_eq_false h3
                clear hj h3
                go_wp2
                go_meet
                case rel => exact ⟨x, HG, HX, HB⟩
            · have d0 : decide ((j : Int) < (len : Int)) = false := decide_eq_false (by omega)
              have d0n : decide (j < len) = false := decide_eq_false hj
              clear hj
              go_wp2
              go_meet
              case rel => exact ⟨x, HG, HX, HB⟩
        case rest =>
          clear HB HX
          obtain ⟨x, HG, HX, HB⟩ := hcut
          have hlp := HG.out.lp
          obtain ⟨m, hm⟩ : ∃ m, missN x.H (n : Int) n = m := ⟨_, rfl⟩
          have M1 := Aside0.mk (fun v (hv : v ∈ m) => miss_mem x.H (n : Int) n v (hm.symm ▸ hv))
          have M2 := Aside0.mk (fun j (hj : j < n) (hf : x.H.getD j false = false) => (show (j : Int) ∈ m from hm ▸ miss_all x.H (n : Int) n (by omega) j hj hf))
          have ML : Aside0 (m.length ≤ n) := ⟨by rw [← hm]; exact missN_length _ _ _⟩
          have HMS := Aside0.mk (fun W (b : At W a4 p4 h4 x) => miss_at2 b (by rw [hlp]; have := HN2.out; omega) (n : Int))
          rw [hlp, hm] at HMS
          clear hlp hm
          have d6 : IntKind.i64.wrap ((m.length : Int) - 1) = (m.length : Int) - 1 := by rw [IntKind.wrap_i64]; have := ML.out; have := HN2.out; omega
          go_wp2_with (first | (go_at_call 33; refine (HMS.out _ (At.below HX.out (by repeat (with_reducible first | exact Below.refl _ _ | apply below_alloc1 | apply pw_below_drewN | apply below_drew1)))).mono ?_; rintro e w5 ⟨A5, c5, rfl, hm5, hb⟩; have n1_ := Aside0.mk (At.below HX.out (below_step (by repeat (with_reducible first | exact Below.refl _ _ | apply below_alloc1 | apply pw_below_drewN | apply below_drew1)) hb)); have n0_ := Aside0.mk (below_step (by repeat (first | (with_reducible first | exact HB.out | apply below_alloc | apply pw_below_drewN | apply below_drew1) | exact HB.out)) hb); have HM := Aside0.mk hm5; clear HB HX; have HB := n0_; have HX := n1_; clear n0_ n1_ hb hm5))
          go_loopg [13] m.length (fun kq v13 w' => ∃ (i : Int) (y : Bx), v13 = .int .i64 i ∧ Aside0 (i = (kq : Int) - 1) ∧ Aside0 (kq ≤ m.length) ∧ Aside0 (Good f n y) ∧ Aside0 (∀ j, j < n → y.H.getD j false = true ∨ (j : Int) ∈ m.take kq) ∧ Aside0 (At w' a4 p4 h4 y) ∧ Aside0 (Only (Three a4 p4 h4) w5 w') ∧ Aside0 (Below w3.heap.size w3 w'))
          case atStart => exact ⟨(m.length : Int) - 1, x, rfl, ⟨rfl⟩, ⟨Nat.le_refl _⟩, HG, ⟨fun j hj => by
              by_cases hh : x.H.getD j false = true
              · exact Or.inl hh
              · right
                rw [List.take_length]
                exact M2.out j hj (by simpa using hh)⟩, HX, ⟨only_refl _ _⟩, HB⟩
          case round =>
            clear HX HB HG
            obtain ⟨i, y, rfl, HI, HKL, HG, HMT, HX, HO, HB⟩ := hrel
            by_cases hk : gk = 0
            · subst hk
              obtain rfl : i = -1 := by have := HI.out; omega
              have hfull := good_full HG.out (fun j hj => by
                rcases HMT.out j hj with h | h
                · exact h
                · simp at h)
              have TX := Aside0.mk (fun W (b : At W a4 p4 h4 y) => text_full b (by rw [hfull.1]; omega) (by rw [HG.out.lp]; have := HN2.out; omega) (by rw [hfull.2.1, HJ.out]; have := HS'.out; omega))
              rw [hfull.2.1, HJ.out] at TX
              have LF := Aside0.mk (fun W (b : At W a4 p4 h4 y) => left_at b)
              rw [hfull.1] at LF
              have M9 := Aside0.mk (fun W (b : At W a4 p4 h4 y) => miss_at2 b (by rw [HG.out.lp]; have := HN2.out; omega) 9)
              rw [HG.out.lp, hfull.2.2 9] at M9
              have teq : (s'.toList == s'.toList) = true := by simp
              clear hfull d6
              go_wp2_with (first
                | (go_at_call 28; refine (TX.out _ (At.below HX.out (by repeat (with_reducible first | exact Below.refl _ _ | apply below_alloc1 | apply pw_below_drewN | apply below_drew1)))).mono ?_; rintro e w7 ⟨rfl, hb⟩; have n1_ := Aside0.mk (At.below HX.out (below_step (by repeat (with_reducible first | exact Below.refl _ _ | apply below_alloc1 | apply pw_below_drewN | apply below_drew1)) hb)); have n0_ := Aside0.mk (below_step (by repeat (first | (with_reducible first | exact HB.out | apply below_alloc | apply pw_below_drewN | apply below_drew1) | exact HB.out)) hb); clear HB HX; have HB := n0_; have HX := n1_; clear n0_ n1_ hb)
                | (go_at_call 32; refine (LF.out _ HX.out).mono ?_; rintro e w7 ⟨rfl, rfl⟩)
                | (go_at_call 33; refine (M9.out _ HX.out).mono ?_; rintro e w7 ⟨A7, c7, rfl, _, hb⟩; have n1_ := Aside0.mk (At.below HX.out hb); have n0_ := Aside0.mk (below_step (by repeat (first | (with_reducible first | exact HB.out | apply below_alloc | apply pw_below_drewN | apply below_drew1) | exact HB.out)) hb); clear HB HX; have HB := n0_; have HX := n1_; clear n0_ n1_ hb)
                | (go_at_call 27; refine (awake_calls _).mono ?_; rintro e w5 ⟨rfl, hb⟩; have n0_ := Aside0.mk (below_step (by repeat (first | (with_reducible first | exact HB.out | apply below_alloc | apply pw_below_drewN | apply below_drew1) | exact HB.out)) hb); clear HB; have HB := n0_; clear n0_ hb))
              go_ret
              exact ⟨rfl, HW.out.trans (low HW.out.size HB.out)⟩
            · obtain ⟨k1, rfl⟩ : ∃ k1, gk = k1 + 1 := ⟨gk - 1, by omega⟩
              obtain rfl : i = (k1 : Int) := by have := HI.out; omega
              have hk1 : k1 < m.length := by have := HKL.out; omega
              obtain ⟨g5, hA5, hg5, hcell⟩ := HM.out k1 hk1
              subst hA5
              have cm := only_cell HO.out (hcell k1 hk1) hg5
              have hmem : m.getD k1 0 ∈ m := by simp [List.getD, hk1]
              obtain ⟨j, hj, hv, _⟩ := M1.out _ hmem
              rw [hv] at cm
              obtain ⟨q0, q1, q2⟩ := (HP.out.keep HB.out) j hj
              obtain ⟨y', hput, hg', hmono⟩ := good_put HG.out HT.out j hj
              have P1 := Aside0.mk (fun W a p h (b : At W a p h y) => put_calls b (j : Int) (n : Int) (f j) HG.out.b0 (HG.out.b1 HT.out) HG.out.l0 (HG.out.l1 (by have := HN2.out; omega)))
              rw [hput] at P1
              dsimp only at P1
              have HG' := Aside0.mk hg'
              have HMT' : Aside0 (∀ j, j < n → y'.H.getD j false = true ∨ (j : Int) ∈ m.take k1) := ⟨fun j' hj' => by
                rcases HMT.out j' hj' with h | h
                · exact Or.inl (hmono j' hj' (Or.inr h))
                · rcases mem_take_succ h with h | h
                  · exact Or.inr h
                  · exact Or.inl (hmono j' hj' (Or.inl (by omega)))⟩
              have o0 : decide (0 ≤ (k1 : Int)) = true := decide_eq_true (by omega)
              have o1 : ((k1 : Int) < (m.length : Int)) = True := eq_true (by omega)
              have o1n : (k1 < m.length) = True := eq_true hk1
              have o2 : (0 ≤ (k1 : Int)) = True := eq_true (by omega)
              have o3 : ((j : Int) < (n : Int)) = True := eq_true (by omega)
              have o3n : (j < n) = True := eq_true hj
              have o4 : (0 ≤ (j : Int)) = True := eq_true (by omega)
              have d8 : IntKind.i64.wrap ((k1 : Int) - 1) = (k1 : Int) - 1 := by rw [IntKind.wrap_i64]; have := ML.out; have := HN2.out; omega
              have HK1 := Aside0.mk hk1
              clear hput hg' hj hk1 hk hcell hmem hv hmono hg5 d6
              go_wp2_with (first | (go_at_call 30; refine (P1.out _ _ _ _ (At.below HX.out (by repeat (with_reducible first | exact Below.refl _ _ | apply below_alloc1 | apply pw_below_drewN | apply below_drew1)))).mono ?_; rintro e w6 ⟨rfl, hx6, ho6⟩; have n0_ := Aside0.mk (Below.only (by repeat (first | (with_reducible first | exact HB.out | apply below_alloc | apply pw_below_drewN | apply below_drew1) | exact HB.out)) ho6 HS.out (below_size (by repeat (first | (with_reducible first | exact HB.out | apply below_alloc | apply pw_below_drewN | apply below_drew1) | exact HB.out)))); have n1_ := Aside0.mk hx6; have n2_ := Aside0.mk (HO.out.trans ho6); clear HO; have HO := n2_; clear n2_; clear HB HX P1; have HB := n0_; have HX := n1_; clear n0_ n1_ hx6 ho6))
              go_roundg k1
              case measure => omega
              case rel => exact ⟨(k1 : Int) - 1, y', rfl, ⟨rfl⟩, ⟨by have := HK1.out; omega⟩, HG', HMT', HX, HO, HB⟩
    · -- no parts
      have HC := Aside0.mk (fun W => cut_calls s' a ha W)
      have hl : (Cut.cutS s' a).1 = [] := by
        unfold Cut.cutS at h0 ⊢
        repeat' split
        all_goals first | rfl | (exfalso; revert h0; simp [*])
      rw [hl] at HC
      generalize (Cut.cutS s' a).2 = e2 at h0 HC
      have d0 : (e2 != 0) = true := bne_iff_ne.mpr h0
      clear hl h0
      go_wp2_with (first
        | (go_at_call 24; refine (HC.out _).mono ?_; rintro e w3 ⟨A3, c3, rfl, hr, hb⟩; clear hr; have n0_ := Aside0.mk (below_step (by repeat (first | (with_reducible first | exact HB.out | apply below_alloc | apply pw_below_drewN | apply below_drew1) | exact HB.out)) hb); clear HB; have HB := n0_; clear n0_ hb)
        | (go_at_call 27; refine (awake_calls _).mono ?_; rintro e w5 ⟨rfl, hb⟩; have n0_ := Aside0.mk (below_step (by repeat (first | (with_reducible first | exact HB.out | apply below_alloc | apply pw_below_drewN | apply below_drew1) | exact HB.out)) hb); clear HB; have HB := n0_; clear n0_ hb))
      go_ret
      exact ⟨rfl, HB.out⟩

end Go.Proofs.YtdomngcedflapaaW.BackP
