/- The walk of step where the call is a Put. -/
import Derived.Test.YtdomngcedflapaaFine
import Derived.Test.YtdomngcedflapaaPChunkx25
import Derived.Test.YtdomngcedflapaaBackW
import Derived.Deep.RegionHeld3
namespace Go.Proofs.YtdomngcedflapaaW.Ref
open Go.RowKit Go.Proofs.Ytdomngcedflapaa Go.Proofs.YtdomngcedflapaaW.PrintWords Go.Proofs.YtdomngcedflapaaW.PrintLast Go.Proofs.YtdomngcedflapaaW.PrintMore
open Go.Proofs.YtdomngcedflapaaW.Box Go.Proofs.YtdomngcedflapaaW.BackP

/-- A text cut at 300 bytes. -/
def shortT (t : ByteArray) : ByteArray := if (t.size : Int) > 300 then t.extract 0 300 else t

theorem shortT_size (t : ByteArray) : (shortT t).size ≤ 300 := by
  unfold shortT
  split
  · rw [ByteArray.size_extract]; omega
  · omega

theorem short_calls (at_ of_ : Int) (txt : ByteArray) (w : World) : Calls Try.prog 49 #[.agg #[.int .i64 at_, .int .i64 of_, .string txt]] w fun e w' => e = .returned (.agg #[.int .i64 at_, .int .i64 of_, .string (shortT txt)]) ∧ Below w.heap.size w w' := by
  refine PChunk.barquelaw13_short.calls at_ of_ txt at_ of_ (shortT txt) w ?_
  unfold PChunk.barquelaw13_short.f shortT
  by_cases h : (txt.size : Int) > 300
  · rw [if_pos h, if_pos (by omega), if_pos (by omega), if_pos h]
  · rw [if_neg h, if_neg h]

/-- Both boxes stand as one plain box. -/
structure Both (w : World) (a p h ra rb n : Nat) (x : Bx) : Prop where
  b : At w a p h x
  r : RAt w ra rb x
  fine : Fine n x
  d1 : ¬ Three a p h ra
  d2 : ¬ Three a p h rb

/-- The blocks that a step may turn. -/
def Four (a p h rb : Nat) : Nat → Prop := fun k => Three a p h k ∨ k = rb

/-- The three cells of an op's part. -/
def PartAt (w : World) (k : Nat) (at_ of_ : Int) (txt : ByteArray) : Prop :=
  w.cell? ⟨k, 2, none⟩ = some (.int .i64 at_) ∧ w.cell? ⟨k, 3, none⟩ = some (.int .i64 of_) ∧ w.cell? ⟨k, 4, none⟩ = some (.string txt)

theorem PartAt.only {w w' : World} {k : Nat} {at_ of_ : Int} {txt : ByteArray} (c : PartAt w k at_ of_ txt) {S : Nat → Prop} (h : Only S w w') (hS : ¬ S k) : PartAt w' k at_ of_ txt :=
  ⟨only_cell h c.1 hS, only_cell h c.2.1 hS, only_cell h c.2.2 hS⟩

/-- Only these, and a wider set. -/
theorem Only.widen {S T : Nat → Prop} {w w' : World} (h : Only S w w') (hST : ∀ k, S k → T k) : Only T w w' := ⟨h.os, h.tape, h.output, h.size, fun k hk hT => h.block k hk (fun hs => hT (hST k hs))⟩

/-- The same memory. -/
def Same (w W : World) : Prop := W.os = w.os ∧ W.tape = w.tape ∧ W.output = w.output ∧ W.heap = w.heap

/-- How things stand in the midst of a step: the boxes, the op's cells, what may have turned. -/
structure St (w W : World) (a p h ra rb k : Nat) (at_ of_ : Int) (txt : ByteArray) (x y : Bx) : Prop where
  b : At W a p h x
  r : RAt W ra rb y
  c : PartAt W k at_ of_ txt
  o : Only (Four a p h rb) w W
  k0 : ¬ Four a p h rb k
  d1 : ¬ Three a p h ra
  d2 : ¬ Three a p h rb

section
variable {w W W' : World} {a p h ra rb k : Nat} {at_ of_ : Int} {txt : ByteArray} {x y x' y' : Bx}
theorem St.same (s : St w W a p h ra rb k at_ of_ txt x y) (e : Same W W') : St w W' a p h ra rb k at_ of_ txt x y := by
  obtain ⟨e1, e2, e3, e4⟩ := e
  have hc : ∀ q : Addr, W'.cell? q = W.cell? q := fun q => by unfold World.cell?; rw [e4]
  exact ⟨BoxAt.move s.b (by rw [e4]) (by rw [e4]) (by rw [e4]), s.r.move (by rw [e4]) (by rw [e4]), ⟨(hc _).trans s.c.1, (hc _).trans s.c.2.1, (hc _).trans s.c.2.2⟩,
    ⟨e1.trans s.o.os, e2.trans s.o.tape, e3.trans s.o.output, by rw [e4]; exact s.o.size, fun k hk hs => by rw [e4]; exact s.o.block k hk hs⟩, s.k0, s.d1, s.d2⟩
theorem St.below (s : St w W a p h ra rb k at_ of_ txt x y) (hb : Below W.heap.size W W') : St w W' a p h ra rb k at_ of_ txt x y :=
  ⟨At.below s.b hb, s.r.below hb, s.c.only (S := fun _ => False) (Only.of_below hb) (fun hf => hf), s.o.trans (Only.of_below hb), s.k0, s.d1, s.d2⟩
theorem St.put (s : St w W a p h ra rb k at_ of_ txt x y) (hx : At W' a p h x') (ho : Only (Three a p h) W W') : St w W' a p h ra rb k at_ of_ txt x' y :=
  ⟨hx, s.r.only ho s.d1 s.d2, s.c.only ho (fun hk => s.k0 (Or.inl hk)), s.o.trans (Only.widen ho (fun _ hk => Or.inl hk)), s.k0, s.d1, s.d2⟩
theorem St.rput (s : St w W a p h ra rb k at_ of_ txt x y) (hx : RAt W' ra rb y') (ho : Only (fun k => k = rb) W W') : St w W' a p h ra rb k at_ of_ txt x y' :=
  ⟨BoxAt.only s.b ho (fun e => s.d2 (Or.inl e.symm)) (fun e => s.d2 (Or.inr (Or.inl e.symm))) (fun e => s.d2 (Or.inr (Or.inr e.symm))), hx, s.c.only ho (fun hk => s.k0 (Or.inr hk)), s.o.trans (Only.widen ho (fun _ hk => Or.inr hk)), s.k0, s.d1, s.d2⟩
end

/-- The beginning: the op is laid in a new block. -/
theorem St.begin {w : World} {a p h ra rb n : Nat} {x : Bx} (hB : Both w a p h ra rb n x) (c0 c1 : Value) (at_ of_ : Int) (txt : ByteArray) :
    St w (w.alloc (.cells #[c0, c1, .int .i64 at_, .int .i64 of_, .string txt] 55)) a p h ra rb w.heap.size at_ of_ txt x x := by
  have hbel : Below w.heap.size w (w.alloc (.cells #[c0, c1, .int .i64 at_, .int .i64 of_, .string txt] 55)) := (Below.refl _ w).alloc (Nat.le_refl _) _
  have h1 := heap_lt hB.b.box
  have h2 := heap_lt hB.b.parts
  have h3 := heap_lt hB.b.has
  have h5 := heap_lt hB.r.cells
  exact ⟨At.below hB.b hbel, hB.r.below hbel, ⟨World.cell?_alloc_mark w _ _ _ 2, World.cell?_alloc_mark w _ _ _ 3, World.cell?_alloc_mark w _ _ _ 4⟩, Only.of_below hbel,
    fun hk => by rcases hk with (hk | hk | hk) | hk <;> omega, hB.d1, hB.d2⟩

set_option maxRecDepth 100000 in
set_option maxHeartbeats 4000000 in
theorem step_put {w : World} {a p h ra rb n : Nat} {x : Bx} (hB : Both w a p h ra rb n x) (hn : n ≤ 60) (n_ at_ of_ : Int) (txt : ByteArray) :
    Calls Try.prog 35 #[.pointer (some ⟨a, 0, none⟩), .pointer (some ⟨ra, 0, none⟩), .agg #[.int .i64 0, .int .i64 n_, .int .i64 at_, .int .i64 of_, .string txt]] w
      fun e w' => e = .returned (.bool true) ∧ Both w' a p h ra rb n (sput x at_ of_ (shortT txt)).1 ∧ Only (Four a p h rb) w w' := by
  have hst := shortT_size txt
  have HF := Aside0.mk (fine_put hB.fine at_ of_ (shortT txt) hst)
  obtain ⟨w1, hw1⟩ : ∃ w1, w1 = w.alloc (.cells #[.int .i64 0, .int .i64 n_, .int .i64 at_, .int .i64 of_, .string txt] 55) := ⟨_, rfl⟩
  have HS := Aside0.mk (St.begin hB (.int .i64 0) (.int .i64 n_) at_ of_ txt)
  rw [← hw1] at HS
  have CB := Aside0.mk (fun W (b : At W a p h x) => sput_calls b at_ of_ (shortT txt) hst hB.fine.b0 (hB.fine.b2 hn) hB.fine.l0 (by have := hB.fine.l1; omega))
  have CR := Aside0.mk (fun W (r : RAt W ra rb x) => rput_calls r hB.fine.small (by rw [hB.fine.lp]; exact hn) at_ of_ (shortT txt) hst)
  have CS := Aside0.mk (fun W => short_calls at_ of_ txt W)
  generalize shortT txt = st at hst CB CR CS HF ⊢
  generalize sput x at_ of_ st = xr at CB CR HF ⊢
  obtain ⟨x', res⟩ := xr
  dsimp only at CB CR HF ⊢
  have t0 : (res == res) = true := beq_self_eq_true res
  clear hB hst hn
  go_enter Try.func35, Try.ntmps35
  go_wp2
  rw [← hw1]
  have c := HS.out.c
  obtain ⟨c2, c3, c4⟩ := c
  clear hw1
  go_region_held3 (fun W => W.cell? ⟨w.heap.size, 2, none⟩ = some (.int .i64 at_) ∧ W.cell? ⟨w.heap.size, 3, none⟩ = some (.int .i64 of_) ∧ W.cell? ⟨w.heap.size, 4, none⟩ = some (.string txt)) (first | exact HS.out.c | go_keep)
    (first
      | (go_at_call 49; refine (CS.out _).mono ?_; rintro e w3 ⟨rfl, hb⟩; have n_ := Aside0.mk ((HS.out.same (by exact ⟨rfl, rfl, rfl, rfl⟩)).below hb); clear HS hb; have HS := n_; clear n_)
      | (go_at_call 30; refine (CB.out _ (HS.out.same (by exact ⟨rfl, rfl, rfl, rfl⟩)).b).mono ?_; rintro e w3 ⟨rfl, hx, ho⟩; have n_ := Aside0.mk ((HS.out.same (by exact ⟨rfl, rfl, rfl, rfl⟩)).put hx ho); clear HS hx ho; have HS := n_; clear n_)
      | (go_at_call 50; refine (CR.out _ (HS.out.same (by exact ⟨rfl, rfl, rfl, rfl⟩)).r).mono ?_; rintro e w3 ⟨rfl, hx, ho⟩; have n_ := Aside0.mk ((HS.out.same (by exact ⟨rfl, rfl, rfl, rfl⟩)).rput hx ho); clear HS hx ho; have HS := n_; clear n_))
  go_wp2
  go_ret
  exact ⟨rfl, ⟨HS.out.b, HS.out.r, HF.out, HS.out.d1, HS.out.d2⟩, HS.out.o⟩

end Go.Proofs.YtdomngcedflapaaW.Ref
