/- The walk of the document's Put. -/
import Derived.Test.YtdomngcedflapaaRef
import Derived.Lib.SmallJoins
namespace Go.Proofs.YtdomngcedflapaaW.Ref
open Go.RowKit Go.Proofs.Ytdomngcedflapaa Go.Proofs.YtdomngcedflapaaW.PrintWords Go.Proofs.YtdomngcedflapaaW.PrintLast Go.Proofs.YtdomngcedflapaaW.PrintMore
open Go.Proofs.YtdomngcedflapaaW.Box

/-- A call that turns nothing, behind draws. -/
theorem same_drawn {P : Program} {f : FuncId} {args : Array Value} {w : World} {a n : Nat} {v : Value} (h : Calls P f args (w.drewN (a + n)) fun e w' => e = .returned v ∧ w' = w.drewN (a + n)) :
    Calls P f args (w.drewN (a + n)) fun e w'' => e = .returned v ∧ ∃ m, w'' = w.drewN (a + m) := h.mono fun _ _ hh => ⟨hh.1, n, hh.2⟩

set_option maxRecDepth 100000 in
set_option maxHeartbeats 1000000 in
theorem rput_of {w : World} {a b : Nat} {x : Bx} (r0 : RAt w a b x) (at_ of_ : Int) (txt : ByteArray) (hof : of_ ≠ x.P.length) :
    Calls Try.prog 50 #[.pointer (some ⟨a, 0, none⟩), .agg #[.int .i64 at_, .int .i64 of_, .string txt]] w fun e w' => e = .returned (.int .i64 1) ∧ Below w.heap.size w w' := by
  have r := r0.below ((Below.refl _ w).alloc (Nat.le_refl _) (.cells #[.int .i64 at_, .int .i64 of_, .string txt] 36))
  have c0 := r.c0
  have t0 : (of_ != (x.P.length : Int)) = true := bne_iff_ne.mpr hof
  clear r r0 hof
  go_enter Try.func50, Try.ntmps50
  go_wp2
  go_quiet (fail)
  go_wp2
  go_ret
  exact ⟨rfl, by repeat (first | exact Below.refl _ _ | apply below_alloc | apply pw_below_drewN | apply below_drew1)⟩

set_option maxRecDepth 100000 in
set_option maxHeartbeats 1000000 in
theorem rput_range {w : World} {a b : Nat} {x : Bx} (r0 : RAt w a b x) (at_ : Int) (txt : ByteArray) (hat : at_ < 0 ∨ (x.P.length : Int) ≤ at_) :
    Calls Try.prog 50 #[.pointer (some ⟨a, 0, none⟩), .agg #[.int .i64 at_, .int .i64 (x.P.length : Int), .string txt]] w fun e w' => e = .returned (.int .i64 2) ∧ Below w.heap.size w w' := by
  have r := r0.below ((Below.refl _ w).alloc (Nat.le_refl _) (.cells #[.int .i64 at_, .int .i64 (x.P.length : Int), .string txt] 36))
  have c0 := r.c0
  have t0 : ((x.P.length : Int) != (x.P.length : Int)) = false := by simp
  clear r r0
  by_cases h1 : at_ < 0
  · have t1 : decide (at_ < 0) = true := decide_eq_true h1
    clear hat h1
    go_enter Try.func50, Try.ntmps50
    go_wp2
    go_quiet (fail)
    go_wp2
    go_quiet (fail)
    go_wp2
    go_ret
    exact ⟨rfl, by repeat (first | exact Below.refl _ _ | apply below_alloc | apply pw_below_drewN | apply below_drew1)⟩
  · have t1 : decide (at_ < 0) = false := decide_eq_false h1
    have t2 : decide ((x.P.length : Int) ≤ at_) = true := decide_eq_true (by omega)
    clear hat h1
    go_enter Try.func50, Try.ntmps50
    go_wp2
    go_quiet (fail)
    go_wp2
    go_quiet (fail)
    go_wp2
    go_ret
    exact ⟨rfl, by repeat (first | exact Below.refl _ _ | apply below_alloc | apply pw_below_drewN | apply below_drew1)⟩

set_option maxRecDepth 100000 in
set_option maxHeartbeats 1000000 in
theorem rput_has {w : World} {a b : Nat} {x : Bx} (r0 : RAt w a b x) (i : Nat) (hi : i < x.P.length) (txt : ByteArray) (hh : x.H.getD i false = true) :
    Calls Try.prog 50 #[.pointer (some ⟨a, 0, none⟩), .agg #[.int .i64 (i : Int), .int .i64 (x.P.length : Int), .string txt]] w fun e w' => e = .returned (.int .i64 (if x.P.getD i ByteArray.empty = txt then 0 else 6)) ∧ Below w.heap.size w w' := by
  have r := r0.below ((Below.refl _ w).alloc (Nat.le_refl _) (.cells #[.int .i64 (i : Int), .int .i64 (x.P.length : Int), .string txt] 36))
  have c0 := r.c0
  have ch := r.ch i hi
  have cp := r.cp i hi
  rw [hh] at ch
  generalize x.P.getD i ByteArray.empty = y at cp ⊢
  have t0 : ((x.P.length : Int) != (x.P.length : Int)) = false := by simp
  have t1 : decide ((i : Int) < 0) = false := decide_eq_false (by omega)
  have t2 : decide ((x.P.length : Int) ≤ (i : Int)) = false := decide_eq_false (by omega)
  have t2n : decide (x.P.length ≤ i) = false := decide_eq_false (by omega)
  have t3 : ((i : Int) < (x.P.length : Int)) = True := eq_true (by omega)
  have t3n : (i < x.P.length) = True := eq_true hi
  have t4 : (0 ≤ (i : Int)) = True := eq_true (by omega)
  clear r r0 hh hi
  by_cases hx : y = txt
  · rw [if_pos hx]
    have t5 : (y.toList == txt.toList) = true := by rw [hx]; simp
    have t6 : (y.toList != txt.toList) = false := by rw [hx]; simp
    clear hx
    go_enter Try.func50, Try.ntmps50
    go_wp2
    go_quiet (fail)
    go_wp2
    go_quiet (fail)
    go_wp2
    go_quiet (fail)
    go_wp2
    go_quiet (fail)
    go_wp2
    go_ret
    exact ⟨rfl, by repeat (first | exact Below.refl _ _ | apply below_alloc | apply pw_below_drewN | apply below_drew1)⟩
  · rw [if_neg hx]
    have t5 : (y.toList == txt.toList) = false := by
      refine beq_eq_false_iff_ne.mpr (fun he => hx ?_)
      rw [ByteArray.toList_eq, ByteArray.toList_eq] at he
      cases y with
      | mk d => cases txt with
        | mk d2 => exact congrArg ByteArray.mk (Array.ext' he)
    have t6 : (y.toList != txt.toList) = true := by rw [bne, t5]; rfl
    clear hx
    go_enter Try.func50, Try.ntmps50
    go_wp2
    go_quiet (fail)
    go_wp2
    go_quiet (fail)
    go_wp2
    go_quiet (fail)
    go_wp2
    go_quiet (fail)
    go_wp2
    go_ret
    exact ⟨rfl, by repeat (first | exact Below.refl _ _ | apply below_alloc | apply pw_below_drewN | apply below_drew1)⟩

/-- The two stores of a new part. -/
theorem RAt.put {w : World} {a b : Nat} {x : Bx} (r : RAt w a b x) {i : Nat} (hi : i < x.P.length) (txt : ByteArray) (l' b' : Int) (n : Nat) :
    RAt (((w.drewN n).setCell ⟨b, i * 2, none⟩ (.bool true)).setCell ⟨b, i * 2 + 1, none⟩ (.string txt)) a b ⟨x.P.set i txt, x.H.set i true, l', b'⟩ := by
  have r1 : RAt (w.drewN n) a b x := r.move rfl rfl
  refine ⟨?_, ?_, by simp [r.len], r.ab⟩
  · refine (Below.heap_setCell _ ⟨b, i * 2 + 1, none⟩ (.string txt) a r.ab).trans ((Below.heap_setCell _ ⟨b, i * 2, none⟩ (.bool true) a r.ab).trans ?_)
    rw [r1.box]
    simp
  · have e1 := Go.Joins.block_setCell (i := i * 2) r1.cells (.bool true)
    have e2 := Go.Joins.block_setCell (i := i * 2 + 1) e1 (.string txt)
    rw [e2, List.setIfInBounds_toArray, List.setIfInBounds_toArray, mix_set x.P x.H i true txt r.len hi]

set_option maxRecDepth 100000 in
set_option maxHeartbeats 2000000 in
theorem rput_new {w : World} {a b : Nat} {x : Bx} (r0 : RAt w a b x) (hs : Small x) (hn : x.P.length ≤ 60) (i : Nat) (hi : i < x.P.length) (txt : ByteArray) (ht : txt.size ≤ 300) (hh : x.H.getD i false = false) (l' b' : Int) :
    Calls Try.prog 50 #[.pointer (some ⟨a, 0, none⟩), .agg #[.int .i64 (i : Int), .int .i64 (x.P.length : Int), .string txt]] w fun e w' => e = .returned (.int .i64 0) ∧ RAt w' a b ⟨x.P.set i txt, x.H.set i true, l', b'⟩ ∧ Only (fun k => k = b) w w' := by
  have r := r0.below ((Below.refl _ w).alloc (Nat.le_refl _) (.cells #[.int .i64 (i : Int), .int .i64 (x.P.length : Int), .string txt] 36))
  have HR := Aside0.mk r
  have HSM := Aside0.mk hs
  have c0 := r.c0
  have ch := r.ch i hi
  have cp := r.cp i hi
  have f0 := r.fr (i * 2)
  have f1 := r.fr (i * 2 + 1)
  rw [hh] at ch
  have nab := r0.ab
  have nba := r0.ab.symm
  have na : a ≠ w.heap.size := by have := heap_lt r0.box; omega
  have nb : b ≠ w.heap.size := by have := heap_lt r0.cells; omega
  have na' := na.symm
  have nb' := nb.symm
  have t0 : ((x.P.length : Int) != (x.P.length : Int)) = false := by simp
  have t1 : decide ((i : Int) < 0) = false := decide_eq_false (by omega)
  have t2 : decide ((x.P.length : Int) ≤ (i : Int)) = false := decide_eq_false (by omega)
  have t2n : decide (x.P.length ≤ i) = false := decide_eq_false (by omega)
  have t3 : ((i : Int) < (x.P.length : Int)) = True := eq_true (by omega)
  have t3n : (i < x.P.length) = True := eq_true hi
  have t4 : (0 ≤ (i : Int)) = True := eq_true (by omega)
  have HALL := Aside0.mk (fun W (r : RAt W a b x) => all_calls r hs hn)
  have hz := joinP_size hs x.P.length
  generalize joinP x.P x.P.length = z at hz HALL
  have t5 : decide (524288 < (z.size : Int) + (txt.size : Int)) = false := decide_eq_false (by omega)
  have t5n : decide (524288 < z.size + txt.size) = false := decide_eq_false (by omega)
  have t6 : IntKind.i64.wrap ((z.size : Int) + (txt.size : Int)) = (z.size : Int) + (txt.size : Int) := by rw [IntKind.wrap_i64]; omega
  have HI := Aside0.mk hi
  clear r r0 hh hi hs hn ht hz
  go_enter Try.func50, Try.ntmps50
  go_wp2
  go_quiet (fail)
  go_wp2
  go_quiet (fail)
  go_wp2
  go_quiet (fail)
  go_wp2
  go_quiet (first | ((go_at_call 52; exact same_drawn (HALL.out _ (HR.out.move rfl rfl)))))
  go_wp2
  go_region
  go_wp2
  go_ret
  refine ⟨rfl, HR.out.put HI.out txt l' b' _, ?_⟩
  exact Only.setCell (S := fun k => k = b) (Only.setCell (S := fun k => k = b) (Only.of_below (pw_below_drewN ((Below.refl _ w).alloc (Nat.le_refl _) _) _)) (Or.inl rfl) _) (Or.inl rfl) _

/-- A part is put in where nothing is ever too long. -/
def sput (x : Bx) (at_ of_ : Int) (txt : ByteArray) : Bx × Int :=
  if of_ ≠ (x.P.length : Int) then (x, 1)
  else if at_ < 0 ∨ (x.P.length : Int) ≤ at_ then (x, 2)
  else if x.H.getD at_.toNat false = true then (x, if x.P.getD at_.toNat ByteArray.empty = txt then 0 else 6)
  else (⟨x.P.set at_.toNat txt, x.H.set at_.toNat true, x.left - 1, x.bytes + txt.size⟩, 0)

theorem rput_calls {w : World} {a b : Nat} {x : Bx} (r : RAt w a b x) (hs : Small x) (hn : x.P.length ≤ 60) (at_ of_ : Int) (txt : ByteArray) (ht : txt.size ≤ 300) :
    Calls Try.prog 50 #[.pointer (some ⟨a, 0, none⟩), .agg #[.int .i64 at_, .int .i64 of_, .string txt]] w fun e w' => e = .returned (.int .i64 (sput x at_ of_ txt).2) ∧ RAt w' a b (sput x at_ of_ txt).1 ∧ Only (fun k => k = b) w w' := by
  unfold sput
  by_cases c1 : of_ ≠ (x.P.length : Int)
  · rw [if_pos c1]
    refine (rput_of r at_ of_ txt c1).mono ?_
    rintro e w' ⟨rfl, hb⟩
    exact ⟨rfl, r.below hb, Only.of_below hb⟩
  rw [if_neg c1]
  have c1' : of_ = (x.P.length : Int) := by omega
  subst c1'
  by_cases c2 : at_ < 0 ∨ (x.P.length : Int) ≤ at_
  · rw [if_pos c2]
    refine (rput_range r at_ txt c2).mono ?_
    rintro e w' ⟨rfl, hb⟩
    exact ⟨rfl, r.below hb, Only.of_below hb⟩
  rw [if_neg c2]
  obtain ⟨i, rfl⟩ : ∃ i : Nat, at_ = (i : Int) := ⟨at_.toNat, by omega⟩
  have hi : i < x.P.length := by omega
  rw [Int.toNat_natCast]
  by_cases c3 : x.H.getD i false = true
  · rw [if_pos c3]
    refine (rput_has r i hi txt c3).mono ?_
    rintro e w' ⟨rfl, hb⟩
    exact ⟨rfl, r.below hb, Only.of_below hb⟩
  rw [if_neg c3]
  have c3' : x.H.getD i false = false := by simpa using c3
  exact rput_new r hs hn i hi txt ht c3' _ _

/-- The program's Put, likewise. -/
theorem sput_calls {w : World} {a p h : Nat} {x : Bx} (b : At w a p h x) (at_ of_ : Int) (txt : ByteArray) (ht : txt.size ≤ 300) (h0 : 0 ≤ x.bytes) (h1 : x.bytes ≤ 18000) (hl0 : 0 ≤ x.left) (hl1 : x.left ≤ 4096) :
    Calls Try.prog 30 #[.pointer (some ⟨a, 0, none⟩), .agg #[.int .i64 at_, .int .i64 of_, .string txt]] w fun e w' => e = .returned (.int .i64 (sput x at_ of_ txt).2) ∧ At w' a p h (sput x at_ of_ txt).1 ∧ Only (Three a p h) w w' := by
  have e : x.put at_ of_ txt = sput x at_ of_ txt := by
    unfold Bx.put sput
    by_cases c1 : of_ ≠ (x.P.length : Int)
    · rw [if_pos c1, if_pos c1]
    rw [if_neg c1, if_neg c1]
    by_cases c2 : at_ < 0 ∨ (x.P.length : Int) ≤ at_
    · rw [if_pos c2, if_pos c2]
    rw [if_neg c2, if_neg c2]
    by_cases c3 : x.H.getD at_.toNat false = true
    · rw [if_pos c3, if_pos c3]
    rw [if_neg c3, if_neg c3, if_neg (by omega)]
  rw [← e]
  exact put_calls b at_ of_ txt h0 (by omega) hl0 hl1

end Go.Proofs.YtdomngcedflapaaW.Ref
