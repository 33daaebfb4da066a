/- A box as a plain thing, and Put as one contract. -/
import Derived.Test.YtdomngcedflapaaPutNew
namespace Go.Proofs.YtdomngcedflapaaW.Box
open Go.RowKit Go.Proofs.Ytdomngcedflapaa Go.Proofs.YtdomngcedflapaaW.PrintWords Go.Proofs.YtdomngcedflapaaW.PrintLast Go.Proofs.YtdomngcedflapaaW.PrintMore

/-- A box: the texts, the marks, how many lack, how many bytes there are. -/
structure Bx where
  P : List ByteArray
  H : List Bool
  left : Int
  bytes : Int

/-- An empty box. -/
def Bx.fresh (n : Nat) : Bx := ⟨List.replicate n ByteArray.empty, List.replicate n false, n, 0⟩

/-- A part is put in. -/
def Bx.put (x : Bx) (at_ of_ : Int) (txt : ByteArray) : Bx × Int :=
  if of_ ≠ (x.P.length : Int) then (x, 1)
  else if at_ < 0 ∨ (x.P.length : Int) ≤ at_ then (x, 2)
  else if x.H.getD at_.toNat false = true then (x, if x.P.getD at_.toNat ByteArray.empty = txt then 0 else 6)
  else if 524288 - x.bytes < (txt.size : Int) then (x, 4)
  else (⟨x.P.set at_.toNat txt, x.H.set at_.toNat true, x.left - 1, x.bytes + txt.size⟩, 0)

/-- A box in memory. -/
def At (w : World) (a p h : Nat) (x : Bx) : Prop := BoxAt w a p h x.P x.H x.left x.bytes

/-- Its three blocks. -/
def Three (a p h : Nat) : Nat → Prop := fun k => k = a ∨ k = p ∨ k = h

theorem At.below {w w' : World} {a p h : Nat} {x : Bx} (b : At w a p h x) (hb : Below w.heap.size w w') : At w' a p h x := BoxAt.below b hb

theorem put_calls {w : World} {a p h : Nat} {x : Bx} (b : At w a p h x) (at_ of_ : Int) (txt : ByteArray) (h0 : 0 ≤ x.bytes) (h1 : x.bytes ≤ 524288) (hl0 : 0 ≤ x.left) (hl1 : x.left ≤ 4096) :
    Calls Try.prog 30 #[.pointer (some ⟨a, 0, none⟩), .agg #[.int .i64 at_, .int .i64 of_, .string txt]] w fun e w' => e = .returned (.int .i64 (x.put at_ of_ txt).2) ∧ At w' a p h (x.put at_ of_ txt).1 ∧ Only (Three a p h) w w' := by
  unfold Bx.put
  by_cases c1 : of_ ≠ (x.P.length : Int)
  · rw [if_pos c1]
    refine (put_of b at_ of_ txt c1).mono ?_
    rintro e w' ⟨rfl, hb⟩
    exact ⟨rfl, BoxAt.below b hb, Only.of_below hb⟩
  rw [if_neg c1]
  have c1' : of_ = (x.P.length : Int) := by omega
  subst c1'
  by_cases c2 : at_ < 0 ∨ (x.P.length : Int) ≤ at_
  · rw [if_pos c2]
    refine (put_range b at_ txt c2).mono ?_
    rintro e w' ⟨rfl, hb⟩
    exact ⟨rfl, BoxAt.below b hb, Only.of_below hb⟩
  rw [if_neg c2]
  obtain ⟨i, rfl⟩ : ∃ i : Nat, at_ = (i : Int) := ⟨at_.toNat, by omega⟩
  have hi : i < x.P.length := by omega
  rw [Int.toNat_natCast]
  by_cases c3 : x.H.getD i false = true
  · rw [if_pos c3]
    refine (put_has b i hi txt c3).mono ?_
    rintro e w' ⟨rfl, hb⟩
    exact ⟨rfl, BoxAt.below b hb, Only.of_below hb⟩
  rw [if_neg c3]
  have c3' : x.H.getD i false = false := by simpa using c3
  by_cases c4 : 524288 - x.bytes < (txt.size : Int)
  · rw [if_pos c4]
    refine (put_long b i hi txt c3' h0 h1 c4).mono ?_
    rintro e w' ⟨rfl, hb⟩
    exact ⟨rfl, BoxAt.below b hb, Only.of_below hb⟩
  rw [if_neg c4]
  refine (put_new b i hi txt c3' h0 h1 (by omega) hl0 hl1).mono ?_
  rintro e w' ⟨rfl, hx, hb⟩
  exact ⟨rfl, hx, hb⟩

/-- A new box. -/
theorem fresh_calls (n : Nat) (w : World) (h0 : 1 ≤ n) (h1 : n ≤ 4096) : Calls Try.prog 34 #[.int .i64 (n : Int)] w fun e w' =>
    ∃ a p h, e = .returned (.tuple #[.pointer (some ⟨a, 0, none⟩), .int .i64 0]) ∧ At w' a p h (Bx.fresh n) ∧ (w.heap.size ≤ a ∧ w.heap.size ≤ p ∧ w.heap.size ≤ h) ∧ Below w.heap.size w w' := new_calls n w h0 h1

theorem left_at {w : World} {a p h : Nat} {x : Bx} (b : At w a p h x) : Calls Try.prog 32 #[.pointer (some ⟨a, 0, none⟩)] w fun e w' => e = .returned (.int .i64 x.left) ∧ w' = w := left_calls b

theorem of_at {w : World} {a p h : Nat} {x : Bx} (b : At w a p h x) : Calls Try.prog 31 #[.pointer (some ⟨a, 0, none⟩)] w fun e w' => e = .returned (.int .i64 (x.P.length : Int)) ∧ w' = w := of_calls b

/-- What only a new box's blocks may have turned lies above. -/
theorem Below.only {B : Nat} {w0 w w' : World} (hb : Below B w0 w) {a p h : Nat} (ho : Only (Three a p h) w w') (hs : B ≤ a ∧ B ≤ p ∧ B ≤ h) (hB : B ≤ w.heap.size) : Below B w0 w' :=
  hb.trans (ho.below hB (fun k hk => by rcases hk with rfl | rfl | rfl <;> omega))

end Go.Proofs.YtdomngcedflapaaW.Box
