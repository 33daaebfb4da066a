/- The plain law of CRC-32 over a register of 32 bits: the byte-wise and the bit-wise way are one, the register's step is linear and takes no register but 0 to 0. -/
import Derived.Test.YtdomngcedflapaaMine
namespace Go.Proofs.YtdomngcedflapaaW.Crc
open Go.Proofs.YtdomngcedflapaaW.PrintWords

theorem evPos {α : Type} {c : Prop} [Decidable c] {f g : Nat → Option α} {r : α} (h : c) (e : Ev f r) : Ev (fun k => if c then f k else g k) r :=
  Ev.congr (fun _ => if_pos h) e
theorem evNeg {α : Type} {c : Prop} [Decidable c] {f g : Nat → Option α} {r : α} (h : ¬ c) (e : Ev g r) : Ev (fun k => if c then f k else g k) r :=
  Ev.congr (fun _ => if_neg h) e

/-- The polynomial. -/
def poly : BitVec 32 := 3988292384#32

/-- A register behind one bit. -/
def turn (r : BitVec 32) : BitVec 32 := if r.getLsbD 0 = true then (r >>> 1) ^^^ poly else r >>> 1

theorem turn_zero : turn 0#32 = 0#32 := by decide

theorem getLsbD_xor0 (x y : BitVec 32) : (x ^^^ y).getLsbD 0 = (x.getLsbD 0 ^^ y.getLsbD 0) := by simp

theorem xor_swap (a b c d : BitVec 32) : (a ^^^ b) ^^^ (c ^^^ d) = (a ^^^ c) ^^^ (b ^^^ d) := by
  rw [BitVec.xor_assoc, BitVec.xor_assoc, ← BitVec.xor_assoc b c d, ← BitVec.xor_assoc c b d, BitVec.xor_comm b c]

theorem shr_xor (x y : BitVec 32) : (x ^^^ y) >>> 1 = (x >>> 1) ^^^ (y >>> 1) := by
  ext i hi
  simp

theorem turn_xor (x y : BitVec 32) : turn (x ^^^ y) = turn x ^^^ turn y := by
  unfold turn
  rw [getLsbD_xor0, shr_xor]
  cases hx : x.getLsbD 0 <;> cases hy : y.getLsbD 0 <;> simp
  · rw [BitVec.xor_assoc]
  · rw [BitVec.xor_assoc, BitVec.xor_assoc, BitVec.xor_comm (y >>> 1) poly]
  · rw [xor_swap]; simp

theorem turn_inj0 (x : BitVec 32) (h : turn x = 0#32) : x = 0#32 := by
  unfold turn at h
  by_cases h0 : x.getLsbD 0 = true
  · rw [if_pos h0] at h
    have h31 := congrArg (fun z : BitVec 32 => z.getLsbD 31) h
    simp [poly] at h31
  · rw [if_neg h0] at h
    ext i hi
    cases i with
    | zero => simpa using h0
    | succ i =>
      have hz := congrArg (fun z : BitVec 32 => z.getLsbD i) h
      simp [BitVec.getLsbD_ushiftRight] at hz
      rw [Nat.add_comm 1 i] at hz
      rw [← BitVec.getLsbD_eq_getElem hi, hz]
      simp

/-- Many steps. -/
def turns : Nat → BitVec 32 → BitVec 32
  | 0, r => r
  | n + 1, r => turns n (turn r)

theorem turns_zero (n : Nat) : turns n 0#32 = 0#32 := by
  induction n with
  | zero => rfl
  | succ n ih => rw [turns, turn_zero, ih]

theorem turns_xor (n : Nat) : ∀ x y, turns n (x ^^^ y) = turns n x ^^^ turns n y := by
  induction n with
  | zero => intro x y; rfl
  | succ n ih => intro x y; rw [turns, turns, turns, turn_xor, ih]

theorem turns_inj0 (n : Nat) : ∀ x, turns n x = 0#32 → x = 0#32 := by
  induction n with
  | zero => intro x h; exact h
  | succ n ih => intro x h; exact turn_inj0 _ (ih _ h)

theorem turns_add (m n : Nat) : ∀ x, turns (m + n) x = turns n (turns m x) := by
  induction m with
  | zero => intro x; simp [turns]
  | succ m ih => intro x; rw [Nat.add_right_comm, turns, turns, ih]

/-- A bit as a register. -/
def bitw (b : Bool) : BitVec 32 := if b then 1#32 else 0#32

/-- A register behind one bit of a text. -/
def stepB (r : BitVec 32) (b : Bool) : BitVec 32 := turn (r ^^^ bitw b)

/-- A register behind bits. -/
def crcB (r : BitVec 32) (l : List Bool) : BitVec 32 := l.foldl stepB r

theorem crcB_nil (r : BitVec 32) : crcB r [] = r := rfl
theorem crcB_cons (r : BitVec 32) (b : Bool) (l : List Bool) : crcB r (b :: l) = crcB (stepB r b) l := rfl
theorem crcB_append (r : BitVec 32) (l m : List Bool) : crcB r (l ++ m) = crcB (crcB r l) m := by
  simp [crcB, List.foldl_append]

/-- A number's lowest bits, the lowest first. -/
def bitsN : Nat → BitVec 32 → List Bool
  | 0, _ => []
  | n + 1, x => x.getLsbD 0 :: bitsN n (x >>> 1)

theorem bitsN_length (n : Nat) : ∀ x, (bitsN n x).length = n := by
  induction n with
  | zero => intro x; rfl
  | succ n ih => intro x; simp [bitsN, ih]

/-- One step takes a bit off the number that was xored in. -/
theorem turn_mix (r x : BitVec 32) : turn (r ^^^ x) = stepB r (x.getLsbD 0) ^^^ (x >>> 1) := by
  unfold stepB
  rw [turn_xor, turn_xor, BitVec.xor_assoc]
  congr 1
  unfold turn bitw
  cases h : x.getLsbD 0
  · simp
  · simp
    rw [BitVec.xor_comm]

theorem turns_mix (n : Nat) : ∀ (r x : BitVec 32), turns n (r ^^^ x) = crcB r (bitsN n x) ^^^ (x >>> n) := by
  induction n with
  | zero => intro r x; simp [turns, bitsN, crcB]
  | succ n ih =>
    intro r x
    rw [turns, turn_mix, ih, bitsN, crcB_cons, ← BitVec.shiftRight_add, Nat.add_comm 1 n]

/-- A byte as a register. -/
def byteW (c : UInt8) : BitVec 32 := BitVec.ofNat 32 c.toNat

/-- A register behind a byte. -/
def stepC (r : BitVec 32) (c : UInt8) : BitVec 32 := turns 8 (r ^^^ byteW c)

/-- A register behind bytes. -/
def crcC (r : BitVec 32) (l : List UInt8) : BitVec 32 := l.foldl stepC r

theorem crcC_nil (r : BitVec 32) : crcC r [] = r := rfl
theorem crcC_cons (r : BitVec 32) (c : UInt8) (l : List UInt8) : crcC r (c :: l) = crcC (stepC r c) l := rfl
theorem crcC_append (r : BitVec 32) (l m : List UInt8) : crcC r (l ++ m) = crcC (crcC r l) m := by
  simp [crcC, List.foldl_append]

/-- A byte's bits, the lowest first. -/
def bits8 (c : UInt8) : List Bool := bitsN 8 (byteW c)
theorem bits8_length (c : UInt8) : (bits8 c).length = 8 := bitsN_length _ _

/-- A text's bits. -/
def bitsL : List UInt8 → List Bool
  | [] => []
  | c :: l => bits8 c ++ bitsL l

theorem bitsL_length (l : List UInt8) : (bitsL l).length = 8 * l.length := by
  induction l with
  | nil => rfl
  | cons c l ih => rw [bitsL, List.length_append, bits8_length, ih, List.length_cons]; omega

theorem bitsL_append (l m : List UInt8) : bitsL (l ++ m) = bitsL l ++ bitsL m := by
  induction l with
  | nil => rfl
  | cons c l ih => rw [List.cons_append, bitsL, bitsL, ih, List.append_assoc]

theorem byteW_shr8 (c : UInt8) : byteW c >>> 8 = 0#32 := by
  apply BitVec.eq_of_toNat_eq
  have h : c.toNat < 256 := c.toNat_lt
  simp [byteW, BitVec.toNat_ushiftRight, Nat.shiftRight_eq_div_pow]
  omega

theorem stepC_bits (r : BitVec 32) (c : UInt8) : stepC r c = crcB r (bits8 c) := by
  rw [stepC, turns_mix, byteW_shr8, bits8]
  simp

/-- The byte-wise and the bit-wise way are one. -/
theorem crcC_bits (l : List UInt8) : ∀ r, crcC r l = crcB r (bitsL l) := by
  induction l with
  | nil => intro r; rfl
  | cons c l ih => intro r; rw [crcC_cons, stepC_bits, bitsL, crcB_append, ih]

/-- The sum of a text that goes on from another. -/
def addS (a : BitVec 32) (l : List UInt8) : BitVec 32 := ~~~ crcC (~~~ a) l

theorem addS_append (a : BitVec 32) (l m : List UInt8) : addS a (l ++ m) = addS (addS a l) m := by
  simp [addS, crcC_append]

/-- Linearity over texts of one length. -/
theorem crcB_xor (l : List Bool) : ∀ (m : List Bool) (r q : BitVec 32), l.length = m.length →
    crcB r l ^^^ crcB q m = crcB (r ^^^ q) (List.zipWith xor l m) := by
  induction l with
  | nil => intro m r q h; cases m with
    | nil => rfl
    | cons b m => simp at h
  | cons a l ih => intro m r q h; cases m with
    | nil => simp at h
    | cons b m =>
      rw [crcB_cons, crcB_cons, ih m _ _ (by simpa using h), List.zipWith_cons_cons, crcB_cons]
      congr 1
      unfold stepB
      rw [← turn_xor, xor_swap]
      congr 2
      cases a <;> cases b <;> decide

theorem crcB_zeros (n : Nat) : ∀ r, crcB r (List.replicate n false) = turns n r := by
  induction n with
  | zero => intro r; rfl
  | succ n ih => intro r; rw [List.replicate_succ, crcB_cons, ih, turns]; simp [stepB, bitw]

/-! ### numbers -/

theorem ofInt_nat (x : BitVec 32) : BitVec.ofInt 32 (x.toNat : Int) = x := by
  simp

theorem bits_xor_u32 (x y : BitVec 32) : Go.bits .xor .u32 (x.toNat : Int) (y.toNat : Int) = ((x ^^^ y).toNat : Int) := by
  have h : Go.bits .xor .u32 (x.toNat : Int) (y.toNat : Int) = IntKind.u32.wrap (((BitVec.ofInt 32 (x.toNat : Int)) ^^^ (BitVec.ofInt 32 (y.toNat : Int))).toNat : Int) := rfl
  rw [h, ofInt_nat, ofInt_nat, IntKind.wrap_u32]
  have := (x ^^^ y).isLt
  omega

theorem bits_and1_u32 (x : BitVec 32) : Go.bits .and .u32 (x.toNat : Int) 1 = if x.getLsbD 0 = true then 1 else 0 := by
  have h : Go.bits .and .u32 (x.toNat : Int) 1 = IntKind.u32.wrap (((BitVec.ofInt 32 (x.toNat : Int)) &&& (BitVec.ofInt 32 1)).toNat : Int) := rfl
  rw [h, ofInt_nat, IntKind.wrap_u32]
  have e : BitVec.ofInt 32 1 = 1#32 := by decide
  rw [e, BitVec.toNat_and]
  have e1 : (1#32).toNat = 1 := rfl
  rw [e1, Nat.and_one_is_mod, BitVec.getLsbD, Nat.testBit_zero]
  rcases Nat.mod_two_eq_zero_or_one x.toNat with h0 | h0 <;> simp [h0]

/-- A number's lowest 32 bits. -/
def low (n : Int) : BitVec 32 := BitVec.ofInt 32 n

theorem low_toNat (n : Int) : ((low n).toNat : Int) = n % 4294967296 := by
  simp only [low, BitVec.toNat_ofInt]
  have h : ((2 ^ 32 : Nat) : Int) = 4294967296 := rfl
  rw [h, Int.toNat_of_nonneg (Int.emod_nonneg _ (by decide))]

theorem bits_not_u32 (x : BitVec 32) : Go.bits .xor .u32 4294967295 (x.toNat : Int) = ((~~~ x).toNat : Int) := by
  have h := bits_xor_u32 (BitVec.allOnes 32) x
  have e : (((BitVec.allOnes 32).toNat : Nat) : Int) = 4294967295 := by decide
  rw [e] at h
  rw [h, BitVec.allOnes_xor]

theorem shr1_toNat (x : BitVec 32) : ((x >>> 1).toNat : Int) = (x.toNat : Int) / 2 := by
  simp [BitVec.toNat_ushiftRight, Nat.shiftRight_eq_div_pow]

theorem not_toNat (x : BitVec 32) : ((~~~ x).toNat : Int) = 4294967295 - (x.toNat : Int) := by
  have h := x.isLt
  rw [BitVec.toNat_not]
  omega

end Go.Proofs.YtdomngcedflapaaW.Crc
