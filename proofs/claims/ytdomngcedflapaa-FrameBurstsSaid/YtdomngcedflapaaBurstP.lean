/- The plain law of bursts: a text of which bits within 32 side by side are turned has another sum. -/
import Derived.Test.YtdomngcedflapaaCrc
namespace Go.Proofs.YtdomngcedflapaaW.Burst
open Go.Proofs.YtdomngcedflapaaW.Crc

/-- A bit of a byte turned. -/
def flip (l : List UInt8) (m : Nat) : List UInt8 := l.set (m / 8) (l.getD (m / 8) 0 ^^^ UInt8.ofNat (2 ^ (m % 8)))

theorem flip_length (l : List UInt8) (m : Nat) : (flip l m).length = l.length := by simp [flip]

/-- The text behind so many bits of the pattern. -/
def burst (l : List UInt8) (A P : Nat) : Nat → List UInt8
  | 0 => l
  | j + 1 => if P.testBit j = true then flip (burst l A P j) (A + j) else burst l A P j

theorem burst_length (l : List UInt8) (A P j : Nat) : (burst l A P j).length = l.length := by
  induction j with
  | zero => rfl
  | succ j ih =>
    unfold burst
    split
    · rw [flip_length, ih]
    · exact ih

/-- A text's bit. -/
def bitAt (l : List UInt8) (m : Nat) : Bool := (l.getD (m / 8) 0).toNat.testBit (m % 8)

theorem bitsN_get (n : Nat) : ∀ (x : BitVec 32) (i : Nat), (bitsN n x)[i]? = if i < n then some (x.getLsbD i) else none := by
  induction n with
  | zero => intro x i; simp [bitsN]
  | succ n ih =>
    intro x i
    unfold bitsN
    cases i with
    | zero => simp
    | succ i =>
      rw [List.getElem?_cons_succ, ih, BitVec.getLsbD_ushiftRight, Nat.add_comm 1 i]
      by_cases h : i < n
      · rw [if_pos h, if_pos (by omega)]
      · rw [if_neg h, if_neg (by omega)]

theorem byteW_bit (c : UInt8) (i : Nat) (hi : i < 8) : (byteW c).getLsbD i = c.toNat.testBit i := by
  rw [byteW, BitVec.getLsbD_ofNat]
  have : decide (i < 32) = true := decide_eq_true (by omega)
  rw [this, Bool.true_and]

theorem bitsL_get (l : List UInt8) : ∀ m : Nat, (bitsL l)[m]? = if m < 8 * l.length then some (bitAt l m) else none := by
  induction l with
  | nil => intro m; simp [bitsL]
  | cons c l ih =>
    intro m
    rw [bitsL, List.getElem?_append, bits8_length]
    by_cases h : m < 8
    · rw [if_pos h, bits8, bitsN_get, if_pos h, if_pos (by rw [List.length_cons]; omega), byteW_bit c m h]
      have e1 : m / 8 = 0 := by omega
      have e2 : m % 8 = m := by omega
      rw [bitAt, e1, e2]
      rfl
    · rw [if_neg h, ih, List.length_cons]
      have e1 : m / 8 = (m - 8) / 8 + 1 := by omega
      have e2 : m % 8 = (m - 8) % 8 := by omega
      by_cases h2 : m - 8 < 8 * l.length
      · rw [if_pos h2, if_pos (by omega), bitAt, bitAt, e1, e2, List.getD_cons_succ]
      · rw [if_neg h2, if_neg (by omega)]

theorem bitAt_flip (l : List UInt8) (m k : Nat) (hm : m / 8 < l.length) : bitAt (flip l m) k = (bitAt l k ^^ decide (k = m)) := by
  have hr : m % 8 < 8 := Nat.mod_lt _ (by decide)
  have h2 : (UInt8.ofNat (2 ^ (m % 8))).toNat = 2 ^ (m % 8) := by
    rw [UInt8.toNat_ofNat']
    exact Nat.mod_eq_of_lt (Nat.pow_lt_pow_right (by decide) hr)
  unfold bitAt flip
  by_cases e : k / 8 = m / 8
  · have g : (l.set (m / 8) (l.getD (m / 8) 0 ^^^ UInt8.ofNat (2 ^ (m % 8)))).getD (k / 8) 0 = l.getD (m / 8) 0 ^^^ UInt8.ofNat (2 ^ (m % 8)) := by
      rw [e]
      simp [List.getD, hm]
    rw [g, UInt8.toNat_xor, Nat.testBit_xor, h2, Nat.testBit_two_pow, e]
    congr 1
    refine decide_eq_decide.2 ?_
    omega
  · have g : (l.set (m / 8) (l.getD (m / 8) 0 ^^^ UInt8.ofNat (2 ^ (m % 8)))).getD (k / 8) 0 = l.getD (k / 8) 0 := by
      simp only [List.getD_eq_getElem?_getD]
      rw [List.getElem?_set_ne (fun h => e h.symm)]
    have hk : decide (k = m) = false := decide_eq_false (fun h => e (by rw [h]))
    rw [g, hk, Bool.xor_false]

theorem bitAt_burst (l : List UInt8) (A P : Nat) (j : Nat) (h : ∀ i, i < j → P.testBit i = true → (A + i) / 8 < l.length) (k : Nat) :
    bitAt (burst l A P j) k = (bitAt l k ^^ (decide (A ≤ k ∧ k < A + j) && P.testBit (k - A))) := by
  induction j with
  | zero =>
    have e : decide (A ≤ k ∧ k < A + 0) = false := decide_eq_false (by omega)
    rw [burst, e, Bool.false_and, Bool.xor_false]
  | succ j ih =>
    have ih := ih (fun i hi hb => h i (by omega) hb)
    unfold burst
    by_cases hb : P.testBit j = true
    · rw [if_pos hb, bitAt_flip _ _ _ (by rw [burst_length]; exact h j (by omega) hb), ih]
      by_cases e : k = A + j
      · subst e
        have e1 : decide (A ≤ A + j ∧ A + j < A + j) = false := decide_eq_false (by omega)
        have e2 : decide (A ≤ A + j ∧ A + j < A + (j + 1)) = true := decide_eq_true (by omega)
        have e3 : A + j - A = j := by omega
        rw [e1, e2, e3, hb]
        simp
      · have e1 : decide (k = A + j) = false := decide_eq_false e
        have e2 : decide (A ≤ k ∧ k < A + (j + 1)) = decide (A ≤ k ∧ k < A + j) := decide_eq_decide.2 (by omega)
        rw [e1, e2, Bool.xor_false]
    · rw [if_neg hb, ih]
      by_cases e : k = A + j
      · subst e
        have e1 : decide (A ≤ A + j ∧ A + j < A + j) = false := decide_eq_false (by omega)
        have e3 : A + j - A = j := by omega
        have hb' : P.testBit j = false := by simpa using hb
        rw [e1, e3, hb']
        simp
      · have e2 : decide (A ≤ k ∧ k < A + (j + 1)) = decide (A ≤ k ∧ k < A + j) := decide_eq_decide.2 (by omega)
        rw [e2]

/-- What parts the two texts. -/
theorem diff_eq (l : List UInt8) (A P : Nat) (hA : A ≤ 8 * l.length) (h : ∀ i, i < 32 → P.testBit i = true → (A + i) / 8 < l.length) :
    List.zipWith xor (bitsL (burst l A P 32)) (bitsL l) = List.replicate A false ++ bitsN (8 * l.length - A) (BitVec.ofNat 32 P) := by
  apply List.ext_getElem?
  intro k
  rw [List.getElem?_zipWith, bitsL_get, bitsL_get, burst_length, List.getElem?_append, List.length_replicate]
  by_cases hk : k < 8 * l.length
  · rw [if_pos hk, if_pos hk, bitAt_burst l A P 32 h k]
    by_cases h1 : k < A
    · rw [if_pos h1, List.getElem?_replicate, if_pos h1]
      have e : decide (A ≤ k ∧ k < A + 32) = false := decide_eq_false (by omega)
      rw [e]
      simp
    · rw [if_neg h1, bitsN_get, if_pos (by omega), BitVec.getLsbD_ofNat]
      have e : decide (A ≤ k ∧ k < A + 32) = decide (k - A < 32) := decide_eq_decide.2 (by omega)
      rw [e]
      cases bitAt l k <;> simp
  · rw [if_neg hk, if_neg hk, if_neg (by omega), bitsN_get, if_neg (by omega)]

/-- THE PLAIN LAW. -/
theorem burst_sum (l : List UInt8) (A P : Nat) (hA : A ≤ 8 * l.length) (hP0 : 1 ≤ P) (hP : P < 2 ^ 32) (h : ∀ i, i < 32 → P.testBit i = true → (A + i) / 8 < l.length) :
    addS 0#32 (burst l A P 32) ≠ addS 0#32 l := by
  intro he
  have hc : crcC (~~~ 0#32) (burst l A P 32) = crcC (~~~ 0#32) l := by
    have := congrArg (fun z : BitVec 32 => ~~~ z) he
    simpa [addS] using this
  rw [crcC_bits, crcC_bits] at hc
  have hx := crcB_xor (bitsL (burst l A P 32)) (bitsL l) (~~~ 0#32) (~~~ 0#32) (by rw [bitsL_length, bitsL_length, burst_length])
  rw [hc, BitVec.xor_self, BitVec.xor_self, diff_eq l A P hA h, crcB_append, crcB_zeros, turns_zero] at hx
  have ht := turns_mix (8 * l.length - A) 0#32 (BitVec.ofNat 32 P)
  rw [← hx, BitVec.zero_xor, BitVec.zero_xor] at ht
  have hs : BitVec.ofNat 32 P >>> (8 * l.length - A) = 0#32 := by
    apply BitVec.eq_of_getLsbD_eq
    intro i hi
    rw [BitVec.getLsbD_ushiftRight, BitVec.getLsbD_ofNat]
    by_cases hb : P.testBit (8 * l.length - A + i) = true
    · by_cases h32 : 8 * l.length - A + i < 32
      · have := h _ h32 hb
        omega
      · simp [h32]
    · have hb' : P.testBit (8 * l.length - A + i) = false := by simpa using hb
      simp [hb']
  rw [hs] at ht
  have h0 := turns_inj0 _ _ ht
  have := congrArg BitVec.toNat h0
  rw [BitVec.toNat_ofNat, Nat.mod_eq_of_lt hP] at this
  simp at this
  omega

end Go.Proofs.YtdomngcedflapaaW.Burst
