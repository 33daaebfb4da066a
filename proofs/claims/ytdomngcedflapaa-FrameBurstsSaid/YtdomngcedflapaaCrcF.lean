/- What the program's and the document's sums come to: both are the plain sum of the Crc text, for texts whose length is an int. -/
import Derived.Test.YtdomngcedflapaaCrc
import Derived.Test.YtdomngcedflapaaPFramex3
import Derived.Test.YtdomngcedflapaaPFramex6
import Derived.Test.YtdomngcedflapaaPFramex7
namespace Go.Proofs.YtdomngcedflapaaW.Crc
open Go.RowKit Go.Proofs.Ytdomngcedflapaa.PFrame Go.Proofs.YtdomngcedflapaaW.PrintWords Go.Proofs.YtdomngcedflapaaW.PrintLast Go.Proofs.YtdomngcedflapaaW.PrintMore

/-- A text's bytes. -/
abbrev by_ (s : ByteArray) : List UInt8 := s.data.toList

theorem by_length (s : ByteArray) : (by_ s).length = s.size := by
  simp [by_]

theorem bt_get (s : ByteArray) (i : Nat) (h : i < (by_ s).length) : bt s (i : Int) = (((by_ s)[i]'h).toNat : Int) := by
  have h' : i < s.size := by rwa [by_length] at h
  unfold bt
  rw [Int.toNat_natCast, dif_pos h']
  simp only [by_, Array.getElem_toList]
  rfl

theorem wrap64_id {n : Int} (h0 : -9223372036854775808 ≤ n) (h1 : n ≤ 9223372036854775807) : wrap64 n = n := by
  unfold wrap64
  omega

theorem turned_eq (r : BitVec 32) : frame_turned.f (r.toNat : Int) = some ((turn r).toNat : Int) := by
  unfold frame_turned.f
  rw [bits_and1_u32]
  unfold turn
  by_cases h : r.getLsbD 0 = true
  · rw [if_pos h, if_pos rfl, if_pos h]
    have e : ((3988292384 : Int)) = ((poly.toNat : Nat) : Int) := by decide
    rw [← shr1_toNat, e, bits_xor_u32]
  · rw [if_neg h, if_neg (by decide), if_neg h, shr1_toNat]

theorem add_l1 (s : ByteArray) (n i : Int) (q : Int) (d : Nat) : ∀ (r : BitVec 32) (j : Int), 0 ≤ j → j + d = 8 →
    Ev (fun k => frame_Add.l0 k s ((turns d r).toNat : Int) n (wrap64 (i + 1))) q → Ev (fun k => frame_Add.l1 k s (r.toNat : Int) n i j) q := by
  induction d with
  | zero =>
    intro r j h0 hj h
    refine Ev.step (f := fun k => frame_Add.l0 k s (r.toNat : Int) n (wrap64 (i + 1))) (fun k => ?_) h
    simp only [frame_Add.l1]
    rw [if_neg (by omega)]
  | succ d ih =>
    intro r j h0 hj h
    refine Ev.step (f := fun k => frame_Add.l1 k s ((turn r).toNat : Int) n i (j + 1)) (fun k => ?_) (ih (turn r) (j + 1) (by omega) (by omega) h)
    simp only [frame_Add.l1]
    rw [if_pos (by omega), turned_eq, Option.bind_some, wrap64_id (by omega) (by omega)]

theorem byteW_toNat (c : UInt8) : ((byteW c).toNat : Int) = (c.toNat : Int) := by
  have h : c.toNat < 256 := c.toNat_lt
  simp [byteW]

theorem add_l0 (s : ByteArray) (hs : s.size ≤ 140737488355328) (d : Nat) : ∀ (r : BitVec 32) (i : Nat), i + d = (by_ s).length →
    Ev (fun k => frame_Add.l0 k s (r.toNat : Int) (s.size : Int) (i : Int)) (((~~~ crcC r ((by_ s).drop i)).toNat : Nat) : Int) := by
  have hl := by_length s
  induction d with
  | zero =>
    intro r i hi
    refine Ev.step (f := fun _ => some (((~~~ r).toNat : Nat) : Int)) (fun k => ?_) ?_
    · simp only [frame_Add.l0]
      have hr := (~~~ r).isLt
      rw [if_neg (by omega), bits_not_u32, wrap64_id (by omega) (by omega)]
    · rw [List.drop_eq_nil_of_le (by omega), crcC_nil]
      exact Ev.now _
  | succ d ih =>
    intro r i hi
    have hlt : i < (by_ s).length := by omega
    refine Ev.step (f := fun k => frame_Add.l1 k s (((r ^^^ byteW ((by_ s)[i]'hlt)).toNat : Nat) : Int) (s.size : Int) (i : Int) 0) (fun k => ?_) ?_
    · simp only [frame_Add.l0]
      rw [if_pos (by omega), if_pos (by omega), if_pos (by omega), bt_get s i hlt]
      have hb : ((by_ s)[i]'hlt).toNat < 256 := ((by_ s)[i]'hlt).toNat_lt
      rw [Int.emod_eq_of_lt (by omega) (by omega), ← byteW_toNat, bits_xor_u32]
    · refine add_l1 s _ _ _ 8 _ 0 (by omega) (by omega) ?_
      have e : wrap64 ((i : Int) + 1) = ((i + 1 : Nat) : Int) := by rw [wrap64_id (by omega) (by omega)]; rfl
      rw [e, List.drop_eq_getElem_cons hlt, crcC_cons]
      exact ih _ (i + 1) (by omega)

/-- The program's Add. -/
theorem frame_Add_eq (a : Int) (s : ByteArray) (hs : s.size ≤ 140737488355328) : Ev (fun k => frame_Add.f k a s) (((addS (low a) (by_ s)).toNat : Nat) : Int) := by
  unfold frame_Add.f
  rw [← low_toNat, bits_not_u32]
  have h := add_l0 s hs (by_ s).length (~~~ low a) 0 (by omega)
  exact h

theorem frame_Sum_eq (s : ByteArray) (hs : s.size ≤ 140737488355328) : Ev (fun k => frame_Sum.f k s) (((addS 0#32 (by_ s)).toNat : Nat) : Int) := by
  have h := frame_Add_eq 0 s hs
  have e : low 0 = 0#32 := by decide
  rw [e] at h
  exact Ev.bind h (Ev.now _)

/-! ### the document's -/

/-- A bit as a number. -/
def bitI (b : Bool) : Int := if b then 1 else 0

theorem bitI_mod (x : BitVec 32) : ((x.toNat : Nat) : Int) % 2 = bitI (x.getLsbD 0) := by
  rw [bitI, BitVec.getLsbD, Nat.testBit_zero]
  rcases Nat.mod_two_eq_zero_or_one x.toNat with h0 | h0 <;> simp [h0] <;> omega

theorem tmod_nn (x y : Int) (h : 0 ≤ x) : Int.tmod x y = x % y := Int.tmod_eq_emod_of_nonneg h
theorem tdiv_nn (x y : Int) (h : 0 ≤ x) : Int.tdiv x y = x / y := Int.tdiv_eq_ediv_of_nonneg h

theorem bits_l1 (s : ByteArray) (i : Int) (q : List Int) (d : Nat) : ∀ (x : BitVec 32) (acc : List Int) (j : Int), 0 ≤ j → j + d = 8 → acc.length + d < 17592186044416 →
    Ev (fun k => barqueref02_bits.l0 k s (acc ++ (bitsN d x).map bitI) (wrap64 (i + 1))) q → Ev (fun k => barqueref02_bits.l1 k s acc i (x.toNat : Int) j) q := by
  induction d with
  | zero =>
    intro x acc j h0 hj _ h
    rw [bitsN, List.map_nil, List.append_nil] at h
    refine Ev.step (f := fun k => barqueref02_bits.l0 k s acc (wrap64 (i + 1))) (fun k => ?_) h
    simp only [barqueref02_bits.l1]
    rw [if_neg (by omega)]
  | succ d ih =>
    intro x acc j h0 hj hlen h
    have hx := x.isLt
    have e1 : Int.tmod (x.toNat : Int) 2 = bitI (x.getLsbD 0) := by rw [tmod_nn _ _ (by omega), bitI_mod]
    have e2 : wrap64 (Int.tdiv (x.toNat : Int) 2) = (((x >>> 1).toNat : Nat) : Int) := by rw [tdiv_nn _ _ (by omega), ← shr1_toNat, wrap64_id] <;> (have := (x >>> 1).isLt; omega)
    refine Ev.step (f := fun k => barqueref02_bits.l1 k s (acc ++ [bitI (x.getLsbD 0)]) i (((x >>> 1).toNat : Nat) : Int) (j + 1)) (fun k => ?_) (ih (x >>> 1) (acc ++ [bitI (x.getLsbD 0)]) (j + 1) (by omega) (by omega) (by rw [List.length_append]; simp; omega) ?_)
    · simp only [barqueref02_bits.l1]
      rw [if_pos (by omega), if_pos (by omega), e1, e2, wrap64_id (by omega) (by omega)]
    · rw [bitsN, List.map_cons] at h
      rw [List.append_assoc]
      exact h

theorem bits_l0 (s : ByteArray) (hs : s.size ≤ 1000000000000) (d : Nat) : ∀ (acc : List Int) (i : Nat), i + d = (by_ s).length → acc.length = 8 * i →
    Ev (fun k => barqueref02_bits.l0 k s acc (i : Int)) (acc ++ (bitsL ((by_ s).drop i)).map bitI) := by
  have hl := by_length s
  induction d with
  | zero =>
    intro acc i hi _
    refine Ev.step (f := fun _ => some acc) (fun k => ?_) ?_
    · simp only [barqueref02_bits.l0]
      rw [if_neg (by omega)]
    · rw [List.drop_eq_nil_of_le (by omega), bitsL, List.map_nil, List.append_nil]
      exact Ev.now _
  | succ d ih =>
    intro acc i hi hacc
    have hlt : i < (by_ s).length := by omega
    have hb : ((by_ s)[i]'hlt).toNat < 256 := ((by_ s)[i]'hlt).toNat_lt
    refine Ev.step (f := fun k => barqueref02_bits.l1 k s acc (i : Int) (((byteW ((by_ s)[i]'hlt)).toNat : Nat) : Int) 0) (fun k => ?_) ?_
    · simp only [barqueref02_bits.l0]
      rw [if_pos (by omega), if_pos (by omega), bt_get s i hlt, wrap64_id (by omega) (by omega), byteW_toNat]
    · refine bits_l1 s _ _ 8 _ _ 0 (by omega) (by omega) (by omega) ?_
      have e : wrap64 ((i : Int) + 1) = ((i + 1 : Nat) : Int) := by rw [wrap64_id (by omega) (by omega)]; rfl
      rw [e, List.drop_eq_getElem_cons hlt, bitsL, List.map_append, ← List.append_assoc]
      refine ih (acc ++ (bitsN 8 (byteW ((by_ s)[i]'hlt))).map bitI) (i + 1) (by omega) ?_
      rw [List.length_append, List.length_map, bitsN_length]
      omega

theorem ref_bits_eq (s : ByteArray) (hs : s.size ≤ 1000000000000) : Ev (fun k => barqueref02_bits.f k s) ((bitsL (by_ s)).map bitI) := by
  have h := bits_l0 s hs (by_ s).length [] 0 (by omega) (by simp)
  exact h

theorem bits_xor_i64 (x y : BitVec 32) : Go.bits .xor .i64 (x.toNat : Int) (y.toNat : Int) = ((x ^^^ y).toNat : Int) := by
  have hx := x.isLt
  have hy := y.isLt
  have e : ∀ z : BitVec 32, BitVec.ofInt IntKind.i64.bits (z.toNat : Int) = BitVec.ofNat 64 z.toNat := fun z => BitVec.ofInt_natCast ..
  have h : Go.bits .xor .i64 (x.toNat : Int) (y.toNat : Int) = IntKind.i64.wrap (((BitVec.ofInt IntKind.i64.bits (x.toNat : Int)) ^^^ (BitVec.ofInt IntKind.i64.bits (y.toNat : Int))).toNat : Int) := rfl
  rw [h, e, e, IntKind.wrap_i64]
  have h3 : (BitVec.ofNat 64 x.toNat ^^^ BitVec.ofNat 64 y.toNat).toNat = (x ^^^ y).toNat := by
    rw [BitVec.toNat_xor, BitVec.toNat_xor, BitVec.toNat_ofNat, BitVec.toNat_ofNat, Nat.mod_eq_of_lt (by omega), Nat.mod_eq_of_lt (by omega)]
  have h4 := (x ^^^ y).isLt
  have h5 : ((BitVec.ofNat 64 x.toNat ^^^ BitVec.ofNat 64 y.toNat).toNat : Int) = ((x ^^^ y).toNat : Int) := by rw [h3]
  first
    | (rw [h5]; omega)
    | (erw [h5]; omega)

theorem rd_get (l : List Int) (i : Nat) (h : i < l.length) : rd l (i : Int) = l[i]'h := by
  simp [rd, List.getD, h]

/-- One bit, as the document takes it. -/
theorem ref_step (r : BitVec 32) (b : Bool) :
    (if wrap64 (Int.tmod (r.toNat : Int) 2 + bitI b) = 1 then Go.bits .xor .i64 (wrap64 (Int.tdiv (r.toNat : Int) 2)) 3988292384 else wrap64 (Int.tdiv (r.toNat : Int) 2)) = (((stepB r b).toNat : Nat) : Int) := by
  have hx := r.isLt
  have hs := (r >>> 1).isLt
  have e1 : Int.tmod (r.toNat : Int) 2 = bitI (r.getLsbD 0) := by rw [tmod_nn _ _ (by omega), bitI_mod]
  have e2 : wrap64 (Int.tdiv (r.toNat : Int) 2) = (((r >>> 1).toNat : Nat) : Int) := by rw [tdiv_nn _ _ (by omega), ← shr1_toNat, wrap64_id] <;> omega
  have e3 : ((3988292384 : Int)) = ((poly.toNat : Nat) : Int) := by decide
  rw [e1, e2, e3, bits_xor_i64]
  have e4 : (r ^^^ bitw b) >>> 1 = r >>> 1 := by
    rw [shr_xor]
    cases b <;> simp [bitw]
  unfold stepB turn
  rw [getLsbD_xor0, e4]
  cases hr : r.getLsbD 0 <;> cases b <;> simp [bitI, bitw, wrap64]

theorem ref_Add_l0 (l : List Bool) (hl : l.length ≤ 140737488355328) (d : Nat) : ∀ (r : BitVec 32) (i : Nat), i + d = l.length →
    Ev (fun k => barqueref02_Add.l0 k (r.toNat : Int) (l.map bitI) (i : Int)) (((~~~ crcB r (l.drop i)).toNat : Nat) : Int) := by
  have hm : (l.map bitI).length = l.length := List.length_map ..
  induction d with
  | zero =>
    intro r i hi
    have hr := r.isLt
    refine Ev.step (f := fun _ => some (((~~~ r).toNat : Nat) : Int)) (fun k => ?_) ?_
    · simp only [barqueref02_Add.l0]
      rw [if_neg (by omega), not_toNat, wrap64_id (by omega) (by omega)]
    · rw [List.drop_eq_nil_of_le (by omega), crcB_nil]
      exact Ev.now _
  | succ d ih =>
    intro r i hi
    have hlt : i < l.length := by omega
    have hlt' : i < (l.map bitI).length := by omega
    have e : wrap64 ((i : Int) + 1) = ((i + 1 : Nat) : Int) := by rw [wrap64_id (by omega) (by omega)]; rfl
    refine Ev.step (f := fun k => barqueref02_Add.l0 k (((stepB r l[i]).toNat : Nat) : Int) (l.map bitI) ((i + 1 : Nat) : Int)) (fun k => ?_) ?_
    · simp only [barqueref02_Add.l0]
      rw [if_pos (by omega), if_pos (by omega), rd_get _ i hlt', List.getElem_map, e, ← ref_step]
      split <;> rfl
    · rw [List.drop_eq_getElem_cons hlt, crcB_cons]
      exact ih _ (i + 1) (by omega)

theorem and_low (a : Int) : Go.bits .and .i64 a 4294967295 = ((low a).toNat : Int) := by
  have h : Go.bits .and .i64 a 4294967295 = IntKind.i64.wrap (((BitVec.ofInt 64 a) &&& (BitVec.ofInt 64 4294967295)).toNat : Int) := rfl
  have e : (BitVec.ofInt 64 4294967295).toNat = 2 ^ 32 - 1 := by decide
  rw [h, BitVec.toNat_and, e, Nat.and_two_pow_sub_one_eq_mod, IntKind.wrap_i64, low_toNat]
  have h2 : ((BitVec.ofInt 64 a).toNat : Int) = a % 18446744073709551616 := by
    simp only [BitVec.toNat_ofInt]
    have h : ((2 ^ 64 : Nat) : Int) = 18446744073709551616 := rfl
    rw [h, Int.toNat_of_nonneg (Int.emod_nonneg _ (by decide))]
  have h3 : (((BitVec.ofInt 64 a).toNat % 2 ^ 32 : Nat) : Int) = ((BitVec.ofInt 64 a).toNat : Int) % 4294967296 := by omega
  rw [h3, h2]
  omega

/-- The document's Add. -/
theorem ref_Add_eq (a : Int) (s : ByteArray) (hs : s.size ≤ 1000000000000) : Ev (fun k => barqueref02_Add.f k a s) (((addS (low a) (by_ s)).toNat : Nat) : Int) := by
  unfold barqueref02_Add.f
  have hl := by_length s
  refine Ev.bind (ref_bits_eq s hs) ?_
  have hr := (low a).isLt
  rw [and_low, wrap64_id (by omega) (by omega), ← not_toNat]
  have h := ref_Add_l0 (bitsL (by_ s)) (by rw [bitsL_length]; omega) (bitsL (by_ s)).length (~~~ low a) 0 (by omega)
  rw [List.drop_zero, ← crcC_bits] at h
  exact h

theorem ref_Sum_eq (s : ByteArray) (hs : s.size ≤ 1000000000000) : Ev (fun k => barqueref02_Sum.f k s) (((addS 0#32 (by_ s)).toNat : Nat) : Int) := by
  have h := ref_Add_eq 0 s hs
  have e : low 0 = 0#32 := by decide
  rw [e] at h
  exact Ev.bind h (Ev.now _)

/-- Chapter 2's first example. -/
theorem awake_eq : Ev (fun k => barquelaw02_awake.f k) true := by
  unfold barquelaw02_awake.f
  refine Ev.bind (frame_Sum_eq _ (by decide)) ?_
  have e : (((addS 0#32 (by_ (⟨#[49, 50, 51, 52, 53, 54, 55, 56, 57]⟩ : ByteArray))).toNat : Nat) : Int) = 3421780262 := by decide +kernel
  rw [e]
  exact Ev.now _

end Go.Proofs.YtdomngcedflapaaW.Crc
