/- What the program's and the document's One and Scan come to: one plain function of the bytes; the steps of a scan. -/
import Derived.Test.YtdomngcedflapaaCrcF
import Derived.Test.YtdomngcedflapaaPFramex12
import Derived.Test.YtdomngcedflapaaPFramex14
import Derived.Laws.Strings
namespace Go.Proofs.YtdomngcedflapaaW.Crc
open Go.RowKit Go.Proofs.Ytdomngcedflapaa.PFrame Go.Proofs.YtdomngcedflapaaW.PrintWords Go.Proofs.YtdomngcedflapaaW.PrintLast Go.Proofs.YtdomngcedflapaaW.PrintMore

/-- The empty text. -/
def none_ : ByteArray := ⟨#[]⟩

/-- Four bytes as a number, the lowest first. -/
def numS (s : ByteArray) : Int := bt s 0 + bt s 1 * 256 + bt s 2 * 65536 + bt s 3 * 16777216

theorem numS_range (s : ByteArray) : 0 ≤ numS s ∧ numS s ≤ 4294967295 := by
  have h0 := bt_range s 0
  have h1 := bt_range s 1
  have h2 := bt_range s 2
  have h3 := bt_range s 3
  unfold numS
  omega

theorem wraps_i64 (n : Int) (h0 : 0 ≤ n) (h1 : n < 2 ^ 63) : IntKind.i64.wrap n = n := by
  rw [IntKind.wrap_i64]
  have : (2 : Int) ^ 63 = 9223372036854775808 := by decide
  omega

theorem bits_or_comm (k : IntKind) (x y : Int) : Go.bits .or k x y = Go.bits .or k y x := by
  have h : ∀ a b : Int, Go.bits .or k a b = k.wrap (((BitVec.ofInt k.bits a) ||| (BitVec.ofInt k.bits b)).toNat : Int) := fun _ _ => rfl
  rw [h, h, BitVec.or_comm]

theorem or_i64 (i : Nat) (x y : Int) (hx0 : 0 ≤ x) (hx : x < 2 ^ i) (hx1 : x < 2 ^ 63) (hy0 : 0 ≤ y) (hy : y % 2 ^ i = 0) (hy1 : y < 2 ^ 63) : Go.bits .or .i64 x y = x + y := by
  rw [bits_or_comm, bits_join .i64 63 (by decide) wraps_i64 i y x hy0 hy hy1 hx0 hx hx1, Int.add_comm]

theorem frame_number_eq (s : ByteArray) (h : s.size = 4) : frame_number.f s = some (numS s) := by
  have h0 := bt_range s 0
  have h1 := bt_range s 1
  have h2 := bt_range s 2
  have h3 := bt_range s 3
  have p8 : (2 : Int) ^ 8 = 256 := by decide
  have p16 : (2 : Int) ^ 16 = 65536 := by decide
  have p24 : (2 : Int) ^ 24 = 16777216 := by decide
  have p63 : (2 : Int) ^ 63 = 9223372036854775808 := by decide
  unfold frame_number.f
  rw [if_pos (by omega), if_pos (by omega), if_pos (by omega), if_pos (by omega)]
  rw [wrap64_id (n := bt s 0) (by omega) (by omega), wrap64_id (n := bt s 1) (by omega) (by omega), wrap64_id (n := bt s 2) (by omega) (by omega), wrap64_id (n := bt s 3) (by omega) (by omega)]
  rw [wrap64_id (n := bt s 1 * 256) (by omega) (by omega), wrap64_id (n := bt s 2 * 65536) (by omega) (by omega), wrap64_id (n := bt s 3 * 16777216) (by omega) (by omega)]
  rw [or_i64 8 (bt s 0) (bt s 1 * 256) (by omega) (by omega) (by omega) (by omega) (by omega) (by omega)]
  rw [or_i64 16 (bt s 0 + bt s 1 * 256) (bt s 2 * 65536) (by omega) (by omega) (by omega) (by omega) (by omega) (by omega)]
  rw [or_i64 24 (bt s 0 + bt s 1 * 256 + bt s 2 * 65536) (bt s 3 * 16777216) (by omega) (by omega) (by omega) (by omega) (by omega) (by omega)]
  rfl

theorem ref_number_eq (s : ByteArray) (h : s.size = 4) : Ev (fun k => barqueref02_number.f k s) (numS s) := by
  have h0 := bt_range s 0
  have h1 := bt_range s 1
  have h2 := bt_range s 2
  have h3 := bt_range s 3
  have step : ∀ (x i : Int) (q : Int), 0 ≤ i → i < 4 → 0 ≤ x → x ≤ 16777215 → 0 ≤ bt s i → bt s i ≤ 255 → Ev (fun k => barqueref02_number.l0 k s (256 * x + bt s i) (i - 1)) q → Ev (fun k => barqueref02_number.l0 k s x i) q := by
    intro x i q hi0 hi1 hx0 hx1 hb0 hb1 he
    refine Ev.step (f := fun k => barqueref02_number.l0 k s (256 * x + bt s i) (i - 1)) (fun k => ?_) he
    simp only [barqueref02_number.l0]
    rw [if_pos (by omega), if_pos (by omega), if_pos (by omega), wrap64_id (n := 256 * x) (by omega) (by omega), wrap64_id (n := bt s i) (by omega) (by omega), wrap64_id (by omega) (by omega), wrap64_id (by omega) (by omega)]
  refine step 0 3 _ (by omega) (by omega) (by omega) (by omega) (by omega) (by omega) ?_
  refine step _ 2 _ (by omega) (by omega) (by omega) (by omega) (by omega) (by omega) ?_
  refine step _ 1 _ (by omega) (by omega) (by omega) (by omega) (by omega) (by omega) ?_
  refine step _ 0 _ (by omega) (by omega) (by omega) (by omega) (by omega) (by omega) ?_
  refine Ev.step (f := fun _ => some (numS s)) (fun k => ?_) (Ev.now _)
  simp only [barqueref02_number.l0]
  rw [if_neg (by omega)]
  congr 1
  unfold numS
  omega

/-- A text's sum, as a number. -/
def sumS (s : ByteArray) : Int := (((addS 0#32 (by_ s)).toNat : Nat) : Int)

theorem sumS_range (s : ByteArray) : 0 ≤ sumS s ∧ sumS s ≤ 4294967295 := by
  have := (addS 0#32 (by_ s)).isLt
  unfold sumS
  omega

/-- What stands behind the two signs. -/
def tailS (s : ByteArray) : ByteArray × Int × Int :=
  if s.size < 6 then (none_, 0, 3) else
  if numS (s.extract 2 6) > 65536 then (none_, 0, 4) else
  if (s.size : Int) < 10 + numS (s.extract 2 6) then (none_, 0, 3) else
  if sumS (s.extract 2 6 ++ s.extract 10 (10 + numS (s.extract 2 6)).toNat) = numS (s.extract 6 10) then (s.extract 10 (10 + numS (s.extract 2 6)).toNat, 10 + numS (s.extract 2 6), 0) else (none_, 0, 6)

/-- The frame with which bytes begin. -/
def oneS (s : ByteArray) : ByteArray × Int × Int :=
  if s.size = 0 then (none_, 0, 3) else
  if bt s 0 = 181 then (if s.size > 1 ∧ bt s 1 ≠ 126 then (none_, 0, 5) else tailS s) else (none_, 0, 5)

theorem toList_nil (s : ByteArray) : s.toList = ([] : List UInt8) ↔ s.size = 0 := by
  have hl : s.data.toList.length = s.size := by_length s
  rw [ByteArray.toList_eq]
  constructor
  · intro h
    rw [h] at hl
    exact hl.symm
  · intro h
    exact List.eq_nil_of_length_eq_zero (by omega)

theorem frame_j0_true (s : ByteArray) : Ev (fun k => frame_One.j0 k s true) (none_, 0, 5) :=
  Ev.step (f := fun _ => some (none_, 0, 5)) (fun k => by simp only [frame_One.j0]; rw [if_pos trivial]; rfl) (Ev.now _)

theorem ref_j0_true (s : ByteArray) : Ev (fun k => barqueref02_One.j0 k s true) (none_, 0, 5) :=
  Ev.step (f := fun _ => some (none_, 0, 5)) (fun k => by simp only [barqueref02_One.j0]; rw [if_pos trivial]; rfl) (Ev.now _)

theorem frame_j0_false (s : ByteArray) (hs : s.size ≤ 1000000000) : Ev (fun k => frame_One.j0 k s false) (tailS s) := by
  refine Ev.step (f := _) (fun k => by simp only [frame_One.j0]; rw [if_neg (by decide)]) ?_
  unfold tailS
  by_cases h6 : s.size < 6
  · rw [if_pos h6]
    exact evPos (by omega) (Ev.now _)
  rw [if_neg h6]
  refine evNeg (by omega) (evPos (by omega) (evPos (by omega) ?_))
  rw [frame_number_eq _ (by rw [ByteArray.size_extract]; omega)]
  have hr := numS_range (s.extract 2 6)
  generalize numS (s.extract 2 6) = n at hr ⊢
  simp only [Option.bind_some]
  by_cases hl : n > 65536
  · rw [if_pos hl]
    exact evPos hl (Ev.now _)
  rw [if_neg hl]
  refine evNeg hl ?_
  rw [wrap64_id (by omega) (by omega)]
  by_cases hf : (s.size : Int) < 10 + n
  · rw [if_pos hf]
    exact evPos hf (Ev.now _)
  rw [if_neg hf]
  refine evNeg hf (evPos (by omega) (evPos (by omega) (evPos (by rw [ByteArray.size_extract, ByteArray.size_extract]; omega) ?_)))
  refine Ev.bind (frame_Sum_eq _ (by rw [ByteArray.size_append, ByteArray.size_extract, ByteArray.size_extract]; omega)) ?_
  refine evPos (by omega) (evPos (by omega) ?_)
  rw [frame_number_eq _ (by rw [ByteArray.size_extract]; omega)]
  simp only [Option.bind_some]
  by_cases he : sumS (s.extract 2 6 ++ s.extract 10 (10 + n).toNat) = numS (s.extract 6 10)
  · rw [if_pos he]
    exact evPos he (Ev.now _)
  · rw [if_neg he]
    exact evNeg he (Ev.now _)

theorem ref_j0_false (s : ByteArray) (hs : s.size ≤ 1000000000) : Ev (fun k => barqueref02_One.j0 k s false) (tailS s) := by
  refine Ev.step (f := _) (fun k => by simp only [barqueref02_One.j0]; rw [if_neg (by decide)]) ?_
  unfold tailS
  by_cases h6 : s.size < 6
  · rw [if_pos h6]
    exact evPos (by omega) (Ev.now _)
  rw [if_neg h6]
  refine evNeg (by omega) (evPos (by omega) (evPos (by omega) ?_))
  refine Ev.bind (ref_number_eq _ (by rw [ByteArray.size_extract]; omega)) ?_
  have hr := numS_range (s.extract 2 6)
  generalize numS (s.extract 2 6) = n at hr ⊢
  by_cases hl : n > 65536
  · rw [if_pos hl]
    exact evPos hl (Ev.now _)
  rw [if_neg hl]
  refine evNeg hl ?_
  rw [wrap64_id (by omega) (by omega)]
  by_cases hf : (s.size : Int) < 10 + n
  · rw [if_pos hf]
    exact evPos hf (Ev.now _)
  rw [if_neg hf]
  refine evNeg hf (evPos (by omega) (evPos (by omega) ?_))
  refine Ev.bind (ref_number_eq _ (by rw [ByteArray.size_extract]; omega)) ?_
  refine evPos (by omega) (evPos (by omega) (evPos (by rw [ByteArray.size_extract, ByteArray.size_extract]; omega) ?_))
  refine Ev.bind (ref_Sum_eq _ (by rw [ByteArray.size_append, ByteArray.size_extract, ByteArray.size_extract]; omega)) ?_
  by_cases he : sumS (s.extract 2 6 ++ s.extract 10 (10 + n).toNat) = numS (s.extract 6 10)
  · rw [if_pos he]
    exact evPos he.symm (Ev.now _)
  · rw [if_neg he]
    exact evNeg (fun h => he h.symm) (Ev.now _)

theorem bne_of (x : Int) : (x != 126) = if x = 126 then false else true := by
  by_cases h : x = 126 <;> simp [h]

/-- The program's One. -/
theorem frame_One_eq (s : ByteArray) (hs : s.size ≤ 1000000000) : Ev (fun k => frame_One.f k s) (oneS s) := by
  unfold frame_One.f oneS
  by_cases h0 : s.size = 0
  · rw [if_pos h0]
    exact evPos ((toList_nil s).2 h0) (Ev.now _)
  rw [if_neg h0]
  refine evNeg (fun h => h0 ((toList_nil s).1 h)) (evPos (by omega) ?_)
  by_cases h1 : bt s 0 = 181
  · rw [if_pos h1]
    refine evPos h1 ?_
    by_cases h2 : s.size > 1
    · refine evPos (by omega) (evPos (by omega) ?_)
      rw [bne_of]
      by_cases h3 : bt s 1 = 126
      · rw [if_pos h3, if_neg (fun h => h.2 h3)]
        exact frame_j0_false s hs
      · rw [if_neg h3, if_pos ⟨h2, h3⟩]
        exact frame_j0_true s
    · rw [if_neg (fun h => h2 h.1)]
      refine evNeg (by omega) ?_
      exact frame_j0_false s hs
  · rw [if_neg h1]
    refine evNeg h1 ?_
    exact frame_j0_true s

/-- The document's One. -/
theorem ref_One_eq (s : ByteArray) (hs : s.size ≤ 1000000000) : Ev (fun k => barqueref02_One.f k s) (oneS s) := by
  unfold barqueref02_One.f oneS
  by_cases h0 : s.size = 0
  · rw [if_pos h0]
    refine evNeg (by omega) (evNeg (by omega) ?_)
    have h := ref_j0_false s hs
    rw [tailS, if_pos (by omega)] at h
    exact h
  rw [if_neg h0]
  refine evPos (by omega) (evPos (by omega) ?_)
  by_cases h1 : bt s 0 = 181
  · rw [if_pos h1]
    refine evPos h1 ?_
    by_cases h2 : s.size > 1
    · refine evPos (by omega) (evPos (by omega) ?_)
      rw [bne_of]
      by_cases h3 : bt s 1 = 126
      · rw [if_pos h3, if_neg (fun h => h.2 h3)]
        exact ref_j0_false s hs
      · rw [if_neg h3, if_pos ⟨h2, h3⟩]
        exact ref_j0_true s
    · rw [if_neg (fun h => h2 h.1)]
      refine evNeg (by omega) ?_
      exact ref_j0_false s hs
  · rw [if_neg h1]
    refine evNeg h1 ?_
    exact ref_j0_true s

end Go.Proofs.YtdomngcedflapaaW.Crc
