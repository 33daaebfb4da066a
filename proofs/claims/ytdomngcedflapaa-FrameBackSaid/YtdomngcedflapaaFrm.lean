/- A payload's frame as a list of bytes; that the program's Frame makes it; that One finds it again, ahead of whatever, and tells ErrShort where it lacks bytes. -/
import Derived.Test.YtdomngcedflapaaOne
import Derived.Test.YtdomngcedflapaaPFramex21
namespace Go.Proofs.YtdomngcedflapaaW.Crc
open Go.RowKit Go.Proofs.Ytdomngcedflapaa.PFrame Go.Proofs.YtdomngcedflapaaW.PrintWords Go.Proofs.YtdomngcedflapaaW.PrintLast Go.Proofs.YtdomngcedflapaaW.PrintMore

/-- A list of bytes as a text. -/
def txt (l : List UInt8) : ByteArray := ⟨l.toArray⟩

theorem by_txt (l : List UInt8) : by_ (txt l) = l := by
  simp [by_, txt]

theorem by_inj {a b : ByteArray} (h : by_ a = by_ b) : a = b := by
  cases a
  cases b
  congr 1
  exact Array.ext' h

theorem txt_by (s : ByteArray) : txt (by_ s) = s := by_inj (by_txt _)

theorem txt_size (l : List UInt8) : (txt l).size = l.length := by
  rw [← by_length, by_txt]

theorem by_app (s t : ByteArray) : by_ (s ++ t) = by_ s ++ by_ t := by
  simp [by_]

theorem by_extract (s : ByteArray) (i j : Nat) : by_ (s.extract i j) = ((by_ s).drop i).take (j - i) := by
  simp [by_, ByteArray.data_extract, Array.toList_extract, List.extract]

/-- Four bytes of a number, the lowest first. -/
def fourL (n : Nat) : List UInt8 := [UInt8.ofNat (n % 256), UInt8.ofNat (n / 256 % 256), UInt8.ofNat (n / 65536 % 256), UInt8.ofNat (n / 16777216 % 256)]

theorem fourL_length (n : Nat) : (fourL n).length = 4 := rfl

theorem four_eq (n : Nat) : frame_four.f (n : Int) = some (txt (fourL n)) := by
  unfold frame_four.f strOfNums txt fourL
  simp only [List.map_cons, List.map_nil]
  congr 4
  all_goals omega

theorem u8_toNat (n : Nat) (h : n < 256) : ((UInt8.ofNat n).toNat : Int) = n := by
  rw [UInt8.toNat_ofNat']
  omega

theorem bt_of (s : ByteArray) (i : Nat) (c : UInt8) (h : (by_ s)[i]? = some c) : bt s (i : Int) = (c.toNat : Int) := by
  obtain ⟨hlt, hc⟩ := List.getElem?_eq_some_iff.1 h
  rw [bt_get s i hlt, hc]

theorem numS_four (s : ByteArray) (n : Nat) (hn : n < 4294967296) (h : by_ s = fourL n) : numS s = n := by
  have e0 := bt_of s 0 _ (by rw [h]; rfl)
  have e1 := bt_of s 1 _ (by rw [h]; rfl)
  have e2 := bt_of s 2 _ (by rw [h]; rfl)
  have e3 := bt_of s 3 _ (by rw [h]; rfl)
  rw [u8_toNat _ (by omega)] at e0 e1 e2 e3
  have f0 : bt s 0 = ((n % 256 : Nat) : Int) := e0
  have f1 : bt s 1 = ((n / 256 % 256 : Nat) : Int) := e1
  have f2 : bt s 2 = ((n / 65536 % 256 : Nat) : Int) := e2
  have f3 : bt s 3 = ((n / 16777216 % 256 : Nat) : Int) := e3
  unfold numS
  rw [f0, f1, f2, f3]
  omega

/-- The sum of the four bytes of length and the payload. -/
def sumL (p : List UInt8) : Nat := (addS 0#32 (fourL p.length ++ p)).toNat

theorem sumL_lt (p : List UInt8) : sumL p < 4294967296 := (addS 0#32 (fourL p.length ++ p)).isLt

/-- A payload's frame. -/
def frameL (p : List UInt8) : List UInt8 := [181, 126] ++ fourL p.length ++ fourL (sumL p) ++ p

theorem frameL_length (p : List UInt8) : (frameL p).length = p.length + 10 := by
  simp [frameL, fourL_length]
  omega

/-- The program's Frame. -/
theorem frame_Frame_eq (s : ByteArray) (hs : s.size ≤ 65536) : Ev (fun k => frame_Frame.f k s) (txt (frameL (by_ s)), 0) := by
  have hl := by_length s
  unfold frame_Frame.f
  refine evNeg (by omega) ?_
  rw [← hl, four_eq]
  simp only [Option.bind_some]
  have z : strOfNums [181, 126] = txt [181, 126] := rfl
  rw [z]
  refine evPos (by rw [txt_size, txt_size, fourL_length]; simp) (evPos (by rw [txt_size, fourL_length]; omega) ?_)
  have hq : (txt (fourL (by_ s).length) ++ s).size ≤ 140737488355328 := by
    rw [ByteArray.size_append, txt_size, fourL_length]
    omega
  refine Ev.bind (frame_Sum_eq _ hq) ?_
  rw [by_app, by_txt]
  have e : (((addS 0#32 (fourL (by_ s).length ++ by_ s)).toNat : Nat) : Int) = ((sumL (by_ s) : Nat) : Int) := rfl
  rw [e, four_eq]
  simp only [Option.bind_some]
  refine evPos (by rw [ByteArray.size_append, txt_size, txt_size, txt_size, fourL_length, fourL_length]; simp) (evPos (by rw [ByteArray.size_append, ByteArray.size_append, txt_size, txt_size, txt_size, fourL_length, fourL_length]; simp; omega) ?_)
  have ef : (txt [181, 126] ++ txt (fourL (by_ s).length) ++ txt (fourL (sumL (by_ s))) ++ s) = txt (frameL (by_ s)) := by
    apply by_inj
    rw [by_app, by_app, by_app, by_txt, by_txt, by_txt, by_txt]
    rfl
  rw [ef]
  exact Ev.now _

theorem frame_Frame_long (s : ByteArray) (hs : 65536 < s.size) : Ev (fun k => frame_Frame.f k s) (none_, 4) := by
  unfold frame_Frame.f
  exact evPos (by omega) (Ev.now _)

/-- What begins with no first sign. -/
theorem oneS_noise (s : ByteArray) (h0 : s.size ≠ 0) (h : bt s 0 ≠ 181) : oneS s = (none_, 0, 5) := by
  unfold oneS
  rw [if_neg h0, if_neg h]

/-- A frame is found again, ahead of whatever. -/
theorem oneS_frame (s : ByteArray) (p rest : List UInt8) (hp : p.length ≤ 65536) (h : by_ s = frameL p ++ rest) :
    oneS s = (txt p, 10 + (p.length : Int), 0) := by
  have hl : s.size = p.length + 10 + rest.length := by
    rw [← by_length, h, List.length_append, frameL_length]
  have b0 : bt s 0 = 181 := bt_of s 0 181 (by rw [h]; rfl)
  have b1 : bt s 1 = 126 := bt_of s 1 126 (by rw [h]; rfl)
  have hform : by_ s = 181 :: 126 :: (fourL p.length ++ (fourL (sumL p) ++ (p ++ rest))) := by
    rw [h, frameL]
    simp
  have e26 : by_ (s.extract 2 6) = fourL p.length := by
    rw [by_extract, hform]
    rfl
  have e610 : by_ (s.extract 6 10) = fourL (sumL p) := by
    rw [by_extract, hform]
    rfl
  have n26 : numS (s.extract 2 6) = (p.length : Int) := numS_four _ _ (by omega) e26
  have n610 : numS (s.extract 6 10) = (sumL p : Int) := numS_four _ _ (sumL_lt p) e610
  have ep : by_ (s.extract 10 (10 + (p.length : Int)).toNat) = p := by
    rw [by_extract, hform]
    have e1 : List.drop 10 (181 :: 126 :: (fourL p.length ++ (fourL (sumL p) ++ (p ++ rest)))) = p ++ rest := rfl
    have e2 : (10 + (p.length : Int)).toNat - 10 = p.length := by omega
    rw [e1, e2, List.take_left]
  unfold oneS
  rw [if_neg (by omega), if_pos b0, if_neg (fun hc => hc.2 b1)]
  unfold tailS
  rw [if_neg (by omega), n26, if_neg (by omega), if_neg (by omega), n610]
  have es : sumS (s.extract 2 6 ++ s.extract 10 (10 + (p.length : Int)).toNat) = (sumL p : Int) := by
    unfold sumS sumL
    rw [by_app, e26, ep]
  rw [if_pos es]
  have ee : s.extract 10 (10 + (p.length : Int)).toNat = txt p := by_inj (by rw [ep, by_txt])
  rw [ee]

/-- A frame that lacks bytes. -/
theorem oneS_cut (s : ByteArray) (p : List UInt8) (m : Nat) (hp : p.length ≤ 65536) (hm : m < p.length + 10) (h : by_ s = (frameL p).take m) :
    (oneS s).2.2 = 3 := by
  have hl : s.size = m := by
    rw [← by_length, h, List.length_take, frameL_length]
    omega
  unfold oneS
  by_cases h0 : m = 0
  · rw [if_pos (by omega)]
  rw [if_neg (by omega)]
  have hg : ∀ i, i < m → (by_ s)[i]? = (frameL p)[i]? := fun i hi => by rw [h, List.getElem?_take, if_pos hi]
  have b0 : bt s 0 = 181 := bt_of s 0 181 (by rw [hg 0 (by omega)]; rfl)
  rw [if_pos b0]
  have hc : ¬ (s.size > 1 ∧ bt s 1 ≠ 126) := by
    rintro ⟨h1, h2⟩
    exact h2 (bt_of s 1 126 (by rw [hg 1 (by omega)]; rfl))
  rw [if_neg hc]
  unfold tailS
  by_cases h6 : m < 6
  · rw [if_pos (by omega)]
  rw [if_neg (by omega)]
  have e26 : by_ (s.extract 2 6) = fourL p.length := by
    rw [by_extract, h, List.drop_take, List.take_take]
    have e1 : min (6 - 2) (m - 2) = 4 := by omega
    rw [e1]
    rfl
  have n26 : numS (s.extract 2 6) = (p.length : Int) := numS_four _ _ (by omega) e26
  rw [n26, if_neg (by omega), if_pos (by omega)]

end Go.Proofs.YtdomngcedflapaaW.Crc
