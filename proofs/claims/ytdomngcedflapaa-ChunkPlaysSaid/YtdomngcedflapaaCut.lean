/- What the program's and the document's Cut come to: one plain list of parts, or a refusal; that a list of parts is itself; chapter 13's first example. -/
import Derived.Test.YtdomngcedflapaaCrc
import Derived.Test.YtdomngcedflapaaPChunkx3
import Derived.Test.YtdomngcedflapaaPChunkx4
import Derived.Test.YtdomngcedflapaaPChunkx5
import Derived.Laws.Strings
namespace Go.Proofs.YtdomngcedflapaaW.Cut
open Go.RowKit Go.Proofs.Ytdomngcedflapaa.PChunk Go.Proofs.YtdomngcedflapaaW.PrintWords Go.Proofs.YtdomngcedflapaaW.PrintLast Go.Proofs.YtdomngcedflapaaW.PrintMore
open Go.Proofs.YtdomngcedflapaaW.Crc (evPos evNeg)

theorem wrap64_id {n : Int} (h0 : -9223372036854775808 ≤ n) (h1 : n ≤ 9223372036854775807) : wrap64 n = n := by
  unfold wrap64
  omega

/-- How many parts. -/
def many (len sz : Nat) : Nat := max 1 ((len + sz - 1) / sz)

theorem many_pos (len sz : Nat) : 1 ≤ many len sz := Nat.le_max_left _ _

theorem many_covers (len sz : Nat) (h : 1 ≤ sz) : len ≤ many len sz * sz := by
  have h1 : (len + sz - 1) / sz ≤ many len sz := Nat.le_max_right _ _
  have h2 : (len + sz - 1) / sz * sz ≤ many len sz * sz := Nat.mul_le_mul_right _ h1
  have h3 := Nat.div_add_mod (len + sz - 1) sz
  have h4 := Nat.mod_lt (len + sz - 1) h
  rw [Nat.mul_comm] at h3
  omega

theorem many_least (len sz j : Nat) (h : 1 ≤ sz) (h0 : 1 ≤ j) (hj : j < many len sz) : j * sz < len := by
  have h1 : j < (len + sz - 1) / sz := by
    unfold many at hj
    omega
  have h2 : (j + 1) * sz ≤ (len + sz - 1) / sz * sz := Nat.mul_le_mul_right _ h1
  have h3 := Nat.div_mul_le_self (len + sz - 1) sz
  rw [Nat.succ_mul] at h2
  omega

/-- Is there more behind part j? -/
theorem many_more (len sz j : Nat) (h : 1 ≤ sz) : (j + 1) * sz < len ↔ j + 1 < many len sz := by
  constructor
  · intro hl
    have h1 := many_covers len sz h
    rcases Nat.lt_or_ge (j + 1) (many len sz) with h2 | h2
    · exact h2
    · have := Nat.mul_le_mul_right sz h2
      omega
  · intro hl
    exact many_least len sz (j + 1) h (by omega) hl

/-- A part's text. -/
def part (s : ByteArray) (sz i : Nat) : ByteArray := s.extract (i * sz) (min ((i + 1) * sz) s.size)

/-- A part. -/
def mkP (s : ByteArray) (sz i : Nat) : S36 := ⟨(i : Int), ((many s.size sz : Nat) : Int), part s sz i⟩

/-- The parts. -/
def parts (s : ByteArray) (sz : Nat) : List S36 := (List.range (many s.size sz)).map (mkP s sz)

theorem parts_length (s : ByteArray) (sz : Nat) : (parts s sz).length = many s.size sz := by
  simp [parts]

/-- What is answered. -/
def cutS (s : ByteArray) (a : Int) : List S36 × Int :=
  if a < 1 then ([], 1) else if s.size > 524288 then ([], 4) else if many s.size a.toNat > 4096 then ([], 7) else (parts s a.toNat, 0)

/-- The program's count of the parts. -/
theorem count_eq (len : Nat) (sz : Nat) (hl : len ≤ 524288) (h1 : 1 ≤ sz) (h2 : sz ≤ 9223372036854775807) :
    mx 1 (wrap64 (Int.tdiv (wrap64 ((wrap64 ((len : Int) + (sz : Int))) - 1)) (sz : Int))) = ((many len sz : Nat) : Int) := by
  have hp : 0 < (sz : Int) := by omega
  by_cases hs : sz ≤ 4611686018427387904
  · rw [wrap64_id (n := (len : Int) + (sz : Int)) (by omega) (by omega), wrap64_id (n := (len : Int) + (sz : Int) - 1) (by omega) (by omega)]
    have e : (len : Int) + (sz : Int) - 1 = ((len + sz - 1 : Nat) : Int) := by omega
    rw [e, Int.tdiv_eq_ediv_of_nonneg (by omega), ← Int.natCast_ediv]
    have hd : (len + sz - 1) / sz ≤ len + sz - 1 := Nat.div_le_self _ _
    unfold many
    generalize (len + sz - 1) / sz = q at hd ⊢
    rw [wrap64_id (by omega) (by omega)]
    unfold mx
    split <;> omega
  · have hm : many len sz = 1 := by
      have hd : (len + sz - 1) / sz < 2 := (Nat.div_lt_iff_lt_mul h1).2 (by omega)
      unfold many
      omega
    rw [hm]
    generalize hv : wrap64 ((wrap64 ((len : Int) + (sz : Int))) - 1) = v
    have hv0 : -9223372036854775808 ≤ v ∧ v ≤ 9223372036854775807 := by
      rw [← hv]
      unfold wrap64
      omega
    have ht : Int.tdiv v (sz : Int) ≤ 1 ∧ -2 ≤ Int.tdiv v (sz : Int) := by
      rcases Int.le_total 0 v with hn | hn
      · rw [Int.tdiv_eq_ediv_of_nonneg hn]
        have hd : v / (sz : Int) < 2 := Int.ediv_lt_of_lt_mul hp (by omega)
        have hd0 : 0 ≤ v / (sz : Int) := Int.ediv_nonneg hn (by omega)
        omega
      · have en : v = -(-v) := by omega
        rw [en, Int.neg_tdiv, Int.tdiv_eq_ediv_of_nonneg (by omega)]
        have hd : (-v) / (sz : Int) < 3 := Int.ediv_lt_of_lt_mul hp (by omega)
        have hd0 : 0 ≤ (-v) / (sz : Int) := Int.ediv_nonneg (by omega) (by omega)
        omega
    rw [wrap64_id (by omega) (by omega)]
    unfold mx
    split <;> omega

theorem range_snoc {α : Type} (g : Nat → α) (n : Nat) : (List.range (n + 1)).map g = (List.range n).map g ++ [g n] := by
  rw [List.range_succ, List.map_append]
  rfl

theorem cut_l0 (s : ByteArray) (sz : Nat) (hs : s.size ≤ 524288) (h1 : 1 ≤ sz) (h2 : sz ≤ 9223372036854775807) (hm : many s.size sz ≤ 4096) (d : Nat) : ∀ i : Nat, i + d = many s.size sz →
    Ev (fun k => chunk_Cut.l0 k s (sz : Int) ((many s.size sz : Nat) : Int) ((List.range i).map (mkP s sz)) ((many s.size sz : Nat) : Int) (i : Int)) (parts s sz, 0) := by
  induction d with
  | zero =>
    intro i hi
    obtain rfl : i = many s.size sz := by omega
    refine Ev.step (f := fun _ => some (parts s sz, 0)) (fun k => ?_) (Ev.now _)
    simp only [chunk_Cut.l0]
    rw [if_neg (by omega)]
    rfl
  | succ d ih =>
    intro i hi
    have hless : i * sz ≤ s.size := by
      rcases Nat.eq_zero_or_pos i with h0 | h0
      · rw [h0, Nat.zero_mul]; omega
      · have := many_least s.size sz i h1 h0 (by omega)
        omega
    have hmul : ((i : Int) * (sz : Int)) = ((i * sz : Nat) : Int) := (Int.natCast_mul i sz).symm
    have hadd : (i + 1) * sz = i * sz + sz := Nat.succ_mul i sz
    have e1 : wrap64 ((i : Int) + 1) = ((i + 1 : Nat) : Int) := by rw [wrap64_id (by omega) (by omega)]; rfl
    have hmul1 : (((i + 1 : Nat) : Int) * (sz : Int)) = (((i + 1) * sz : Nat) : Int) := (Int.natCast_mul (i + 1) sz).symm
    have e0 : wrap64 ((i : Int) * (sz : Int)) = ((i * sz : Nat) : Int) := by rw [hmul, wrap64_id (by omega) (by omega)]
    have hb : (i + 1) * sz ≤ 9223372036854775807 := by
      rcases Nat.eq_zero_or_pos i with h0 | h0
      · rw [hadd, h0, Nat.zero_mul]; omega
      · have h3 := many_least s.size sz i h1 h0 (by omega)
        have h4 : 1 * sz ≤ i * sz := Nat.mul_le_mul_right _ h0
        omega
    have e2 : wrap64 (wrap64 ((i : Int) + 1) * (sz : Int)) = (((i + 1) * sz : Nat) : Int) := by rw [e1, hmul1, wrap64_id (by omega) (by omega)]
    have e3 : mn (((i + 1) * sz : Nat) : Int) (s.size : Int) = ((min ((i + 1) * sz) s.size : Nat) : Int) := by
      unfold mn
      split <;> omega
    refine Ev.step (f := _) (fun k => by
      simp only [chunk_Cut.l0]
      rw [if_pos (by omega), e2, e3, e0, e1, if_pos (by omega), if_pos (by omega), if_pos (by omega), if_pos (by simp; omega), Int.toNat_natCast, Int.toNat_natCast]) ?_
    have h := ih (i + 1) (by omega)
    rw [range_snoc] at h
    exact h

/-- The program's Cut. -/
theorem chunk_Cut_eq (s : ByteArray) (a : Int) (ha : a ≤ 9223372036854775807) : Ev (fun k => chunk_Cut.f k s a) (cutS s a) := by
  unfold chunk_Cut.f cutS
  by_cases h1 : a < 1
  · rw [if_pos h1]
    exact evPos h1 (Ev.now _)
  rw [if_neg h1]
  refine evNeg h1 ?_
  by_cases h2 : s.size > 524288
  · rw [if_pos h2]
    exact evPos (by omega) (Ev.now _)
  rw [if_neg h2]
  refine evNeg (by omega) (evNeg (by omega) ?_)
  obtain ⟨sz, rfl⟩ := Int.eq_ofNat_of_zero_le (show 0 ≤ a by omega)
  rw [count_eq s.size sz (by omega) (by omega) (by omega), Int.toNat_natCast]
  by_cases h3 : many s.size sz > 4096
  · rw [if_pos h3]
    exact evPos (by omega) (Ev.now _)
  · rw [if_neg h3]
    refine evNeg (by omega) ?_
    exact cut_l0 s sz (by omega) (by omega) (by omega) (by omega) (many s.size sz) 0 (by omega)

/-! ### the document's -/

theorem rdOf_get (l : List ByteArray) (i : Nat) (h : i < l.length) : rdOf ByteArray.empty l (i : Int) = l[i]'h := by
  simp [rdOf, List.getD, h]

theorem ref_l1 (s : ByteArray) (sz : Nat) (hm : many s.size sz ≤ 4096) (d : Nat) : ∀ i : Nat, i + d = many s.size sz →
    Ev (fun k => barqueref13_Cut.l1 k ((List.range (many s.size sz)).map (part s sz)) ((List.range i).map (mkP s sz)) (i : Int)) (parts s sz, 0) := by
  have hlen : ((List.range (many s.size sz)).map (part s sz)).length = many s.size sz := by simp
  induction d with
  | zero =>
    intro i hi
    obtain rfl : i = many s.size sz := by omega
    refine Ev.step (f := fun _ => some (parts s sz, 0)) (fun k => ?_) (Ev.now _)
    simp only [barqueref13_Cut.l1]
    rw [if_neg (by rw [hlen]; omega)]
    rfl
  | succ d ih =>
    intro i hi
    have e1 : wrap64 ((i : Int) + 1) = ((i + 1 : Nat) : Int) := by rw [wrap64_id (by omega) (by omega)]; rfl
    refine Ev.step (f := _) (fun k => by
      simp only [barqueref13_Cut.l1]
      rw [hlen, if_pos (by omega), if_pos (by omega), if_pos (by simp; omega), e1, rdOf_get _ i (by omega), List.getElem_map, List.getElem_range]) ?_
    have h := ih (i + 1) (by omega)
    rw [range_snoc] at h
    exact h

theorem ref_l0 (s : ByteArray) (sz : Nat) (h1 : 1 ≤ sz) (h2 : sz ≤ 9223372036854775807) (d : Nat) : ∀ j : Nat, j + 1 + d = many s.size sz → j ≤ 4096 →
    Ev (fun k => barqueref13_Cut.l0 k (sz : Int) ((List.range j).map (part s sz)) (s.extract (j * sz) s.size)) (if many s.size sz > 4096 then ([], 7) else (parts s sz, 0)) := by
  induction d with
  | zero =>
    intro j hj hj4
    have hnot : ¬ (j + 1) * sz < s.size := fun h => by have := (many_more s.size sz j h1).1 h; omega
    have hadd : (j + 1) * sz = j * sz + sz := Nat.succ_mul j sz
    have hlast : s.extract (j * sz) s.size = part s sz j := by
      unfold part
      rw [Nat.min_eq_right (by omega)]
    refine Ev.step (f := _) (fun k => by
      simp only [barqueref13_Cut.l0]
      rw [if_neg (by rw [ByteArray.size_extract]; omega), if_pos (by simp; omega)]) ?_
    simp only [Option.bind_some]
    rw [hlast, ← range_snoc]
    have e : j + 1 = many s.size sz := by omega
    rw [e]
    have hlen : ((List.range (many s.size sz)).map (part s sz)).length = many s.size sz := by simp
    by_cases h4 : many s.size sz > 4096
    · rw [if_pos h4]
      exact evPos (by rw [hlen]; omega) (Ev.now _)
    · rw [if_neg h4]
      refine evNeg (by rw [hlen]; omega) ?_
      exact ref_l1 s sz (by omega) (many s.size sz) 0 (by omega)
  | succ d ih =>
    intro j hj hj4
    have hmore : (j + 1) * sz < s.size := (many_more s.size sz j h1).2 (by omega)
    have hadd : (j + 1) * sz = j * sz + sz := Nat.succ_mul j sz
    have hcut : (s.extract (j * sz) s.size).extract 0 sz = part s sz j := by
      rw [ByteArray.extract_extract]
      unfold part
      congr 1
      all_goals omega
    have hrest : (s.extract (j * sz) s.size).extract sz (s.extract (j * sz) s.size).size = s.extract ((j + 1) * sz) s.size := by
      rw [ByteArray.extract_extract, ByteArray.size_extract]
      congr 1
      all_goals omega
    refine Ev.step (f := _) (fun k => by
      simp only [barqueref13_Cut.l0]
      rw [if_pos (by rw [ByteArray.size_extract]; omega), if_pos (by omega), if_pos (by rw [ByteArray.size_extract]; omega), if_pos (by simp; omega), Int.toNat_natCast, hcut, hrest]) ?_
    simp only [Option.bind_some]
    rw [← range_snoc]
    have hlen : ((List.range (j + 1)).map (part s sz)).length = j + 1 := by simp
    by_cases h4 : j + 1 > 4096
    · rw [if_pos (by omega)]
      exact evPos (by rw [hlen]; omega) (Ev.now _)
    · refine evNeg (by rw [hlen]; omega) ?_
      exact ih (j + 1) (by omega) (by omega)

/-- The document's Cut. -/
theorem ref_Cut_eq (s : ByteArray) (a : Int) (ha : a ≤ 9223372036854775807) : Ev (fun k => barqueref13_Cut.f k s a) (cutS s a) := by
  unfold barqueref13_Cut.f cutS
  by_cases h1 : a < 1
  · rw [if_pos h1]
    exact evPos h1 (Ev.now _)
  rw [if_neg h1]
  refine evNeg h1 ?_
  by_cases h2 : s.size > 524288
  · rw [if_pos h2]
    exact evPos (by omega) (Ev.now _)
  rw [if_neg h2]
  refine evNeg (by omega) ?_
  obtain ⟨sz, rfl⟩ := Int.eq_ofNat_of_zero_le (show 0 ≤ a by omega)
  rw [Int.toNat_natCast]
  have hp := many_pos s.size sz
  have h := ref_l0 s sz (by omega) (by omega) (many s.size sz - 1) 0 (by omega) (by omega)
  rw [Nat.zero_mul] at h
  have e : s.extract 0 s.size = s := ByteArray.extract_zero_size
  rw [e] at h
  exact h

/-- A list of parts is itself. -/
theorem parts_l0 (l : List S36) (hl : l.length ≤ 1000000000) (d : Nat) : ∀ i : Nat, i ≤ l.length → l.length - i = d →
    Ev (fun k => barqueref13_Parts.l0 k l l (i : Int)) true := by
  induction d with
  | zero =>
    intro i hi hd
    refine Ev.step (f := fun _ => some true) (fun k => ?_) (Ev.now _)
    simp only [barqueref13_Parts.l0]
    rw [if_neg (by omega)]
  | succ d ih =>
    intro i hi hd
    refine Ev.step (f := fun k => barqueref13_Parts.l0 k l l ((i + 1 : Nat) : Int)) (fun k => ?_) (ih (i + 1) (by omega) (by omega))
    have e1 : wrap64 ((i : Int) + 1) = ((i + 1 : Nat) : Int) := by rw [wrap64_id (by omega) (by omega)]; rfl
    simp only [barqueref13_Parts.l0]
    rw [if_pos (by omega), if_pos (by omega), if_pos (by omega), if_neg (by simp), e1]

theorem parts_same (l : List S36) (hl : l.length ≤ 1000000000) : Ev (fun k => barqueref13_Parts.f k l l) true := by
  unfold barqueref13_Parts.f
  refine evPos rfl ?_
  exact parts_l0 l hl l.length 0 (by omega) (by omega)

/-- Chapter 13's first example. -/
theorem awake_eq : Ev (fun k => barquelaw13_awake.f k) true := by
  unfold barquelaw13_awake.f
  have h := chunk_Cut_eq (⟨#[97, 98, 99, 100, 101]⟩ : ByteArray) 2 (by decide)
  have e : cutS (⟨#[97, 98, 99, 100, 101]⟩ : ByteArray) 2 = ([⟨0, 3, ⟨#[97, 98]⟩⟩, ⟨1, 3, ⟨#[99, 100]⟩⟩, ⟨2, 3, ⟨#[101]⟩⟩], 0) := by rfl
  rw [e] at h
  refine Ev.bind h ?_
  refine evPos rfl (evPos rfl (evPos (by decide) ?_))
  have e2 : (((rd_T36 [(⟨0, 3, ⟨#[97, 98]⟩⟩ : S36), ⟨1, 3, ⟨#[99, 100]⟩⟩, ⟨2, 3, ⟨#[101]⟩⟩] 2).f0) == 2 && (((rd_T36 [(⟨0, 3, ⟨#[97, 98]⟩⟩ : S36), ⟨1, 3, ⟨#[99, 100]⟩⟩, ⟨2, 3, ⟨#[101]⟩⟩] 2).f1) == 3 && ((((rd_T36 [(⟨0, 3, ⟨#[97, 98]⟩⟩ : S36), ⟨1, 3, ⟨#[99, 100]⟩⟩, ⟨2, 3, ⟨#[101]⟩⟩] 2).f2).toList) == ([101] : List UInt8)))) = true := by
    have e3 : rd_T36 [(⟨0, 3, ⟨#[97, 98]⟩⟩ : S36), ⟨1, 3, ⟨#[99, 100]⟩⟩, ⟨2, 3, ⟨#[101]⟩⟩] 2 = ⟨2, 3, ⟨#[101]⟩⟩ := rfl
    rw [e3, ByteArray.toList_eq]
    rfl
  simp only [e2]
  exact Ev.now _

end Go.Proofs.YtdomngcedflapaaW.Cut
