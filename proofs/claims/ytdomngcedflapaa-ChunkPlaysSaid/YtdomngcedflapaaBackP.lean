/- The plain law of ChunkBack: the parts of a text come together to it. -/
import Derived.Test.YtdomngcedflapaaMiss
import Derived.Test.YtdomngcedflapaaTxt
import Derived.Test.YtdomngcedflapaaCut
namespace Go.Proofs.YtdomngcedflapaaW.BackP
open Go.Proofs.YtdomngcedflapaaW.Box Go.Proofs.YtdomngcedflapaaW.Cut

/-- How many of the first places lack. -/
def cnt (H : List Bool) : Nat → Nat
  | 0 => 0
  | j + 1 => cnt H j + if H.getD j false = true then 0 else 1

/-- How many bytes the first places hold. -/
def sumB (f : Nat → ByteArray) (H : List Bool) : Nat → Nat
  | 0 => 0
  | j + 1 => sumB f H j + if H.getD j false = true then (f j).size else 0

/-- How many bytes there are in all. -/
def tot (f : Nat → ByteArray) : Nat → Nat
  | 0 => 0
  | j + 1 => tot f j + (f j).size

theorem cnt_le (H : List Bool) : ∀ j, cnt H j ≤ j
  | 0 => Nat.le_refl _
  | j + 1 => by have := cnt_le H j; unfold cnt; split <;> omega

theorem sum_le (f : Nat → ByteArray) (H : List Bool) : ∀ j, sumB f H j ≤ tot f j
  | 0 => Nat.le_refl _
  | j + 1 => by have := sum_le f H j; unfold sumB tot; split <;> omega

theorem getD_set (H : List Bool) (i j : Nat) (hi : i < H.length) : (H.set i true).getD j false = if i = j then true else H.getD j false := by
  by_cases h : i = j
  · subst h
    simp [List.getD, hi]
  · rw [if_neg h]
    simp [List.getD, h]

theorem cnt_set (H : List Bool) (i : Nat) (hi : i < H.length) (hf : H.getD i false = false) : ∀ j, cnt (H.set i true) j + (if i < j then 1 else 0) = cnt H j
  | 0 => by simp [cnt]
  | j + 1 => by
    have ih := cnt_set H i hi hf j
    unfold cnt
    rw [getD_set H i j hi]
    by_cases h : i = j
    · subst h
      rw [if_neg (by omega)] at ih
      rw [hf]
      simp
      omega
    · rw [if_neg h]
      by_cases h2 : i < j
      · rw [if_pos h2] at ih
        rw [if_pos (by omega : i < j + 1)]
        omega
      · rw [if_neg h2] at ih
        rw [if_neg (by omega : ¬ i < j + 1)]
        omega

theorem sum_set (f : Nat → ByteArray) (H : List Bool) (i : Nat) (hi : i < H.length) (hf : H.getD i false = false) : ∀ j, sumB f (H.set i true) j = sumB f H j + (if i < j then (f i).size else 0)
  | 0 => by simp [sumB]
  | j + 1 => by
    have ih := sum_set f H i hi hf j
    unfold sumB
    rw [getD_set H i j hi]
    by_cases h : i = j
    · subst h
      rw [if_neg (by omega)] at ih
      rw [hf]
      simp
      omega
    · rw [if_neg h]
      by_cases h2 : i < j
      · rw [if_pos h2] at ih
        rw [if_pos (by omega : i < j + 1)]
        omega
      · rw [if_neg h2] at ih
        rw [if_neg (by omega : ¬ i < j + 1)]
        omega

/-- A box that holds some of the texts. -/
structure Good (f : Nat → ByteArray) (n : Nat) (x : Bx) : Prop where
  lp : x.P.length = n
  lh : x.H.length = n
  has : ∀ j, j < n → x.H.getD j false = true → x.P.getD j ByteArray.empty = f j
  left : x.left = cnt x.H n
  bytes : x.bytes = sumB f x.H n

theorem Good.b0 {f : Nat → ByteArray} {n : Nat} {x : Bx} (g : Good f n x) : 0 ≤ x.bytes := by rw [g.bytes]; omega
theorem Good.b1 {f : Nat → ByteArray} {n : Nat} {x : Bx} (g : Good f n x) (ht : tot f n ≤ 524288) : x.bytes ≤ 524288 := by have := sum_le f x.H n; rw [g.bytes]; omega
theorem Good.l0 {f : Nat → ByteArray} {n : Nat} {x : Bx} (g : Good f n x) : 0 ≤ x.left := by rw [g.left]; omega
theorem Good.l1 {f : Nat → ByteArray} {n : Nat} {x : Bx} (g : Good f n x) (hn : n ≤ 4096) : x.left ≤ 4096 := by have := cnt_le x.H n; rw [g.left]; omega

theorem getD_rep (n j : Nat) : (List.replicate n false).getD j false = false := by
  rw [List.getD, List.getElem?_replicate]
  split <;> rfl

theorem cnt_false : ∀ (n j : Nat), cnt (List.replicate n false) j = j
  | _, 0 => rfl
  | n, j + 1 => by
    unfold cnt
    rw [cnt_false n j, if_neg (by rw [getD_rep]; decide)]

theorem sum_false (f : Nat → ByteArray) : ∀ (n j : Nat), sumB f (List.replicate n false) j = 0
  | _, 0 => rfl
  | n, j + 1 => by
    unfold sumB
    rw [sum_false f n j, if_neg (by rw [getD_rep]; decide)]

theorem good_fresh (f : Nat → ByteArray) (n : Nat) : Good f n (Bx.fresh n) :=
  ⟨by simp [Bx.fresh], by simp [Bx.fresh], fun j _ hj => by exact absurd ((getD_rep n j).symm.trans hj) (by decide), by
    show (n : Int) = _
    rw [show (Bx.fresh n).H = List.replicate n false from rfl, cnt_false], by
    show (0 : Int) = _
    rw [show (Bx.fresh n).H = List.replicate n false from rfl, sum_false]
    rfl⟩

/-- A text is put in its place. -/
theorem good_put {f : Nat → ByteArray} {n : Nat} {x : Bx} (g : Good f n x) (ht : tot f n ≤ 524288) (i : Nat) (hi : i < n) :
    ∃ x', x.put (i : Int) (n : Int) (f i) = (x', 0) ∧ Good f n x' ∧ ∀ j, j < n → (j = i ∨ x.H.getD j false = true) → x'.H.getD j false = true := by
  unfold Bx.put
  rw [Int.toNat_natCast, g.lp, if_neg (by omega), if_neg (by omega)]
  by_cases hh : x.H.getD i false = true
  · rw [if_pos hh, if_pos (g.has i hi hh)]
    exact ⟨x, rfl, g, fun j _ h => by rcases h with rfl | h; exact hh; exact h⟩
  · have hf : x.H.getD i false = false := by simpa using hh
    have hlh := g.lh
    have s1 := sum_set f x.H i (by omega) hf n
    have s2 := sum_le f (x.H.set i true) n
    have c1 := cnt_set x.H i (by omega) hf n
    rw [if_pos hi] at s1 c1
    have hb := g.bytes
    have hl := g.left
    rw [if_neg hh, if_neg (by omega)]
    refine ⟨_, rfl, ⟨by simp [g.lp], by simp [g.lh], fun j hj h => ?_, by show x.left - 1 = _; show _ = ((cnt (x.H.set i true) n : Nat) : Int); omega, by show x.bytes + _ = _; show _ = ((sumB f (x.H.set i true) n : Nat) : Int); omega⟩, fun j hj h => ?_⟩
    · have h' : (x.H.set i true).getD j false = true := h
      show (x.P.set i (f i)).getD j ByteArray.empty = f j
      rw [getD_set x.H i j (by omega)] at h'
      by_cases e : i = j
      · subst e
        simp [List.getD, g.lp, hi]
      · rw [if_neg e] at h'
        have := g.has j hj h'
        rw [← this]
        simp [List.getD, e]
    · show (x.H.set i true).getD j false = true
      rw [getD_set x.H i j (by omega)]
      rcases h with rfl | h
      · rw [if_pos rfl]
      · split
        · rfl
        · exact h

/-! ### what lacks -/

theorem miss_mem (H : List Bool) (most : Int) : ∀ (k : Nat) (v : Int), v ∈ missN H most k → ∃ j, j < k ∧ v = (j : Int) ∧ H.getD j false = false
  | 0, v, h => by simp [missN] at h
  | k + 1, v, h => by
    unfold missN at h
    split at h
    case isTrue hc =>
      rcases List.mem_append.1 h with h | h
      · obtain ⟨j, hj, e, hf⟩ := miss_mem H most k v h
        exact ⟨j, by omega, e, hf⟩
      · exact ⟨k, by omega, by simpa using h, hc.1⟩
    case isFalse hc =>
      obtain ⟨j, hj, e, hf⟩ := miss_mem H most k v h
      exact ⟨j, by omega, e, hf⟩

theorem miss_all (H : List Bool) (most : Int) : ∀ (k : Nat), (k : Int) ≤ most → ∀ j, j < k → H.getD j false = false → (j : Int) ∈ missN H most k
  | 0, _, j, hj, _ => absurd hj (by omega)
  | k + 1, hk, j, hj, hf => by
    unfold missN
    have hl := missN_length H most k
    by_cases e : j = k
    · subst e
      rw [if_pos ⟨hf, by omega⟩]
      simp
    · have ih := miss_all H most k (by omega) j (by omega) hf
      split
      · exact List.mem_append.2 (Or.inl ih)
      · exact ih

theorem miss_none (H : List Bool) (most : Int) (k : Nat) (h : ∀ j, j < k → H.getD j false = true) : missN H most k = [] := by
  cases e : missN H most k with
  | nil => rfl
  | cons v l =>
    obtain ⟨j, hj, _, hf⟩ := miss_mem H most k v (by rw [e]; simp)
    rw [h j hj] at hf
    cases hf

theorem cnt_full (H : List Bool) : ∀ k, (∀ j, j < k → H.getD j false = true) → cnt H k = 0
  | 0, _ => rfl
  | k + 1, h => by
    unfold cnt
    rw [cnt_full H k (fun j hj => h j (by omega)), if_pos (h k (by omega))]

/-- A full box. -/
theorem good_full {f : Nat → ByteArray} {n : Nat} {x : Bx} (g : Good f n x) (h : ∀ j, j < n → x.H.getD j false = true) : x.left = 0 ∧ x.P = (List.range n).map f ∧ ∀ most, missN x.H most n = [] := by
  refine ⟨by rw [g.left, cnt_full x.H n h]; rfl, ?_, fun most => miss_none x.H most n h⟩
  apply List.ext_getElem
  · simp [g.lp]
  · intro j h1 h2
    have hj : j < n := by simpa using h2
    have := g.has j hj (h j hj)
    simp [List.getD, h1] at this
    simp [this]

/-! ### the texts of Cut -/

theorem tot_part (s : ByteArray) (sz : Nat) : ∀ j, tot (Cut.part s sz) j = min (j * sz) s.size
  | 0 => by simp [tot]
  | j + 1 => by
    unfold tot
    rw [tot_part s sz j]
    have e : (Cut.part s sz j).size = min (min ((j + 1) * sz) s.size) s.size - j * sz := by
      unfold Cut.part
      rw [ByteArray.size_extract]
    have e2 : (j + 1) * sz = j * sz + sz := by rw [Nat.add_mul, Nat.one_mul]
    rw [e, e2]
    omega

theorem join_nil_sep : ∀ xs : List (List UInt8), Lib.join xs [] = xs.flatten
  | [] => rfl
  | [x] => by simp [Lib.join, List.intercalate]
  | x :: y :: l => by
    have ih := join_nil_sep (y :: l)
    unfold Lib.join at ih ⊢
    simp [List.intercalate] at ih ⊢
    exact ih

theorem flat_part (s : ByteArray) (sz : Nat) : ∀ j, (((List.range j).map (Cut.part s sz)).map (·.data.toList)).flatten = s.data.toList.take (j * sz)
  | 0 => by simp
  | j + 1 => by
    rw [List.range_succ, List.map_append, List.map_append, List.flatten_append, flat_part s sz j]
    have e2 : (j + 1) * sz = j * sz + sz := by rw [Nat.add_mul, Nat.one_mul]
    have hs : s.data.toList.length = s.size := Array.length_toList
    have e : (Cut.part s sz j).data.toList = (s.data.toList.drop (j * sz)).take (min ((j + 1) * sz) s.size - j * sz) := by
      unfold Cut.part
      rw [ByteArray.data_extract, Array.toList_extract, List.extract_eq_take_drop]
    simp only [List.map_cons, List.map_nil, List.flatten_cons, List.flatten_nil, List.append_nil]
    rw [e, e2, List.take_add]
    congr 1
    by_cases h : j * sz + sz ≤ s.size
    · rw [Nat.min_eq_left h, Nat.add_sub_cancel_left]
    · rw [Nat.min_eq_right (by omega)]
      rw [List.take_of_length_le (by rw [List.length_drop]; omega), List.take_of_length_le (by rw [List.length_drop]; omega)]

theorem join_parts (s : ByteArray) (sz : Nat) (h : 1 ≤ sz) : joinAll ((List.range (many s.size sz)).map (Cut.part s sz)) = s := by
  unfold joinAll
  show (⟨(Lib.join _ []).toArray⟩ : ByteArray) = s
  rw [join_nil_sep, flat_part]
  have hs : s.data.toList.length = s.size := Array.length_toList
  rw [List.take_of_length_le (by rw [hs]; exact many_covers s.size sz h)]

end Go.Proofs.YtdomngcedflapaaW.BackP
