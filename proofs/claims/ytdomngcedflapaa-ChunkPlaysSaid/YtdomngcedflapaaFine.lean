/- Plain facts of ChunkPlays: what a box of short parts is, what a call of both makes of it. -/
import Derived.Test.YtdomngcedflapaaRPut
namespace Go.Proofs.YtdomngcedflapaaW.Ref
open Go.Proofs.YtdomngcedflapaaW.Box Go.Proofs.YtdomngcedflapaaW.BackP

/-- A box of n short parts. -/
structure Fine (n : Nat) (x : Bx) : Prop where
  lp : x.P.length = n
  lh : x.H.length = n
  small : Small x
  left : x.left = cnt x.H n
  b0 : 0 ≤ x.bytes
  b1 : x.bytes + 300 * x.left ≤ 300 * n

theorem Fine.l0 {n : Nat} {x : Bx} (f : Fine n x) : 0 ≤ x.left := by rw [f.left]; omega
theorem Fine.l1 {n : Nat} {x : Bx} (f : Fine n x) : x.left ≤ n := by have := cnt_le x.H n; rw [f.left]; omega
theorem Fine.b2 {n : Nat} {x : Bx} (f : Fine n x) (hn : n ≤ 60) : x.bytes ≤ 18000 := by have := f.l0; have := f.b1; omega

theorem getD_repE (n j : Nat) : (List.replicate n ByteArray.empty).getD j ByteArray.empty = ByteArray.empty := by
  rw [List.getD, List.getElem?_replicate]
  split <;> rfl

theorem fine_fresh (n : Nat) : Fine n (Bx.fresh n) :=
  ⟨by simp [Bx.fresh], by simp [Bx.fresh], fun j => by
    show ((List.replicate n ByteArray.empty).getD j ByteArray.empty).size ≤ 300
    rw [getD_repE]
    exact Nat.zero_le _, by
    show (n : Int) = _
    rw [show (Bx.fresh n).H = List.replicate n false from rfl, cnt_false], Int.le_refl 0, by
    show (0 : Int) + 300 * (n : Int) ≤ _
    omega⟩

theorem fine_put {n : Nat} {x : Bx} (f : Fine n x) (at_ of_ : Int) (txt : ByteArray) (ht : txt.size ≤ 300) : Fine n (sput x at_ of_ txt).1 := by
  unfold sput
  by_cases c1 : of_ ≠ (x.P.length : Int)
  · rw [if_pos c1]; exact f
  rw [if_neg c1]
  by_cases c2 : at_ < 0 ∨ (x.P.length : Int) ≤ at_
  · rw [if_pos c2]; exact f
  rw [if_neg c2]
  by_cases c3 : x.H.getD at_.toNat false = true
  · rw [if_pos c3]; exact f
  rw [if_neg c3]
  have c3' : x.H.getD at_.toNat false = false := by simpa using c3
  have hp := f.lp
  have hh := f.lh
  have hi : at_.toNat < n := by omega
  have hc := cnt_set x.H at_.toNat (by omega) c3' n
  rw [if_pos hi] at hc
  have hl := f.left
  have b0 := f.b0
  have b1 := f.b1
  refine ⟨by simp [hp], by simp [hh], fun j => ?_, ?_, ?_, ?_⟩
  · show ((x.P.set at_.toNat txt).getD j ByteArray.empty).size ≤ 300
    by_cases e : at_.toNat = j
    · rw [← e]
      simp [List.getD, hp, hi]
      exact ht
    · have := f.small j
      simp [List.getD, e] at this ⊢
      exact this
  · show x.left - 1 = ((cnt (x.H.set at_.toNat true) n : Nat) : Int)
    omega
  · show 0 ≤ x.bytes + (txt.size : Int)
    omega
  · show x.bytes + (txt.size : Int) + 300 * (x.left - 1) ≤ _
    omega

/-! ### what lacks -/

theorem missN_cnt (H : List Bool) (most : Int) : ∀ k : Nat, (k : Int) ≤ most → (missN H most k).length = cnt H k
  | 0, _ => rfl
  | k + 1, hk => by
    have ih := missN_cnt H most k (by omega)
    have hl := missN_length H most k
    unfold missN cnt
    by_cases h : H.getD k false = true
    · rw [if_neg (by rintro ⟨q, _⟩; rw [h] at q; cases q), if_pos h, ih]
      rfl
    · rw [if_pos ⟨by simpa using h, by omega⟩, if_neg h, List.length_append, ih]
      rfl

theorem missN_take (H : List Bool) (most full : Int) : ∀ k : Nat, (k : Int) ≤ full → missN H most k = (missN H full k).take most.toNat
  | 0, _ => by simp [missN]
  | k + 1, hk => by
    have ih := missN_take H most full k (by omega)
    have hl := missN_length H full k
    have hlen : (missN H most k).length = min most.toNat (missN H full k).length := by rw [ih, List.length_take]
    rw [missN, missN]
    by_cases h : H.getD k false = true
    · rw [if_neg (by rintro ⟨q, _⟩; rw [h] at q; cases q), if_neg (by rintro ⟨q, _⟩; rw [h] at q; cases q)]
      exact ih
    · have hf : H.getD k false = false := by simpa using h
      rw [if_pos (c := H.getD k false = false ∧ ((missN H full k).length : Int) < full) ⟨hf, by omega⟩]
      by_cases hm : ((missN H most k).length : Int) < most
      · rw [if_pos ⟨hf, hm⟩, ih, List.take_of_length_le (by omega), List.take_of_length_le (by rw [List.length_append]; simp; omega)]
      · rw [if_neg (by rintro ⟨_, q⟩; exact hm q), ih, List.take_append_of_le_length (by omega)]

theorem joinP_all (P : List ByteArray) : joinP P P.length = joinAll P := by
  have h : ∀ j, j ≤ P.length → (joinP P j).data.toList = ((P.take j).map (·.data.toList)).flatten := by
    intro j
    induction j with
    | zero => intro _; rfl
    | succ j ih =>
      intro hj
      rw [joinP, ByteArray.data_append, Array.toList_append, ih (by omega), List.take_add_one, List.map_append, List.flatten_append]
      congr 1
      have hj' : j < P.length := by omega
      simp [List.getD, hj']
  have h2 := h P.length (Nat.le_refl _)
  rw [List.take_length] at h2
  unfold joinAll
  show _ = (⟨(Lib.join (P.map (·.data.toList)) []).toArray⟩ : ByteArray)
  rw [join_nil_sep, ← h2]

end Go.Proofs.YtdomngcedflapaaW.Ref
