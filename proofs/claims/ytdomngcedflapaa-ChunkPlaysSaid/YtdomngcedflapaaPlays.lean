/- The walk of ChunkPlays. -/
import Derived.Test.YtdomngcedflapaaStepT
import Derived.Test.YtdomngcedflapaaZero
namespace Go.Proofs.YtdomngcedflapaaW.Ref
open Go.RowKit Go.Proofs.Ytdomngcedflapaa Go.Proofs.YtdomngcedflapaaW.PrintWords Go.Proofs.YtdomngcedflapaaW.PrintLast Go.Proofs.YtdomngcedflapaaW.PrintMore
open Go.Proofs.YtdomngcedflapaaW.Box Go.Proofs.YtdomngcedflapaaW.BackP Go.Proofs.YtdomngcedflapaaW.Zero Go.Proofs.YtdomngcedflapaaW.Other

theorem Both.keep {w w' : World} {a p h ra rb n : Nat} {x : Bx} (B : Both w a p h ra rb n x) (hb : Below w.heap.size w w') : Both w' a p h ra rb n x := ⟨At.below B.b hb, B.r.below hb, B.fine, B.d1, B.d2⟩

/-- One call of both. -/
theorem step_calls {w : World} {a p h ra rb n : Nat} {x : Bx} (hB : Both w a p h ra rb n x) (hn0 : 1 ≤ n) (hn : n ≤ 60) (K M at_ of_ : Int) (txt : ByteArray) :
    Calls Try.prog 35 #[.pointer (some ⟨a, 0, none⟩), .pointer (some ⟨ra, 0, none⟩), .agg #[.int .i64 K, .int .i64 M, .int .i64 at_, .int .i64 of_, .string txt]] w
      fun e w' => e = .returned (.bool true) ∧ (∃ x', Both w' a p h ra rb n x') ∧ Only (Four a p h rb) w w' := by
  by_cases k0 : K = 0
  · subst k0
    exact (step_put hB hn M at_ of_ txt).mono fun e w' hh => ⟨hh.1, ⟨_, hh.2.1⟩, hh.2.2⟩
  by_cases k1 : K = 1
  · subst k1
    exact (miss_walk hB hn M at_ of_ txt).mono fun e w' hh => ⟨hh.1, ⟨_, hB.keep hh.2⟩, Only.of_below hh.2⟩
  by_cases k2 : K = 2
  · subst k2
    exact (text_walk hB hn M at_ of_ txt).mono fun e w' hh => ⟨hh.1, ⟨_, hB.keep hh.2⟩, Only.of_below hh.2⟩
  exact (clear_walk hB hn0 hn K M at_ of_ txt k0 k1 k2).mono fun e w' hh => ⟨hh.1, ⟨_, hh.2.1⟩, hh.2.2⟩

theorem left_both {w : World} {a p h ra rb n : Nat} {x : Bx} (B : Both w a p h ra rb n x) : Calls Try.prog 32 #[.pointer (some ⟨a, 0, none⟩)] w fun e w' => e = .returned (.int .i64 ((cnt x.H n : Nat) : Int)) ∧ w' = w := by
  have := left_at B.b
  rw [B.fine.left] at this
  exact this

theorem of_both {w : World} {a p h ra rb n : Nat} {x : Bx} (B : Both w a p h ra rb n x) : Calls Try.prog 31 #[.pointer (some ⟨a, 0, none⟩)] w fun e w' => e = .returned (.int .i64 (n : Int)) ∧ w' = w := by
  have := of_at B.b
  rw [B.fine.lp] at this
  exact this

theorem rmiss_both {w : World} {a p h ra rb n : Nat} {x : Bx} (B : Both w a p h ra rb n x) (hn : n ≤ 60) : Calls Try.prog 36 #[.pointer (some ⟨ra, 0, none⟩)] w fun e w' => ∃ A c, e = .returned (.slice A (cnt x.H n) c) ∧ Below w.heap.size w w' := by
  have h1 := rmiss_at B.r (by rw [B.fine.lp]; exact hn)
  rw [B.fine.lp, missN_cnt x.H (n : Int) n (Int.le_refl _)] at h1
  exact h1.mono fun e w' ⟨A, c, he, _, _, _, hb⟩ => ⟨A, c, he, hb⟩

/-! ### a new document's box -/

theorem mix_rep : ∀ n : Nat, mix (List.replicate n ByteArray.empty) (List.replicate n false) = (List.range (n * 2)).map (fun i => if i % 2 = 0 then Value.bool false else Value.string ByteArray.empty)
  | 0 => rfl
  | n + 1 => by
    have ih := mix_rep n
    rw [List.replicate_succ, List.replicate_succ, mix, ih, show (n + 1) * 2 = n * 2 + 1 + 1 by omega, List.range_succ_eq_map, List.map_cons, List.map_map, List.range_succ_eq_map, List.map_cons, List.map_map]
    congr 2
    apply List.map_congr_left
    intro i _
    simp only [Function.comp]
    have : (i.succ.succ) % 2 = i % 2 := by omega
    rw [this]

theorem made_mix (n : Nat) : madeCells (Value.agg #[.bool false, .string ByteArray.empty]).cells (n * 2) = (mix (List.replicate n ByteArray.empty) (List.replicate n false)).toArray := by
  rw [mix_rep]
  apply Array.ext'
  unfold madeCells
  rw [Array.toList_map, Array.toList_range]
  apply List.map_congr_left
  intro i _
  have h2 : i % 2 = 0 ∨ i % 2 = 1 := by omega
  rcases h2 with e | e
  · rw [if_pos e]
    show (#[Value.bool false, Value.string ByteArray.empty] : Array Value)[i % 2]! = _
    rw [e]
    rfl
  · rw [if_neg (by omega)]
    show (#[Value.bool false, Value.string ByteArray.empty] : Array Value)[i % 2]! = _
    rw [e]
    rfl

theorem make50 (n : Nat) (h1 : n ≤ 60) (W : World) : (Instr.makeSlice 50 (.int .i64 (n : Int)) (.int .i64 (n : Int))).run Try.prog W = .ok (.slice (some ⟨W.heap.size, 0, none⟩) n n) (W.alloc (.cells (mix (List.replicate n ByteArray.empty) (List.replicate n false)).toArray 84)) := by
  obtain ⟨i, hi, hz, hs, hb⟩ : ∃ i, Try.prog.info? 84 = some i ∧ i.zero = some (.agg #[.bool false, .string ByteArray.empty]) ∧ i.size = 2 ∧ i.bytes = 24 := by
    have h : (Try.prog.info? 84).map (fun i => (i.zero, i.size, i.bytes)) = some (some (.agg #[.bool false, .string ByteArray.empty]), 2, 24) := by kernel_rfl
    cases he : Try.prog.info? 84 with
    | none => rw [he] at h; cases h
    | some i =>
      rw [he] at h
      simp at h
      exact ⟨i, rfl, h.1, h.2.1, h.2.2⟩
  have hr := run_make (P := Try.prog) W 50 84 i (.agg #[.bool false, .string ByteArray.empty]) Try.underlying50 hi hz .i64 .i64 n n (by omega) (by omega) (by rw [hb]; omega) (by omega)
  rw [hs] at hr
  simp only [Int.toNat_natCast] at hr
  rw [hr, made_mix]

end Go.Proofs.YtdomngcedflapaaW.Ref
