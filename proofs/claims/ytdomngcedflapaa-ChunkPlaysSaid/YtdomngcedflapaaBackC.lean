/- Contracts for the walk of ChunkBack: the parts in memory, what lacks in memory. -/
import Derived.Test.YtdomngcedflapaaBackP
import Derived.Test.YtdomngcedflapaaOther
namespace Go.Proofs.YtdomngcedflapaaW.BackP
open Go.RowKit Go.Proofs.Ytdomngcedflapaa Go.Proofs.YtdomngcedflapaaW.PrintWords Go.Proofs.YtdomngcedflapaaW.PrintLast Go.Proofs.YtdomngcedflapaaW.PrintMore
open Go.Proofs.YtdomngcedflapaaW.Mine Go.Proofs.YtdomngcedflapaaW.Box Go.Proofs.YtdomngcedflapaaW.Zero

theorem cell_keep {w w' : World} (hb : Below w.heap.size w w') {a : Addr} {v : Value} (h : w.cell? a = some v) : w'.cell? a = some v :=
  (World.cell?_of_block (hb.block _ (World.block_lt_of_cell? w _ h))).trans h

/-- Parts in memory. -/
def PAt (w : World) (g n : Nat) (f : Nat → ByteArray) : Prop := ∀ i, i < n →
  w.cell? ⟨g, i * 3, none⟩ = some (.int .i64 (i : Int)) ∧ w.cell? ⟨g, i * 3 + 1, none⟩ = some (.int .i64 (n : Int)) ∧ w.cell? ⟨g, i * 3 + 2, none⟩ = some (.string (f i))

theorem PAt.keep {w w' : World} {g n : Nat} {f : Nat → ByteArray} (h : PAt w g n f) (hb : Below w.heap.size w w') : PAt w' g n f := fun i hi =>
  ⟨cell_keep hb (h i hi).1, cell_keep hb (h i hi).2.1, cell_keep hb (h i hi).2.2⟩

/-- Cut where it answers parts. -/
theorem cut_at (s : ByteArray) (sz n : Nat) (hz : 1 ≤ sz) (hz2 : sz ≤ 9223372036854775807) (hs : s.size ≤ 524288) (hn : Cut.many s.size sz = n) (hm : n ≤ 4096) (w : World) :
    Calls Try.prog 24 #[.string s, .int .i64 (sz : Int)] w fun e w' => ∃ g c, e = .returned (.tuple #[.slice (some ⟨g, 0, none⟩) n c, .int .i64 0]) ∧ PAt w' g n (Cut.part s sz) ∧ Below w.heap.size w w' := by
  have hc : Cut.cutS s (sz : Int) = (Cut.parts s sz, 0) := by
    unfold Cut.cutS
    rw [Int.toNat_natCast, if_neg (by omega), if_neg (by omega), if_neg (by omega)]
  have h1 := Cut.many_pos s.size sz
  refine (cut_calls s (sz : Int) (by omega) w).mono ?_
  rintro e w' ⟨A, c, rfl, hr, hb⟩
  rw [hc] at hr ⊢
  have hl : (Cut.parts s sz).length = n := by rw [Cut.parts_length]; exact hn
  have hr' := (Kd.R_reads' hr).2.2
  obtain ⟨_, inner, ho, _⟩ := hr
  rcases ho.2 with ⟨e1, e2⟩ | ⟨g, cap, cur, e1, _⟩
  · exact absurd e2 (by show ¬ (Cut.parts s sz).length = 0; omega)
  · obtain ⟨rfl, -, rfl⟩ : A = some ⟨g, 0, none⟩ ∧ True ∧ c = cap := by
      injection e1 with e1 e2 e3
      exact ⟨e1, trivial, e3⟩
    refine ⟨g, c, by show Ending.returned (.tuple #[.slice (some ⟨g, 0, none⟩) (Cut.parts s sz).length c, .int .i64 0]) = _; rw [hl], fun i hi => ?_, hb⟩
    obtain ⟨ad, e4, h0, h1', h2⟩ := PChunk.at_T36 hr' (i : Int) (by omega) (by show (i : Int) < ((Cut.parts s sz).length : Int); omega)
    injection e4 with e4
    subst e4
    have hadd : (⟨g, 0, none⟩ : Addr).add (i * 3) = ⟨g, i * 3, none⟩ := by simp [Addr.add]; omega
    rw [Int.toNat_natCast, hadd] at h0 h1' h2
    have hv : PChunk.rd_T36 (Cut.parts s sz) (i : Int) = Cut.mkP s sz i := by
      unfold PChunk.rd_T36 Cut.parts
      rw [Int.toNat_natCast]
      have hi2 : i < Cut.many s.size sz := by omega
      simp [List.getD, hi2]
    rw [hv] at h0 h1' h2
    exact ⟨h0, by rw [← hn]; exact h1', h2⟩

/-- Missing, its answer told by cells. -/
theorem miss_at {w : World} {a p h : Nat} {x : Bx} (b0 : At w a p h x) (hm : x.P.length ≤ 4096) (most : Int) :
    Calls Try.prog 33 #[.pointer (some ⟨a, 0, none⟩), .int .i64 most] w fun e w' => ∃ A c, e = .returned (.slice A (missN x.H most x.P.length).length c) ∧
      (∀ i, i < (missN x.H most x.P.length).length → ∃ g, A = some ⟨g, 0, none⟩ ∧ w.heap.size ≤ g ∧ g < w'.heap.size ∧ ∀ j, j < (missN x.H most x.P.length).length → w'.cell? ⟨g, j, none⟩ = some (.int .i64 ((missN x.H most x.P.length).getD j 0))) ∧ Below w.heap.size w w' := by
  refine (missing_calls b0 hm most).mono ?_
  rintro e w' ⟨v, rfl, hr, hb⟩
  obtain ⟨A, c, rfl⟩ := Kd.R_slice hr
  refine ⟨A, c, rfl, fun i hi => ?_, hb⟩
  have hr0 := hr
  obtain ⟨_, inner, ho, _⟩ := hr0
  rcases ho.2 with ⟨e1, e2⟩ | ⟨g, cap, cur, e1, hg, hc, _⟩
  · exact absurd hi (by omega)
  · obtain ⟨rfl, rfl⟩ : A = some ⟨g, 0, none⟩ ∧ c = cap := by
      injection e1 with e1 e2 e3
      exact ⟨e1, e3⟩
    refine ⟨g, rfl, hg, heap_lt hc, fun j hj => ?_⟩
    have := (Kd.R_cell (0 : Int) hr (j : Int) (by omega) (by omega)).1
    rw [Int.toNat_natCast] at this
    rw [this]
    unfold rdOf
    rw [Int.toNat_natCast]

end Go.Proofs.YtdomngcedflapaaW.BackP
