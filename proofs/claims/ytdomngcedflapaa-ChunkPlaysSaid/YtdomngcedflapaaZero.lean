/- Texts of zeros, as string(make([]byte, n)) makes them; Cut and awake as contracts. -/
import Derived.Test.YtdomngcedflapaaBox
import Derived.Test.YtdomngcedflapaaPChunkx5
import Derived.Test.YtdomngcedflapaaCut
namespace Go.Proofs.YtdomngcedflapaaW.Zero
open Go.RowKit Go.Proofs.Ytdomngcedflapaa Go.Proofs.YtdomngcedflapaaW.PrintWords Go.Proofs.YtdomngcedflapaaW.PrintLast Go.Proofs.YtdomngcedflapaaW.PrintMore
open Go.Proofs.YtdomngcedflapaaW.Mine Go.Proofs.YtdomngcedflapaaW.Box

theorem awake_calls (w : World) : Calls Try.prog 27 #[] w fun e w' => e = .returned (.bool true) ∧ Below w.heap.size w w' := by
  obtain ⟨k, hk⟩ := Ev.rounds Cut.awake_eq
  exact PChunk.barquelaw13_awake.calls k true w hk

theorem cut_calls (s : ByteArray) (a : Int) (ha : a ≤ 9223372036854775807) (w : World) : Calls Try.prog 24 #[.string s, .int .i64 a] w fun e w' =>
    ∃ A c, e = .returned (.tuple #[.slice A (Cut.cutS s a).1.length c, .int .i64 (Cut.cutS s a).2]) ∧ Kd.R PChunk.k36 36 w' w.heap.size (fun _ => True) (.slice A (Cut.cutS s a).1.length c) (Cut.cutS s a).1 ∧ Below w.heap.size w w' := by
  obtain ⟨k, hk⟩ := Ev.rounds (Cut.chunk_Cut_eq s a ha)
  refine (PChunk.chunk_Cut.calls k s a (Cut.cutS s a).1 (Cut.cutS s a).2 w hk).mono ?_
  rintro e w' ⟨v, rfl, hr, hb⟩
  obtain ⟨A, c, rfl⟩ := Kd.R_slice hr
  exact ⟨A, c, rfl, hr, hb⟩

/-- n zeros. -/
def zs (n : Nat) : ByteArray := ⟨(List.replicate n (0 : UInt8)).toArray⟩

theorem zs_size (n : Nat) : (zs n).size = n := by
  show (List.replicate n (0 : UInt8)).toArray.size = n
  simp

theorem make27 (n : Nat) (h1 : n ≤ 600000) (W : World) : (Instr.makeSlice 27 (.int .i64 (n : Int)) (.int .i64 (n : Int))).run Try.prog W = .ok (.slice (some ⟨W.heap.size, 0, none⟩) n n) (W.alloc (.cells (Array.replicate n (Value.int .u8 0)) 5)) := by
  obtain ⟨i, hi, hz, hs, hb⟩ : ∃ i, Try.prog.info? 5 = some i ∧ i.zero = some (.int .u8 0) ∧ i.size = 1 ∧ i.bytes = 1 := by
    have h : (Try.prog.info? 5).map (fun i => (i.zero, i.size, i.bytes)) = some (some (.int .u8 0), 1, 1) := by kernel_rfl
    cases he : Try.prog.info? 5 with
    | none => rw [he] at h; cases h
    | some i =>
      rw [he] at h
      simp at h
      exact ⟨i, rfl, h.1, h.2.1, h.2.2⟩
  have hr := run_make (P := Try.prog) W 27 5 i (.int .u8 0) Try.underlying27 hi hz .i64 .i64 n n (by omega) (by omega) (by rw [hb]; omega) (by omega)
  rw [hs] at hr
  simp only [Int.toNat_natCast, Nat.mul_one] at hr
  rw [hr]
  have e : madeCells (Value.int .u8 0).cells n = Array.replicate n (Value.int .u8 0) := by
    rw [← List.toArray_replicate]
    apply Array.ext'
    have := toList_madeCells_one (Value.int .u8 0) n
    simpa [Value.cells] using this
  rw [e]

theorem conv27 (n : Nat) (W : World) : (Go.convert 27 9 (.slice (some ⟨W.heap.size, 0, none⟩) n n)).run Try.prog (W.alloc (.cells (Array.replicate n (Value.int .u8 0)) 5)) = .ok (.string (zs n)) (W.alloc (.cells (Array.replicate n (Value.int .u8 0)) 5)) := by
  have h := run_convert_bytes_back (P := Try.prog) (W.alloc (.cells (Array.replicate n (Value.int .u8 0)) 5)) 27 9 5 ⟨W.heap.size, 0, none⟩ n (List.replicate n (0 : UInt8)) Try.underlying27 Try.underlying5 Try.underlying9 (fun j hj => by
    have hj' : j < n := by simpa using hj
    have e : (⟨W.heap.size, 0, none⟩ : Addr).add j = ⟨W.heap.size, j, none⟩ := by simp [Addr.add]; omega
    rw [e, World.cell?_alloc_mark]
    simp [hj'])
  rw [List.length_replicate] at h
  exact h

end Go.Proofs.YtdomngcedflapaaW.Zero
