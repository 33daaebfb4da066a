/- FrameJoins, the plain statement: the sum of two texts is told by theirs and the second one's length (up to 2048 bytes each). -/
import Derived.Test.YtdomngcedflapaaPFramex26
namespace Go.Proofs.Ytdomngcedflapaa.Pure
open Go.RowKit Go.Proofs.Ytdomngcedflapaa.PFrame Go.Proofs.YtdomngcedflapaaW.PrintWords Go.Proofs.YtdomngcedflapaaW.PrintLast
open Go.Proofs.YtdomngcedflapaaW.Crc Go.Proofs.YtdomngcedflapaaW.Mat

theorem zip_false (l : List Bool) : List.zipWith xor l (List.replicate l.length false) = l := by
  induction l with
  | nil => rfl
  | cons b l ih => rw [List.length_cons, List.replicate_succ, List.zipWith_cons_cons, ih, Bool.xor_false]

/-- A sum that goes on from another, by both sums. -/
theorem addS_join (a : BitVec 32) (l : List UInt8) : addS a l = turns (8 * l.length) a ^^^ addS 0#32 l := by
  unfold addS
  rw [crcC_bits, crcC_bits]
  have h := crcB_xor (bitsL l) (List.replicate (bitsL l).length false) (~~~ 0#32) a (by simp)
  rw [zip_false, crcB_zeros, bitsL_length] at h
  have e : ~~~ 0#32 ^^^ a = ~~~ a := by
    have e1 : ~~~ 0#32 = BitVec.allOnes 32 := by decide
    rw [e1, BitVec.allOnes_xor]
  rw [e] at h
  rw [← h, BitVec.xor_comm (crcB (~~~ 0#32) (bitsL l)), BitVec.not_xor_right]

theorem joins_j0 (s t : ByteArray) (b : Bool) (h : b = false → s.size ≤ 2048 ∧ t.size ≤ 2048) : Ev (fun k => barquelaw02_FrameJoins.j0 k s t b) true := by
  cases b with
  | true =>
    refine Ev.step (f := fun k => (barquelaw02_awake.f k).bind fun t118 => (some t118)) (fun k => by simp only [barquelaw02_FrameJoins.j0]; rw [if_pos trivial]) ?_
    exact Ev.bind awake_eq (Ev.now _)
  | false =>
    obtain ⟨hs, ht⟩ := h rfl
    refine Ev.step (f := _) (fun k => by simp only [barquelaw02_FrameJoins.j0]; rw [if_neg (by decide)]) ?_
    refine Ev.bind (frame_Sum_eq s (by omega)) ?_
    refine Ev.bind (frame_Sum_eq t (by omega)) ?_
    have l1 := (addS 0#32 (by_ s)).isLt
    have l2 := (addS 0#32 (by_ t)).isLt
    have e : frame_Join.f (((addS 0#32 (by_ s)).toNat : Nat) : Int) (((addS 0#32 (by_ t)).toNat : Nat) : Int) (t.size : Int) = some ((((addS 0#32 (by_ s ++ by_ t)).toNat : Nat) : Int), 0) := by
      unfold frame_Join.f
      rw [if_pos (by omega), if_pos (by omega), if_pos (by omega), if_pos (by omega), if_pos (by omega), if_pos (by omega), Int.toNat_natCast]
      have lo : ∀ x : BitVec 32, low ((x.toNat : Nat) : Int) = x := fun x => by simp [low]
      rw [lo, lo, addS_append, addS_join (addS 0#32 (by_ s)), by_length]
    rw [e]
    simp only [Option.bind_some]
    refine evPos (by omega) ?_
    refine Ev.bind (ref_Sum_eq (s ++ t) (by rw [ByteArray.size_append]; omega)) ?_
    have e2 : by_ (s ++ t) = by_ s ++ by_ t := by simp [by_]
    rw [e2]
    refine evPos rfl ?_
    exact evPos trivial (Ev.bind awake_eq (Ev.now _))

theorem FrameJoins : barquelaw02_FrameJoins.Pure := by
  intro s t _ _
  refine Ev.rounds ?_
  unfold barquelaw02_FrameJoins.f
  by_cases h : (s.size : Int) > 2048
  · exact evPos h (joins_j0 s t true (fun h => by cases h))
  · refine evNeg h (joins_j0 s t _ (fun h2 => ?_))
    have h3 := of_decide_eq_false h2
    omega

end Go.Proofs.Ytdomngcedflapaa.Pure
