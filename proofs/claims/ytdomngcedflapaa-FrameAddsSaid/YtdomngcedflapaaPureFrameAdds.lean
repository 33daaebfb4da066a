/- FrameAdds, the plain statement: a sum that goes on from any other is the document's, and the sum of a text is that of its parts, one behind the other (up to 2048 bytes each). -/
import Derived.Test.YtdomngcedflapaaPFramex9
import Derived.Test.YtdomngcedflapaaCrcF
namespace Go.Proofs.Ytdomngcedflapaa.Pure
open Go.RowKit Go.Proofs.Ytdomngcedflapaa.PFrame Go.Proofs.YtdomngcedflapaaW.PrintWords Go.Proofs.YtdomngcedflapaaW.PrintLast
open Go.Proofs.YtdomngcedflapaaW.Crc

theorem by_append (s t : ByteArray) : by_ (s ++ t) = by_ s ++ by_ t := by
  simp [by_]

theorem low_of (x : BitVec 32) : low (x.toNat : Int) = x := by
  simp [low]

theorem adds_j0 (a : Int) (s t : ByteArray) (b : Bool) (h : b = false → s.size ≤ 2048 ∧ t.size ≤ 2048) :
    Ev (fun k => barquelaw02_FrameAdds.j0 k a s t b) true := by
  cases b with
  | true =>
    refine Ev.step (f := fun k => (barquelaw02_awake.f k).bind fun t118 => (some t118)) (fun k => by simp only [barquelaw02_FrameAdds.j0]; rw [if_pos trivial]) ?_
    exact Ev.bind awake_eq (Ev.now _)
  | false =>
    obtain ⟨hs, ht⟩ := h rfl
    refine Ev.step (f := _) (fun k => by simp only [barquelaw02_FrameAdds.j0]; rw [if_neg (by decide)]) ?_
    refine Ev.bind (frame_Add_eq a s (by omega)) ?_
    refine Ev.bind (ref_Add_eq a s (by omega)) ?_
    simp only [if_true]
    refine Ev.bind (frame_Sum_eq s (by omega)) ?_
    refine Ev.bind (frame_Add_eq _ t (by omega)) ?_
    refine evPos (by omega) ?_
    refine Ev.bind (frame_Sum_eq (s ++ t) (by rw [ByteArray.size_append]; omega)) ?_
    rw [by_append, addS_append, low_of]
    refine evPos rfl ?_
    exact Ev.bind awake_eq (Ev.now _)

theorem FrameAdds : barquelaw02_FrameAdds.Pure := by
  intro a s t _ hs ht
  refine Ev.rounds ?_
  unfold barquelaw02_FrameAdds.f
  by_cases h : (s.size : Int) > 2048
  · refine evPos h ?_
    exact adds_j0 a s t true (fun h => by cases h)
  · refine evNeg h ?_
    refine adds_j0 a s t _ (fun h2 => ?_)
    have h3 := of_decide_eq_false h2
    omega

end Go.Proofs.Ytdomngcedflapaa.Pure
