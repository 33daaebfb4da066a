/- FrameSums, the plain statement: the program's sum of any text, cut at 4096 bytes, is the document's, and the first example of chapter 2 holds. -/
import Derived.Test.YtdomngcedflapaaPFramex8
import Derived.Test.YtdomngcedflapaaCrcF
namespace Go.Proofs.Ytdomngcedflapaa.Pure
open Go.RowKit Go.Proofs.Ytdomngcedflapaa.PFrame Go.Proofs.YtdomngcedflapaaW.PrintWords Go.Proofs.YtdomngcedflapaaW.PrintLast
open Go.Proofs.YtdomngcedflapaaW.Crc

theorem sums_core (s : ByteArray) (hs : s.size ≤ 4096) :
    Ev (fun k => (frame_Sum.f k s).bind fun t115 => ((barqueref02_Sum.f k s).bind fun t116 => (if t115 = t116 then ((barquelaw02_awake.f k).bind fun t117 => (some t117)) else (some false)))) true := by
  refine Ev.bind (frame_Sum_eq s (by omega)) ?_
  refine Ev.bind (ref_Sum_eq s (by omega)) ?_
  refine evPos rfl ?_
  exact Ev.bind awake_eq (Ev.now _)

theorem FrameSums : barquelaw02_FrameSums.Pure := by
  intro s hn
  refine Ev.rounds ?_
  unfold barquelaw02_FrameSums.f
  by_cases h : (s.size : Int) > 4096
  · refine evPos h (evPos (by omega) (evPos (by omega) ?_))
    exact sums_core _ (by rw [ByteArray.size_extract]; omega)
  · refine evNeg h ?_
    exact sums_core _ (by omega)

end Go.Proofs.Ytdomngcedflapaa.Pure
