/- FrameOnes, the plain statement: any bytes, cut at 4096, begin with the frame that the document says, or with none, and why. -/
import Derived.Test.YtdomngcedflapaaPFramex15
import Derived.Test.YtdomngcedflapaaOne
namespace Go.Proofs.Ytdomngcedflapaa.Pure
open Go.RowKit Go.Proofs.Ytdomngcedflapaa.PFrame Go.Proofs.YtdomngcedflapaaW.PrintWords Go.Proofs.YtdomngcedflapaaW.PrintLast
open Go.Proofs.YtdomngcedflapaaW.Crc

theorem ones_core (s : ByteArray) (hs : s.size ≤ 4096) :
    Ev (fun k => (frame_One.f k s).bind fun bt139 => ((barqueref02_One.f k s).bind fun bt142 => (if bt139.1.toList = bt142.1.toList then (if bt139.2.1 = bt142.2.1 then (if bt139.2.2 = bt142.2.2 then ((barquelaw02_awake.f k).bind fun t145 => (some t145)) else (some false)) else (some false)) else (some false)))) true := by
  refine Ev.bind (frame_One_eq s (by omega)) ?_
  refine Ev.bind (ref_One_eq s (by omega)) ?_
  refine evPos rfl (evPos rfl (evPos rfl ?_))
  exact Ev.bind awake_eq (Ev.now _)

theorem FrameOnes : barquelaw02_FrameOnes.Pure := by
  intro s hn
  refine Ev.rounds ?_
  unfold barquelaw02_FrameOnes.f
  by_cases h : (s.size : Int) > 4096
  · refine evPos h (evPos (by omega) (evPos (by omega) ?_))
    exact ones_core _ (by rw [ByteArray.size_extract]; omega)
  · refine evNeg h ?_
    exact ones_core _ (by omega)

end Go.Proofs.Ytdomngcedflapaa.Pure
