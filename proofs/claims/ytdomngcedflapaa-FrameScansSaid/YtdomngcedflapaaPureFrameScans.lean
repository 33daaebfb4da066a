/- FrameScans, the plain statement: in any bytes, cut at 2048, the frames are found that the document says, and as many bytes are lost. -/
import Derived.Test.YtdomngcedflapaaPFramex19
import Derived.Test.YtdomngcedflapaaScan
namespace Go.Proofs.Ytdomngcedflapaa.Pure
open Go.RowKit Go.Proofs.Ytdomngcedflapaa.PFrame Go.Proofs.YtdomngcedflapaaW.PrintWords Go.Proofs.YtdomngcedflapaaW.PrintLast
open Go.Proofs.YtdomngcedflapaaW.Crc

theorem scans_core (s : ByteArray) (hs : s.size ≤ 2048) : Ev (fun k => barquelaw02_FrameScans.j0 k s) true := by
  refine Ev.step (f := _) (fun k => by simp only [barquelaw02_FrameScans.j0]; rfl) ?_
  obtain ⟨q, h1, h2, h3⟩ := scans_agree s (by omega) s.size [] 0 0 (by omega) (by omega) (by simp) (by omega)
  refine Ev.bind (f := fun k (b : List ByteArray × Int × Int) => _) (a := q) h1 ?_
  refine Ev.bind (f := fun k (b : List ByteArray × Int × Int) => _) (a := q) h2 ?_
  refine Ev.bind (texts_same q.1 (by omega)) ?_
  refine evPos rfl (evPos rfl (evPos rfl ?_))
  exact Ev.bind awake_eq (Ev.now _)

theorem FrameScans : barquelaw02_FrameScans.Pure := by
  intro s hn
  refine Ev.rounds ?_
  unfold barquelaw02_FrameScans.f
  by_cases h : (s.size : Int) > 2048
  · refine evPos h (evPos (by omega) (evPos (by omega) ?_))
    exact scans_core _ (by rw [ByteArray.size_extract]; omega)
  · refine evNeg h ?_
    exact scans_core _ (by omega)

end Go.Proofs.Ytdomngcedflapaa.Pure
