/- ChunkCuts, the plain statement: any text, cut at 20000 bytes, is cut into the parts that the document says, or refused, for every size. -/
import Derived.Test.YtdomngcedflapaaPChunkx6
import Derived.Test.YtdomngcedflapaaCut
namespace Go.Proofs.Ytdomngcedflapaa.Pure
open Go.RowKit Go.Proofs.Ytdomngcedflapaa.PChunk Go.Proofs.YtdomngcedflapaaW.PrintWords Go.Proofs.YtdomngcedflapaaW.PrintLast
open Go.Proofs.YtdomngcedflapaaW.Cut
open Go.Proofs.YtdomngcedflapaaW.Crc (evPos evNeg)

theorem cutS_length (s : ByteArray) (a : Int) : (cutS s a).1.length ≤ 4096 := by
  unfold cutS
  split
  · simp
  split
  · simp
  split
  · simp
  · rw [parts_length]
    omega

theorem cuts_core (s : ByteArray) (a : Int) (ha : a ≤ 9223372036854775807) : Ev (fun k => barquelaw13_ChunkCuts.j0 k s a) true := by
  refine Ev.step (f := _) (fun k => by simp only [barquelaw13_ChunkCuts.j0]; rfl) ?_
  refine Ev.bind (chunk_Cut_eq s a ha) ?_
  refine Ev.bind (ref_Cut_eq s a ha) ?_
  refine Ev.bind (parts_same _ (by have := cutS_length s a; omega)) ?_
  refine evPos rfl (evPos rfl ?_)
  exact Ev.bind awake_eq (Ev.now _)

theorem ChunkCuts : barquelaw13_ChunkCuts.Pure := by
  intro s a hs ha
  have hb : a ≤ 9223372036854775807 := by
    simp [Lit.wf, IntKind.min, IntKind.max, IntKind.signed, IntKind.bits] at ha
    omega
  refine Ev.rounds ?_
  unfold barquelaw13_ChunkCuts.f
  by_cases h : (s.size : Int) > 20000
  · refine evPos h (evPos (by omega) (evPos (by omega) ?_))
    exact cuts_core _ a hb
  · refine evNeg h ?_
    exact cuts_core _ a hb

end Go.Proofs.Ytdomngcedflapaa.Pure
