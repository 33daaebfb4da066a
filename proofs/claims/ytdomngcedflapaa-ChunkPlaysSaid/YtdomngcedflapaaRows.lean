/-
  No cell of these rows narrows 'for every input' (looked for: loops, veiled, ifaces, maps, wideKeys, modest, calm, conditions, laid).
  DERIVED. THE GIVEN ROWS OF THIS SEAT. 16 by the template 'for every input the law returns true; each argument reads behind the call as it read before'; 0 by the template 'total and deterministic' (their statements: YtdomngcedflapaaTotals.lean).
  GIVEN WITH THE SEED: the statements are not yours to turn. If you find one false, say at which input.
  Laid BY PROGRAM, IN A SANDBOX (cutbox-rows.mjs): the forced cells as the released guide's own fill.sh prints them over the translation e7110ba7b1d4013e… (all of the seat's roots in one cut). By AI agents, Wed Nov 11 2026. No macro, syntax, notation, axiom, sorry.
-/
import Derived.Test.YtdomngcedflapaaChecked
import GoSem.Claim
import GoSem.ClaimJoined
import GoSem.ClaimMapViews
import Derived.JoinedTies
import Derived.KernelRfl
namespace Go.Proofs.Ytdomngcedflapaa
/- THE CELL 'sum', in the pinned program and in every row, IS THE sha256 OF THE DUMP (.gsa) THAT YtdomngcedflapaaProg.lean LOADS. Nothing in Lean hashes anything: it is a label: what it is worth is what the hold of that sum in a sandbox is worth. -/
noncomputable def Try.pinned : Pinned := { name := "ytdomngcedflapaa", sum := "e7110ba7b1d4013ea9664a43c249884c6b2ab881084f00178eddf4c24b44c167", checked := Try.checked }
namespace Rows
def none {H : Type} : Left H := { results := [], args := [] }

/-- 'barquelaw02.FrameSums': WHATEVER THE INPUT: true; the input reads as it did. -/
def frameSumsSpec : ChangeSpec := { name := "frameSums", fn := fun _ => fun
  | [d] => { results := [.lit (.bool true)], args := [d] }
  | _ => none }
def frameSumsRow : OpenClaim := { program := "ytdomngcedflapaa", sum := "e7110ba7b1d4013ea9664a43c249884c6b2ab881084f00178eddf4c24b44c167", func := "barque/barquelaw02.FrameSums", spec := "frameSums", apart := false }
def FrameSumsSaid : Prop := frameSumsRow.holds Try.pinned (OpenSpec.ofChange frameSumsSpec)

/-- ITS FALSE NEIGHBOUR: 'it returns false'. Refute it at one input. -/
def frameSumsWrong : ChangeSpec := { name := "frameSums", fn := fun _ => fun
  | [d] => { results := [.lit (.bool false)], args := [d] }
  | _ => none }
def FrameSumsWrongFalsely : Prop := frameSumsRow.holds Try.pinned (OpenSpec.ofChange frameSumsWrong)

/-- 'barquelaw02.FrameAdds': WHATEVER THE INPUT: true; the input reads as it did. -/
def frameAddsSpec : ChangeSpec := { name := "frameAdds", fn := fun _ => fun
  | [d1, d2, d3] => { results := [.lit (.bool true)], args := [d1, d2, d3] }
  | _ => none }
def frameAddsRow : OpenClaim := { program := "ytdomngcedflapaa", sum := "e7110ba7b1d4013ea9664a43c249884c6b2ab881084f00178eddf4c24b44c167", func := "barque/barquelaw02.FrameAdds", spec := "frameAdds", apart := false }
def FrameAddsSaid : Prop := frameAddsRow.holds Try.pinned (OpenSpec.ofChange frameAddsSpec)

/-- ITS FALSE NEIGHBOUR: 'it returns false'. Refute it at one input. -/
def frameAddsWrong : ChangeSpec := { name := "frameAdds", fn := fun _ => fun
  | [d1, d2, d3] => { results := [.lit (.bool false)], args := [d1, d2, d3] }
  | _ => none }
def FrameAddsWrongFalsely : Prop := frameAddsRow.holds Try.pinned (OpenSpec.ofChange frameAddsWrong)

/-- 'barquelaw02.FrameBursts': WHATEVER THE INPUT: true; the input reads as it did. -/
def frameBurstsSpec : ChangeSpec := { name := "frameBursts", fn := fun _ => fun
  | [d1, d2, d3] => { results := [.lit (.bool true)], args := [d1, d2, d3] }
  | _ => none }
def frameBurstsRow : OpenClaim := { program := "ytdomngcedflapaa", sum := "e7110ba7b1d4013ea9664a43c249884c6b2ab881084f00178eddf4c24b44c167", func := "barque/barquelaw02.FrameBursts", spec := "frameBursts", apart := false }
def FrameBurstsSaid : Prop := frameBurstsRow.holds Try.pinned (OpenSpec.ofChange frameBurstsSpec)

/-- ITS FALSE NEIGHBOUR: 'it returns false'. Refute it at one input. -/
def frameBurstsWrong : ChangeSpec := { name := "frameBursts", fn := fun _ => fun
  | [d1, d2, d3] => { results := [.lit (.bool false)], args := [d1, d2, d3] }
  | _ => none }
def FrameBurstsWrongFalsely : Prop := frameBurstsRow.holds Try.pinned (OpenSpec.ofChange frameBurstsWrong)

/-- 'barquelaw13.ChunkCuts': WHATEVER THE INPUT: true; the input reads as it did. -/
def chunkCutsSpec : ChangeSpec := { name := "chunkCuts", fn := fun _ => fun
  | [d1, d2] => { results := [.lit (.bool true)], args := [d1, d2] }
  | _ => none }
def chunkCutsRow : OpenClaim := { program := "ytdomngcedflapaa", sum := "e7110ba7b1d4013ea9664a43c249884c6b2ab881084f00178eddf4c24b44c167", func := "barque/barquelaw13.ChunkCuts", spec := "chunkCuts", apart := false }
def ChunkCutsSaid : Prop := chunkCutsRow.holds Try.pinned (OpenSpec.ofChange chunkCutsSpec)

/-- ITS FALSE NEIGHBOUR: 'it returns false'. Refute it at one input. -/
def chunkCutsWrong : ChangeSpec := { name := "chunkCuts", fn := fun _ => fun
  | [d1, d2] => { results := [.lit (.bool false)], args := [d1, d2] }
  | _ => none }
def ChunkCutsWrongFalsely : Prop := chunkCutsRow.holds Try.pinned (OpenSpec.ofChange chunkCutsWrong)

/-- 'barquelaw13.ChunkNobody': WHATEVER THE INPUT: true; the input reads as it did. -/
def chunkNobodySpec : ChangeSpec := { name := "chunkNobody", fn := fun _ => fun
  | [d1, d2] => { results := [.lit (.bool true)], args := [d1, d2] }
  | _ => none }
def chunkNobodyRow : OpenClaim := { program := "ytdomngcedflapaa", sum := "e7110ba7b1d4013ea9664a43c249884c6b2ab881084f00178eddf4c24b44c167", func := "barque/barquelaw13.ChunkNobody", spec := "chunkNobody", inPlace := ["internal/abi.NoEscape", "internal/bytealg.MakeNoZero"], apart := false }
def ChunkNobodySaid : Prop := chunkNobodyRow.holds Try.pinned (OpenSpec.ofChange chunkNobodySpec)

/-- ITS FALSE NEIGHBOUR: 'it returns false'. Refute it at one input. -/
def chunkNobodyWrong : ChangeSpec := { name := "chunkNobody", fn := fun _ => fun
  | [d1, d2] => { results := [.lit (.bool false)], args := [d1, d2] }
  | _ => none }
def ChunkNobodyWrongFalsely : Prop := chunkNobodyRow.holds Try.pinned (OpenSpec.ofChange chunkNobodyWrong)

/-- 'barquelaw13.ChunkMany': WHATEVER THE INPUT: true; the input reads as it did. -/
def chunkManySpec : ChangeSpec := { name := "chunkMany", fn := fun _ => fun
  | [d] => { results := [.lit (.bool true)], args := [d] }
  | _ => none }
def chunkManyRow : OpenClaim := { program := "ytdomngcedflapaa", sum := "e7110ba7b1d4013ea9664a43c249884c6b2ab881084f00178eddf4c24b44c167", func := "barque/barquelaw13.ChunkMany", spec := "chunkMany", apart := false }
def ChunkManySaid : Prop := chunkManyRow.holds Try.pinned (OpenSpec.ofChange chunkManySpec)

/-- ITS FALSE NEIGHBOUR: 'it returns false'. Refute it at one input. -/
def chunkManyWrong : ChangeSpec := { name := "chunkMany", fn := fun _ => fun
  | [d] => { results := [.lit (.bool false)], args := [d] }
  | _ => none }
def ChunkManyWrongFalsely : Prop := chunkManyRow.holds Try.pinned (OpenSpec.ofChange chunkManyWrong)

/-- 'barquelaw13.ChunkPlays': WHATEVER THE INPUT: true; the input reads as it did. -/
def chunkPlaysSpec : ChangeSpec := { name := "chunkPlays", fn := fun _ => fun
  | [d1, d2] => { results := [.lit (.bool true)], args := [d1, d2] }
  | _ => none }
def chunkPlaysRow : OpenClaim := { program := "ytdomngcedflapaa", sum := "e7110ba7b1d4013ea9664a43c249884c6b2ab881084f00178eddf4c24b44c167", func := "barque/barquelaw13.ChunkPlays", spec := "chunkPlays", inPlace := ["internal/abi.NoEscape", "internal/bytealg.MakeNoZero"], apart := false }
def ChunkPlaysSaid : Prop := chunkPlaysRow.holds Try.pinned (OpenSpec.ofChange chunkPlaysSpec)

/-- ITS FALSE NEIGHBOUR: 'it returns false'. Refute it at one input. -/
def chunkPlaysWrong : ChangeSpec := { name := "chunkPlays", fn := fun _ => fun
  | [d1, d2] => { results := [.lit (.bool false)], args := [d1, d2] }
  | _ => none }
def ChunkPlaysWrongFalsely : Prop := chunkPlaysRow.holds Try.pinned (OpenSpec.ofChange chunkPlaysWrong)

/-- 'barquelaw02.FrameOnes': WHATEVER THE INPUT: true; the input reads as it did. -/
def frameOnesSpec : ChangeSpec := { name := "frameOnes", fn := fun _ => fun
  | [d] => { results := [.lit (.bool true)], args := [d] }
  | _ => none }
def frameOnesRow : OpenClaim := { program := "ytdomngcedflapaa", sum := "e7110ba7b1d4013ea9664a43c249884c6b2ab881084f00178eddf4c24b44c167", func := "barque/barquelaw02.FrameOnes", spec := "frameOnes", apart := false }
def FrameOnesSaid : Prop := frameOnesRow.holds Try.pinned (OpenSpec.ofChange frameOnesSpec)

/-- ITS FALSE NEIGHBOUR: 'it returns false'. Refute it at one input. -/
def frameOnesWrong : ChangeSpec := { name := "frameOnes", fn := fun _ => fun
  | [d] => { results := [.lit (.bool false)], args := [d] }
  | _ => none }
def FrameOnesWrongFalsely : Prop := frameOnesRow.holds Try.pinned (OpenSpec.ofChange frameOnesWrong)

/-- 'barquelaw13.ChunkOther': WHATEVER THE INPUT: true; the input reads as it did. -/
def chunkOtherSpec : ChangeSpec := { name := "chunkOther", fn := fun _ => fun
  | [d1, d2, d3, d4] => { results := [.lit (.bool true)], args := [d1, d2, d3, d4] }
  | _ => none }
def chunkOtherRow : OpenClaim := { program := "ytdomngcedflapaa", sum := "e7110ba7b1d4013ea9664a43c249884c6b2ab881084f00178eddf4c24b44c167", func := "barque/barquelaw13.ChunkOther", spec := "chunkOther", apart := false }
def ChunkOtherSaid : Prop := chunkOtherRow.holds Try.pinned (OpenSpec.ofChange chunkOtherSpec)

/-- ITS FALSE NEIGHBOUR: 'it returns false'. Refute it at one input. -/
def chunkOtherWrong : ChangeSpec := { name := "chunkOther", fn := fun _ => fun
  | [d1, d2, d3, d4] => { results := [.lit (.bool false)], args := [d1, d2, d3, d4] }
  | _ => none }
def ChunkOtherWrongFalsely : Prop := chunkOtherRow.holds Try.pinned (OpenSpec.ofChange chunkOtherWrong)

/-- 'barquelaw13.ChunkLong': WHATEVER THE INPUT: true; the input reads as it did. -/
def chunkLongSpec : ChangeSpec := { name := "chunkLong", fn := fun _ => fun
  | [d] => { results := [.lit (.bool true)], args := [d] }
  | _ => none }
def chunkLongRow : OpenClaim := { program := "ytdomngcedflapaa", sum := "e7110ba7b1d4013ea9664a43c249884c6b2ab881084f00178eddf4c24b44c167", func := "barque/barquelaw13.ChunkLong", spec := "chunkLong", apart := false }
def ChunkLongSaid : Prop := chunkLongRow.holds Try.pinned (OpenSpec.ofChange chunkLongSpec)

/-- ITS FALSE NEIGHBOUR: 'it returns false'. Refute it at one input. -/
def chunkLongWrong : ChangeSpec := { name := "chunkLong", fn := fun _ => fun
  | [d] => { results := [.lit (.bool false)], args := [d] }
  | _ => none }
def ChunkLongWrongFalsely : Prop := chunkLongRow.holds Try.pinned (OpenSpec.ofChange chunkLongWrong)

/-- 'barquelaw02.FrameJoins': WHATEVER THE INPUT: true; the input reads as it did. -/
def frameJoinsSpec : ChangeSpec := { name := "frameJoins", fn := fun _ => fun
  | [d1, d2] => { results := [.lit (.bool true)], args := [d1, d2] }
  | _ => none }
def frameJoinsRow : OpenClaim := { program := "ytdomngcedflapaa", sum := "e7110ba7b1d4013ea9664a43c249884c6b2ab881084f00178eddf4c24b44c167", func := "barque/barquelaw02.FrameJoins", spec := "frameJoins", apart := false }
def FrameJoinsSaid : Prop := frameJoinsRow.holds Try.pinned (OpenSpec.ofChange frameJoinsSpec)

/-- ITS FALSE NEIGHBOUR: 'it returns false'. Refute it at one input. -/
def frameJoinsWrong : ChangeSpec := { name := "frameJoins", fn := fun _ => fun
  | [d1, d2] => { results := [.lit (.bool false)], args := [d1, d2] }
  | _ => none }
def FrameJoinsWrongFalsely : Prop := frameJoinsRow.holds Try.pinned (OpenSpec.ofChange frameJoinsWrong)

/-- 'barquelaw02.FrameFrames': WHATEVER THE INPUT: true; the input reads as it did. -/
def frameFramesSpec : ChangeSpec := { name := "frameFrames", fn := fun _ => fun
  | [d1, d2] => { results := [.lit (.bool true)], args := [d1, d2] }
  | _ => none }
def frameFramesRow : OpenClaim := { program := "ytdomngcedflapaa", sum := "e7110ba7b1d4013ea9664a43c249884c6b2ab881084f00178eddf4c24b44c167", func := "barque/barquelaw02.FrameFrames", spec := "frameFrames", inPlace := ["internal/abi.NoEscape"], apart := false }
def FrameFramesSaid : Prop := frameFramesRow.holds Try.pinned (OpenSpec.ofChange frameFramesSpec)

/-- ITS FALSE NEIGHBOUR: 'it returns false'. Refute it at one input. -/
def frameFramesWrong : ChangeSpec := { name := "frameFrames", fn := fun _ => fun
  | [d1, d2] => { results := [.lit (.bool false)], args := [d1, d2] }
  | _ => none }
def FrameFramesWrongFalsely : Prop := frameFramesRow.holds Try.pinned (OpenSpec.ofChange frameFramesWrong)

/-- 'barquelaw02.FrameScans': WHATEVER THE INPUT: true; the input reads as it did. -/
def frameScansSpec : ChangeSpec := { name := "frameScans", fn := fun _ => fun
  | [d] => { results := [.lit (.bool true)], args := [d] }
  | _ => none }
def frameScansRow : OpenClaim := { program := "ytdomngcedflapaa", sum := "e7110ba7b1d4013ea9664a43c249884c6b2ab881084f00178eddf4c24b44c167", func := "barque/barquelaw02.FrameScans", spec := "frameScans", apart := false }
def FrameScansSaid : Prop := frameScansRow.holds Try.pinned (OpenSpec.ofChange frameScansSpec)

/-- ITS FALSE NEIGHBOUR: 'it returns false'. Refute it at one input. -/
def frameScansWrong : ChangeSpec := { name := "frameScans", fn := fun _ => fun
  | [d] => { results := [.lit (.bool false)], args := [d] }
  | _ => none }
def FrameScansWrongFalsely : Prop := frameScansRow.holds Try.pinned (OpenSpec.ofChange frameScansWrong)

/-- 'barquelaw02.FrameLost': WHATEVER THE INPUT: true; the input reads as it did. -/
def frameLostSpec : ChangeSpec := { name := "frameLost", fn := fun _ => fun
  | [d1, d2] => { results := [.lit (.bool true)], args := [d1, d2] }
  | _ => none }
def frameLostRow : OpenClaim := { program := "ytdomngcedflapaa", sum := "e7110ba7b1d4013ea9664a43c249884c6b2ab881084f00178eddf4c24b44c167", func := "barque/barquelaw02.FrameLost", spec := "frameLost", apart := false }
def FrameLostSaid : Prop := frameLostRow.holds Try.pinned (OpenSpec.ofChange frameLostSpec)

/-- ITS FALSE NEIGHBOUR: 'it returns false'. Refute it at one input. -/
def frameLostWrong : ChangeSpec := { name := "frameLost", fn := fun _ => fun
  | [d1, d2] => { results := [.lit (.bool false)], args := [d1, d2] }
  | _ => none }
def FrameLostWrongFalsely : Prop := frameLostRow.holds Try.pinned (OpenSpec.ofChange frameLostWrong)

/-- 'barquelaw02.FrameBack': WHATEVER THE INPUT: true; the input reads as it did. -/
def frameBackSpec : ChangeSpec := { name := "frameBack", fn := fun _ => fun
  | [d1, d2] => { results := [.lit (.bool true)], args := [d1, d2] }
  | _ => none }
def frameBackRow : OpenClaim := { program := "ytdomngcedflapaa", sum := "e7110ba7b1d4013ea9664a43c249884c6b2ab881084f00178eddf4c24b44c167", func := "barque/barquelaw02.FrameBack", spec := "frameBack", inPlace := ["internal/abi.NoEscape"], apart := false }
def FrameBackSaid : Prop := frameBackRow.holds Try.pinned (OpenSpec.ofChange frameBackSpec)

/-- ITS FALSE NEIGHBOUR: 'it returns false'. Refute it at one input. -/
def frameBackWrong : ChangeSpec := { name := "frameBack", fn := fun _ => fun
  | [d1, d2] => { results := [.lit (.bool false)], args := [d1, d2] }
  | _ => none }
def FrameBackWrongFalsely : Prop := frameBackRow.holds Try.pinned (OpenSpec.ofChange frameBackWrong)

/-- 'barquelaw13.ChunkBack': WHATEVER THE INPUT: true; the input reads as it did. -/
def chunkBackSpec : ChangeSpec := { name := "chunkBack", fn := fun _ => fun
  | [d1, d2, d3] => { results := [.lit (.bool true)], args := [d1, d2, d3] }
  | _ => none }
def chunkBackRow : OpenClaim := { program := "ytdomngcedflapaa", sum := "e7110ba7b1d4013ea9664a43c249884c6b2ab881084f00178eddf4c24b44c167", func := "barque/barquelaw13.ChunkBack", spec := "chunkBack", inPlace := ["internal/abi.NoEscape", "internal/bytealg.MakeNoZero"], apart := false }
def ChunkBackSaid : Prop := chunkBackRow.holds Try.pinned (OpenSpec.ofChange chunkBackSpec)

/-- ITS FALSE NEIGHBOUR: 'it returns false'. Refute it at one input. -/
def chunkBackWrong : ChangeSpec := { name := "chunkBack", fn := fun _ => fun
  | [d1, d2, d3] => { results := [.lit (.bool false)], args := [d1, d2, d3] }
  | _ => none }
def ChunkBackWrongFalsely : Prop := chunkBackRow.holds Try.pinned (OpenSpec.ofChange chunkBackWrong)

/- THE SECOND FORM. 'bulk': how many values and letters a reading holds, each counted each time it is reached (what is shared counts as often as it is met; a slice's spare places count too). A statement '..UptoSaid' is the law's where the arguments, and the package variables that the reading takes, are together of bulk at most 1048576: NARROWER than '..Said'. Prove '..Said' where nothing that the law and all that it calls make is longer than what came in: it says more and counts as full. Else prove '..UptoSaid'. A law counts once. -/
mutual
def uptoBulk {H : Type} : DataW H → Nat
  | .lit (.string bytes) => bytes.length + 1
  | .lit _ => 1
  | .nil => 1
  | .ptr d => uptoBulk d + 1
  | .slice elems spare => uptoBulkAll elems + uptoBulkAll spare + 1
  | .agg parts => uptoBulkAll parts + 1
  | .iface _ d => uptoBulk d + 1
  | .map entries => uptoBulkEntries entries + 1
  | .held _ => 1
def uptoBulkAll {H : Type} : List (DataW H) → Nat
  | [] => 0
  | d :: r => uptoBulk d + uptoBulkAll r
def uptoBulkEntries {H : Type} : List (Lit × DataW H) → Nat
  | [] => 0
  | x :: r => uptoBulkEntry x + uptoBulkEntries r
def uptoBulkEntry {H : Type} : Lit × DataW H → Nat
  | (.string bytes, d) => bytes.length + uptoBulk d + 1
  | (_, d) => uptoBulk d + 1
 end
def uptoSmall : (H : Type) → List (DataW H) → Bool := fun _ ds => decide (uptoBulkAll ds ≤ 1048576)
def OpenSpec.upto (s : _root_.Go.ChangeSpec) : _root_.Go.OpenSpec := { _root_.Go.OpenSpec.ofChange s with cond := some uptoSmall }

/-- 'barquelaw02.FrameSums', WHERE WHAT IT READS IS OF BULK AT MOST 1048576: true; the input reads as it did. -/
def frameSumsUptoRow : OpenClaim := { program := "ytdomngcedflapaa", sum := "e7110ba7b1d4013ea9664a43c249884c6b2ab881084f00178eddf4c24b44c167", func := "barque/barquelaw02.FrameSums", spec := "frameSums", apart := false, narrowed := true }
def FrameSumsUptoSaid : Prop := frameSumsUptoRow.holds Try.pinned (OpenSpec.upto frameSumsSpec)

/-- 'barquelaw02.FrameAdds', WHERE WHAT IT READS IS OF BULK AT MOST 1048576: true; the input reads as it did. -/
def frameAddsUptoRow : OpenClaim := { program := "ytdomngcedflapaa", sum := "e7110ba7b1d4013ea9664a43c249884c6b2ab881084f00178eddf4c24b44c167", func := "barque/barquelaw02.FrameAdds", spec := "frameAdds", apart := false, narrowed := true }
def FrameAddsUptoSaid : Prop := frameAddsUptoRow.holds Try.pinned (OpenSpec.upto frameAddsSpec)

/-- 'barquelaw02.FrameBursts', WHERE WHAT IT READS IS OF BULK AT MOST 1048576: true; the input reads as it did. -/
def frameBurstsUptoRow : OpenClaim := { program := "ytdomngcedflapaa", sum := "e7110ba7b1d4013ea9664a43c249884c6b2ab881084f00178eddf4c24b44c167", func := "barque/barquelaw02.FrameBursts", spec := "frameBursts", apart := false, narrowed := true }
def FrameBurstsUptoSaid : Prop := frameBurstsUptoRow.holds Try.pinned (OpenSpec.upto frameBurstsSpec)

/-- 'barquelaw13.ChunkCuts', WHERE WHAT IT READS IS OF BULK AT MOST 1048576: true; the input reads as it did. -/
def chunkCutsUptoRow : OpenClaim := { program := "ytdomngcedflapaa", sum := "e7110ba7b1d4013ea9664a43c249884c6b2ab881084f00178eddf4c24b44c167", func := "barque/barquelaw13.ChunkCuts", spec := "chunkCuts", apart := false, narrowed := true }
def ChunkCutsUptoSaid : Prop := chunkCutsUptoRow.holds Try.pinned (OpenSpec.upto chunkCutsSpec)

/-- 'barquelaw13.ChunkNobody', WHERE WHAT IT READS IS OF BULK AT MOST 1048576: true; the input reads as it did. -/
def chunkNobodyUptoRow : OpenClaim := { program := "ytdomngcedflapaa", sum := "e7110ba7b1d4013ea9664a43c249884c6b2ab881084f00178eddf4c24b44c167", func := "barque/barquelaw13.ChunkNobody", spec := "chunkNobody", inPlace := ["internal/abi.NoEscape", "internal/bytealg.MakeNoZero"], apart := false, narrowed := true }
def ChunkNobodyUptoSaid : Prop := chunkNobodyUptoRow.holds Try.pinned (OpenSpec.upto chunkNobodySpec)

/-- 'barquelaw13.ChunkMany', WHERE WHAT IT READS IS OF BULK AT MOST 1048576: true; the input reads as it did. -/
def chunkManyUptoRow : OpenClaim := { program := "ytdomngcedflapaa", sum := "e7110ba7b1d4013ea9664a43c249884c6b2ab881084f00178eddf4c24b44c167", func := "barque/barquelaw13.ChunkMany", spec := "chunkMany", apart := false, narrowed := true }
def ChunkManyUptoSaid : Prop := chunkManyUptoRow.holds Try.pinned (OpenSpec.upto chunkManySpec)

/-- 'barquelaw13.ChunkPlays', WHERE WHAT IT READS IS OF BULK AT MOST 1048576: true; the input reads as it did. -/
def chunkPlaysUptoRow : OpenClaim := { program := "ytdomngcedflapaa", sum := "e7110ba7b1d4013ea9664a43c249884c6b2ab881084f00178eddf4c24b44c167", func := "barque/barquelaw13.ChunkPlays", spec := "chunkPlays", inPlace := ["internal/abi.NoEscape", "internal/bytealg.MakeNoZero"], apart := false, narrowed := true }
def ChunkPlaysUptoSaid : Prop := chunkPlaysUptoRow.holds Try.pinned (OpenSpec.upto chunkPlaysSpec)

/-- 'barquelaw02.FrameOnes', WHERE WHAT IT READS IS OF BULK AT MOST 1048576: true; the input reads as it did. -/
def frameOnesUptoRow : OpenClaim := { program := "ytdomngcedflapaa", sum := "e7110ba7b1d4013ea9664a43c249884c6b2ab881084f00178eddf4c24b44c167", func := "barque/barquelaw02.FrameOnes", spec := "frameOnes", apart := false, narrowed := true }
def FrameOnesUptoSaid : Prop := frameOnesUptoRow.holds Try.pinned (OpenSpec.upto frameOnesSpec)

/-- 'barquelaw13.ChunkOther', WHERE WHAT IT READS IS OF BULK AT MOST 1048576: true; the input reads as it did. -/
def chunkOtherUptoRow : OpenClaim := { program := "ytdomngcedflapaa", sum := "e7110ba7b1d4013ea9664a43c249884c6b2ab881084f00178eddf4c24b44c167", func := "barque/barquelaw13.ChunkOther", spec := "chunkOther", apart := false, narrowed := true }
def ChunkOtherUptoSaid : Prop := chunkOtherUptoRow.holds Try.pinned (OpenSpec.upto chunkOtherSpec)

/-- 'barquelaw13.ChunkLong', WHERE WHAT IT READS IS OF BULK AT MOST 1048576: true; the input reads as it did. -/
def chunkLongUptoRow : OpenClaim := { program := "ytdomngcedflapaa", sum := "e7110ba7b1d4013ea9664a43c249884c6b2ab881084f00178eddf4c24b44c167", func := "barque/barquelaw13.ChunkLong", spec := "chunkLong", apart := false, narrowed := true }
def ChunkLongUptoSaid : Prop := chunkLongUptoRow.holds Try.pinned (OpenSpec.upto chunkLongSpec)

/-- 'barquelaw02.FrameJoins', WHERE WHAT IT READS IS OF BULK AT MOST 1048576: true; the input reads as it did. -/
def frameJoinsUptoRow : OpenClaim := { program := "ytdomngcedflapaa", sum := "e7110ba7b1d4013ea9664a43c249884c6b2ab881084f00178eddf4c24b44c167", func := "barque/barquelaw02.FrameJoins", spec := "frameJoins", apart := false, narrowed := true }
def FrameJoinsUptoSaid : Prop := frameJoinsUptoRow.holds Try.pinned (OpenSpec.upto frameJoinsSpec)

/-- 'barquelaw02.FrameFrames', WHERE WHAT IT READS IS OF BULK AT MOST 1048576: true; the input reads as it did. -/
def frameFramesUptoRow : OpenClaim := { program := "ytdomngcedflapaa", sum := "e7110ba7b1d4013ea9664a43c249884c6b2ab881084f00178eddf4c24b44c167", func := "barque/barquelaw02.FrameFrames", spec := "frameFrames", inPlace := ["internal/abi.NoEscape"], apart := false, narrowed := true }
def FrameFramesUptoSaid : Prop := frameFramesUptoRow.holds Try.pinned (OpenSpec.upto frameFramesSpec)

/-- 'barquelaw02.FrameScans', WHERE WHAT IT READS IS OF BULK AT MOST 1048576: true; the input reads as it did. -/
def frameScansUptoRow : OpenClaim := { program := "ytdomngcedflapaa", sum := "e7110ba7b1d4013ea9664a43c249884c6b2ab881084f00178eddf4c24b44c167", func := "barque/barquelaw02.FrameScans", spec := "frameScans", apart := false, narrowed := true }
def FrameScansUptoSaid : Prop := frameScansUptoRow.holds Try.pinned (OpenSpec.upto frameScansSpec)

/-- 'barquelaw02.FrameLost', WHERE WHAT IT READS IS OF BULK AT MOST 1048576: true; the input reads as it did. -/
def frameLostUptoRow : OpenClaim := { program := "ytdomngcedflapaa", sum := "e7110ba7b1d4013ea9664a43c249884c6b2ab881084f00178eddf4c24b44c167", func := "barque/barquelaw02.FrameLost", spec := "frameLost", apart := false, narrowed := true }
def FrameLostUptoSaid : Prop := frameLostUptoRow.holds Try.pinned (OpenSpec.upto frameLostSpec)

/-- 'barquelaw02.FrameBack', WHERE WHAT IT READS IS OF BULK AT MOST 1048576: true; the input reads as it did. -/
def frameBackUptoRow : OpenClaim := { program := "ytdomngcedflapaa", sum := "e7110ba7b1d4013ea9664a43c249884c6b2ab881084f00178eddf4c24b44c167", func := "barque/barquelaw02.FrameBack", spec := "frameBack", inPlace := ["internal/abi.NoEscape"], apart := false, narrowed := true }
def FrameBackUptoSaid : Prop := frameBackUptoRow.holds Try.pinned (OpenSpec.upto frameBackSpec)

/-- 'barquelaw13.ChunkBack', WHERE WHAT IT READS IS OF BULK AT MOST 1048576: true; the input reads as it did. -/
def chunkBackUptoRow : OpenClaim := { program := "ytdomngcedflapaa", sum := "e7110ba7b1d4013ea9664a43c249884c6b2ab881084f00178eddf4c24b44c167", func := "barque/barquelaw13.ChunkBack", spec := "chunkBack", inPlace := ["internal/abi.NoEscape", "internal/bytealg.MakeNoZero"], apart := false, narrowed := true }
def ChunkBackUptoSaid : Prop := chunkBackUptoRow.holds Try.pinned (OpenSpec.upto chunkBackSpec)

end Rows
end Go.Proofs.Ytdomngcedflapaa
