-- Written by the session's own program (wip/mkprint.py, pr.sh), out of the walk over the given translation
import Derived.Test.YtdomngcedflapaaProg
import Derived.Below
import Derived.Deep.Draws
import Derived.Deep.AppendLies
import Derived.Maps.AppendAt
import Derived.OwnWalk
import Derived.Laws.BytesArg
import Derived.Laws.MakeOwn
import Derived.Laws.OwnMore
import Derived.Deep.OwnRows
import Derived.Tactics
import Derived.Lib.ConvBytes
import Derived.Laws.Slices
import Derived.WalkKit
import Derived.KernelRfl
import Derived.RowKit3
import Derived.Deep.LoopGhost
import Derived.Deep.QuietTactic
import Derived.BigQuiet
import Derived.WideLaws
import Derived.Deep.DeepCutAuto
import Derived.Deep.CutBlock
import Derived.Deep.RegionHeld3
import Derived.Laws.Rows
import Derived.Lib.AppendStr
import Derived.ArgAppend
import Derived.Laws.IdiomCopy
import Derived.OrdersHeld
import Derived.Laws.BitsLemmas
import Derived.RowKit
import Derived.Test.YtdomngcedflapaaWWords
import Derived.Test.YtdomngcedflapaaWLast
import Derived.Test.YtdomngcedflapaaWTab
import Derived.Test.YtdomngcedflapaaWFour
import Derived.Test.YtdomngcedflapaaWQPut
import Derived.Test.YtdomngcedflapaaWApart
import Derived.Test.YtdomngcedflapaaWArr
import Derived.Test.YtdomngcedflapaaWZeros
import Derived.Test.YtdomngcedflapaaWFoot
import Derived.Test.YtdomngcedflapaaWKept
import Derived.Test.YtdomngcedflapaaWShare
import Derived.Test.YtdomngcedflapaaWN
import Derived.Test.YtdomngcedflapaaWFootNe
import Derived.Test.YtdomngcedflapaaWAt
import Derived.Test.YtdomngcedflapaaWEqStruct
import Derived.Test.YtdomngcedflapaaWRepsOne
import Derived.Test.YtdomngcedflapaaWInv
import Derived.Test.YtdomngcedflapaaWInvWords
import Derived.Test.YtdomngcedflapaaWGuard
import Derived.Test.YtdomngcedflapaaWNEv
import Derived.Test.YtdomngcedflapaaWMore
import Derived.Test.YtdomngcedflapaaMine
namespace Go.Proofs.Ytdomngcedflapaa.PFrame
open Go.RowKit Go.Proofs.YtdomngcedflapaaW.PrintWords Go.Proofs.YtdomngcedflapaaW.PrintLast Go.Proofs.YtdomngcedflapaaW.PrintMore
attribute [local go_sem] max2_int min2_int max_two min_two max_three min_three max_four min_four   -- for this text's walks alone
open Go.Proofs.YtdomngcedflapaaW.Mine
attribute [local go_sem high] unary_xor_u32
set_option linter.unusedVariables false
set_option linter.unusedSimpArgs false



def errW : Option Int → Value
  | none => .nilIface
  | some c => .iface 0 (.int .i64 c)
theorem errW_none : errW none = .nilIface := rfl
theorem errW_some (c : Int) : errW (some c) = .iface 0 (.int .i64 c) := rfl

theorem info3 : (Try.prog.info? 3).map (fun i => (i.zero, i.size, i.bytes)) = some (some (.int .i64 0), 1, 8) := by kernel_rfl
theorem info5 : (Try.prog.info? 5).map (fun i => (i.zero, i.size, i.bytes)) = some (some (.int .u8 0), 1, 1) := by kernel_rfl
theorem info9 : (Try.prog.info? 9).map (fun i => (i.zero, i.size, i.bytes)) = some (some (.string ⟨#[]⟩), 1, 16) := by kernel_rfl
-- the values' own types

end Go.Proofs.Ytdomngcedflapaa.PFrame
