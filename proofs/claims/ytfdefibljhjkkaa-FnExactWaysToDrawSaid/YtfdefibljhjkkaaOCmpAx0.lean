/- Walks of the functions that a law reaches, printed by a program of this session. -/
import Derived.Test.YtfdefibljhjkkaaProg
import Derived.Below
import Derived.Deep.Draws
import Derived.Deep.AppendLies
import Derived.Maps.AppendAt
import Derived.OwnWalk
import Derived.Laws.BytesArg
import Derived.Laws.MakeOwn
import Derived.Laws.OwnMore
import Derived.Deep.OwnRows
import Derived.Tactics
import Derived.Lib.ConvBytes
import Derived.Laws.Slices
import Derived.WalkKit
import Derived.KernelRfl
import Derived.RowKit3
import Derived.Deep.LoopGhost
import Derived.Deep.QuietTactic
import Derived.BigQuiet
import Derived.WideLaws
import Derived.Deep.DeepCutAuto
import Derived.Deep.CutBlock
import Derived.Deep.RegionHeld3
import Derived.Laws.Rows
import Derived.Lib.AppendStr
import Derived.ArgAppend
import Derived.Laws.IdiomCopy
import Derived.OrdersHeld
import Derived.Laws.BitsLemmas
import Derived.RowKit
import Derived.Test.YtfdefibljhjkkaaOpen
import Derived.Test.YtfdefibljhjkkaaCover
import Derived.Test.YtfdefibljhjkkaaGSort
import Derived.Test.YtfdefibljhjkkaaWWords
import Derived.Test.YtfdefibljhjkkaaWLast
import Derived.Test.YtfdefibljhjkkaaWTab
import Derived.Test.YtfdefibljhjkkaaWFour
import Derived.Test.YtfdefibljhjkkaaWQPut
import Derived.Test.YtfdefibljhjkkaaWApart
import Derived.Test.YtfdefibljhjkkaaWArr
import Derived.Test.YtfdefibljhjkkaaWZeros
import Derived.Test.YtfdefibljhjkkaaWFoot
import Derived.Test.YtfdefibljhjkkaaWKept
import Derived.Test.YtfdefibljhjkkaaWShare
import Derived.Test.YtfdefibljhjkkaaWN
import Derived.Test.YtfdefibljhjkkaaWFootNe
import Derived.Test.YtfdefibljhjkkaaWAt
import Derived.Test.YtfdefibljhjkkaaWEqStruct
import Derived.Test.YtfdefibljhjkkaaWRepsOne
import Derived.Test.YtfdefibljhjkkaaWInv
import Derived.Test.YtfdefibljhjkkaaWInvWords
import Derived.Test.YtfdefibljhjkkaaWGuard
import Derived.Test.YtfdefibljhjkkaaWNEv
import Derived.Test.YtfdefibljhjkkaaWMore
namespace Go.Proofs.Ytfdefibljhjkkaa.OCmpA
open Go.RowKit Go.Proofs.YtfdefibljhjkkaaW.PrintWords Go.Proofs.YtfdefibljhjkkaaW.PrintLast Go.Proofs.YtfdefibljhjkkaaW.PrintMore
attribute [local go_sem] max2_int min2_int max_two min_two max_three min_three max_four min_four   -- for this text's walks alone
open Go.Proofs.Ytfdefibljhjkkaa.Open
open Go.Proofs.Ytfdefibljhjkkaa.G
set_option linter.unusedVariables false
set_option linter.unusedSimpArgs false



def errW : Option Int → Value
  | none => .nilIface
  | some c => .iface 0 (.int .i64 c)
theorem errW_none : errW none = .nilIface := rfl
theorem errW_some (c : Int) : errW (some c) = .iface 0 (.int .i64 c) := rfl

theorem info3 : (Try.prog.info? 3).map (fun i => (i.zero, i.size, i.bytes)) = some (some (.int .i64 0), 1, 8) := by kernel_rfl
-- the values' own types


end Go.Proofs.Ytfdefibljhjkkaa.OCmpA
