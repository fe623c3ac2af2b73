/- Walks of the functions that a law reaches, printed by a program of this session. -/
import Derived.Test.YtjolcfheommchaaProg
import Derived.Below
import Derived.Deep.Draws
import Derived.Deep.AppendLies
import Derived.Maps.AppendAt
import Derived.OwnWalk
import Derived.Laws.BytesArg
import Derived.Laws.MakeOwn
import Derived.Laws.OwnMore
import Derived.Deep.OwnRows
import Derived.Tactics
import Derived.Lib.ConvBytes
import Derived.Laws.Slices
import Derived.WalkKit
import Derived.KernelRfl
import Derived.RowKit3
import Derived.Deep.LoopGhost
import Derived.Deep.QuietTactic
import Derived.BigQuiet
import Derived.WideLaws
import Derived.Deep.DeepCutAuto
import Derived.Deep.CutBlock
import Derived.Deep.RegionHeld3
import Derived.Laws.Rows
import Derived.Lib.AppendStr
import Derived.ArgAppend
import Derived.Laws.IdiomCopy
import Derived.OrdersHeld
import Derived.Laws.BitsLemmas
import Derived.RowKit
import Derived.Test.YtjolcfheommchaaOpen
import Derived.Test.YtjolcfheommchaaCover
import Derived.Test.YtjolcfheommchaaGSmall
import Derived.Test.YtjolcfheommchaaWWords
import Derived.Test.YtjolcfheommchaaWLast
import Derived.Test.YtjolcfheommchaaWTab
import Derived.Test.YtjolcfheommchaaWFour
import Derived.Test.YtjolcfheommchaaWQPut
import Derived.Test.YtjolcfheommchaaWApart
import Derived.Test.YtjolcfheommchaaWArr
import Derived.Test.YtjolcfheommchaaWZeros
import Derived.Test.YtjolcfheommchaaWFoot
import Derived.Test.YtjolcfheommchaaWKept
import Derived.Test.YtjolcfheommchaaWShare
import Derived.Test.YtjolcfheommchaaWN
import Derived.Test.YtjolcfheommchaaWFootNe
import Derived.Test.YtjolcfheommchaaWAt
import Derived.Test.YtjolcfheommchaaWEqStruct
import Derived.Test.YtjolcfheommchaaWRepsOne
import Derived.Test.YtjolcfheommchaaWInv
import Derived.Test.YtjolcfheommchaaWInvWords
import Derived.Test.YtjolcfheommchaaWGuard
import Derived.Test.YtjolcfheommchaaWNEv
import Derived.Test.YtjolcfheommchaaWMore
namespace Go.Proofs.Ytjolcfheommchaa.OAdjA
open Go.RowKit Go.Proofs.YtjolcfheommchaaW.PrintWords Go.Proofs.YtjolcfheommchaaW.PrintLast Go.Proofs.YtjolcfheommchaaW.PrintMore
attribute [local go_sem] max2_int min2_int max_two min_two max_three min_three max_four min_four   -- for this text's walks alone
open Go.Proofs.Ytjolcfheommchaa.Open
open Go.Proofs.Ytjolcfheommchaa.G
set_option linter.unusedVariables false
set_option linter.unusedSimpArgs false



def errW : Option Int → Value
  | none => .nilIface
  | some c => .iface 0 (.int .i64 c)
theorem errW_none : errW none = .nilIface := rfl
theorem errW_some (c : Int) : errW (some c) = .iface 0 (.int .i64 c) := rfl

theorem info5 : (Try.prog.info? 5).map (fun i => (i.zero, i.size, i.bytes)) = some (some (.int .u8 0), 1, 1) := by kernel_rfl
theorem info9 : (Try.prog.info? 9).map (fun i => (i.zero, i.size, i.bytes)) = some (some (.string ⟨#[]⟩), 1, 16) := by kernel_rfl
-- the values' own types


end Go.Proofs.Ytjolcfheommchaa.OAdjA
