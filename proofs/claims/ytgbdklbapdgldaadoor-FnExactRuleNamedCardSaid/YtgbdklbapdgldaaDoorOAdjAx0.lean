/- Walks of the functions that a law reaches, printed by a program of this session. -/
import Derived.Test.YtgbdklbapdgldaaDoorProg
import Derived.Below
import Derived.Deep.Draws
import Derived.Deep.AppendLies
import Derived.Maps.AppendAt
import Derived.OwnWalk
import Derived.Laws.BytesArg
import Derived.Laws.MakeOwn
import Derived.Laws.OwnMore
import Derived.Deep.OwnRows
import Derived.Tactics
import Derived.Lib.ConvBytes
import Derived.Laws.Slices
import Derived.WalkKit
import Derived.KernelRfl
import Derived.RowKit3
import Derived.Deep.LoopGhost
import Derived.Deep.QuietTactic
import Derived.BigQuiet
import Derived.WideLaws
import Derived.Deep.DeepCutAuto
import Derived.Deep.CutBlock
import Derived.Deep.RegionHeld3
import Derived.Laws.Rows
import Derived.Lib.AppendStr
import Derived.ArgAppend
import Derived.Laws.IdiomCopy
import Derived.OrdersHeld
import Derived.Laws.BitsLemmas
import Derived.RowKit
import Derived.Test.YtgbdklbapdgldaaDoorOpen
import Derived.Test.YtgbdklbapdgldaaDoorCover
import Derived.Test.YtgbdklbapdgldaaDoorWWords
import Derived.Test.YtgbdklbapdgldaaDoorWLast
import Derived.Test.YtgbdklbapdgldaaDoorWTab
import Derived.Test.YtgbdklbapdgldaaDoorWFour
import Derived.Test.YtgbdklbapdgldaaDoorWQPut
import Derived.Test.YtgbdklbapdgldaaDoorWApart
import Derived.Test.YtgbdklbapdgldaaDoorWArr
import Derived.Test.YtgbdklbapdgldaaDoorWZeros
import Derived.Test.YtgbdklbapdgldaaDoorWFoot
import Derived.Test.YtgbdklbapdgldaaDoorWKept
import Derived.Test.YtgbdklbapdgldaaDoorWShare
import Derived.Test.YtgbdklbapdgldaaDoorWN
import Derived.Test.YtgbdklbapdgldaaDoorWFootNe
import Derived.Test.YtgbdklbapdgldaaDoorWAt
import Derived.Test.YtgbdklbapdgldaaDoorWEqStruct
import Derived.Test.YtgbdklbapdgldaaDoorWRepsOne
import Derived.Test.YtgbdklbapdgldaaDoorWInv
import Derived.Test.YtgbdklbapdgldaaDoorWInvWords
import Derived.Test.YtgbdklbapdgldaaDoorWGuard
import Derived.Test.YtgbdklbapdgldaaDoorWNEv
import Derived.Test.YtgbdklbapdgldaaDoorWMore
namespace Go.Proofs.YtgbdklbapdgldaaDoor.OAdjA
open Go.RowKit Go.Proofs.YtgbdklbapdgldaaDoorW.PrintWords Go.Proofs.YtgbdklbapdgldaaDoorW.PrintLast Go.Proofs.YtgbdklbapdgldaaDoorW.PrintMore
attribute [local go_sem] max2_int min2_int max_two min_two max_three min_three max_four min_four   -- for this text's walks alone
open Go.Proofs.YtgbdklbapdgldaaDoor.Open
set_option linter.unusedVariables false
set_option linter.unusedSimpArgs false



def errW : Option Int → Value
  | none => .nilIface
  | some c => .iface 0 (.int .i64 c)
theorem errW_none : errW none = .nilIface := rfl
theorem errW_some (c : Int) : errW (some c) = .iface 0 (.int .i64 c) := rfl

theorem info9 : (Tryd.prog.info? 9).map (fun i => (i.zero, i.size, i.bytes)) = some (some (.string ⟨#[]⟩), 1, 16) := by kernel_rfl
-- the values' own types


end Go.Proofs.YtgbdklbapdgldaaDoor.OAdjA
