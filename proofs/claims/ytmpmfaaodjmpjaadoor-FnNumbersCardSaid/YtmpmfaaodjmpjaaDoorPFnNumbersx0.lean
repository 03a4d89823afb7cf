-- Out of the kit's print, with contracts of mine among it (myprint.py).
import Derived.Test.YtmpmfaaodjmpjaaDoorProg
import Derived.Below
import Derived.Deep.Draws
import Derived.Deep.AppendLies
import Derived.Maps.AppendAt
import Derived.OwnWalk
import Derived.Laws.BytesArg
import Derived.Laws.MakeOwn
import Derived.Laws.OwnMore
import Derived.Deep.OwnRows
import Derived.Tactics
import Derived.Lib.ConvBytes
import Derived.Laws.Slices
import Derived.WalkKit
import Derived.KernelRfl
import Derived.RowKit3
import Derived.Deep.LoopGhost
import Derived.Deep.QuietTactic
import Derived.BigQuiet
import Derived.WideLaws
import Derived.Deep.DeepCutAuto
import Derived.Deep.CutBlock
import Derived.Deep.RegionHeld3
import Derived.Laws.Rows
import Derived.Lib.AppendStr
import Derived.ArgAppend
import Derived.Laws.IdiomCopy
import Derived.OrdersHeld
import Derived.Laws.BitsLemmas
import Derived.RowKit
import Derived.WalkLawsBesides
import Derived.Test.YtmpmfaaodjmpjaaDoorShelf
import Derived.Test.YtmpmfaaodjmpjaaDoorTabs
import Derived.Test.YtmpmfaaodjmpjaaDoorWWords
import Derived.Test.YtmpmfaaodjmpjaaDoorWLast
import Derived.Test.YtmpmfaaodjmpjaaDoorWTab
import Derived.Test.YtmpmfaaodjmpjaaDoorWFour
import Derived.Test.YtmpmfaaodjmpjaaDoorWQPut
import Derived.Test.YtmpmfaaodjmpjaaDoorWApart
import Derived.Test.YtmpmfaaodjmpjaaDoorWArr
import Derived.Test.YtmpmfaaodjmpjaaDoorWZeros
import Derived.Test.YtmpmfaaodjmpjaaDoorWFoot
import Derived.Test.YtmpmfaaodjmpjaaDoorWKept
import Derived.Test.YtmpmfaaodjmpjaaDoorWShare
import Derived.Test.YtmpmfaaodjmpjaaDoorWN
import Derived.Test.YtmpmfaaodjmpjaaDoorWFootNe
import Derived.Test.YtmpmfaaodjmpjaaDoorWAt
import Derived.Test.YtmpmfaaodjmpjaaDoorWEqStruct
import Derived.Test.YtmpmfaaodjmpjaaDoorWRepsOne
import Derived.Test.YtmpmfaaodjmpjaaDoorWInv
import Derived.Test.YtmpmfaaodjmpjaaDoorWInvWords
import Derived.Test.YtmpmfaaodjmpjaaDoorWGuard
import Derived.Test.YtmpmfaaodjmpjaaDoorWNEv
import Derived.Test.YtmpmfaaodjmpjaaDoorWMore
namespace Go.Proofs.YtmpmfaaodjmpjaaDoor.PFnNumbers
open Go.RowKit Go.Proofs.YtmpmfaaodjmpjaaDoorW.PrintWords Go.Proofs.YtmpmfaaodjmpjaaDoorW.PrintLast Go.Proofs.YtmpmfaaodjmpjaaDoorW.PrintMore
attribute [local go_sem] max2_int min2_int max_two min_two max_three min_three max_four min_four   -- for this text's walks alone
set_option linter.unusedVariables false
set_option linter.unusedSimpArgs false



def errW : Option Int → Value
  | none => .nilIface
  | some c => .iface 0 (.int .i64 c)
theorem errW_none : errW none = .nilIface := rfl
theorem errW_some (c : Int) : errW (some c) = .iface 0 (.int .i64 c) := rfl

theorem info3 : (Tryd.prog.info? 3).map (fun i => (i.zero, i.size, i.bytes)) = some (some (.int .i64 0), 1, 8) := by kernel_rfl
theorem info5 : (Tryd.prog.info? 5).map (fun i => (i.zero, i.size, i.bytes)) = some (some (.int .u8 0), 1, 1) := by kernel_rfl
-- the values' own types

end Go.Proofs.YtmpmfaaodjmpjaaDoor.PFnNumbers
