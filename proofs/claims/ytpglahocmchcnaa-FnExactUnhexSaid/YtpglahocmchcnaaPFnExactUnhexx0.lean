-- Out of the kit's print, with contracts of mine among it (myprint.py).
import Derived.Test.YtpglahocmchcnaaProg
import Derived.Below
import Derived.Deep.Draws
import Derived.Deep.AppendLies
import Derived.Maps.AppendAt
import Derived.OwnWalk
import Derived.Laws.BytesArg
import Derived.Laws.MakeOwn
import Derived.Laws.OwnMore
import Derived.Deep.OwnRows
import Derived.Tactics
import Derived.Lib.ConvBytes
import Derived.Laws.Slices
import Derived.WalkKit
import Derived.KernelRfl
import Derived.RowKit3
import Derived.Deep.LoopGhost
import Derived.Deep.QuietTactic
import Derived.BigQuiet
import Derived.WideLaws
import Derived.Deep.DeepCutAuto
import Derived.Deep.CutBlock
import Derived.Deep.RegionHeld3
import Derived.Laws.Rows
import Derived.Lib.AppendStr
import Derived.ArgAppend
import Derived.Laws.IdiomCopy
import Derived.OrdersHeld
import Derived.Laws.BitsLemmas
import Derived.RowKit
import Derived.Test.YtpglahocmchcnaaShelf
import Derived.Test.YtpglahocmchcnaaWWords
import Derived.Test.YtpglahocmchcnaaWLast
import Derived.Test.YtpglahocmchcnaaWTab
import Derived.Test.YtpglahocmchcnaaWFour
import Derived.Test.YtpglahocmchcnaaWQPut
import Derived.Test.YtpglahocmchcnaaWApart
import Derived.Test.YtpglahocmchcnaaWArr
import Derived.Test.YtpglahocmchcnaaWZeros
import Derived.Test.YtpglahocmchcnaaWFoot
import Derived.Test.YtpglahocmchcnaaWKept
import Derived.Test.YtpglahocmchcnaaWShare
import Derived.Test.YtpglahocmchcnaaWN
import Derived.Test.YtpglahocmchcnaaWFootNe
import Derived.Test.YtpglahocmchcnaaWAt
import Derived.Test.YtpglahocmchcnaaWEqStruct
import Derived.Test.YtpglahocmchcnaaWRepsOne
import Derived.Test.YtpglahocmchcnaaWInv
import Derived.Test.YtpglahocmchcnaaWInvWords
import Derived.Test.YtpglahocmchcnaaWGuard
import Derived.Test.YtpglahocmchcnaaWNEv
import Derived.Test.YtpglahocmchcnaaWMore
namespace Go.Proofs.Ytpglahocmchcnaa.PFnExactUnhex
open Go.RowKit Go.Proofs.YtpglahocmchcnaaW.PrintWords Go.Proofs.YtpglahocmchcnaaW.PrintLast Go.Proofs.YtpglahocmchcnaaW.PrintMore
attribute [local go_sem] max2_int min2_int max_two min_two max_three min_three max_four min_four   -- for this text's walks alone
set_option linter.unusedVariables false
set_option linter.unusedSimpArgs false



def errW : Option Int → Value
  | none => .nilIface
  | some c => .iface 0 (.int .i64 c)
theorem errW_none : errW none = .nilIface := rfl
theorem errW_some (c : Int) : errW (some c) = .iface 0 (.int .i64 c) := rfl

theorem info5 : (Try.prog.info? 5).map (fun i => (i.zero, i.size, i.bytes)) = some (some (.int .u8 0), 1, 1) := by kernel_rfl
-- the values' own types

end Go.Proofs.Ytpglahocmchcnaa.PFnExactUnhex
