-- Written by a program of this session (mk.py over the kit's print).
import Derived.Test.YtggjjhbdpionpaaProg
import Derived.Below
import Derived.Deep.Draws
import Derived.Deep.AppendLies
import Derived.Maps.AppendAt
import Derived.OwnWalk
import Derived.Laws.BytesArg
import Derived.Laws.MakeOwn
import Derived.Laws.OwnMore
import Derived.Deep.OwnRows
import Derived.Tactics
import Derived.Lib.ConvBytes
import Derived.Laws.Slices
import Derived.WalkKit
import Derived.KernelRfl
import Derived.RowKit3
import Derived.Deep.LoopGhost
import Derived.Deep.QuietTactic
import Derived.BigQuiet
import Derived.WideLaws
import Derived.Deep.DeepCutAuto
import Derived.Deep.CutBlock
import Derived.Deep.RegionHeld3
import Derived.Laws.Rows
import Derived.Lib.AppendStr
import Derived.ArgAppend
import Derived.Laws.IdiomCopy
import Derived.OrdersHeld
import Derived.Laws.BitsLemmas
import Derived.RowKit
import Derived.Test.YtggjjhbdpionpaaWWords
import Derived.Test.YtggjjhbdpionpaaWLast
import Derived.Test.YtggjjhbdpionpaaWTab
import Derived.Test.YtggjjhbdpionpaaWFour
import Derived.Test.YtggjjhbdpionpaaWQPut
import Derived.Test.YtggjjhbdpionpaaWApart
import Derived.Test.YtggjjhbdpionpaaWArr
import Derived.Test.YtggjjhbdpionpaaWZeros
import Derived.Test.YtggjjhbdpionpaaWFoot
import Derived.Test.YtggjjhbdpionpaaWKept
import Derived.Test.YtggjjhbdpionpaaWShare
import Derived.Test.YtggjjhbdpionpaaWN
import Derived.Test.YtggjjhbdpionpaaWFootNe
import Derived.Test.YtggjjhbdpionpaaWAt
import Derived.Test.YtggjjhbdpionpaaWEqStruct
import Derived.Test.YtggjjhbdpionpaaWRepsOne
import Derived.Test.YtggjjhbdpionpaaWInv
import Derived.Test.YtggjjhbdpionpaaWInvWords
import Derived.Test.YtggjjhbdpionpaaWGuard
import Derived.Test.YtggjjhbdpionpaaWNEv
import Derived.Test.YtggjjhbdpionpaaWMore
import Derived.Lib.Hide
import Derived.Test.YtggjjhbdpionpaaBuilder
namespace Go.Proofs.Ytggjjhbdpionpaa.PFnExactHex
open Go.RowKit Go.Proofs.YtggjjhbdpionpaaW.PrintWords Go.Proofs.YtggjjhbdpionpaaW.PrintLast Go.Proofs.YtggjjhbdpionpaaW.PrintMore
attribute [local go_sem] max2_int min2_int max_two min_two max_three min_three max_four min_four   -- for this text's walks alone
set_option linter.unusedVariables false
set_option linter.unusedSimpArgs false



def errW : Option Int → Value
  | none => .nilIface
  | some c => .iface 0 (.int .i64 c)
theorem errW_none : errW none = .nilIface := rfl
theorem errW_some (c : Int) : errW (some c) = .iface 0 (.int .i64 c) := rfl

theorem info5 : (Try.prog.info? 5).map (fun i => (i.zero, i.size, i.bytes)) = some (some (.int .u8 0), 1, 1) := by kernel_rfl
-- the values' own types

end Go.Proofs.Ytggjjhbdpionpaa.PFnExactHex
