/- Printed for this claim by a program of this session (the kit's printer with additions, wip/xp); Lean checks it. -/
import Derived.Test.YtpgopfidbmiifaaProg
import Derived.Below
import Derived.Deep.Draws
import Derived.Deep.AppendLies
import Derived.Maps.AppendAt
import Derived.OwnWalk
import Derived.Laws.BytesArg
import Derived.Laws.MakeOwn
import Derived.Laws.OwnMore
import Derived.Deep.OwnRows
import Derived.Tactics
import Derived.Lib.ConvBytes
import Derived.Laws.Slices
import Derived.WalkKit
import Derived.KernelRfl
import Derived.RowKit3
import Derived.Deep.LoopGhost
import Derived.Deep.QuietTactic
import Derived.BigQuiet
import Derived.WideLaws
import Derived.Deep.DeepCutAuto
import Derived.Deep.CutBlock
import Derived.Deep.RegionHeld3
import Derived.Laws.Rows
import Derived.Lib.AppendStr
import Derived.ArgAppend
import Derived.Laws.IdiomCopy
import Derived.OrdersHeld
import Derived.Laws.BitsLemmas
import Derived.RowKit
import Derived.Test.YtpgopfidbmiifaaWWords
import Derived.Test.YtpgopfidbmiifaaWLast
import Derived.Test.YtpgopfidbmiifaaWTab
import Derived.Test.YtpgopfidbmiifaaWFour
import Derived.Test.YtpgopfidbmiifaaWQPut
import Derived.Test.YtpgopfidbmiifaaWApart
import Derived.Test.YtpgopfidbmiifaaWArr
import Derived.Test.YtpgopfidbmiifaaWZeros
import Derived.Test.YtpgopfidbmiifaaWFoot
import Derived.Test.YtpgopfidbmiifaaWKept
import Derived.Test.YtpgopfidbmiifaaWShare
import Derived.Test.YtpgopfidbmiifaaWN
import Derived.Test.YtpgopfidbmiifaaWFootNe
import Derived.Test.YtpgopfidbmiifaaWAt
import Derived.Test.YtpgopfidbmiifaaWEqStruct
import Derived.Test.YtpgopfidbmiifaaWRepsOne
import Derived.Test.YtpgopfidbmiifaaWInv
import Derived.Test.YtpgopfidbmiifaaWInvWords
import Derived.Test.YtpgopfidbmiifaaWGuard
import Derived.Test.YtpgopfidbmiifaaWNEv
import Derived.Test.YtpgopfidbmiifaaWMore
import Derived.Test.YtpgopfidbmiifaaXWords
namespace Go.Proofs.Ytpgopfidbmiifaa.POrderSteps
open Go.RowKit Go.Proofs.YtpgopfidbmiifaaW.PrintWords Go.Proofs.YtpgopfidbmiifaaW.PrintLast Go.Proofs.YtpgopfidbmiifaaW.PrintMore
attribute [local go_sem] max2_int min2_int max_two min_two max_three min_three max_four min_four   -- for this text's walks alone
set_option linter.unusedVariables false
set_option linter.unusedSimpArgs false



def errW : Option Int → Value
  | none => .nilIface
  | some c => .iface 0 (.int .i64 c)
theorem errW_none : errW none = .nilIface := rfl
theorem errW_some (c : Int) : errW (some c) = .iface 0 (.int .i64 c) := rfl

theorem info5 : (Try.prog.info? 5).map (fun i => (i.zero, i.size, i.bytes)) = some (some (.int .u8 0), 1, 1) := by kernel_rfl
-- the values' own types

end Go.Proofs.Ytpgopfidbmiifaa.POrderSteps
