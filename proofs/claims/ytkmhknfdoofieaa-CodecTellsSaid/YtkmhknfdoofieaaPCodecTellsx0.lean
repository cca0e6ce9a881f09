/- Printed for this claim by a program of this session (the kit's printer with additions, wip/xp); Lean checks it. -/
import Derived.Test.YtkmhknfdoofieaaProg
import Derived.Below
import Derived.Deep.Draws
import Derived.Deep.AppendLies
import Derived.Maps.AppendAt
import Derived.OwnWalk
import Derived.Laws.BytesArg
import Derived.Laws.MakeOwn
import Derived.Laws.OwnMore
import Derived.Deep.OwnRows
import Derived.Tactics
import Derived.Lib.ConvBytes
import Derived.Laws.Slices
import Derived.WalkKit
import Derived.KernelRfl
import Derived.RowKit3
import Derived.Deep.LoopGhost
import Derived.Deep.QuietTactic
import Derived.BigQuiet
import Derived.WideLaws
import Derived.Deep.DeepCutAuto
import Derived.Deep.CutBlock
import Derived.Deep.RegionHeld3
import Derived.Laws.Rows
import Derived.Lib.AppendStr
import Derived.ArgAppend
import Derived.Laws.IdiomCopy
import Derived.OrdersHeld
import Derived.Laws.BitsLemmas
import Derived.RowKit
import Derived.Test.YtkmhknfdoofieaaWWords
import Derived.Test.YtkmhknfdoofieaaWLast
import Derived.Test.YtkmhknfdoofieaaWTab
import Derived.Test.YtkmhknfdoofieaaWFour
import Derived.Test.YtkmhknfdoofieaaWQPut
import Derived.Test.YtkmhknfdoofieaaWApart
import Derived.Test.YtkmhknfdoofieaaWArr
import Derived.Test.YtkmhknfdoofieaaWZeros
import Derived.Test.YtkmhknfdoofieaaWFoot
import Derived.Test.YtkmhknfdoofieaaWKept
import Derived.Test.YtkmhknfdoofieaaWShare
import Derived.Test.YtkmhknfdoofieaaWN
import Derived.Test.YtkmhknfdoofieaaWFootNe
import Derived.Test.YtkmhknfdoofieaaWAt
import Derived.Test.YtkmhknfdoofieaaWEqStruct
import Derived.Test.YtkmhknfdoofieaaWRepsOne
import Derived.Test.YtkmhknfdoofieaaWInv
import Derived.Test.YtkmhknfdoofieaaWInvWords
import Derived.Test.YtkmhknfdoofieaaWGuard
import Derived.Test.YtkmhknfdoofieaaWNEv
import Derived.Test.YtkmhknfdoofieaaWMore
import Derived.Test.YtkmhknfdoofieaaXWords
namespace Go.Proofs.Ytkmhknfdoofieaa.PCodecTells
open Go.RowKit Go.Proofs.YtkmhknfdoofieaaW.PrintWords Go.Proofs.YtkmhknfdoofieaaW.PrintLast Go.Proofs.YtkmhknfdoofieaaW.PrintMore
attribute [local go_sem] max2_int min2_int max_two min_two max_three min_three max_four min_four   -- for this text's walks alone
set_option linter.unusedVariables false
set_option linter.unusedSimpArgs false



def errW : Option Int → Value
  | none => .nilIface
  | some c => .iface 0 (.int .i64 c)
theorem errW_none : errW none = .nilIface := rfl
theorem errW_some (c : Int) : errW (some c) = .iface 0 (.int .i64 c) := rfl

theorem info3 : (Try.prog.info? 3).map (fun i => (i.zero, i.size, i.bytes)) = some (some (.int .i64 0), 1, 8) := by kernel_rfl
theorem info5 : (Try.prog.info? 5).map (fun i => (i.zero, i.size, i.bytes)) = some (some (.int .u8 0), 1, 1) := by kernel_rfl
theorem info22 : (Try.prog.info? 22).map (fun i => (i.zero, i.size, i.bytes)) = some (some (.int .u64 0), 1, 8) := by kernel_rfl
-- the values' own types

end Go.Proofs.Ytkmhknfdoofieaa.PCodecTells
