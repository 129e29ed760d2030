-- Written by a program of this session (wip/qprint.py) out of the translation; Lean checks it.
import Derived.Test.YtcohodkpppmaoaaDoorProg
import Derived.Below
import Derived.Deep.Draws
import Derived.Deep.AppendLies
import Derived.Maps.AppendAt
import Derived.OwnWalk
import Derived.Laws.BytesArg
import Derived.Laws.MakeOwn
import Derived.Laws.OwnMore
import Derived.Deep.OwnRows
import Derived.Tactics
import Derived.Lib.ConvBytes
import Derived.Laws.Slices
import Derived.WalkKit
import Derived.KernelRfl
import Derived.RowKit3
import Derived.Deep.LoopGhost
import Derived.Deep.QuietTactic
import Derived.BigQuiet
import Derived.WideLaws
import Derived.Deep.DeepCutAuto
import Derived.Deep.CutBlock
import Derived.Deep.RegionHeld3
import Derived.Laws.Rows
import Derived.Lib.AppendStr
import Derived.ArgAppend
import Derived.Laws.IdiomCopy
import Derived.OrdersHeld
import Derived.Laws.BitsLemmas
import Derived.RowKit
import Derived.Test.YtcohodkpppmaoaaDoorWWords
import Derived.Test.YtcohodkpppmaoaaDoorWLast
import Derived.Test.YtcohodkpppmaoaaDoorWTab
import Derived.Test.YtcohodkpppmaoaaDoorWFour
import Derived.Test.YtcohodkpppmaoaaDoorWQPut
import Derived.Test.YtcohodkpppmaoaaDoorWApart
import Derived.Test.YtcohodkpppmaoaaDoorWArr
import Derived.Test.YtcohodkpppmaoaaDoorWZeros
import Derived.Test.YtcohodkpppmaoaaDoorWFoot
import Derived.Test.YtcohodkpppmaoaaDoorWKept
import Derived.Test.YtcohodkpppmaoaaDoorWShare
import Derived.Test.YtcohodkpppmaoaaDoorWN
import Derived.Test.YtcohodkpppmaoaaDoorWFootNe
import Derived.Test.YtcohodkpppmaoaaDoorWAt
import Derived.Test.YtcohodkpppmaoaaDoorWEqStruct
import Derived.Test.YtcohodkpppmaoaaDoorWRepsOne
import Derived.Test.YtcohodkpppmaoaaDoorWInv
import Derived.Test.YtcohodkpppmaoaaDoorWInvWords
import Derived.Test.YtcohodkpppmaoaaDoorWGuard
import Derived.Test.YtcohodkpppmaoaaDoorWNEv
import Derived.Test.YtcohodkpppmaoaaDoorWMore
namespace Go.Proofs.YtcohodkpppmaoaaDoor.Q
open Go.RowKit Go.Proofs.YtcohodkpppmaoaaDoorW.PrintWords Go.Proofs.YtcohodkpppmaoaaDoorW.PrintLast Go.Proofs.YtcohodkpppmaoaaDoorW.PrintMore
attribute [local go_sem] max2_int min2_int max_two min_two max_three min_three max_four min_four   -- for this text's walks alone
set_option linter.unusedVariables false
set_option linter.unusedSimpArgs false



def errW : Option Int → Value
  | none => .nilIface
  | some c => .iface 0 (.int .i64 c)
theorem errW_none : errW none = .nilIface := rfl
theorem errW_some (c : Int) : errW (some c) = .iface 0 (.int .i64 c) := rfl

theorem info3 : (Tryd.prog.info? 3).map (fun i => (i.zero, i.size, i.bytes)) = some (some (.int .i64 0), 1, 8) := by kernel_rfl
theorem info5 : (Tryd.prog.info? 5).map (fun i => (i.zero, i.size, i.bytes)) = some (some (.int .u8 0), 1, 1) := by kernel_rfl
-- the values' own types

end Go.Proofs.YtcohodkpppmaoaaDoor.Q
