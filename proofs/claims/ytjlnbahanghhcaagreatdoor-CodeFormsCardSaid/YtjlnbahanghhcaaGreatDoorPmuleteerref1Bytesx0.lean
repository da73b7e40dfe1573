/- What this seat's Go functions compute, as Lean functions, and that they do. Written by a program of this session's (wip/pr/pr.py) by means of the kit's printer, with contracts of ours for some functions; conditions: none beyond each theorem's own. -/
import Derived.Test.YtjlnbahanghhcaaGreatDoorProg
import Derived.Below
import Derived.Deep.Draws
import Derived.Deep.AppendLies
import Derived.Maps.AppendAt
import Derived.OwnWalk
import Derived.Laws.BytesArg
import Derived.Laws.MakeOwn
import Derived.Laws.OwnMore
import Derived.Deep.OwnRows
import Derived.Tactics
import Derived.Lib.ConvBytes
import Derived.Laws.Slices
import Derived.WalkKit
import Derived.KernelRfl
import Derived.RowKit3
import Derived.Deep.LoopGhost
import Derived.Deep.QuietTactic
import Derived.BigQuiet
import Derived.WideLaws
import Derived.Deep.DeepCutAuto
import Derived.Deep.CutBlock
import Derived.Deep.RegionHeld3
import Derived.Laws.Rows
import Derived.Lib.AppendStr
import Derived.ArgAppend
import Derived.Laws.IdiomCopy
import Derived.OrdersHeld
import Derived.Laws.BitsLemmas
import Derived.RowKit
import Derived.Test.YtjlnbahanghhcaaGreatDoorBaseD
import Derived.Test.YtjlnbahanghhcaaGreatDoorWWords
import Derived.Test.YtjlnbahanghhcaaGreatDoorWLast
import Derived.Test.YtjlnbahanghhcaaGreatDoorWTab
import Derived.Test.YtjlnbahanghhcaaGreatDoorWFour
import Derived.Test.YtjlnbahanghhcaaGreatDoorWQPut
import Derived.Test.YtjlnbahanghhcaaGreatDoorWApart
import Derived.Test.YtjlnbahanghhcaaGreatDoorWArr
import Derived.Test.YtjlnbahanghhcaaGreatDoorWZeros
import Derived.Test.YtjlnbahanghhcaaGreatDoorWFoot
import Derived.Test.YtjlnbahanghhcaaGreatDoorWKept
import Derived.Test.YtjlnbahanghhcaaGreatDoorWShare
import Derived.Test.YtjlnbahanghhcaaGreatDoorWN
import Derived.Test.YtjlnbahanghhcaaGreatDoorWFootNe
import Derived.Test.YtjlnbahanghhcaaGreatDoorWAt
import Derived.Test.YtjlnbahanghhcaaGreatDoorWEqStruct
import Derived.Test.YtjlnbahanghhcaaGreatDoorWRepsOne
import Derived.Test.YtjlnbahanghhcaaGreatDoorWInv
import Derived.Test.YtjlnbahanghhcaaGreatDoorWInvWords
import Derived.Test.YtjlnbahanghhcaaGreatDoorWGuard
import Derived.Test.YtjlnbahanghhcaaGreatDoorWNEv
import Derived.Test.YtjlnbahanghhcaaGreatDoorWMore
namespace Go.Proofs.YtjlnbahanghhcaaGreatDoor.Pmuleteerref1Bytes
open Go.RowKit Go.Proofs.YtjlnbahanghhcaaGreatDoorW.PrintWords Go.Proofs.YtjlnbahanghhcaaGreatDoorW.PrintLast Go.Proofs.YtjlnbahanghhcaaGreatDoorW.PrintMore
attribute [local go_sem] max2_int min2_int max_two min_two max_three min_three max_four min_four   -- for this text's walks alone
set_option linter.unusedVariables false
set_option linter.unusedSimpArgs false



def errW : Option Int → Value
  | none => .nilIface
  | some c => .iface 0 (.int .i64 c)
theorem errW_none : errW none = .nilIface := rfl
theorem errW_some (c : Int) : errW (some c) = .iface 0 (.int .i64 c) := rfl

theorem info5 : (Tryz.prog.info? 5).map (fun i => (i.zero, i.size, i.bytes)) = some (some (.int .u8 0), 1, 1) := by kernel_rfl
-- the values' own types

end Go.Proofs.YtjlnbahanghhcaaGreatDoor.Pmuleteerref1Bytes
