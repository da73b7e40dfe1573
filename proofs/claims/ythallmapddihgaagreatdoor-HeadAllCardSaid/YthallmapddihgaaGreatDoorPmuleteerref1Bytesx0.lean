/- What this seat's Go functions compute, as Lean functions, and that they do. Written by a program of this session's (wip/pr/pr.py) by means of the kit's printer, with contracts of ours for some functions; conditions: none beyond each theorem's own. -/
import Derived.Test.YthallmapddihgaaGreatDoorProg
import Derived.Below
import Derived.Deep.Draws
import Derived.Deep.AppendLies
import Derived.Maps.AppendAt
import Derived.OwnWalk
import Derived.Laws.BytesArg
import Derived.Laws.MakeOwn
import Derived.Laws.OwnMore
import Derived.Deep.OwnRows
import Derived.Tactics
import Derived.Lib.ConvBytes
import Derived.Laws.Slices
import Derived.WalkKit
import Derived.KernelRfl
import Derived.RowKit3
import Derived.Deep.LoopGhost
import Derived.Deep.QuietTactic
import Derived.BigQuiet
import Derived.WideLaws
import Derived.Deep.DeepCutAuto
import Derived.Deep.CutBlock
import Derived.Deep.RegionHeld3
import Derived.Laws.Rows
import Derived.Lib.AppendStr
import Derived.ArgAppend
import Derived.Laws.IdiomCopy
import Derived.OrdersHeld
import Derived.Laws.BitsLemmas
import Derived.RowKit
import Derived.Test.YthallmapddihgaaGreatDoorBaseD
import Derived.Test.YthallmapddihgaaGreatDoorWWords
import Derived.Test.YthallmapddihgaaGreatDoorWLast
import Derived.Test.YthallmapddihgaaGreatDoorWTab
import Derived.Test.YthallmapddihgaaGreatDoorWFour
import Derived.Test.YthallmapddihgaaGreatDoorWQPut
import Derived.Test.YthallmapddihgaaGreatDoorWApart
import Derived.Test.YthallmapddihgaaGreatDoorWArr
import Derived.Test.YthallmapddihgaaGreatDoorWZeros
import Derived.Test.YthallmapddihgaaGreatDoorWFoot
import Derived.Test.YthallmapddihgaaGreatDoorWKept
import Derived.Test.YthallmapddihgaaGreatDoorWShare
import Derived.Test.YthallmapddihgaaGreatDoorWN
import Derived.Test.YthallmapddihgaaGreatDoorWFootNe
import Derived.Test.YthallmapddihgaaGreatDoorWAt
import Derived.Test.YthallmapddihgaaGreatDoorWEqStruct
import Derived.Test.YthallmapddihgaaGreatDoorWRepsOne
import Derived.Test.YthallmapddihgaaGreatDoorWInv
import Derived.Test.YthallmapddihgaaGreatDoorWInvWords
import Derived.Test.YthallmapddihgaaGreatDoorWGuard
import Derived.Test.YthallmapddihgaaGreatDoorWNEv
import Derived.Test.YthallmapddihgaaGreatDoorWMore
namespace Go.Proofs.YthallmapddihgaaGreatDoor.Pmuleteerref1Bytes
open Go.RowKit Go.Proofs.YthallmapddihgaaGreatDoorW.PrintWords Go.Proofs.YthallmapddihgaaGreatDoorW.PrintLast Go.Proofs.YthallmapddihgaaGreatDoorW.PrintMore
attribute [local go_sem] max2_int min2_int max_two min_two max_three min_three max_four min_four   -- for this text's walks alone
set_option linter.unusedVariables false
set_option linter.unusedSimpArgs false



def errW : Option Int → Value
  | none => .nilIface
  | some c => .iface 0 (.int .i64 c)
theorem errW_none : errW none = .nilIface := rfl
theorem errW_some (c : Int) : errW (some c) = .iface 0 (.int .i64 c) := rfl

theorem info5 : (Tryz.prog.info? 5).map (fun i => (i.zero, i.size, i.bytes)) = some (some (.int .u8 0), 1, 1) := by kernel_rfl
-- the values' own types

end Go.Proofs.YthallmapddihgaaGreatDoor.Pmuleteerref1Bytes
