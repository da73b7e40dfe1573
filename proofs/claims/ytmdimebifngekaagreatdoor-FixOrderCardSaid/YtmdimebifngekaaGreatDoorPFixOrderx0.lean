/- What this seat's Go functions compute, as Lean functions, and that they do. Written by a program of this session's (wip/pr/pr.py) by means of the kit's printer, with contracts of ours for some functions; conditions: none beyond each theorem's own. -/
import Derived.Test.YtmdimebifngekaaGreatDoorProg
import Derived.Below
import Derived.Deep.Draws
import Derived.Deep.AppendLies
import Derived.Maps.AppendAt
import Derived.OwnWalk
import Derived.Laws.BytesArg
import Derived.Laws.MakeOwn
import Derived.Laws.OwnMore
import Derived.Deep.OwnRows
import Derived.Tactics
import Derived.Lib.ConvBytes
import Derived.Laws.Slices
import Derived.WalkKit
import Derived.KernelRfl
import Derived.RowKit3
import Derived.Deep.LoopGhost
import Derived.Deep.QuietTactic
import Derived.BigQuiet
import Derived.WideLaws
import Derived.Deep.DeepCutAuto
import Derived.Deep.CutBlock
import Derived.Deep.RegionHeld3
import Derived.Laws.Rows
import Derived.Lib.AppendStr
import Derived.ArgAppend
import Derived.Laws.IdiomCopy
import Derived.OrdersHeld
import Derived.Laws.BitsLemmas
import Derived.RowKit
import Derived.Test.YtmdimebifngekaaGreatDoorBaseD
import Derived.Test.YtmdimebifngekaaGreatDoorWWords
import Derived.Test.YtmdimebifngekaaGreatDoorWLast
import Derived.Test.YtmdimebifngekaaGreatDoorWTab
import Derived.Test.YtmdimebifngekaaGreatDoorWFour
import Derived.Test.YtmdimebifngekaaGreatDoorWQPut
import Derived.Test.YtmdimebifngekaaGreatDoorWApart
import Derived.Test.YtmdimebifngekaaGreatDoorWArr
import Derived.Test.YtmdimebifngekaaGreatDoorWZeros
import Derived.Test.YtmdimebifngekaaGreatDoorWFoot
import Derived.Test.YtmdimebifngekaaGreatDoorWKept
import Derived.Test.YtmdimebifngekaaGreatDoorWShare
import Derived.Test.YtmdimebifngekaaGreatDoorWN
import Derived.Test.YtmdimebifngekaaGreatDoorWFootNe
import Derived.Test.YtmdimebifngekaaGreatDoorWAt
import Derived.Test.YtmdimebifngekaaGreatDoorWEqStruct
import Derived.Test.YtmdimebifngekaaGreatDoorWRepsOne
import Derived.Test.YtmdimebifngekaaGreatDoorWInv
import Derived.Test.YtmdimebifngekaaGreatDoorWInvWords
import Derived.Test.YtmdimebifngekaaGreatDoorWGuard
import Derived.Test.YtmdimebifngekaaGreatDoorWNEv
import Derived.Test.YtmdimebifngekaaGreatDoorWMore
namespace Go.Proofs.YtmdimebifngekaaGreatDoor.PFixOrder
open Go.RowKit Go.Proofs.YtmdimebifngekaaGreatDoorW.PrintWords Go.Proofs.YtmdimebifngekaaGreatDoorW.PrintLast Go.Proofs.YtmdimebifngekaaGreatDoorW.PrintMore
attribute [local go_sem] max2_int min2_int max_two min_two max_three min_three max_four min_four   -- for this text's walks alone
set_option linter.unusedVariables false
set_option linter.unusedSimpArgs false



def errW : Option Int → Value
  | none => .nilIface
  | some c => .iface 0 (.int .i64 c)
theorem errW_none : errW none = .nilIface := rfl
theorem errW_some (c : Int) : errW (some c) = .iface 0 (.int .i64 c) := rfl

-- the values' own types

end Go.Proofs.YtmdimebifngekaaGreatDoor.PFixOrder
