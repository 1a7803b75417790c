/- Printed by a program of this session (wip/pp.py): functions of the translation as Lean functions, each with the proof that the code comes to its answer. -/
import Derived.Test.YtckonpphagkfeaaGreatDoorProg
import Derived.Below
import Derived.Deep.Draws
import Derived.Deep.AppendLies
import Derived.Maps.AppendAt
import Derived.OwnWalk
import Derived.Laws.BytesArg
import Derived.Laws.MakeOwn
import Derived.Laws.OwnMore
import Derived.Deep.OwnRows
import Derived.Tactics
import Derived.Lib.ConvBytes
import Derived.Laws.Slices
import Derived.WalkKit
import Derived.KernelRfl
import Derived.RowKit3
import Derived.Deep.LoopGhost
import Derived.Deep.QuietTactic
import Derived.BigQuiet
import Derived.WideLaws
import Derived.Deep.DeepCutAuto
import Derived.Deep.CutBlock
import Derived.Deep.RegionHeld3
import Derived.Laws.Rows
import Derived.Lib.AppendStr
import Derived.ArgAppend
import Derived.Laws.IdiomCopy
import Derived.OrdersHeld
import Derived.Laws.BitsLemmas
import Derived.RowKit
import Derived.Test.YtckonpphagkfeaaGreatDoorHBits
import Derived.Test.YtckonpphagkfeaaGreatDoorWWords
import Derived.Test.YtckonpphagkfeaaGreatDoorWLast
import Derived.Test.YtckonpphagkfeaaGreatDoorWTab
import Derived.Test.YtckonpphagkfeaaGreatDoorWFour
import Derived.Test.YtckonpphagkfeaaGreatDoorWQPut
import Derived.Test.YtckonpphagkfeaaGreatDoorWApart
import Derived.Test.YtckonpphagkfeaaGreatDoorWArr
import Derived.Test.YtckonpphagkfeaaGreatDoorWZeros
import Derived.Test.YtckonpphagkfeaaGreatDoorWFoot
import Derived.Test.YtckonpphagkfeaaGreatDoorWKept
import Derived.Test.YtckonpphagkfeaaGreatDoorWShare
import Derived.Test.YtckonpphagkfeaaGreatDoorWN
import Derived.Test.YtckonpphagkfeaaGreatDoorWFootNe
import Derived.Test.YtckonpphagkfeaaGreatDoorWAt
import Derived.Test.YtckonpphagkfeaaGreatDoorWEqStruct
import Derived.Test.YtckonpphagkfeaaGreatDoorWRepsOne
import Derived.Test.YtckonpphagkfeaaGreatDoorWInv
import Derived.Test.YtckonpphagkfeaaGreatDoorWInvWords
import Derived.Test.YtckonpphagkfeaaGreatDoorWGuard
import Derived.Test.YtckonpphagkfeaaGreatDoorWNEv
import Derived.Test.YtckonpphagkfeaaGreatDoorWMore
namespace Go.Proofs.YtckonpphagkfeaaGreatDoor.D
open Go.RowKit Go.Proofs.YtckonpphagkfeaaGreatDoor.H Go.Proofs.YtckonpphagkfeaaGreatDoorW.PrintWords Go.Proofs.YtckonpphagkfeaaGreatDoorW.PrintLast Go.Proofs.YtckonpphagkfeaaGreatDoorW.PrintMore
attribute [local go_sem] max2_int min2_int max_two min_two max_three min_three max_four min_four   -- for this text's walks alone
set_option linter.unusedVariables false
set_option linter.unusedSimpArgs false



def errW : Option Int → Value
  | none => .nilIface
  | some c => .iface 117 (.int .i64 c)
theorem errW_none : errW none = .nilIface := rfl
theorem errW_some (c : Int) : errW (some c) = .iface 117 (.int .i64 c) := rfl

-- the values' own types

end Go.Proofs.YtckonpphagkfeaaGreatDoor.D
