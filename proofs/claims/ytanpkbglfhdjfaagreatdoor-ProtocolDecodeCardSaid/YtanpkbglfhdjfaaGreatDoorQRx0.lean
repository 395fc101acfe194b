-- PRINTED by print.py (a twelfth state) out of the translation. Not trusted: Lean checks it.
import Derived.Test.YtanpkbglfhdjfaaGreatDoorGivenA
import Derived.Test.YtanpkbglfhdjfaaGreatDoorQPx
import Derived.Test.YtanpkbglfhdjfaaGreatDoorQEx
import Derived.Below
import Derived.Deep.Draws
import Derived.Deep.AppendLies
import Derived.Maps.AppendAt
import Derived.OwnWalk
import Derived.Laws.BytesArg
import Derived.Laws.MakeOwn
import Derived.Laws.OwnMore
import Derived.Deep.OwnRows
import Derived.Tactics
import Derived.Lib.ConvBytes
import Derived.Laws.Slices
import Derived.WalkKit
import Derived.KernelRfl
import Derived.RowKit3
import Derived.Deep.LoopGhost
import Derived.Deep.QuietTactic
import Derived.BigQuiet
import Derived.WideLaws
import Derived.Deep.DeepCutAuto
import Derived.Deep.CutBlock
import Derived.Deep.RegionHeld3
import Derived.Laws.Rows
import Derived.Lib.AppendStr
import Derived.ArgAppend
import Derived.Laws.IdiomCopy
import Derived.OrdersHeld
import Derived.Laws.BitsLemmas
import Derived.RowKit
import Derived.Test.YtanpkbglfhdjfaaGreatDoorWWords
import Derived.Test.YtanpkbglfhdjfaaGreatDoorWLast
import Derived.Test.YtanpkbglfhdjfaaGreatDoorWTab
import Derived.Test.YtanpkbglfhdjfaaGreatDoorWFour
import Derived.Test.YtanpkbglfhdjfaaGreatDoorWQPut
import Derived.Test.YtanpkbglfhdjfaaGreatDoorWApart
import Derived.Test.YtanpkbglfhdjfaaGreatDoorWArr
import Derived.Test.YtanpkbglfhdjfaaGreatDoorWZeros
import Derived.Test.YtanpkbglfhdjfaaGreatDoorWFoot
import Derived.Test.YtanpkbglfhdjfaaGreatDoorWKept
import Derived.Test.YtanpkbglfhdjfaaGreatDoorWShare
import Derived.Test.YtanpkbglfhdjfaaGreatDoorWN
import Derived.Test.YtanpkbglfhdjfaaGreatDoorWFootNe
import Derived.Test.YtanpkbglfhdjfaaGreatDoorWAt
import Derived.Test.YtanpkbglfhdjfaaGreatDoorWEqStruct
import Derived.Test.YtanpkbglfhdjfaaGreatDoorWRepsOne
import Derived.Test.YtanpkbglfhdjfaaGreatDoorWInv
import Derived.Test.YtanpkbglfhdjfaaGreatDoorWInvWords
import Derived.Test.YtanpkbglfhdjfaaGreatDoorWGuard
import Derived.Test.YtanpkbglfhdjfaaGreatDoorWNEv
import Derived.Test.YtanpkbglfhdjfaaGreatDoorWMore
namespace Go.Proofs.YtanpkbglfhdjfaaGreatDoor.QR
open Go.RowKit Go.Proofs.YtanpkbglfhdjfaaGreatDoor Go.Proofs.YtanpkbglfhdjfaaGreatDoor.QP Go.Proofs.YtanpkbglfhdjfaaGreatDoor.QE Go.Proofs.YtanpkbglfhdjfaaGreatDoorW.PrintWords Go.Proofs.YtanpkbglfhdjfaaGreatDoorW.PrintLast Go.Proofs.YtanpkbglfhdjfaaGreatDoorW.PrintMore
attribute [local go_sem] max2_int min2_int max_two min_two max_three min_three max_four min_four   -- for this text's walks alone
set_option linter.unusedVariables false
set_option linter.unusedSimpArgs false

def errW : Option Int → Value
  | none => .nilIface
  | some c => .iface 0 (.int .i64 c)
theorem errW_none : errW none = .nilIface := rfl
theorem errW_some (c : Int) : errW (some c) = .iface 0 (.int .i64 c) := rfl

-- the values' own types

end Go.Proofs.YtanpkbglfhdjfaaGreatDoor.QR
