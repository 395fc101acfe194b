-- PRINTED by print.py (a twelfth state) out of the translation. Not trusted: Lean checks it.
import Derived.Test.YtanpkbglfhdjfaaGreatDoorQRx0
import Derived.Test.YtanpkbglfhdjfaaGreatDoorQRx1
namespace Go.Proofs.YtanpkbglfhdjfaaGreatDoor.QR
open Go.RowKit Go.Proofs.YtanpkbglfhdjfaaGreatDoor Go.Proofs.YtanpkbglfhdjfaaGreatDoor.QP Go.Proofs.YtanpkbglfhdjfaaGreatDoor.QE Go.Proofs.YtanpkbglfhdjfaaGreatDoorW.PrintWords Go.Proofs.YtanpkbglfhdjfaaGreatDoorW.PrintLast Go.Proofs.YtanpkbglfhdjfaaGreatDoorW.PrintMore
attribute [local go_sem] max2_int min2_int max_two min_two max_three min_three max_four min_four   -- for this text's walks alone
set_option linter.unusedVariables false
set_option linter.unusedSimpArgs false

end Go.Proofs.YtanpkbglfhdjfaaGreatDoor.QR
