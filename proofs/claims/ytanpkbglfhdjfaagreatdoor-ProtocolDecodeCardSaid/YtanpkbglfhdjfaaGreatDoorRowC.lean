/- What every row of this seat asks of the program as a whole, one closed fact at a time (all at once is too much for one check of the kernel). -/
import Derived.Test.YtanpkbglfhdjfaaGreatDoorRows
import Derived.JoinedCond
namespace Go.Proofs.YtanpkbglfhdjfaaGreatDoor.RowC
set_option maxRecDepth 100000
theorem and_t {a b : Bool} (ha : a = true) (hb : b = true) : (a && b) = true := by rw [ha, hb]; rfl
theorem j1 : (laidOutB Tryz.pinned.checked.prog) = true := by kernel_rfl
theorem j2 : (mapsRowed Tryz.pinned.checked.prog) = true := by kernel_rfl
theorem j6 : ((Tryz.pinned.checked.prog.stops == [])) = true := by kernel_rfl
theorem j8 : ((Tryz.pinned.checked.prog.stopKnobs == [])) = true := by kernel_rfl
theorem j22 : ((Rows.protocolEncodeRow.plainKeys == Tryz.pinned.checked.prog.plainKeys)) = true := by kernel_rfl
theorem j24 : (Tryz.pinned.checked.prog.stopsHeard) = true := by kernel_rfl
theorem j25 : (Tryz.pinned.checked.prog.mayEnter) = true := by kernel_rfl
theorem j26 : ((Rows.protocolEncodeRow.lifted == Tryz.pinned.checked.prog.liftsFinal)) = true := by kernel_rfl
theorem j27 : ((Tryz.pinned.checked.prog.make == some Rows.protocolEncodeRow.make)) = true := by kernel_rfl
end Go.Proofs.YtanpkbglfhdjfaaGreatDoor.RowC
