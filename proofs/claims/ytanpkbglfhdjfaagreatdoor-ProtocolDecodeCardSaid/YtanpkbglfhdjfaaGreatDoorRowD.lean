/- What every row of this seat shares: the listed package-level variables give the environment of the walks (Env); one start that fits; a message among the arguments, opened, with the sizes that the form's own reach gives. · One start that fits every row of this seat: the settled world with the listed variables as the program's text lays them, and two error values. -/
import Derived.Test.YtanpkbglfhdjfaaGreatDoorGiven4
import Derived.Test.YtanpkbglfhdjfaaGreatDoorRows
import Derived.Test.YtanpkbglfhdjfaaGreatDoorWWords
import Derived.WalkKit
import Derived.ProofKit
import Derived.OpenShut
import Derived.ShutString
import Derived.Carry
import Derived.SizedLaws
import Derived.DataElems
import Derived.MakeChecks
import Derived.Stop.LaidErr
import Derived.Lib.LaidTab
import Derived.Lib.SmallJoins
import Derived.Deep.DeepHandedRow
import Derived.LaidLaws
set_option linter.unusedVariables false
set_option linter.unusedSimpArgs false
namespace Go.Proofs.YtanpkbglfhdjfaaGreatDoor.RowA
open Go.ChangeShapes Go.WideShapes Go.ChangeAt Go.RowKit
open Go.Proofs.YtanpkbglfhdjfaaGreatDoor Go.Proofs.YtanpkbglfhdjfaaGreatDoorW.PrintWords

theorem own : ownKnob Tryz.prog.godebug = none := by kernel_rfl
/-- The list of every row. -/
abbrev laids : List (String × DataW Unit) := [("math/bits.deBruijn32tab", Rows.laid_math_bits_deBruijn32tab), ("math/bits.deBruijn64tab", Rows.laid_math_bits_deBruijn64tab), ("internal/strconv.uint64pow10", Rows.laid_internal_strconv_uint64pow10), ("emendate/chart.none", Rows.laid_emendate_chart_none), ("strconv.ErrRange", Rows.laid_strconv_ErrRange), ("strconv.ErrSyntax", Rows.laid_strconv_ErrSyntax)]

theorem plainLaids : (laids.all fun x => x.2.handleName?.isNone) = true := by kernel_rfl
theorem gPowType : (Tryz.prog.globals[0]?).map (·.type) = some 121 := by kernel_rfl
theorem gSynType : (Tryz.prog.globals[2]?).map (·.type) = some 65 := by kernel_rfl
theorem gRngType : (Tryz.prog.globals[3]?).map (·.type) = some 65 := by kernel_rfl
theorem gNone : Tryz.prog.globalNamed "emendate/chart.none" = some 6 := by kernel_rfl
theorem cells121 : Tryz.prog.cellsOf 121 = 20 := by kernel_rfl
theorem cells108 : Tryz.prog.cellsOf 108 = 1 := by kernel_rfl
theorem cells9 : Tryz.prog.cellsOf 9 = 1 := by kernel_rfl
theorem star : "*" ++ "errors.errorString" = "*errors.errorString" := by decide
theorem row180 (u : TypeId) (h : Tryz.prog.typeName? 3 u = some "*errors.errorString") : u = 180 :=
  typeName_ptr_named (nm := "errors.errorString") (by rw [star]; kernel_rfl) (by kernel_rfl) (by decide) u (by rw [star]; exact h)

/-- WHAT THE ROWS' LIST AND THE WORLD's SHAPE GIVE. -/
theorem env_of {W : World} (hL0 : laidMetH Tryz.prog laids W) (hsh : W.ShapedOpen Tryz.prog) : Env W := by
  have hL : laidMet Tryz.prog laids W := by
    have e := Go.MakeChecks.laidMetH_plain Tryz.prog laids W plainLaids
    rw [e] at hL0
    exact hL0
  have h2 := hL.tail.tail
  have h4 := h2.tail.tail
  have h5 := h4.tail
  have htab : Lib.TabIs Tryz.prog W "internal/strconv.uint64pow10" .u64 Lib.pow10Tab :=
    Lib.tabIs_of_head gPow gPowType Tryz.underlying121 Tryz.underlying108 cells108 cells121 h2
  obtain ⟨a1, s1, hr, -, -, -⟩ := laid_sentinel h4 gRng gRngType Tryz.underlying65 row180 Tryz.underlying180 Tryz.underlying182 rfl rfl Tryz.underlying9 (by kernel_rfl) cells9
  obtain ⟨a2, s2, hs, -, -, -⟩ := laid_sentinel h5 gSyn gSynType Tryz.underlying65 row180 Tryz.underlying180 Tryz.underlying182 rfl rfl Tryz.underlying9 (by kernel_rfl) cells9
  refine ⟨?_, htab, Tryz.laysM145.s1_3 W hsh, ⟨_, _, hs⟩, ⟨_, _, hr⟩⟩
  obtain ⟨ps, ⟨g, t, cs, fuel, p, q, hg, _, hv, _⟩, _⟩ := h2.tail
  obtain rfl := Option.some.inj (gNone.symm.trans hg)
  unfold World.var? at hv
  rw [gNone] at hv
  simp only [Option.bind_some] at hv
  rcases Nat.lt_or_ge 6 W.heap.size with h' | h'
  · exact h'
  · rw [Array.getElem?_eq_none h'] at hv
    cases hv

/-! ### A message among the arguments -/
section
variable {H : Type} {enc : TypeId × Value → H} {w : World} {base : Nat} {spare : Nat → Bool} {held : Bool}

theorem reach_eq : reachBytes = 140737488351232 := rfl

end
end Go.Proofs.YtanpkbglfhdjfaaGreatDoor.RowA

namespace Go.Proofs.YtanpkbglfhdjfaaGreatDoor.RowA
open Go.ChangeShapes Go.WideShapes Go.ChangeAt Go.RowKit

abbrev rngS : ByteArray := { data := #[118, 97, 108, 117, 101, 32, 111, 117, 116, 32, 111, 102, 32, 114, 97, 110, 103, 101] }
abbrev synS : ByteArray := { data := #[105, 110, 118, 97, 108, 105, 100, 32, 115, 121, 110, 116, 97, 120] }
/-- So many blocks has the settled world. -/
noncomputable def low : Nat := (World.holding Tryz.prog default ⟨#[], #[], []⟩).heap.size
/-- A block's cells anew. -/
def anew (cs : Array Value) : Obj → Obj
  | .cells _ t frozen => .cells cs t frozen
  | o => o
noncomputable def laidWorld (os : Os) : World :=
  let w0 := World.holding Tryz.prog os ⟨#[.cells #[.string rngS] 182, .cells #[.string synS] 182], #[], []⟩
  { w0 with heap := (((((w0.heap.modify 0 (anew #[.int .u64 1, .int .u64 10, .int .u64 100, .int .u64 1000, .int .u64 10000, .int .u64 100000, .int .u64 1000000, .int .u64 10000000, .int .u64 100000000, .int .u64 1000000000, .int .u64 10000000000, .int .u64 100000000000, .int .u64 1000000000000, .int .u64 10000000000000, .int .u64 100000000000000, .int .u64 1000000000000000, .int .u64 10000000000000000, .int .u64 100000000000000000, .int .u64 1000000000000000000, .int .u64 10000000000000000000])).modify 2 (anew #[.iface 180 (.pointer (some ⟨low + 1, 0, none⟩))])).modify 3 (anew #[.iface 180 (.pointer (some ⟨low, 0, none⟩))])).modify 4 (anew #[.int .u8 0, .int .u8 1, .int .u8 28, .int .u8 2, .int .u8 29, .int .u8 14, .int .u8 24, .int .u8 3, .int .u8 30, .int .u8 22, .int .u8 20, .int .u8 15, .int .u8 25, .int .u8 17, .int .u8 4, .int .u8 8, .int .u8 31, .int .u8 27, .int .u8 13, .int .u8 23, .int .u8 21, .int .u8 19, .int .u8 16, .int .u8 7, .int .u8 26, .int .u8 12, .int .u8 18, .int .u8 6, .int .u8 11, .int .u8 5, .int .u8 10, .int .u8 9])).modify 5 (anew #[.int .u8 0, .int .u8 1, .int .u8 56, .int .u8 2, .int .u8 57, .int .u8 49, .int .u8 28, .int .u8 3, .int .u8 61, .int .u8 58, .int .u8 42, .int .u8 50, .int .u8 38, .int .u8 29, .int .u8 17, .int .u8 4, .int .u8 62, .int .u8 47, .int .u8 59, .int .u8 36, .int .u8 45, .int .u8 43, .int .u8 51, .int .u8 22, .int .u8 53, .int .u8 39, .int .u8 33, .int .u8 30, .int .u8 24, .int .u8 18, .int .u8 12, .int .u8 5, .int .u8 63, .int .u8 55, .int .u8 48, .int .u8 27, .int .u8 60, .int .u8 41, .int .u8 37, .int .u8 16, .int .u8 46, .int .u8 35, .int .u8 44, .int .u8 21, .int .u8 52, .int .u8 32, .int .u8 23, .int .u8 11, .int .u8 54, .int .u8 26, .int .u8 40, .int .u8 15, .int .u8 34, .int .u8 20, .int .u8 31, .int .u8 10, .int .u8 25, .int .u8 14, .int .u8 19, .int .u8 9, .int .u8 13, .int .u8 8, .int .u8 7, .int .u8 6])).modify 6 (anew #[.int .i64 1099511627776, .int .i64 0, .int .i64 (-1), .int .i64 0]) }
theorem laidWorld_met (os : Os) (args : Array Value) : laidMet Tryz.prog laids ((laidWorld os).forCall (fun _ _ => 0) ⟨#[], args, []⟩).memory :=
  laidMet_of_run' 8 (by kernel_rfl) (by kernel_rfl)
end Go.Proofs.YtanpkbglfhdjfaaGreatDoor.RowA
