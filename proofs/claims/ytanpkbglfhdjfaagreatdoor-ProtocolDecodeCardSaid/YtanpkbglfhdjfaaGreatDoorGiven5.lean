/- emendateref52.DecodeEvent as a plain Lean function, with the contract that the Go function comes to it. (The definitions and the walk's first part as the kit's printer wrote them; the rest by hand.) -/
import Derived.Test.YtanpkbglfhdjfaaGreatDoorQPx
import Derived.Test.YtanpkbglfhdjfaaGreatDoorQEx
import Derived.Below
import Derived.Deep.Draws
import Derived.Deep.AppendLies
import Derived.Maps.AppendAt
import Derived.OwnWalk
import Derived.Laws.BytesArg
import Derived.Laws.MakeOwn
import Derived.Laws.OwnMore
import Derived.Deep.OwnRows
import Derived.Tactics
import Derived.Lib.ConvBytes
import Derived.Laws.Slices
import Derived.WalkKit
import Derived.KernelRfl
import Derived.RowKit3
import Derived.Deep.LoopGhost
import Derived.Deep.QuietTactic
import Derived.BigQuiet
import Derived.WideLaws
import Derived.Deep.DeepCutAuto
import Derived.Deep.CutBlock
import Derived.Deep.RegionHeld3
import Derived.Laws.Rows
import Derived.Lib.AppendStr
import Derived.ArgAppend
import Derived.Laws.IdiomCopy
import Derived.OrdersHeld
import Derived.Laws.BitsLemmas
import Derived.RowKit
import Derived.Test.YtanpkbglfhdjfaaGreatDoorWWords
import Derived.Test.YtanpkbglfhdjfaaGreatDoorWLast
import Derived.Test.YtanpkbglfhdjfaaGreatDoorWTab
import Derived.Test.YtanpkbglfhdjfaaGreatDoorWFour
import Derived.Test.YtanpkbglfhdjfaaGreatDoorWQPut
import Derived.Test.YtanpkbglfhdjfaaGreatDoorWApart
import Derived.Test.YtanpkbglfhdjfaaGreatDoorWArr
import Derived.Test.YtanpkbglfhdjfaaGreatDoorWZeros
import Derived.Test.YtanpkbglfhdjfaaGreatDoorWFoot
import Derived.Test.YtanpkbglfhdjfaaGreatDoorWKept
import Derived.Test.YtanpkbglfhdjfaaGreatDoorWShare
import Derived.Test.YtanpkbglfhdjfaaGreatDoorWN
import Derived.Test.YtanpkbglfhdjfaaGreatDoorWFootNe
import Derived.Test.YtanpkbglfhdjfaaGreatDoorWAt
import Derived.Test.YtanpkbglfhdjfaaGreatDoorWEqStruct
import Derived.Test.YtanpkbglfhdjfaaGreatDoorWRepsOne
import Derived.Test.YtanpkbglfhdjfaaGreatDoorWInv
import Derived.Test.YtanpkbglfhdjfaaGreatDoorWInvWords
import Derived.Test.YtanpkbglfhdjfaaGreatDoorWGuard
import Derived.Test.YtanpkbglfhdjfaaGreatDoorWNEv
import Derived.Test.YtanpkbglfhdjfaaGreatDoorWMore
namespace Go.Proofs.YtanpkbglfhdjfaaGreatDoor
open Go.RowKit Go.Proofs.YtanpkbglfhdjfaaGreatDoor.QP Go.Proofs.YtanpkbglfhdjfaaGreatDoor.QE Go.Proofs.YtanpkbglfhdjfaaGreatDoorW.PrintWords Go.Proofs.YtanpkbglfhdjfaaGreatDoorW.PrintLast Go.Proofs.YtanpkbglfhdjfaaGreatDoorW.PrintMore
attribute [local go_sem] max2_int min2_int max_two min_two max_three min_three max_four min_four   -- for this text's walks alone
set_option linter.unusedVariables false
set_option linter.unusedSimpArgs false

/-! ### emendateref52_DecodeEvent: function 50 -/
mutual
def emendateref52_DecodeEvent.l0 : Nat → ByteArray → List Int → Int → Int → Option (Int × Int × Int × Int × Int × ByteArray × ByteArray × Int)
  | 0, _, _, _, _ => none
  | k + 1, x0, x4, x5, x6 => if x6 < (x0.size : Int) then (emendateref52_DecodeEvent.j1 k x0 x4 x5 x6 (decide ((x4.length : Int) < 7))) else (emendateref52_DecodeEvent.j1 k x0 x4 x5 x6 false)
def emendateref52_DecodeEvent.j1 : Nat → ByteArray → List Int → Int → Int → Bool → Option (Int × Int × Int × Int × Int × ByteArray × ByteArray × Int)
  | 0, _, _, _, _, _ => none
  | k + 1, x0, x4, x5, x6, x18 => if x18 = true then (if (x4.length : Int) < 6 then (if 0 ≤ x6 then (if x6 < (x0.size : Int) then (if (bt x0 x6) = 32 then (emendateref52_DecodeEvent.j2 k x0 x4 x5 x6 true) else (if (x4.length : Int) = 6 then (emendateref52_DecodeEvent.j2 k x0 x4 x5 x6 ((bt x0 x6) == 58)) else (emendateref52_DecodeEvent.j2 k x0 x4 x5 x6 false))) else (none)) else (none)) else (if (x4.length : Int) = 6 then (if 0 ≤ x6 then (if x6 < (x0.size : Int) then (emendateref52_DecodeEvent.j2 k x0 x4 x5 x6 ((bt x0 x6) == 58)) else (none)) else (none)) else (emendateref52_DecodeEvent.j2 k x0 x4 x5 x6 false))) else (if (x4.length : Int) < 7 then (some (0, 0, 0, 0, 0, (⟨#[]⟩ : ByteArray), (⟨#[]⟩ : ByteArray), 7)) else (if 5 < (x4.length : Int) then (if (rd x4 5) < 0 then (some (0, 0, 0, 0, 0, (⟨#[]⟩ : ByteArray), (⟨#[]⟩ : ByteArray), 7)) else (if 6 < (x4.length : Int) then (if (rd x4 6) < 0 then (some (0, 0, 0, 0, 0, (⟨#[]⟩ : ByteArray), (⟨#[]⟩ : ByteArray), 7)) else (if (rd x4 5) > (wrap64 ((x0.size : Int) - x5)) then (some (0, 0, 0, 0, 0, (⟨#[]⟩ : ByteArray), (⟨#[]⟩ : ByteArray), 7)) else (if (rd x4 6) = (wrap64 ((wrap64 ((x0.size : Int) - x5)) - (rd x4 5))) then (if 0 < (x4.length : Int) then (if 1 < (x4.length : Int) then (if 2 < (x4.length : Int) then (if 3 < (x4.length : Int) then (if 4 < (x4.length : Int) then (if 0 ≤ x5 then (if x5 ≤ (wrap64 (x5 + (rd x4 5))) then (if (wrap64 (x5 + (rd x4 5))) ≤ (x0.size : Int) then (if 0 ≤ (wrap64 (x5 + (rd x4 5))) then (some (rd x4 0, rd x4 1, rd x4 2, rd x4 3, rd x4 4, x0.extract (x5 : Int).toNat ((wrap64 (x5 + (rd x4 5))) : Int).toNat, x0.extract ((wrap64 (x5 + (rd x4 5))) : Int).toNat x0.size, 0)) else (none)) else (none)) else (none)) else (none)) else (none)) else (none)) else (none)) else (none)) else (none)) else (some (0, 0, 0, 0, 0, (⟨#[]⟩ : ByteArray), (⟨#[]⟩ : ByteArray), 7))))) else (none))) else (none)))
def emendateref52_DecodeEvent.j2 : Nat → ByteArray → List Int → Int → Int → Bool → Option (Int × Int × Int × Int × Int × ByteArray × ByteArray × Int)
  | 0, _, _, _, _, _ => none
  | k + 1, x0, x4, x5, x6, x40 => if x40 = true then (if 0 ≤ x5 then (if x5 ≤ x6 then (if x6 ≤ (x0.size : Int) then ((emendateref52_number.f k (x0.extract (x5 : Int).toNat (x6 : Int).toNat)).bind fun bt194 => (if bt194.2 = true then (if x4.length < 17592186044416 then (emendateref52_DecodeEvent.l0 k x0 (x4 ++ [bt194.1]) (wrap64 (x6 + 1)) (wrap64 (x6 + 1))) else (none)) else (some (0, 0, 0, 0, 0, (⟨#[]⟩ : ByteArray), (⟨#[]⟩ : ByteArray), 7)))) else (none)) else (none)) else (none)) else (emendateref52_DecodeEvent.l0 k x0 x4 x5 (wrap64 (x6 + 1)))
end
def emendateref52_DecodeEvent.f (k : Nat) (a0 : ByteArray) : Option (Int × Int × Int × Int × Int × ByteArray × ByteArray × Int) := emendateref52_DecodeEvent.l0 k a0 ([] : List Int) 0 0
def emendateref52_DecodeEvent.T15 : Bool × List (List Nat × List Nat) := (true, [([], []), ([0], [0]), ([1], [1]), ([], []), ([3], [3]), ([4], [4]), ([], []), ([6], [6]), ([7], [7]), ([], []), ([9], [9]), ([10], [10]), ([], []), ([12], [12]), ([13], [13]), ([], []), ([], []), ([], []), ([15, 16, 17], [15, 16, 17]), ([11, 14, 18], [11, 14, 18]), ([], []), ([], []), ([20, 21], [20, 21]), ([2, 5, 8, 19, 22], [2, 5, 8, 19, 22]), ([23, 0, 1, 2, 3, 4, 5, 6, 7, 8, 9, 10, 11, 12, 13, 14, 15, 16, 17, 18, 19, 20, 21, 22, 23], [23]), ([24, 0, 1, 2, 3, 4, 5, 6, 7, 8, 9, 10, 11, 12, 13, 14, 15, 16, 17, 18, 19, 20, 21, 22, 23, 24], [])])
def emendateref52_DecodeEvent.B15 : List Nat := [0, 1, 3, 0, 8, 24, 0, 64, 192, 0, 512, 1536, 0, 4096, 12288, 0, 0, 0, 229376, 523776, 0, 0, 3145728, 8388607, 16777215, 33554431]
theorem emendateref52_DecodeEvent.tab15 : rtab .any (opsOf Tryz.f50 15) = emendateref52_DecodeEvent.T15 := by kernel_rfl
theorem emendateref52_DecodeEvent.bits15 : waitsOk emendateref52_DecodeEvent.T15.2 emendateref52_DecodeEvent.B15 = true := by kernel_rfl
set_option maxHeartbeats 8000000 in
set_option maxRecDepth 100000 in
theorem emendateref52_DecodeEvent.calls (k : Nat) (a0 : ByteArray) (r1 : Int) (r2 : Int) (r3 : Int) (r4 : Int) (r5 : Int) (r6 : ByteArray) (r7 : ByteArray) (r8 : Int) (w : World) (h : emendateref52_DecodeEvent.f k a0 = some (r1, r2, r3, r4, r5, r6, r7, r8)) (hE : Env w) :
    Calls Tryz.prog 50 #[.string a0] w fun e w' => e = .returned (.tuple #[.agg #[.int .i64 r1, .int .i64 r2, .int .i64 r3, .int .i64 r4, .int .i64 r5, .string r6, .string r7], .int .i64 r8]) ∧ Below w.heap.size w w' := by
  have HE := Aside0.mk hE
  clear hE
  have hu73 := Tryz.underlying73
  have hu71 := Tryz.underlying71
  have HB := Aside0.mk (Below.refl w.heap.size w)
  have H : (emendateref52_DecodeEvent.l0 k a0 ([] : List Int) 0 0) = some (r1, r2, r3, r4, r5, r6, r7, r8) := h
  clear h
  have H' := Aside0.mk H
  clear H
  go_enter Tryz.func50, Tryz.ntmps50
  go_wp2_with (first | ((with_reducible refine gate_dst (N := 2) rfl ?_); (try (refine gate_guard (by rfl) ?_; dsimp only)); refine box_event ?hg (N := 2) ?hd (cs := #[.int .i64 0, .int .i64 0, .int .i64 0, .int .i64 0, .int .i64 0, .string (⟨#[]⟩ : ByteArray), .string (⟨#[]⟩ : ByteArray)]) (t := 73) ?hr ?_; (case hd => rfl); (case hg => rfl); (case hr => first | (go_simp; done) | (go_simp; rfl)); intro gb182 hg w2 hbox hb; have n0_ := Aside0.mk (below_step (by repeat (first | (with_reducible first | exact HB.out | apply below_alloc | apply pw_below_drewN | apply below_drew1) | exact HB.out)) hb); have n1_ := Aside0.mk (hbox); have n2_ := Aside0.mk ((by rw [hg]; exact (below_size (by repeat (first | (with_reducible first | exact HB.out | apply below_alloc | apply pw_below_drewN | apply below_drew1) | exact HB.out))) : w.heap.size ≤ gb182)); have n3_ := Aside0.mk ((by rw [hg]; exact (below_size (by repeat (first | (with_reducible first | exact HB.out | apply below_alloc | apply pw_below_drewN | apply below_drew1) | exact HB.out))) : w.heap.size ≤ gb182)); clear HB; have HB := n0_; have BK182 := n1_; have GW182 := n2_; have GE182 := n3_; clear n0_ n1_ n2_ n3_; clear hb hbox hg))
  go_loopg [4, 5, 6] k (fun kq v4 v5 v6 w' => ∃ (x4_1 : List Int) (x5_1 : Int) (x6_1 : Int) (x183000_1 : Int) (x183001_1 : Int) (x183002_1 : Int) (x183003_1 : Int) (x183004_1 : Int) (x183005_1 : ByteArray) (x183006_1 : ByteArray), v5 = .int .i64 x5_1 ∧ v6 = .int .i64 x6_1 ∧ Aside0 (emendateref52_DecodeEvent.l0 kq a0 x4_1 x5_1 x6_1 = some (r1, r2, r3, r4, r5, r6, r7, r8)) ∧ Aside0 (kq ≤ k) ∧ Aside0 (Kd.R (Kd.int .i64) 3 w' w.heap.size (fun _ => True) v4 x4_1) ∧ Aside0 (w'.heap[gb182]? = some (.cells #[.int .i64 x183000_1, .int .i64 x183001_1, .int .i64 x183002_1, .int .i64 x183003_1, .int .i64 x183004_1, .string x183005_1, .string x183006_1] 73 (0, 0))) ∧ Aside0 (Below w.heap.size w w'))
  case atStart => exact ⟨(([] : List Int)), (0), (0), (0), (0), (0), (0), (0), ((⟨#[]⟩ : ByteArray)), ((⟨#[]⟩ : ByteArray)), (by first | rfl | (simp; done) | (simp [*]; done)), (by first | rfl | (simp; done) | (simp [*]; done)), H', ⟨Nat.le_refl _⟩, ⟨by first | exact Kd.R_nil _ _ _ _ _ | exact Kd.N_nil _ _ _ _ _ | exact Kd.V_nil _ _ _ _ _ | exact Kd.Q_nil _ _ _ _ _ | exact Kd.S_nil _ _ _ _ _⟩, ⟨by (with_reducible repeat (first | refine blk_drewN ?_ _ | refine blk_drew ?_ | refine blk_alloc ?_ _)); exact BK182.out⟩, ⟨by repeat (first | (with_reducible first | exact HB.out | apply below_alloc | apply pw_below_drewN | apply below_drew1 | refine below_set ?_ GE182.out) | exact HB.out)⟩⟩
  case round =>
    clear H'
    try clear p2
    obtain ⟨x4_1, x5_1, x6_1, x183000_1, x183001_1, x183002_1, x183003_1, x183004_1, x183005_1, x183006_1, rfl, rfl, HA, HK1, HO_4, BK182, HB⟩ := hrel
    cases gk with
    | zero => exact absurd HA.out (by simp [emendateref52_DecodeEvent.l0])
    | succ k1 =>
      have H := HA.out
      clear HA
      simp only [emendateref52_DecodeEvent.l0] at H
      have HC3 := Aside0.mk H
      clear H
      go_upto_region 4 with (fail)
      go_cut [18] (fun v18 wc => ∃ (kq : Nat) (x18_2 : Bool), v18 = .bool x18_2 ∧ Aside0 (emendateref52_DecodeEvent.j1 kq a0 x4_1 x5_1 x6_1 x18_2 = some (r1, r2, r3, r4, r5, r6, r7, r8)) ∧ Aside0 (kq ≤ k1) ∧ Aside0 (Kd.R (Kd.int .i64) 3 wc w.heap.size (fun _ => True) u4 x4_1) ∧ Aside0 (wc.heap[gb182]? = some (.cells #[.int .i64 x183000_1, .int .i64 x183001_1, .int .i64 x183002_1, .int .i64 x183003_1, .int .i64 x183004_1, .string x183005_1, .string x183006_1] 73 (0, 0))) ∧ Aside0 (Below w.heap.size w wc))
      case first =>
        have H := HC3.out
        clear HC3
        by_cases c4 : x6_1 < (a0.size : Int)
        · rw [if_pos c4] at H
          have c4b0 : decide (x6_1 < (a0.size : Int)) = true := decide_eq_true c4
          clear c4
          (first | rw [c4b0] | (simp only [i64_w, i32_w]; rw [c4b0]) | skip)
          have H' := Aside0.mk H
          clear H
          obtain ⟨Ao5, co5, eo5⟩ := Kd.R_slice HO_4.out
          subst eo5
          go_wp2
          go_meet
          case rel => exact ⟨_, (decide ((x4_1.length : Int) < 7)), (by first | rfl | (simp; done) | (simp [*]; done)), H', ⟨by have := HK1.out; first | omega | exact Nat.le_refl _⟩, ⟨by (with_reducible repeat (first | apply Kd.R_alloc | apply Kd.R_drewN | apply Kd.R_drew)); exact HO_4.out⟩, ⟨by (with_reducible repeat (first | refine blk_drewN ?_ _ | refine blk_drew ?_ | refine blk_alloc ?_ _)); exact BK182.out⟩, ⟨by repeat (first | (with_reducible first | exact HB.out | apply below_alloc | apply pw_below_drewN | apply below_drew1 | refine below_set ?_ GE182.out) | exact HB.out)⟩⟩
        · rw [if_neg c4] at H
          have c4b0 : decide (x6_1 < (a0.size : Int)) = false := decide_eq_false c4
          clear c4
          (first | rw [c4b0] | (simp only [i64_w, i32_w]; rw [c4b0]) | skip)
          have H' := Aside0.mk H
          clear H
          go_wp2
          go_meet
          case rel => exact ⟨_, (false), (by first | rfl | (simp; done) | (simp [*]; done)), H', ⟨by have := HK1.out; first | omega | exact Nat.le_refl _⟩, ⟨by (with_reducible repeat (first | apply Kd.R_alloc | apply Kd.R_drewN | apply Kd.R_drew)); exact HO_4.out⟩, ⟨by (with_reducible repeat (first | refine blk_drewN ?_ _ | refine blk_drew ?_ | refine blk_alloc ?_ _)); exact BK182.out⟩, ⟨by repeat (first | (with_reducible first | exact HB.out | apply below_alloc | apply pw_below_drewN | apply below_drew1 | refine below_set ?_ GE182.out) | exact HB.out)⟩⟩
      case rest =>
        clear HC3
        try clear p2
        try clear c4
        try clear c4b0
        try clear c5
        try clear p2
        obtain ⟨kq, x18_2, rfl, HA, HJ2, HO_4, BK182, HB⟩ := hcut
        cases kq with
        | zero => exact absurd HA.out (by simp [emendateref52_DecodeEvent.j1])
        | succ kj2 =>
          have H := HA.out
          clear HA
          simp only [emendateref52_DecodeEvent.j1] at H
          by_cases c6 : x18_2 = true
          · subst c6
            have H1 : (if (x4_1.length : Int) < 6 then (if 0 ≤ x6_1 then (if x6_1 < (a0.size : Int) then (if (bt a0 x6_1) = 32 then (emendateref52_DecodeEvent.j2 kj2 a0 x4_1 x5_1 x6_1 true) else (if (x4_1.length : Int) = 6 then (emendateref52_DecodeEvent.j2 kj2 a0 x4_1 x5_1 x6_1 ((bt a0 x6_1) == 58)) else (emendateref52_DecodeEvent.j2 kj2 a0 x4_1 x5_1 x6_1 false))) else (none)) else (none)) else (if (x4_1.length : Int) = 6 then (if 0 ≤ x6_1 then (if x6_1 < (a0.size : Int) then (emendateref52_DecodeEvent.j2 kj2 a0 x4_1 x5_1 x6_1 ((bt a0 x6_1) == 58)) else (none)) else (none)) else (emendateref52_DecodeEvent.j2 kj2 a0 x4_1 x5_1 x6_1 false))) = some (r1, r2, r3, r4, r5, r6, r7, r8) := by rw [if_pos rfl] at H; exact H
            clear H
            have H := H1
            clear H1
            have HC7 := Aside0.mk H
            clear H
            go_upto_region 6 with (fail)
            go_cut [40] (fun v40 wc => ∃ (kq : Nat) (x40_6 : Bool), v40 = .bool x40_6 ∧ Aside0 (emendateref52_DecodeEvent.j2 kq a0 x4_1 x5_1 x6_1 x40_6 = some (r1, r2, r3, r4, r5, r6, r7, r8)) ∧ Aside0 (kq ≤ kj2) ∧ Aside0 (Kd.R (Kd.int .i64) 3 wc w.heap.size (fun _ => True) u4 x4_1) ∧ Aside0 (wc.heap[gb182]? = some (.cells #[.int .i64 x183000_1, .int .i64 x183001_1, .int .i64 x183002_1, .int .i64 x183003_1, .int .i64 x183004_1, .string x183005_1, .string x183006_1] 73 (0, 0))) ∧ Aside0 (Below w.heap.size w wc))
            case first =>
              have H := HC7.out
              clear HC7
              by_cases c8 : (x4_1.length : Int) < 6
              · rw [if_pos c8] at H
                have c8b0 : decide ((x4_1.length : Int) < 6) = true := decide_eq_true c8
                have c8b1 : decide (x4_1.length < 6) = true := decide_eq_true (by omega)
                clear c8
                (first | rw [c8b0] | (simp only [i64_w, i32_w]; rw [c8b0]) | skip)
                by_cases c9 : 0 ≤ x6_1
                · rw [if_pos c9] at H
                  have c9b0 : decide (0 ≤ x6_1) = true := decide_eq_true c9
                  clear c9
                  by_cases c10 : x6_1 < (a0.size : Int)
                  · rw [if_pos c10] at H
                    have c10b0 : decide (x6_1 < (a0.size : Int)) = true := decide_eq_true c10
                    clear c10
                    by_cases c12 : (bt a0 x6_1) = 32
                    · rw [if_pos c12] at H
                      have c12b0 : ((bt a0 x6_1) == 32) = true := beq_iff_eq.mpr c12
                      have c12b1 : ((bt a0 x6_1) != 32) = false := bne_eq_false_iff_eq.mpr c12
                      clear c12
                      have H' := Aside0.mk H
                      clear H
                      obtain ⟨Ao13, co13, eo13⟩ := Kd.R_slice HO_4.out
                      subst eo13
                      have p11 : 0 ≤ (x6_1 : Int) := of_decide_eq_true (by first | (with_reducible assumption) | assumption)
                      have q11 : x6_1 < (a0.size : Int) := of_decide_eq_true (by first | (with_reducible assumption) | assumption)
                      have hx11 := bt_at a0 x6_1
                      replace p11 := eq_true p11
                      replace q11 := eq_true q11
                      go_wp2
                      go_meet
                      case rel => exact ⟨_, (true), (by first | rfl | (simp; done) | (simp [*]; done)), H', ⟨by have := HK1.out; have := HJ2.out; first | omega | exact Nat.le_refl _⟩, ⟨by (with_reducible repeat (first | apply Kd.R_alloc | apply Kd.R_drewN | apply Kd.R_drew)); exact HO_4.out⟩, ⟨by (with_reducible repeat (first | refine blk_drewN ?_ _ | refine blk_drew ?_ | refine blk_alloc ?_ _)); exact BK182.out⟩, ⟨by repeat (first | (with_reducible first | exact HB.out | apply below_alloc | apply pw_below_drewN | apply below_drew1 | refine below_set ?_ GE182.out) | exact HB.out)⟩⟩
                    · rw [if_neg c12] at H
                      have c12b0 : ((bt a0 x6_1) == 32) = false := beq_eq_false_iff_ne.mpr c12
                      have c12b1 : ((bt a0 x6_1) != 32) = true := bne_iff_ne.mpr c12
                      by_cases c14 : (x4_1.length : Int) = 6
                      · rw [if_pos c14] at H
                        have c14b0 : ((x4_1.length : Int) == 6) = true := beq_iff_eq.mpr c14
                        have c14b1 : ((x4_1.length : Int) != 6) = false := bne_eq_false_iff_eq.mpr c14
                        clear c14
                        have H' := Aside0.mk H
                        clear H
                        obtain ⟨Ao16, co16, eo16⟩ := Kd.R_slice HO_4.out
                        subst eo16
                        have p11 : 0 ≤ (x6_1 : Int) := of_decide_eq_true (by first | (with_reducible assumption) | assumption)
                        have q11 : x6_1 < (a0.size : Int) := of_decide_eq_true (by first | (with_reducible assumption) | assumption)
                        have hx11 := bt_at a0 x6_1
                        replace p11 := eq_true p11
                        replace q11 := eq_true q11
                        have p15 : 0 ≤ (x6_1 : Int) := of_decide_eq_true (by first | (with_reducible assumption) | assumption)
                        have q15 : x6_1 < (a0.size : Int) := of_decide_eq_true (by first | (with_reducible assumption) | assumption)
                        have hx15 := bt_at a0 x6_1
                        replace p15 := eq_true p15
                        replace q15 := eq_true q15
                        go_wp2
                        go_meet
                        case rel => exact ⟨_, (((bt a0 x6_1) == 58)), (by first | rfl | (simp; done) | (simp [*]; done)), H', ⟨by have := HK1.out; have := HJ2.out; first | omega | exact Nat.le_refl _⟩, ⟨by (with_reducible repeat (first | apply Kd.R_alloc | apply Kd.R_drewN | apply Kd.R_drew)); exact HO_4.out⟩, ⟨by (with_reducible repeat (first | refine blk_drewN ?_ _ | refine blk_drew ?_ | refine blk_alloc ?_ _)); exact BK182.out⟩, ⟨by repeat (first | (with_reducible first | exact HB.out | apply below_alloc | apply pw_below_drewN | apply below_drew1 | refine below_set ?_ GE182.out) | exact HB.out)⟩⟩
                      · rw [if_neg c14] at H
                        have c14b0 : ((x4_1.length : Int) == 6) = false := beq_eq_false_iff_ne.mpr c14
                        have c14b1 : ((x4_1.length : Int) != 6) = true := bne_iff_ne.mpr c14
                        have H' := Aside0.mk H
                        clear H
                        obtain ⟨Ao17, co17, eo17⟩ := Kd.R_slice HO_4.out
                        subst eo17
                        have p11 : 0 ≤ (x6_1 : Int) := of_decide_eq_true (by first | (with_reducible assumption) | assumption)
                        have q11 : x6_1 < (a0.size : Int) := of_decide_eq_true (by first | (with_reducible assumption) | assumption)
                        have hx11 := bt_at a0 x6_1
                        replace p11 := eq_true p11
                        replace q11 := eq_true q11
                        go_wp2
                        go_meet
                        case rel => exact ⟨_, (false), (by first | rfl | (simp; done) | (simp [*]; done)), H', ⟨by have := HK1.out; have := HJ2.out; first | omega | exact Nat.le_refl _⟩, ⟨by (with_reducible repeat (first | apply Kd.R_alloc | apply Kd.R_drewN | apply Kd.R_drew)); exact HO_4.out⟩, ⟨by (with_reducible repeat (first | refine blk_drewN ?_ _ | refine blk_drew ?_ | refine blk_alloc ?_ _)); exact BK182.out⟩, ⟨by repeat (first | (with_reducible first | exact HB.out | apply below_alloc | apply pw_below_drewN | apply below_drew1 | refine below_set ?_ GE182.out) | exact HB.out)⟩⟩
                  · rw [if_neg c10] at H
                    exact absurd H (by simp)
                · rw [if_neg c9] at H
                  exact absurd H (by simp)
              · rw [if_neg c8] at H
                have c8b0 : decide ((x4_1.length : Int) < 6) = false := decide_eq_false c8
                have c8b1 : decide (x4_1.length < 6) = false := decide_eq_false (by omega)
                clear c8
                (first | rw [c8b0] | (simp only [i64_w, i32_w]; rw [c8b0]) | skip)
                by_cases c18 : (x4_1.length : Int) = 6
                · rw [if_pos c18] at H
                  have c18b0 : ((x4_1.length : Int) == 6) = true := beq_iff_eq.mpr c18
                  have c18b1 : ((x4_1.length : Int) != 6) = false := bne_eq_false_iff_eq.mpr c18
                  clear c18
                  by_cases c19 : 0 ≤ x6_1
                  · rw [if_pos c19] at H
                    have c19b0 : decide (0 ≤ x6_1) = true := decide_eq_true c19
                    clear c19
                    by_cases c20 : x6_1 < (a0.size : Int)
                    · rw [if_pos c20] at H
                      have c20b0 : decide (x6_1 < (a0.size : Int)) = true := decide_eq_true c20
                      clear c20
                      have H' := Aside0.mk H
                      clear H
                      obtain ⟨Ao22, co22, eo22⟩ := Kd.R_slice HO_4.out
                      subst eo22
                      have p21 : 0 ≤ (x6_1 : Int) := of_decide_eq_true (by first | (with_reducible assumption) | assumption)
                      have q21 : x6_1 < (a0.size : Int) := of_decide_eq_true (by first | (with_reducible assumption) | assumption)
                      have hx21 := bt_at a0 x6_1
                      replace p21 := eq_true p21
                      replace q21 := eq_true q21
                      go_wp2
                      go_meet
                      case rel => exact ⟨_, (((bt a0 x6_1) == 58)), (by first | rfl | (simp; done) | (simp [*]; done)), H', ⟨by have := HK1.out; have := HJ2.out; first | omega | exact Nat.le_refl _⟩, ⟨by (with_reducible repeat (first | apply Kd.R_alloc | apply Kd.R_drewN | apply Kd.R_drew)); exact HO_4.out⟩, ⟨by (with_reducible repeat (first | refine blk_drewN ?_ _ | refine blk_drew ?_ | refine blk_alloc ?_ _)); exact BK182.out⟩, ⟨by repeat (first | (with_reducible first | exact HB.out | apply below_alloc | apply pw_below_drewN | apply below_drew1 | refine below_set ?_ GE182.out) | exact HB.out)⟩⟩
                    · rw [if_neg c20] at H
                      exact absurd H (by simp)
                  · rw [if_neg c19] at H
                    exact absurd H (by simp)
                · rw [if_neg c18] at H
                  have c18b0 : ((x4_1.length : Int) == 6) = false := beq_eq_false_iff_ne.mpr c18
                  have c18b1 : ((x4_1.length : Int) != 6) = true := bne_iff_ne.mpr c18
                  have H' := Aside0.mk H
                  clear H
                  obtain ⟨Ao23, co23, eo23⟩ := Kd.R_slice HO_4.out
                  subst eo23
                  go_wp2
                  go_meet
                  case rel => exact ⟨_, (false), (by first | rfl | (simp; done) | (simp [*]; done)), H', ⟨by have := HK1.out; have := HJ2.out; first | omega | exact Nat.le_refl _⟩, ⟨by (with_reducible repeat (first | apply Kd.R_alloc | apply Kd.R_drewN | apply Kd.R_drew)); exact HO_4.out⟩, ⟨by (with_reducible repeat (first | refine blk_drewN ?_ _ | refine blk_drew ?_ | refine blk_alloc ?_ _)); exact BK182.out⟩, ⟨by repeat (first | (with_reducible first | exact HB.out | apply below_alloc | apply pw_below_drewN | apply below_drew1 | refine below_set ?_ GE182.out) | exact HB.out)⟩⟩
            case rest =>
              clear HC7
              try clear c1
              try clear p1
              try clear q1
              try clear hx1
              try clear c2
              try clear p2
              try clear q2
              try clear hx2
              try clear c4
              try clear c4b0
              try clear c5
              try clear c6
              try clear c8
              try clear c8b0
              try clear c8b1
              try clear c9
              try clear c9b0
              try clear c10
              try clear c10b0
              try clear p11
              try clear q11
              try clear hx11
              try clear c12
              try clear c12b0
              try clear c12b1
              try clear c14
              try clear c14b0
              try clear c14b1
              try clear p15
              try clear q15
              try clear hx15
              try clear c18
              try clear c18b0
              try clear c18b1
              try clear c19
              try clear c19b0
              try clear c20
              try clear c20b0
              try clear p21
              try clear q21
              try clear hx21
              try clear p11
              try clear p15
              try clear p2
              try clear p21
              try clear q11
              try clear q15
              try clear q21
              obtain ⟨kq, x40_6, rfl, HA, HJ6, HO_4, BK182, HB⟩ := hcut
              cases kq with
              | zero => exact absurd HA.out (by simp [emendateref52_DecodeEvent.j2])
              | succ kj6 =>
                have H := HA.out
                clear HA
                simp only [emendateref52_DecodeEvent.j2] at H
                by_cases c24 : x40_6 = true
                · subst c24
                  have H1 : (if 0 ≤ x5_1 then (if x5_1 ≤ x6_1 then (if x6_1 ≤ (a0.size : Int) then ((emendateref52_number.f kj6 (a0.extract (x5_1 : Int).toNat (x6_1 : Int).toNat)).bind fun bt194 => (if bt194.2 = true then (if x4_1.length < 17592186044416 then (emendateref52_DecodeEvent.l0 kj6 a0 (x4_1 ++ [bt194.1]) (wrap64 (x6_1 + 1)) (wrap64 (x6_1 + 1))) else (none)) else (some (0, 0, 0, 0, 0, (⟨#[]⟩ : ByteArray), (⟨#[]⟩ : ByteArray), 7)))) else (none)) else (none)) else (none)) = some (r1, r2, r3, r4, r5, r6, r7, r8) := by rw [if_pos rfl] at H; exact H
                  clear H
                  have H := H1
                  clear H1
                  by_cases c25 : 0 ≤ x5_1
                  · rw [if_pos c25] at H
                    have c25b0 := eq_true c25
                    have c25b1 : decide (0 ≤ x5_1) = true := decide_eq_true c25
                    clear c25
                    by_cases c26 : x5_1 ≤ x6_1
                    · rw [if_pos c26] at H
                      have c26b0 := eq_true c26
                      have c26b1 : decide (x5_1 ≤ x6_1) = true := decide_eq_true c26
                      clear c26
                      by_cases c27 : x6_1 ≤ (a0.size : Int)
                      · rw [if_pos c27] at H
                        have c27b0 := eq_true c27
                        have c27b1 : decide (x6_1 ≤ (a0.size : Int)) = true := decide_eq_true c27
                        clear c27
                        replace H := Option.bind_eq_some_iff.mp H
                        obtain ⟨⟨t194, t195⟩, A280, H⟩ := H
                        replace H : (if t195 = true then (if x4_1.length < 17592186044416 then (emendateref52_DecodeEvent.l0 kj6 a0 (x4_1 ++ [t194]) (wrap64 (x6_1 + 1)) (wrap64 (x6_1 + 1))) else (none)) else (some (0, 0, 0, 0, 0, (⟨#[]⟩ : ByteArray), (⟨#[]⟩ : ByteArray), 7))) = some (r1, r2, r3, r4, r5, r6, r7, r8) := H
                        have A28 := Aside0.mk A280
                        clear A280
                        by_cases c29 : t195 = true
                        · subst c29
                          have H1 : (if x4_1.length < 17592186044416 then (emendateref52_DecodeEvent.l0 kj6 a0 (x4_1 ++ [t194]) (wrap64 (x6_1 + 1)) (wrap64 (x6_1 + 1))) else (none)) = some (r1, r2, r3, r4, r5, r6, r7, r8) := by rw [if_pos rfl] at H; exact H
                          clear H
                          have H := H1
                          clear H1
                          by_cases c30 : x4_1.length < 17592186044416
                          · rw [if_pos c30] at H
                            have LMc30 := Aside0.mk c30
                            clear c30
                            obtain ⟨y196, hy196⟩ : ∃ y_ : List Int, y_ = (x4_1 ++ [t194]) := ⟨_, rfl⟩
                            replace H : (emendateref52_DecodeEvent.l0 kj6 a0 y196 (wrap64 (x6_1 + 1)) (wrap64 (x6_1 + 1))) = some (r1, r2, r3, r4, r5, r6, r7, r8) := by first | (rw [hy196]; with_reducible exact H) | (have H2_ := (Option.bind_some _ _).symm.trans H; rw [hy196]; with_reducible exact H2_) | (have H2_ := (Option.bind_some _ _).symm.trans H; with_reducible exact H2_) | with_reducible exact H | (rw [hy196]; exact H) | exact H
                            have Ny196 := Aside0.mk hy196
                            clear hy196
                            have H' := Aside0.mk H
                            clear H
                            go_wp2_with (first | ((with_reducible refine gate_callee (f := 72) rfl ?_); refine goesL_ (some 46) rfl rfl Tryz.func72 (by kernel_rfl) rfl #[.string (a0.extract (x5_1 : Int).toNat (x6_1 : Int).toNat)] rfl (by (try simp only [List.map_toArray, List.map_cons, List.map_nil]); first | done | rfl | (simp only [List.length_drop, List.length_take]; rfl)) ?_; (with_reducible refine (emendateref52_number.calls kj6 (a0.extract (x5_1 : Int).toNat (x6_1 : Int).toNat) t194 true _ A28.out ?side99).mono ?_); (case side99 => exact Env.of HE.out (by repeat (first | (with_reducible first | exact HB.out | apply below_alloc | apply pw_below_drewN | apply below_drew1 | refine below_set ?_ GE182.out) | exact HB.out))); rintro e w31 ⟨rfl, hb⟩; refine ⟨_, rfl, ?_⟩; have n0_ := Aside0.mk (Kd.R_below (by (with_reducible repeat (first | apply Kd.R_alloc | apply Kd.R_drewN | apply Kd.R_drew)); exact HO_4.out) hb); have n1_ := Aside0.mk (blk_below (g := gb182) (o := .cells #[.int .i64 x183000_1, .int .i64 x183001_1, .int .i64 x183002_1, .int .i64 x183003_1, .int .i64 x183004_1, .string x183005_1, .string x183006_1] 73 (0, 0)) (by (with_reducible repeat (first | refine blk_drewN ?_ _ | refine blk_drew ?_ | refine blk_alloc ?_ _)); exact BK182.out) hb); have n2_ := Aside0.mk (below_step (by repeat (first | (with_reducible first | exact HB.out | apply below_alloc | apply pw_below_drewN | apply below_drew1 | refine below_set ?_ GE182.out) | exact HB.out)) hb); clear HO_4; clear BK182; clear HB; have HO_4 := n0_; have BK182 := n1_; have HB := n2_; clear n0_ n1_ n2_; (try clear hb); (try clear hb2); (try clear hk); (try clear hi)) | ((with_reducible refine gate_builtin (b := .append) (xs := #[.tmp 52, .tmp 54]) rfl ?_); (try (refine gate_guard (by rfl) ?_; dsimp only)); at_builtin; refine Kd.R_append (Kd.int .i64) (w0 := w) w.heap.size rfl (.tmp 52) (.tmp 54) 90 3 (.int .i64 0) 8 rfl Tryz.underlying90 info3 rfl (by decide) (by omega) u4 x4_1 t194 [.int .i64 t194] (fun _ => True) (fun _ => False) rfl rfl ?aP (fun _ hk => hk.elim) ?aF ?aO ?aB ?aS ?aL ?_; (case aP => exact rfl); (case aB => exact (by repeat (first | (with_reducible first | exact HB.out | apply below_alloc | apply pw_below_drewN | apply below_drew1 | refine below_set ?_ GE182.out) | exact HB.out))); (case aF => exact (fun _ _ => trivial)); (case aO => exact (by (with_reducible repeat (first | apply Kd.R_alloc | apply Kd.R_drewN | apply Kd.R_drew)); exact HO_4.out)); (case aS => exact (below_size (by repeat (first | (with_reducible first | exact HB.out | apply below_alloc | apply pw_below_drewN | apply below_drew1 | refine below_set ?_ GE182.out) | exact HB.out)))); (case aL => have := LMc30.out; omega); intro v197 w32 ho hb hg hat; rw [← Ny196.out] at ho; have n0_ := Aside0.mk (blk_grown (g := gb182) (o := .cells #[.int .i64 x183000_1, .int .i64 x183001_1, .int .i64 x183002_1, .int .i64 x183003_1, .int .i64 x183004_1, .string x183005_1, .string x183006_1] 73 (0, 0)) (by (with_reducible repeat (first | refine blk_drewN ?_ _ | refine blk_drew ?_ | refine blk_alloc ?_ _)); exact BK182.out) hg (Kd.R_ne HO_4.out BK182.out (by decide))); have n1_ := Aside0.mk (hb); have n2_ := Aside0.mk (ho); clear BK182; clear HB; clear HO_4; have BK182 := n0_; have HB := n1_; have HO198 := n2_; clear n0_ n1_ n2_; clear ho hb hg hat))
                            go_roundg kj6
                            case measure => have := HK1.out; have := HJ2.out; have := HJ6.out; omega
                            case rel => exact ⟨(y196), (wrap64 (x6_1 + 1)), (wrap64 (x6_1 + 1)), (x183000_1), (x183001_1), (x183002_1), (x183003_1), (x183004_1), (x183005_1), (x183006_1), (by first | rfl | (simp; done) | (simp [*]; done)), (by first | rfl | (simp; done) | (simp [*]; done)), H', ⟨by have := HK1.out; have := HJ2.out; have := HJ6.out; omega⟩, ⟨by (with_reducible repeat (first | apply Kd.R_alloc | apply Kd.R_drewN | apply Kd.R_drew)); exact HO198.out⟩, ⟨by (with_reducible repeat (first | refine blk_drewN ?_ _ | refine blk_drew ?_ | refine blk_alloc ?_ _)); exact BK182.out⟩, ⟨by repeat (first | (with_reducible first | exact HB.out | apply below_alloc | apply pw_below_drewN | apply below_drew1 | refine below_set ?_ GE182.out) | exact HB.out)⟩⟩
                          · rw [if_neg c30] at H
                            exact absurd H (by simp)
                        · replace c29 := Bool.eq_false_iff.mpr c29
                          subst c29
                          have H1 : (some (0, 0, 0, 0, 0, (⟨#[]⟩ : ByteArray), (⟨#[]⟩ : ByteArray), 7)) = some (r1, r2, r3, r4, r5, r6, r7, r8) := by rw [if_neg (show ¬ (false = true) by decide)] at H; exact H
                          clear H
                          have H := H1
                          clear H1
                          simp only [Option.some.injEq, Prod.mk.injEq] at H
                          obtain ⟨rfl, rfl, rfl, rfl, rfl, rfl, rfl, rfl⟩ := H
                          go_wp2_with (first | ((with_reducible refine gate_callee (f := 72) rfl ?_); refine goesL_ (some 46) rfl rfl Tryz.func72 (by kernel_rfl) rfl #[.string (a0.extract (x5_1 : Int).toNat (x6_1 : Int).toNat)] rfl (by (try simp only [List.map_toArray, List.map_cons, List.map_nil]); first | done | rfl | (simp only [List.length_drop, List.length_take]; rfl)) ?_; (with_reducible refine (emendateref52_number.calls kj6 (a0.extract (x5_1 : Int).toNat (x6_1 : Int).toNat) t194 false _ A28.out ?side99).mono ?_); (case side99 => exact Env.of HE.out (by repeat (first | (with_reducible first | exact HB.out | apply below_alloc | apply pw_below_drewN | apply below_drew1 | refine below_set ?_ GE182.out) | exact HB.out))); rintro e w33 ⟨rfl, hb⟩; refine ⟨_, rfl, ?_⟩; have n0_ := Aside0.mk (Kd.R_below (by (with_reducible repeat (first | apply Kd.R_alloc | apply Kd.R_drewN | apply Kd.R_drew)); exact HO_4.out) hb); have n1_ := Aside0.mk (blk_below (g := gb182) (o := .cells #[.int .i64 x183000_1, .int .i64 x183001_1, .int .i64 x183002_1, .int .i64 x183003_1, .int .i64 x183004_1, .string x183005_1, .string x183006_1] 73 (0, 0)) (by (with_reducible repeat (first | refine blk_drewN ?_ _ | refine blk_drew ?_ | refine blk_alloc ?_ _)); exact BK182.out) hb); have n2_ := Aside0.mk (below_step (by repeat (first | (with_reducible first | exact HB.out | apply below_alloc | apply pw_below_drewN | apply below_drew1 | refine below_set ?_ GE182.out) | exact HB.out)) hb); clear HO_4; clear BK182; clear HB; have HO_4 := n0_; have BK182 := n1_; have HB := n2_; clear n0_ n1_ n2_; (try clear hb); (try clear hb2); (try clear hk); (try clear hi); have hcz34_0 : w33.cell? ⟨gb182, 0, none⟩ = some (.int .i64 x183000_1) := (blk_cell BK182.out 0).trans rfl; have hcz34_1 : w33.cell? ⟨gb182, 1, none⟩ = some (.int .i64 x183001_1) := (blk_cell BK182.out 1).trans rfl; have hcz34_2 : w33.cell? ⟨gb182, 2, none⟩ = some (.int .i64 x183002_1) := (blk_cell BK182.out 2).trans rfl; have hcz34_3 : w33.cell? ⟨gb182, 3, none⟩ = some (.int .i64 x183003_1) := (blk_cell BK182.out 3).trans rfl; have hcz34_4 : w33.cell? ⟨gb182, 4, none⟩ = some (.int .i64 x183004_1) := (blk_cell BK182.out 4).trans rfl; have hcz34_5 : w33.cell? ⟨gb182, 5, none⟩ = some (.string x183005_1) := (blk_cell BK182.out 5).trans rfl; have hcz34_6 : w33.cell? ⟨gb182, 6, none⟩ = some (.string x183006_1) := (blk_cell BK182.out 6).trans rfl; have hfz34_0 := blk_frozen BK182.out 0; have hfz34_1 := blk_frozen BK182.out 1; have hfz34_2 := blk_frozen BK182.out 2; have hfz34_3 := blk_frozen BK182.out 3; have hfz34_4 := blk_frozen BK182.out 4; have hfz34_5 := blk_frozen BK182.out 5; have hfz34_6 := blk_frozen BK182.out 6))
                          refine bodyPost_ret (results_ct rfl _ _ gb182 73 #[.int .i64 0, .int .i64 0, .int .i64 0, .int .i64 0, .int .i64 0, .string (⟨#[]⟩ : ByteArray), .string (⟨#[]⟩ : ByteArray)] (0, 0) _ rfl (by (with_reducible repeat (first | refine blk_drewN ?_ _ | refine blk_drew ?_ | refine blk_alloc ?_ _)); refine blk_put (cs := #[.int .i64 0, .int .i64 0, .int .i64 0, .int .i64 0, .int .i64 0, .string (⟨#[]⟩ : ByteArray), .string x183006_1]) ?_ 6 _ rfl; (with_reducible repeat (first | refine blk_drewN ?_ _ | refine blk_drew ?_ | refine blk_alloc ?_ _)); refine blk_put (cs := #[.int .i64 0, .int .i64 0, .int .i64 0, .int .i64 0, .int .i64 0, .string x183005_1, .string x183006_1]) ?_ 5 _ rfl; (with_reducible repeat (first | refine blk_drewN ?_ _ | refine blk_drew ?_ | refine blk_alloc ?_ _)); refine blk_put (cs := #[.int .i64 0, .int .i64 0, .int .i64 0, .int .i64 0, .int .i64 x183004_1, .string x183005_1, .string x183006_1]) ?_ 4 _ rfl; (with_reducible repeat (first | refine blk_drewN ?_ _ | refine blk_drew ?_ | refine blk_alloc ?_ _)); refine blk_put (cs := #[.int .i64 0, .int .i64 0, .int .i64 0, .int .i64 x183003_1, .int .i64 x183004_1, .string x183005_1, .string x183006_1]) ?_ 3 _ rfl; (with_reducible repeat (first | refine blk_drewN ?_ _ | refine blk_drew ?_ | refine blk_alloc ?_ _)); refine blk_put (cs := #[.int .i64 0, .int .i64 0, .int .i64 x183002_1, .int .i64 x183003_1, .int .i64 x183004_1, .string x183005_1, .string x183006_1]) ?_ 2 _ rfl; (with_reducible repeat (first | refine blk_drewN ?_ _ | refine blk_drew ?_ | refine blk_alloc ?_ _)); refine blk_put (cs := #[.int .i64 0, .int .i64 x183001_1, .int .i64 x183002_1, .int .i64 x183003_1, .int .i64 x183004_1, .string x183005_1, .string x183006_1]) ?_ 1 _ rfl; (with_reducible repeat (first | refine blk_drewN ?_ _ | refine blk_drew ?_ | refine blk_alloc ?_ _)); refine blk_put (cs := #[.int .i64 x183000_1, .int .i64 x183001_1, .int .i64 x183002_1, .int .i64 x183003_1, .int .i64 x183004_1, .string x183005_1, .string x183006_1]) ?_ 0 _ rfl; (with_reducible repeat (first | refine blk_drewN ?_ _ | refine blk_drew ?_ | refine blk_alloc ?_ _)); exact BK182.out) Tryz.underlying73 rfl (by kernel_rfl)) rfl ?_
                          exact ⟨by first | rfl | (simp [errW_none, errW_some] <;> rfl) | (simp [*, errW_none, errW_some] <;> rfl), by repeat (first | (with_reducible first | exact HB.out | apply below_alloc | apply pw_below_drewN | apply below_drew1 | refine below_set ?_ GE182.out) | exact HB.out)⟩
                      · rw [if_neg c27] at H
                        exact absurd H (by simp)
                    · rw [if_neg c26] at H
                      exact absurd H (by simp)
                  · rw [if_neg c25] at H
                    exact absurd H (by simp)
                · replace c24 := Bool.eq_false_iff.mpr c24
                  subst c24
                  have H1 : (emendateref52_DecodeEvent.l0 kj6 a0 x4_1 x5_1 (wrap64 (x6_1 + 1))) = some (r1, r2, r3, r4, r5, r6, r7, r8) := by rw [if_neg (show ¬ (false = true) by decide)] at H; exact H
                  clear H
                  have H := H1
                  clear H1
                  have H' := Aside0.mk H
                  clear H
                  go_wp2
                  go_roundg kj6
                  case measure => have := HK1.out; have := HJ2.out; have := HJ6.out; omega
                  case rel => exact ⟨(x4_1), (x5_1), (wrap64 (x6_1 + 1)), (x183000_1), (x183001_1), (x183002_1), (x183003_1), (x183004_1), (x183005_1), (x183006_1), (by first | rfl | (simp; done) | (simp [*]; done)), (by first | rfl | (simp; done) | (simp [*]; done)), H', ⟨by have := HK1.out; have := HJ2.out; have := HJ6.out; omega⟩, ⟨by (with_reducible repeat (first | apply Kd.R_alloc | apply Kd.R_drewN | apply Kd.R_drew)); exact HO_4.out⟩, ⟨by (with_reducible repeat (first | refine blk_drewN ?_ _ | refine blk_drew ?_ | refine blk_alloc ?_ _)); exact BK182.out⟩, ⟨by repeat (first | (with_reducible first | exact HB.out | apply below_alloc | apply pw_below_drewN | apply below_drew1 | refine below_set ?_ GE182.out) | exact HB.out)⟩⟩
          · replace c6 := Bool.eq_false_iff.mpr c6
            subst c6
            have H1 : (if (x4_1.length : Int) < 7 then (some (0, 0, 0, 0, 0, (⟨#[]⟩ : ByteArray), (⟨#[]⟩ : ByteArray), 7)) else (if 5 < (x4_1.length : Int) then (if (rd x4_1 5) < 0 then (some (0, 0, 0, 0, 0, (⟨#[]⟩ : ByteArray), (⟨#[]⟩ : ByteArray), 7)) else (if 6 < (x4_1.length : Int) then (if (rd x4_1 6) < 0 then (some (0, 0, 0, 0, 0, (⟨#[]⟩ : ByteArray), (⟨#[]⟩ : ByteArray), 7)) else (if (rd x4_1 5) > (wrap64 ((a0.size : Int) - x5_1)) then (some (0, 0, 0, 0, 0, (⟨#[]⟩ : ByteArray), (⟨#[]⟩ : ByteArray), 7)) else (if (rd x4_1 6) = (wrap64 ((wrap64 ((a0.size : Int) - x5_1)) - (rd x4_1 5))) then (if 0 < (x4_1.length : Int) then (if 1 < (x4_1.length : Int) then (if 2 < (x4_1.length : Int) then (if 3 < (x4_1.length : Int) then (if 4 < (x4_1.length : Int) then (if 0 ≤ x5_1 then (if x5_1 ≤ (wrap64 (x5_1 + (rd x4_1 5))) then (if (wrap64 (x5_1 + (rd x4_1 5))) ≤ (a0.size : Int) then (if 0 ≤ (wrap64 (x5_1 + (rd x4_1 5))) then (some (rd x4_1 0, rd x4_1 1, rd x4_1 2, rd x4_1 3, rd x4_1 4, a0.extract (x5_1 : Int).toNat ((wrap64 (x5_1 + (rd x4_1 5))) : Int).toNat, a0.extract ((wrap64 (x5_1 + (rd x4_1 5))) : Int).toNat a0.size, 0)) else (none)) else (none)) else (none)) else (none)) else (none)) else (none)) else (none)) else (none)) else (none)) else (some (0, 0, 0, 0, 0, (⟨#[]⟩ : ByteArray), (⟨#[]⟩ : ByteArray), 7))))) else (none))) else (none))) = some (r1, r2, r3, r4, r5, r6, r7, r8) := by rw [if_neg (show ¬ (false = true) by decide)] at H; exact H
            clear H
            have H := H1
            clear H1
            by_cases c35 : (x4_1.length : Int) < 7
            · rw [if_pos c35] at H
              have c35b0 : decide ((x4_1.length : Int) < 7) = true := decide_eq_true c35
              have c35b1 : decide (x4_1.length < 7) = true := decide_eq_true (by omega)
              clear c35
              simp only [Option.some.injEq, Prod.mk.injEq] at H
              obtain ⟨rfl, rfl, rfl, rfl, rfl, rfl, rfl, rfl⟩ := H
              try go_wp2
              obtain ⟨Ao37, co37, eo37⟩ := Kd.R_slice HO_4.out
              (first | subst eo37 | (injection eo37 with f1_ f2_ f3_; have f4_ := f1_.symm; have f5_ := f3_.symm; clear f1_ f2_ f3_; subst f4_; subst f5_))
              go_quiet (fail)
              have n0_ := Aside0.mk (Kd.R_drewN HO_4.out nq)
              have n1_ := Aside0.mk (blk_drewN BK182.out nq)
              have n2_ := Aside0.mk (pw_below_drewN HB.out nq)
              clear HO_4 BK182 HB
              have HO_4 := n0_
              have BK182 := n1_
              have HB := n2_
              clear n0_ n1_ n2_
              generalize wc.drewN nq = w36 at HO_4 BK182 HB ⊢
              have hcz38_0 : w36.cell? ⟨gb182, 0, none⟩ = some (.int .i64 x183000_1) := (blk_cell BK182.out 0).trans rfl
              have hcz38_1 : w36.cell? ⟨gb182, 1, none⟩ = some (.int .i64 x183001_1) := (blk_cell BK182.out 1).trans rfl
              have hcz38_2 : w36.cell? ⟨gb182, 2, none⟩ = some (.int .i64 x183002_1) := (blk_cell BK182.out 2).trans rfl
              have hcz38_3 : w36.cell? ⟨gb182, 3, none⟩ = some (.int .i64 x183003_1) := (blk_cell BK182.out 3).trans rfl
              have hcz38_4 : w36.cell? ⟨gb182, 4, none⟩ = some (.int .i64 x183004_1) := (blk_cell BK182.out 4).trans rfl
              have hcz38_5 : w36.cell? ⟨gb182, 5, none⟩ = some (.string x183005_1) := (blk_cell BK182.out 5).trans rfl
              have hcz38_6 : w36.cell? ⟨gb182, 6, none⟩ = some (.string x183006_1) := (blk_cell BK182.out 6).trans rfl
              have hfz38_0 := blk_frozen BK182.out 0
              have hfz38_1 := blk_frozen BK182.out 1
              have hfz38_2 := blk_frozen BK182.out 2
              have hfz38_3 := blk_frozen BK182.out 3
              have hfz38_4 := blk_frozen BK182.out 4
              have hfz38_5 := blk_frozen BK182.out 5
              have hfz38_6 := blk_frozen BK182.out 6
              try go_wp2
              refine bodyPost_ret (results_ct rfl _ _ gb182 73 #[.int .i64 0, .int .i64 0, .int .i64 0, .int .i64 0, .int .i64 0, .string (⟨#[]⟩ : ByteArray), .string (⟨#[]⟩ : ByteArray)] (0, 0) _ rfl (by (with_reducible repeat (first | refine blk_drewN ?_ _ | refine blk_drew ?_ | refine blk_alloc ?_ _)); refine blk_put (cs := #[.int .i64 0, .int .i64 0, .int .i64 0, .int .i64 0, .int .i64 0, .string (⟨#[]⟩ : ByteArray), .string x183006_1]) ?_ 6 _ rfl; (with_reducible repeat (first | refine blk_drewN ?_ _ | refine blk_drew ?_ | refine blk_alloc ?_ _)); refine blk_put (cs := #[.int .i64 0, .int .i64 0, .int .i64 0, .int .i64 0, .int .i64 0, .string x183005_1, .string x183006_1]) ?_ 5 _ rfl; (with_reducible repeat (first | refine blk_drewN ?_ _ | refine blk_drew ?_ | refine blk_alloc ?_ _)); refine blk_put (cs := #[.int .i64 0, .int .i64 0, .int .i64 0, .int .i64 0, .int .i64 x183004_1, .string x183005_1, .string x183006_1]) ?_ 4 _ rfl; (with_reducible repeat (first | refine blk_drewN ?_ _ | refine blk_drew ?_ | refine blk_alloc ?_ _)); refine blk_put (cs := #[.int .i64 0, .int .i64 0, .int .i64 0, .int .i64 x183003_1, .int .i64 x183004_1, .string x183005_1, .string x183006_1]) ?_ 3 _ rfl; (with_reducible repeat (first | refine blk_drewN ?_ _ | refine blk_drew ?_ | refine blk_alloc ?_ _)); refine blk_put (cs := #[.int .i64 0, .int .i64 0, .int .i64 x183002_1, .int .i64 x183003_1, .int .i64 x183004_1, .string x183005_1, .string x183006_1]) ?_ 2 _ rfl; (with_reducible repeat (first | refine blk_drewN ?_ _ | refine blk_drew ?_ | refine blk_alloc ?_ _)); refine blk_put (cs := #[.int .i64 0, .int .i64 x183001_1, .int .i64 x183002_1, .int .i64 x183003_1, .int .i64 x183004_1, .string x183005_1, .string x183006_1]) ?_ 1 _ rfl; (with_reducible repeat (first | refine blk_drewN ?_ _ | refine blk_drew ?_ | refine blk_alloc ?_ _)); refine blk_put (cs := #[.int .i64 x183000_1, .int .i64 x183001_1, .int .i64 x183002_1, .int .i64 x183003_1, .int .i64 x183004_1, .string x183005_1, .string x183006_1]) ?_ 0 _ rfl; (with_reducible repeat (first | refine blk_drewN ?_ _ | refine blk_drew ?_ | refine blk_alloc ?_ _)); exact BK182.out) Tryz.underlying73 rfl (by kernel_rfl)) rfl ?_
              exact ⟨by first | rfl | (simp [errW_none, errW_some] <;> rfl) | (simp [*, errW_none, errW_some] <;> rfl), by repeat (first | (with_reducible first | exact HB.out | apply below_alloc | apply pw_below_drewN | apply below_drew1 | refine below_set ?_ GE182.out) | exact HB.out)⟩
            · rw [if_neg c35] at H
              have c35b0 : decide ((x4_1.length : Int) < 7) = false := decide_eq_false c35
              have c35b1 : decide (x4_1.length < 7) = false := decide_eq_false (by omega)
              clear c35
              by_cases c39 : 5 < (x4_1.length : Int)
              · rw [if_pos c39] at H
                have c39b0 : decide (5 < (x4_1.length : Int)) = true := decide_eq_true c39
                have c39b1 : decide (5 < x4_1.length) = true := decide_eq_true (by omega)
                clear c39
                by_cases c40 : (rd x4_1 5) < 0
                · rw [if_pos c40] at H
                  have c40b0 : decide ((rd x4_1 5) < 0) = true := decide_eq_true c40
                  clear c40
                  simp only [Option.some.injEq, Prod.mk.injEq] at H
                  obtain ⟨rfl, rfl, rfl, rfl, rfl, rfl, rfl, rfl⟩ := H
                  try go_wp2
                  obtain ⟨Ao42, co42, eo42⟩ := Kd.R_slice HO_4.out
                  (first | subst eo42 | (injection eo42 with f1_ f2_ f3_; have f4_ := f1_.symm; have f5_ := f3_.symm; clear f1_ f2_ f3_; subst f4_; subst f5_))
                  have p183 : 0 ≤ (5 : Int) := (by omega)
                  have q183 : 5 < (x4_1.length : Int) := of_decide_eq_true (by first | (with_reducible assumption) | assumption)
                  obtain ⟨ad183, e183, hx183_0⟩ := Kd.at_int (Kd.R_reads' HO_4.out).2.2 5 p183 q183
                  cases e183
                  (try simp only [show (5 : Int).toNat = 5 from rfl, Nat.reduceMul, Nat.reduceEqDiff, Go.Addr.add, ↓reduceIte] at hx183_0)
                  have qi183 : (5 < x4_1.length) = True := eq_true (by omega)
                  (try rw [show ((5 : Int)).toNat = 5 from rfl] at hx183_0)
                  replace p183 := eq_true p183
                  replace q183 := eq_true q183
                  go_quiet (fail)
                  have n0_ := Aside0.mk (Kd.R_drewN HO_4.out nq)
                  have n1_ := Aside0.mk (blk_drewN BK182.out nq)
                  have n2_ := Aside0.mk (pw_below_drewN HB.out nq)
                  clear HO_4 BK182 HB
                  have HO_4 := n0_
                  have BK182 := n1_
                  have HB := n2_
                  clear n0_ n1_ n2_
                  generalize wc.drewN nq = w41 at HO_4 BK182 HB ⊢
                  have hcz43_0 : w41.cell? ⟨gb182, 0, none⟩ = some (.int .i64 x183000_1) := (blk_cell BK182.out 0).trans rfl
                  have hcz43_1 : w41.cell? ⟨gb182, 1, none⟩ = some (.int .i64 x183001_1) := (blk_cell BK182.out 1).trans rfl
                  have hcz43_2 : w41.cell? ⟨gb182, 2, none⟩ = some (.int .i64 x183002_1) := (blk_cell BK182.out 2).trans rfl
                  have hcz43_3 : w41.cell? ⟨gb182, 3, none⟩ = some (.int .i64 x183003_1) := (blk_cell BK182.out 3).trans rfl
                  have hcz43_4 : w41.cell? ⟨gb182, 4, none⟩ = some (.int .i64 x183004_1) := (blk_cell BK182.out 4).trans rfl
                  have hcz43_5 : w41.cell? ⟨gb182, 5, none⟩ = some (.string x183005_1) := (blk_cell BK182.out 5).trans rfl
                  have hcz43_6 : w41.cell? ⟨gb182, 6, none⟩ = some (.string x183006_1) := (blk_cell BK182.out 6).trans rfl
                  have hfz43_0 := blk_frozen BK182.out 0
                  have hfz43_1 := blk_frozen BK182.out 1
                  have hfz43_2 := blk_frozen BK182.out 2
                  have hfz43_3 := blk_frozen BK182.out 3
                  have hfz43_4 := blk_frozen BK182.out 4
                  have hfz43_5 := blk_frozen BK182.out 5
                  have hfz43_6 := blk_frozen BK182.out 6
                  try go_wp2
                  refine bodyPost_ret (results_ct rfl _ _ gb182 73 #[.int .i64 0, .int .i64 0, .int .i64 0, .int .i64 0, .int .i64 0, .string (⟨#[]⟩ : ByteArray), .string (⟨#[]⟩ : ByteArray)] (0, 0) _ rfl (by (with_reducible repeat (first | refine blk_drewN ?_ _ | refine blk_drew ?_ | refine blk_alloc ?_ _)); refine blk_put (cs := #[.int .i64 0, .int .i64 0, .int .i64 0, .int .i64 0, .int .i64 0, .string (⟨#[]⟩ : ByteArray), .string x183006_1]) ?_ 6 _ rfl; (with_reducible repeat (first | refine blk_drewN ?_ _ | refine blk_drew ?_ | refine blk_alloc ?_ _)); refine blk_put (cs := #[.int .i64 0, .int .i64 0, .int .i64 0, .int .i64 0, .int .i64 0, .string x183005_1, .string x183006_1]) ?_ 5 _ rfl; (with_reducible repeat (first | refine blk_drewN ?_ _ | refine blk_drew ?_ | refine blk_alloc ?_ _)); refine blk_put (cs := #[.int .i64 0, .int .i64 0, .int .i64 0, .int .i64 0, .int .i64 x183004_1, .string x183005_1, .string x183006_1]) ?_ 4 _ rfl; (with_reducible repeat (first | refine blk_drewN ?_ _ | refine blk_drew ?_ | refine blk_alloc ?_ _)); refine blk_put (cs := #[.int .i64 0, .int .i64 0, .int .i64 0, .int .i64 x183003_1, .int .i64 x183004_1, .string x183005_1, .string x183006_1]) ?_ 3 _ rfl; (with_reducible repeat (first | refine blk_drewN ?_ _ | refine blk_drew ?_ | refine blk_alloc ?_ _)); refine blk_put (cs := #[.int .i64 0, .int .i64 0, .int .i64 x183002_1, .int .i64 x183003_1, .int .i64 x183004_1, .string x183005_1, .string x183006_1]) ?_ 2 _ rfl; (with_reducible repeat (first | refine blk_drewN ?_ _ | refine blk_drew ?_ | refine blk_alloc ?_ _)); refine blk_put (cs := #[.int .i64 0, .int .i64 x183001_1, .int .i64 x183002_1, .int .i64 x183003_1, .int .i64 x183004_1, .string x183005_1, .string x183006_1]) ?_ 1 _ rfl; (with_reducible repeat (first | refine blk_drewN ?_ _ | refine blk_drew ?_ | refine blk_alloc ?_ _)); refine blk_put (cs := #[.int .i64 x183000_1, .int .i64 x183001_1, .int .i64 x183002_1, .int .i64 x183003_1, .int .i64 x183004_1, .string x183005_1, .string x183006_1]) ?_ 0 _ rfl; (with_reducible repeat (first | refine blk_drewN ?_ _ | refine blk_drew ?_ | refine blk_alloc ?_ _)); exact BK182.out) Tryz.underlying73 rfl (by kernel_rfl)) rfl ?_
                  exact ⟨by first | rfl | (simp [errW_none, errW_some] <;> rfl) | (simp [*, errW_none, errW_some] <;> rfl), by repeat (first | (with_reducible first | exact HB.out | apply below_alloc | apply pw_below_drewN | apply below_drew1 | refine below_set ?_ GE182.out) | exact HB.out)⟩
                · rw [if_neg c40] at H
                  have c40b0 : decide ((rd x4_1 5) < 0) = false := decide_eq_false c40
                  clear c40
                  by_cases c44 : 6 < (x4_1.length : Int)
                  · rw [if_pos c44] at H
                    have c44b0 : decide (6 < (x4_1.length : Int)) = true := decide_eq_true c44
                    have c44b1 : decide (6 < x4_1.length) = true := decide_eq_true (by omega)
                    clear c44
                    by_cases c45 : (rd x4_1 6) < 0
                    · rw [if_pos c45] at H
                      have c45b0 : decide ((rd x4_1 6) < 0) = true := decide_eq_true c45
                      clear c45
                      simp only [Option.some.injEq, Prod.mk.injEq] at H
                      obtain ⟨rfl, rfl, rfl, rfl, rfl, rfl, rfl, rfl⟩ := H
                      try go_wp2
                      obtain ⟨Ao47, co47, eo47⟩ := Kd.R_slice HO_4.out
                      (first | subst eo47 | (injection eo47 with f1_ f2_ f3_; have f4_ := f1_.symm; have f5_ := f3_.symm; clear f1_ f2_ f3_; subst f4_; subst f5_))
                      have p183 : 0 ≤ (5 : Int) := (by omega)
                      have q183 : 5 < (x4_1.length : Int) := of_decide_eq_true (by first | (with_reducible assumption) | assumption)
                      obtain ⟨ad183, e183, hx183_0⟩ := Kd.at_int (Kd.R_reads' HO_4.out).2.2 5 p183 q183
                      cases e183
                      (try simp only [show (5 : Int).toNat = 5 from rfl, Nat.reduceMul, Nat.reduceEqDiff, Go.Addr.add, ↓reduceIte] at hx183_0)
                      have qi183 : (5 < x4_1.length) = True := eq_true (by omega)
                      (try rw [show ((5 : Int)).toNat = 5 from rfl] at hx183_0)
                      replace p183 := eq_true p183
                      replace q183 := eq_true q183
                      have p184 : 0 ≤ (6 : Int) := (by omega)
                      have q184 : 6 < (x4_1.length : Int) := of_decide_eq_true (by first | (with_reducible assumption) | assumption)
                      obtain ⟨ad184, e184, hx184_0⟩ := Kd.at_int (Kd.R_reads' HO_4.out).2.2 6 p184 q184
                      obtain rfl : ad183 = ad184 := (by injection e184)
                      (try simp only [show (6 : Int).toNat = 6 from rfl, Nat.reduceMul, Nat.reduceEqDiff, Go.Addr.add, ↓reduceIte] at hx184_0)
                      have qi184 : (6 < x4_1.length) = True := eq_true (by omega)
                      (try rw [show ((6 : Int)).toNat = 6 from rfl] at hx184_0)
                      replace p184 := eq_true p184
                      replace q184 := eq_true q184
                      go_quiet (fail)
                      have n0_ := Aside0.mk (Kd.R_drewN HO_4.out nq)
                      have n1_ := Aside0.mk (blk_drewN BK182.out nq)
                      have n2_ := Aside0.mk (pw_below_drewN HB.out nq)
                      clear HO_4 BK182 HB
                      have HO_4 := n0_
                      have BK182 := n1_
                      have HB := n2_
                      clear n0_ n1_ n2_
                      generalize wc.drewN nq = w46 at HO_4 BK182 HB ⊢
                      have hcz48_0 : w46.cell? ⟨gb182, 0, none⟩ = some (.int .i64 x183000_1) := (blk_cell BK182.out 0).trans rfl
                      have hcz48_1 : w46.cell? ⟨gb182, 1, none⟩ = some (.int .i64 x183001_1) := (blk_cell BK182.out 1).trans rfl
                      have hcz48_2 : w46.cell? ⟨gb182, 2, none⟩ = some (.int .i64 x183002_1) := (blk_cell BK182.out 2).trans rfl
                      have hcz48_3 : w46.cell? ⟨gb182, 3, none⟩ = some (.int .i64 x183003_1) := (blk_cell BK182.out 3).trans rfl
                      have hcz48_4 : w46.cell? ⟨gb182, 4, none⟩ = some (.int .i64 x183004_1) := (blk_cell BK182.out 4).trans rfl
                      have hcz48_5 : w46.cell? ⟨gb182, 5, none⟩ = some (.string x183005_1) := (blk_cell BK182.out 5).trans rfl
                      have hcz48_6 : w46.cell? ⟨gb182, 6, none⟩ = some (.string x183006_1) := (blk_cell BK182.out 6).trans rfl
                      have hfz48_0 := blk_frozen BK182.out 0
                      have hfz48_1 := blk_frozen BK182.out 1
                      have hfz48_2 := blk_frozen BK182.out 2
                      have hfz48_3 := blk_frozen BK182.out 3
                      have hfz48_4 := blk_frozen BK182.out 4
                      have hfz48_5 := blk_frozen BK182.out 5
                      have hfz48_6 := blk_frozen BK182.out 6
                      try go_wp2
                      refine bodyPost_ret (results_ct rfl _ _ gb182 73 #[.int .i64 0, .int .i64 0, .int .i64 0, .int .i64 0, .int .i64 0, .string (⟨#[]⟩ : ByteArray), .string (⟨#[]⟩ : ByteArray)] (0, 0) _ rfl (by (with_reducible repeat (first | refine blk_drewN ?_ _ | refine blk_drew ?_ | refine blk_alloc ?_ _)); refine blk_put (cs := #[.int .i64 0, .int .i64 0, .int .i64 0, .int .i64 0, .int .i64 0, .string (⟨#[]⟩ : ByteArray), .string x183006_1]) ?_ 6 _ rfl; (with_reducible repeat (first | refine blk_drewN ?_ _ | refine blk_drew ?_ | refine blk_alloc ?_ _)); refine blk_put (cs := #[.int .i64 0, .int .i64 0, .int .i64 0, .int .i64 0, .int .i64 0, .string x183005_1, .string x183006_1]) ?_ 5 _ rfl; (with_reducible repeat (first | refine blk_drewN ?_ _ | refine blk_drew ?_ | refine blk_alloc ?_ _)); refine blk_put (cs := #[.int .i64 0, .int .i64 0, .int .i64 0, .int .i64 0, .int .i64 x183004_1, .string x183005_1, .string x183006_1]) ?_ 4 _ rfl; (with_reducible repeat (first | refine blk_drewN ?_ _ | refine blk_drew ?_ | refine blk_alloc ?_ _)); refine blk_put (cs := #[.int .i64 0, .int .i64 0, .int .i64 0, .int .i64 x183003_1, .int .i64 x183004_1, .string x183005_1, .string x183006_1]) ?_ 3 _ rfl; (with_reducible repeat (first | refine blk_drewN ?_ _ | refine blk_drew ?_ | refine blk_alloc ?_ _)); refine blk_put (cs := #[.int .i64 0, .int .i64 0, .int .i64 x183002_1, .int .i64 x183003_1, .int .i64 x183004_1, .string x183005_1, .string x183006_1]) ?_ 2 _ rfl; (with_reducible repeat (first | refine blk_drewN ?_ _ | refine blk_drew ?_ | refine blk_alloc ?_ _)); refine blk_put (cs := #[.int .i64 0, .int .i64 x183001_1, .int .i64 x183002_1, .int .i64 x183003_1, .int .i64 x183004_1, .string x183005_1, .string x183006_1]) ?_ 1 _ rfl; (with_reducible repeat (first | refine blk_drewN ?_ _ | refine blk_drew ?_ | refine blk_alloc ?_ _)); refine blk_put (cs := #[.int .i64 x183000_1, .int .i64 x183001_1, .int .i64 x183002_1, .int .i64 x183003_1, .int .i64 x183004_1, .string x183005_1, .string x183006_1]) ?_ 0 _ rfl; (with_reducible repeat (first | refine blk_drewN ?_ _ | refine blk_drew ?_ | refine blk_alloc ?_ _)); exact BK182.out) Tryz.underlying73 rfl (by kernel_rfl)) rfl ?_
                      exact ⟨by first | rfl | (simp [errW_none, errW_some] <;> rfl) | (simp [*, errW_none, errW_some] <;> rfl), by repeat (first | (with_reducible first | exact HB.out | apply below_alloc | apply pw_below_drewN | apply below_drew1 | refine below_set ?_ GE182.out) | exact HB.out)⟩
                    · rw [if_neg c45] at H
                      have c45b0 : decide ((rd x4_1 6) < 0) = false := decide_eq_false c45
                      clear c45
                      by_cases c49 : (rd x4_1 5) > (wrap64 ((a0.size : Int) - x5_1))
                      · rw [if_pos c49] at H
                        have c49b0 : decide ((wrap64 ((a0.size : Int) - x5_1)) < (rd x4_1 5)) = true := decide_eq_true c49
                        clear c49
                        simp only [Option.some.injEq, Prod.mk.injEq] at H
                        obtain ⟨rfl, rfl, rfl, rfl, rfl, rfl, rfl, rfl⟩ := H
                        try go_wp2
                        obtain ⟨Ao51, co51, eo51⟩ := Kd.R_slice HO_4.out
                        (first | subst eo51 | (injection eo51 with f1_ f2_ f3_; have f4_ := f1_.symm; have f5_ := f3_.symm; clear f1_ f2_ f3_; subst f4_; subst f5_))
                        have p183 : 0 ≤ (5 : Int) := (by omega)
                        have q183 : 5 < (x4_1.length : Int) := of_decide_eq_true (by first | (with_reducible assumption) | assumption)
                        obtain ⟨ad183, e183, hx183_0⟩ := Kd.at_int (Kd.R_reads' HO_4.out).2.2 5 p183 q183
                        cases e183
                        (try simp only [show (5 : Int).toNat = 5 from rfl, Nat.reduceMul, Nat.reduceEqDiff, Go.Addr.add, ↓reduceIte] at hx183_0)
                        have qi183 : (5 < x4_1.length) = True := eq_true (by omega)
                        (try rw [show ((5 : Int)).toNat = 5 from rfl] at hx183_0)
                        replace p183 := eq_true p183
                        replace q183 := eq_true q183
                        have p184 : 0 ≤ (6 : Int) := (by omega)
                        have q184 : 6 < (x4_1.length : Int) := of_decide_eq_true (by first | (with_reducible assumption) | assumption)
                        obtain ⟨ad184, e184, hx184_0⟩ := Kd.at_int (Kd.R_reads' HO_4.out).2.2 6 p184 q184
                        obtain rfl : ad183 = ad184 := (by injection e184)
                        (try simp only [show (6 : Int).toNat = 6 from rfl, Nat.reduceMul, Nat.reduceEqDiff, Go.Addr.add, ↓reduceIte] at hx184_0)
                        have qi184 : (6 < x4_1.length) = True := eq_true (by omega)
                        (try rw [show ((6 : Int)).toNat = 6 from rfl] at hx184_0)
                        replace p184 := eq_true p184
                        replace q184 := eq_true q184
                        have p185 : 0 ≤ (5 : Int) := (by omega)
                        have q185 : 5 < (x4_1.length : Int) := of_decide_eq_true (by first | (with_reducible assumption) | assumption)
                        obtain ⟨ad185, e185, hx185_0⟩ := Kd.at_int (Kd.R_reads' HO_4.out).2.2 5 p185 q185
                        obtain rfl : ad183 = ad185 := (by injection e185)
                        (try simp only [show (5 : Int).toNat = 5 from rfl, Nat.reduceMul, Nat.reduceEqDiff, Go.Addr.add, ↓reduceIte] at hx185_0)
                        have qi185 : (5 < x4_1.length) = True := eq_true (by omega)
                        (try rw [show ((5 : Int)).toNat = 5 from rfl] at hx185_0)
                        replace p185 := eq_true p185
                        replace q185 := eq_true q185
                        go_quiet (fail)
                        have n0_ := Aside0.mk (Kd.R_drewN HO_4.out nq)
                        have n1_ := Aside0.mk (blk_drewN BK182.out nq)
                        have n2_ := Aside0.mk (pw_below_drewN HB.out nq)
                        clear HO_4 BK182 HB
                        have HO_4 := n0_
                        have BK182 := n1_
                        have HB := n2_
                        clear n0_ n1_ n2_
                        generalize wc.drewN nq = w50 at HO_4 BK182 HB ⊢
                        have hcz52_0 : w50.cell? ⟨gb182, 0, none⟩ = some (.int .i64 x183000_1) := (blk_cell BK182.out 0).trans rfl
                        have hcz52_1 : w50.cell? ⟨gb182, 1, none⟩ = some (.int .i64 x183001_1) := (blk_cell BK182.out 1).trans rfl
                        have hcz52_2 : w50.cell? ⟨gb182, 2, none⟩ = some (.int .i64 x183002_1) := (blk_cell BK182.out 2).trans rfl
                        have hcz52_3 : w50.cell? ⟨gb182, 3, none⟩ = some (.int .i64 x183003_1) := (blk_cell BK182.out 3).trans rfl
                        have hcz52_4 : w50.cell? ⟨gb182, 4, none⟩ = some (.int .i64 x183004_1) := (blk_cell BK182.out 4).trans rfl
                        have hcz52_5 : w50.cell? ⟨gb182, 5, none⟩ = some (.string x183005_1) := (blk_cell BK182.out 5).trans rfl
                        have hcz52_6 : w50.cell? ⟨gb182, 6, none⟩ = some (.string x183006_1) := (blk_cell BK182.out 6).trans rfl
                        have hfz52_0 := blk_frozen BK182.out 0
                        have hfz52_1 := blk_frozen BK182.out 1
                        have hfz52_2 := blk_frozen BK182.out 2
                        have hfz52_3 := blk_frozen BK182.out 3
                        have hfz52_4 := blk_frozen BK182.out 4
                        have hfz52_5 := blk_frozen BK182.out 5
                        have hfz52_6 := blk_frozen BK182.out 6
                        try go_wp2
                        refine bodyPost_ret (results_ct rfl _ _ gb182 73 #[.int .i64 0, .int .i64 0, .int .i64 0, .int .i64 0, .int .i64 0, .string (⟨#[]⟩ : ByteArray), .string (⟨#[]⟩ : ByteArray)] (0, 0) _ rfl (by (with_reducible repeat (first | refine blk_drewN ?_ _ | refine blk_drew ?_ | refine blk_alloc ?_ _)); refine blk_put (cs := #[.int .i64 0, .int .i64 0, .int .i64 0, .int .i64 0, .int .i64 0, .string (⟨#[]⟩ : ByteArray), .string x183006_1]) ?_ 6 _ rfl; (with_reducible repeat (first | refine blk_drewN ?_ _ | refine blk_drew ?_ | refine blk_alloc ?_ _)); refine blk_put (cs := #[.int .i64 0, .int .i64 0, .int .i64 0, .int .i64 0, .int .i64 0, .string x183005_1, .string x183006_1]) ?_ 5 _ rfl; (with_reducible repeat (first | refine blk_drewN ?_ _ | refine blk_drew ?_ | refine blk_alloc ?_ _)); refine blk_put (cs := #[.int .i64 0, .int .i64 0, .int .i64 0, .int .i64 0, .int .i64 x183004_1, .string x183005_1, .string x183006_1]) ?_ 4 _ rfl; (with_reducible repeat (first | refine blk_drewN ?_ _ | refine blk_drew ?_ | refine blk_alloc ?_ _)); refine blk_put (cs := #[.int .i64 0, .int .i64 0, .int .i64 0, .int .i64 x183003_1, .int .i64 x183004_1, .string x183005_1, .string x183006_1]) ?_ 3 _ rfl; (with_reducible repeat (first | refine blk_drewN ?_ _ | refine blk_drew ?_ | refine blk_alloc ?_ _)); refine blk_put (cs := #[.int .i64 0, .int .i64 0, .int .i64 x183002_1, .int .i64 x183003_1, .int .i64 x183004_1, .string x183005_1, .string x183006_1]) ?_ 2 _ rfl; (with_reducible repeat (first | refine blk_drewN ?_ _ | refine blk_drew ?_ | refine blk_alloc ?_ _)); refine blk_put (cs := #[.int .i64 0, .int .i64 x183001_1, .int .i64 x183002_1, .int .i64 x183003_1, .int .i64 x183004_1, .string x183005_1, .string x183006_1]) ?_ 1 _ rfl; (with_reducible repeat (first | refine blk_drewN ?_ _ | refine blk_drew ?_ | refine blk_alloc ?_ _)); refine blk_put (cs := #[.int .i64 x183000_1, .int .i64 x183001_1, .int .i64 x183002_1, .int .i64 x183003_1, .int .i64 x183004_1, .string x183005_1, .string x183006_1]) ?_ 0 _ rfl; (with_reducible repeat (first | refine blk_drewN ?_ _ | refine blk_drew ?_ | refine blk_alloc ?_ _)); exact BK182.out) Tryz.underlying73 rfl (by kernel_rfl)) rfl ?_
                        exact ⟨by first | rfl | (simp [errW_none, errW_some] <;> rfl) | (simp [*, errW_none, errW_some] <;> rfl), by repeat (first | (with_reducible first | exact HB.out | apply below_alloc | apply pw_below_drewN | apply below_drew1 | refine below_set ?_ GE182.out) | exact HB.out)⟩
                      · rw [if_neg c49] at H
                        have c49b0 : decide ((wrap64 ((a0.size : Int) - x5_1)) < (rd x4_1 5)) = false := decide_eq_false c49
                        clear c49
                        by_cases c53 : (rd x4_1 6) = (wrap64 ((wrap64 ((a0.size : Int) - x5_1)) - (rd x4_1 5)))
                        · rw [if_pos c53] at H
                          have c53b0 : ((rd x4_1 6) == (wrap64 ((wrap64 ((a0.size : Int) - x5_1)) - (rd x4_1 5)))) = true := beq_iff_eq.mpr c53
                          have c53b1 : ((rd x4_1 6) != (wrap64 ((wrap64 ((a0.size : Int) - x5_1)) - (rd x4_1 5)))) = false := bne_eq_false_iff_eq.mpr c53
                          clear c53
                          by_cases c54 : 0 < (x4_1.length : Int)
                          · rw [if_pos c54] at H
                            have c54b0 : decide (0 < (x4_1.length : Int)) = true := decide_eq_true c54
                            have c54b1 : decide (0 < x4_1.length) = true := decide_eq_true (by omega)
                            clear c54
                            by_cases c55 : 1 < (x4_1.length : Int)
                            · rw [if_pos c55] at H
                              have c55b0 : decide (1 < (x4_1.length : Int)) = true := decide_eq_true c55
                              have c55b1 : decide (1 < x4_1.length) = true := decide_eq_true (by omega)
                              clear c55
                              by_cases c56 : 2 < (x4_1.length : Int)
                              · rw [if_pos c56] at H
                                have c56b0 : decide (2 < (x4_1.length : Int)) = true := decide_eq_true c56
                                have c56b1 : decide (2 < x4_1.length) = true := decide_eq_true (by omega)
                                clear c56
                                by_cases c57 : 3 < (x4_1.length : Int)
                                · rw [if_pos c57] at H
                                  have c57b0 : decide (3 < (x4_1.length : Int)) = true := decide_eq_true c57
                                  have c57b1 : decide (3 < x4_1.length) = true := decide_eq_true (by omega)
                                  clear c57
                                  by_cases c58 : 4 < (x4_1.length : Int)
                                  · rw [if_pos c58] at H
                                    have c58b0 : decide (4 < (x4_1.length : Int)) = true := decide_eq_true c58
                                    have c58b1 : decide (4 < x4_1.length) = true := decide_eq_true (by omega)
                                    clear c58
                                    by_cases c59 : 0 ≤ x5_1
                                    · rw [if_pos c59] at H
                                      have c59b0 := eq_true c59
                                      have c59b1 : decide (0 ≤ x5_1) = true := decide_eq_true c59
                                      clear c59
                                      by_cases c60 : x5_1 ≤ (wrap64 (x5_1 + (rd x4_1 5)))
                                      · rw [if_pos c60] at H
                                        have c60b0 := eq_true c60
                                        have c60b1 : decide (x5_1 ≤ (wrap64 (x5_1 + (rd x4_1 5)))) = true := decide_eq_true c60
                                        by_cases c61 : (wrap64 (x5_1 + (rd x4_1 5))) ≤ (a0.size : Int)
                                        · rw [if_pos c61] at H
                                          have c61b0 := eq_true c61
                                          have c61b1 : decide ((wrap64 (x5_1 + (rd x4_1 5))) ≤ (a0.size : Int)) = true := decide_eq_true c61
                                          obtain ⟨ji62, hji62⟩ : ∃ j_ : Int, (wrap64 (x5_1 + (rd x4_1 5))) = j_ := ⟨_, rfl⟩
                                          replace H : (if 0 ≤ (ji62) then (some (rd x4_1 0, rd x4_1 1, rd x4_1 2, rd x4_1 3, rd x4_1 4, a0.extract (x5_1 : Int).toNat ((ji62) : Int).toNat, a0.extract ((ji62) : Int).toNat a0.size, 0)) else (none)) = some (r1, r2, r3, r4, r5, r6, r7, r8) := by first | (rw [hji62] at H; exact H) | (simp only [hji62] at H ⊢; exact H)
                                          (try rw [hji62] at c60b0)
                                          (try rw [hji62] at c60b1)
                                          (try rw [hji62] at c60)
                                          (try rw [hji62] at c61b0)
                                          (try rw [hji62] at c61b1)
                                          (try rw [hji62] at c61)
                                          have hji62w : (IntKind.i64.wrap (x5_1 + (rd x4_1 5))) = ji62 := (i64_w _).trans hji62
                                          by_cases c63 : 0 ≤ (ji62)
                                          · rw [if_pos c63] at H
                                            have c63b0 := eq_true c63
                                            have c63b1 : decide (0 ≤ (ji62)) = true := decide_eq_true c63
                                            clear c63
                                            have c64b0 := eq_true (of_decide_eq_true (by first | (with_reducible assumption) | assumption) : (ji62) ≤ (a0.size : Int))
                                            simp only [Option.some.injEq, Prod.mk.injEq] at H
                                            obtain ⟨rfl, rfl, rfl, rfl, rfl, rfl, rfl, rfl⟩ := H
                                            try go_wp2
                                            obtain ⟨Ao66, co66, eo66⟩ := Kd.R_slice HO_4.out
                                            (first | subst eo66 | (injection eo66 with f1_ f2_ f3_; have f4_ := f1_.symm; have f5_ := f3_.symm; clear f1_ f2_ f3_; subst f4_; subst f5_))
                                            have p183 : 0 ≤ (5 : Int) := (by omega)
                                            have q183 : 5 < (x4_1.length : Int) := of_decide_eq_true (by first | (with_reducible assumption) | assumption)
                                            obtain ⟨ad183, e183, hx183_0⟩ := Kd.at_int (Kd.R_reads' HO_4.out).2.2 5 p183 q183
                                            cases e183
                                            (try simp only [show (5 : Int).toNat = 5 from rfl, Nat.reduceMul, Nat.reduceEqDiff, Go.Addr.add, ↓reduceIte] at hx183_0)
                                            have qi183 : (5 < x4_1.length) = True := eq_true (by omega)
                                            (try rw [show ((5 : Int)).toNat = 5 from rfl] at hx183_0)
                                            replace p183 := eq_true p183
                                            replace q183 := eq_true q183
                                            have p184 : 0 ≤ (6 : Int) := (by omega)
                                            have q184 : 6 < (x4_1.length : Int) := of_decide_eq_true (by first | (with_reducible assumption) | assumption)
                                            obtain ⟨ad184, e184, hx184_0⟩ := Kd.at_int (Kd.R_reads' HO_4.out).2.2 6 p184 q184
                                            obtain rfl : ad183 = ad184 := (by injection e184)
                                            (try simp only [show (6 : Int).toNat = 6 from rfl, Nat.reduceMul, Nat.reduceEqDiff, Go.Addr.add, ↓reduceIte] at hx184_0)
                                            have qi184 : (6 < x4_1.length) = True := eq_true (by omega)
                                            (try rw [show ((6 : Int)).toNat = 6 from rfl] at hx184_0)
                                            replace p184 := eq_true p184
                                            replace q184 := eq_true q184
                                            have p185 : 0 ≤ (5 : Int) := (by omega)
                                            have q185 : 5 < (x4_1.length : Int) := of_decide_eq_true (by first | (with_reducible assumption) | assumption)
                                            obtain ⟨ad185, e185, hx185_0⟩ := Kd.at_int (Kd.R_reads' HO_4.out).2.2 5 p185 q185
                                            obtain rfl : ad183 = ad185 := (by injection e185)
                                            (try simp only [show (5 : Int).toNat = 5 from rfl, Nat.reduceMul, Nat.reduceEqDiff, Go.Addr.add, ↓reduceIte] at hx185_0)
                                            have qi185 : (5 < x4_1.length) = True := eq_true (by omega)
                                            (try rw [show ((5 : Int)).toNat = 5 from rfl] at hx185_0)
                                            replace p185 := eq_true p185
                                            replace q185 := eq_true q185
                                            have p186 : 0 ≤ (6 : Int) := (by omega)
                                            have q186 : 6 < (x4_1.length : Int) := of_decide_eq_true (by first | (with_reducible assumption) | assumption)
                                            obtain ⟨ad186, e186, hx186_0⟩ := Kd.at_int (Kd.R_reads' HO_4.out).2.2 6 p186 q186
                                            obtain rfl : ad183 = ad186 := (by injection e186)
                                            (try simp only [show (6 : Int).toNat = 6 from rfl, Nat.reduceMul, Nat.reduceEqDiff, Go.Addr.add, ↓reduceIte] at hx186_0)
                                            have qi186 : (6 < x4_1.length) = True := eq_true (by omega)
                                            (try rw [show ((6 : Int)).toNat = 6 from rfl] at hx186_0)
                                            replace p186 := eq_true p186
                                            replace q186 := eq_true q186
                                            have p187 : 0 ≤ (5 : Int) := (by omega)
                                            have q187 : 5 < (x4_1.length : Int) := of_decide_eq_true (by first | (with_reducible assumption) | assumption)
                                            obtain ⟨ad187, e187, hx187_0⟩ := Kd.at_int (Kd.R_reads' HO_4.out).2.2 5 p187 q187
                                            obtain rfl : ad183 = ad187 := (by injection e187)
                                            (try simp only [show (5 : Int).toNat = 5 from rfl, Nat.reduceMul, Nat.reduceEqDiff, Go.Addr.add, ↓reduceIte] at hx187_0)
                                            have qi187 : (5 < x4_1.length) = True := eq_true (by omega)
                                            (try rw [show ((5 : Int)).toNat = 5 from rfl] at hx187_0)
                                            replace p187 := eq_true p187
                                            replace q187 := eq_true q187
                                            go_quiet (fail)
                                            have n0_ := Aside0.mk (Kd.R_drewN HO_4.out nq)
                                            have n1_ := Aside0.mk (blk_drewN BK182.out nq)
                                            have n2_ := Aside0.mk (pw_below_drewN HB.out nq)
                                            clear HO_4 BK182 HB
                                            have HO_4 := n0_
                                            have BK182 := n1_
                                            have HB := n2_
                                            clear n0_ n1_ n2_
                                            generalize wc.drewN nq = w65 at HO_4 BK182 HB ⊢
                                            have p188 : 0 ≤ (5 : Int) := (by omega)
                                            have q188 : 5 < (x4_1.length : Int) := of_decide_eq_true (by first | (with_reducible assumption) | assumption)
                                            obtain ⟨ad188, e188, hx188_0⟩ := Kd.at_int (Kd.R_reads' HO_4.out).2.2 5 p188 q188
                                            obtain rfl : ad183 = ad188 := (by injection e188)
                                            (try simp only [show (5 : Int).toNat = 5 from rfl, Nat.reduceMul, Nat.reduceEqDiff, Go.Addr.add, ↓reduceIte] at hx188_0)
                                            have qi188 : (5 < x4_1.length) = True := eq_true (by omega)
                                            (try rw [show ((5 : Int)).toNat = 5 from rfl] at hx188_0)
                                            replace p188 := eq_true p188
                                            replace q188 := eq_true q188
                                            try go_wp2
                                            have n0_ := Aside0.mk (Kd.R_drew HO_4.out)
                                            have n1_ := Aside0.mk (blk_drew BK182.out)
                                            have n2_ := Aside0.mk (below_drew1 HB.out)
                                            clear HO_4
                                            clear BK182
                                            clear HB
                                            have HO_4 := n0_
                                            have BK182 := n1_
                                            have HB := n2_
                                            clear n0_ n1_ n2_
                                            have p189 : 0 ≤ (0 : Int) := (by omega)
                                            have q189 : 0 < (x4_1.length : Int) := of_decide_eq_true (by first | (with_reducible assumption) | assumption)
                                            obtain ⟨ad189, e189, hx189_0⟩ := Kd.at_int (Kd.R_reads' HO_4.out).2.2 0 p189 q189
                                            obtain rfl : ad183 = ad189 := (by injection e189)
                                            have qi189 : (0 < x4_1.length) = True := eq_true (by omega)
                                            (try rw [show ((0 : Int)).toNat = 0 from rfl] at hx189_0)
                                            (try rw [Addr.add_zero'] at hx189_0)
                                            replace p189 := eq_true p189
                                            replace q189 := eq_true q189
                                            have p190 : 0 ≤ (1 : Int) := (by omega)
                                            have q190 : 1 < (x4_1.length : Int) := of_decide_eq_true (by first | (with_reducible assumption) | assumption)
                                            obtain ⟨ad190, e190, hx190_0⟩ := Kd.at_int (Kd.R_reads' HO_4.out).2.2 1 p190 q190
                                            obtain rfl : ad183 = ad190 := (by injection e190)
                                            (try simp only [show (1 : Int).toNat = 1 from rfl, Nat.reduceMul, Nat.reduceEqDiff, Go.Addr.add, ↓reduceIte] at hx190_0)
                                            have qi190 : (1 < x4_1.length) = True := eq_true (by omega)
                                            (try rw [show ((1 : Int)).toNat = 1 from rfl] at hx190_0)
                                            replace p190 := eq_true p190
                                            replace q190 := eq_true q190
                                            have p191 : 0 ≤ (2 : Int) := (by omega)
                                            have q191 : 2 < (x4_1.length : Int) := of_decide_eq_true (by first | (with_reducible assumption) | assumption)
                                            obtain ⟨ad191, e191, hx191_0⟩ := Kd.at_int (Kd.R_reads' HO_4.out).2.2 2 p191 q191
                                            obtain rfl : ad183 = ad191 := (by injection e191)
                                            (try simp only [show (2 : Int).toNat = 2 from rfl, Nat.reduceMul, Nat.reduceEqDiff, Go.Addr.add, ↓reduceIte] at hx191_0)
                                            have qi191 : (2 < x4_1.length) = True := eq_true (by omega)
                                            (try rw [show ((2 : Int)).toNat = 2 from rfl] at hx191_0)
                                            replace p191 := eq_true p191
                                            replace q191 := eq_true q191
                                            have p192 : 0 ≤ (3 : Int) := (by omega)
                                            have q192 : 3 < (x4_1.length : Int) := of_decide_eq_true (by first | (with_reducible assumption) | assumption)
                                            obtain ⟨ad192, e192, hx192_0⟩ := Kd.at_int (Kd.R_reads' HO_4.out).2.2 3 p192 q192
                                            obtain rfl : ad183 = ad192 := (by injection e192)
                                            (try simp only [show (3 : Int).toNat = 3 from rfl, Nat.reduceMul, Nat.reduceEqDiff, Go.Addr.add, ↓reduceIte] at hx192_0)
                                            have qi192 : (3 < x4_1.length) = True := eq_true (by omega)
                                            (try rw [show ((3 : Int)).toNat = 3 from rfl] at hx192_0)
                                            replace p192 := eq_true p192
                                            replace q192 := eq_true q192
                                            have p193 : 0 ≤ (4 : Int) := (by omega)
                                            have q193 : 4 < (x4_1.length : Int) := of_decide_eq_true (by first | (with_reducible assumption) | assumption)
                                            obtain ⟨ad193, e193, hx193_0⟩ := Kd.at_int (Kd.R_reads' HO_4.out).2.2 4 p193 q193
                                            obtain rfl : ad183 = ad193 := (by injection e193)
                                            (try simp only [show (4 : Int).toNat = 4 from rfl, Nat.reduceMul, Nat.reduceEqDiff, Go.Addr.add, ↓reduceIte] at hx193_0)
                                            have qi193 : (4 < x4_1.length) = True := eq_true (by omega)
                                            (try rw [show ((4 : Int)).toNat = 4 from rfl] at hx193_0)
                                            replace p193 := eq_true p193
                                            replace q193 := eq_true q193
                                            refine start_ (n := 26) (S := fun w' => w'.cell? ad183 = some (.int .i64 (rd x4_1 0)) ∧ w'.cell? ⟨ad183.block, ad183.off + 1, none⟩ = some (.int .i64 (rd x4_1 1)) ∧ w'.cell? ⟨ad183.block, ad183.off + 2, none⟩ = some (.int .i64 (rd x4_1 2)) ∧ w'.cell? ⟨ad183.block, ad183.off + 3, none⟩ = some (.int .i64 (rd x4_1 3)) ∧ w'.cell? ⟨ad183.block, ad183.off + 4, none⟩ = some (.int .i64 (rd x4_1 4))) (ds := []) #[false, false, false, false, false, false, false, false, false, false, false, false, false, false, false, false, false, false, false, false, false, false, false, false, false, false] (by kernel_rfl) rfl rfl ⟨hx189_0, hx190_0, hx191_0, hx192_0, hx193_0⟩ (fun hHeld => ?_); refine with_tabW emendateref52_DecodeEvent.tab15 emendateref52_DecodeEvent.bits15 (fun HT_ HW_ => ?_)
                                            generalize w65.drew = w67 at HO_4 BK182 HB hx189_0 hx190_0 hx191_0 hx192_0 hx193_0 hHeld ⊢
                                            refine pure_ (i := 0) (N := some 103) (v := ?_) (a' := ?_) #[true, false, false, false, false, false, false, false, false, false, false, false, false, false, false, false, false, false, false, false, false, false, false, false, false, false] rfl rfl (any_of HT_.out (by kernel_rfl)) (fun _ _ _ h => h) (Or.inl ⟨by rfl, ?_⟩) ?_ ?_
                                            rotate_left
                                            · intro w'
                                              go_simp
                                              with_reducible rfl
                                            rotate_left
                                            · simp only [Act.put, List.setIfInBounds_toArray, List.set_cons_zero, List.set_cons_succ, i64_w, i32_w]
                                              rfl
                                            refine pure_ (i := 1) (N := some 104) (v := ?_) (a' := ?_) #[true, true, false, false, false, false, false, false, false, false, false, false, false, false, false, false, false, false, false, false, false, false, false, false, false, false] rfl rfl (any_of HT_.out (by kernel_rfl)) (fun _ _ _ h => h) (Or.inl ⟨by rfl, ?_⟩) ?_ ?_
                                            rotate_left
                                            · intro w'
                                              go_simp
                                              with_reducible rfl
                                            rotate_left
                                            · simp only [Act.put, List.setIfInBounds_toArray, List.set_cons_zero, List.set_cons_succ, i64_w, i32_w]
                                              rfl
                                            refine pure_ (i := 3) (N := some 106) (v := ?_) (a' := ?_) #[true, true, false, true, false, false, false, false, false, false, false, false, false, false, false, false, false, false, false, false, false, false, false, false, false, false] rfl rfl (any_of HT_.out (by kernel_rfl)) (fun _ _ _ h => h) (Or.inl ⟨by rfl, ?_⟩) ?_ ?_
                                            rotate_left
                                            · intro w'
                                              go_simp
                                              with_reducible rfl
                                            rotate_left
                                            · simp only [Act.put, List.setIfInBounds_toArray, List.set_cons_zero, List.set_cons_succ, i64_w, i32_w]
                                              rfl
                                            refine pure_ (i := 4) (N := some 107) (v := ?_) (a' := ?_) #[true, true, false, true, true, false, false, false, false, false, false, false, false, false, false, false, false, false, false, false, false, false, false, false, false, false] rfl rfl (any_of HT_.out (by kernel_rfl)) (fun _ _ _ h => h) (Or.inl ⟨by rfl, ?_⟩) ?_ ?_
                                            rotate_left
                                            · intro w'
                                              go_simp
                                              with_reducible rfl
                                            rotate_left
                                            · simp only [Act.put, List.setIfInBounds_toArray, List.set_cons_zero, List.set_cons_succ, i64_w, i32_w]
                                              rfl
                                            refine pure_ (i := 6) (N := some 109) (v := ?_) (a' := ?_) #[true, true, false, true, true, false, true, false, false, false, false, false, false, false, false, false, false, false, false, false, false, false, false, false, false, false] rfl rfl (any_of HT_.out (by kernel_rfl)) (fun _ _ _ h => h) (Or.inl ⟨by rfl, ?_⟩) ?_ ?_
                                            rotate_left
                                            · intro w'
                                              go_simp
                                              with_reducible rfl
                                            rotate_left
                                            · simp only [Act.put, List.setIfInBounds_toArray, List.set_cons_zero, List.set_cons_succ, i64_w, i32_w]
                                              rfl
                                            refine pure_ (i := 7) (N := some 110) (v := ?_) (a' := ?_) #[true, true, false, true, true, false, true, true, false, false, false, false, false, false, false, false, false, false, false, false, false, false, false, false, false, false] rfl rfl (any_of HT_.out (by kernel_rfl)) (fun _ _ _ h => h) (Or.inl ⟨by rfl, ?_⟩) ?_ ?_
                                            rotate_left
                                            · intro w'
                                              go_simp
                                              with_reducible rfl
                                            rotate_left
                                            · simp only [Act.put, List.setIfInBounds_toArray, List.set_cons_zero, List.set_cons_succ, i64_w, i32_w]
                                              rfl
                                            refine pure_ (i := 9) (N := some 112) (v := ?_) (a' := ?_) #[true, true, false, true, true, false, true, true, false, true, false, false, false, false, false, false, false, false, false, false, false, false, false, false, false, false] rfl rfl (any_of HT_.out (by kernel_rfl)) (fun _ _ _ h => h) (Or.inl ⟨by rfl, ?_⟩) ?_ ?_
                                            rotate_left
                                            · intro w'
                                              go_simp
                                              with_reducible rfl
                                            rotate_left
                                            · simp only [Act.put, List.setIfInBounds_toArray, List.set_cons_zero, List.set_cons_succ, i64_w, i32_w]
                                              rfl
                                            refine pure_ (i := 10) (N := some 113) (v := ?_) (a' := ?_) #[true, true, false, true, true, false, true, true, false, true, true, false, false, false, false, false, false, false, false, false, false, false, false, false, false, false] rfl rfl (any_of HT_.out (by kernel_rfl)) (fun _ _ _ h => h) (Or.inl ⟨by rfl, ?_⟩) ?_ ?_
                                            rotate_left
                                            · intro w'
                                              go_simp
                                              with_reducible rfl
                                            rotate_left
                                            · simp only [Act.put, List.setIfInBounds_toArray, List.set_cons_zero, List.set_cons_succ, i64_w, i32_w]
                                              rfl
                                            refine pure_ (i := 12) (N := some 115) (v := ?_) (a' := ?_) #[true, true, false, true, true, false, true, true, false, true, true, false, true, false, false, false, false, false, false, false, false, false, false, false, false, false] rfl rfl (any_of HT_.out (by kernel_rfl)) (fun _ _ _ h => h) (Or.inl ⟨by rfl, ?_⟩) ?_ ?_
                                            rotate_left
                                            · intro w'
                                              go_simp
                                              with_reducible rfl
                                            rotate_left
                                            · simp only [Act.put, List.setIfInBounds_toArray, List.set_cons_zero, List.set_cons_succ, i64_w, i32_w]
                                              rfl
                                            refine pure_ (i := 13) (N := some 116) (v := ?_) (a' := ?_) #[true, true, false, true, true, false, true, true, false, true, true, false, true, true, false, false, false, false, false, false, false, false, false, false, false, false] rfl rfl (any_of HT_.out (by kernel_rfl)) (fun _ _ _ h => h) (Or.inl ⟨by rfl, ?_⟩) ?_ ?_
                                            rotate_left
                                            · intro w'
                                              go_simp
                                              with_reducible rfl
                                            rotate_left
                                            · simp only [Act.put, List.setIfInBounds_toArray, List.set_cons_zero, List.set_cons_succ, i64_w, i32_w]
                                              rfl
                                            refine pure_ (i := 15) (N := some 118) (v := ?_) (a' := ?_) #[true, true, false, true, true, false, true, true, false, true, true, false, true, true, false, true, false, false, false, false, false, false, false, false, false, false] rfl rfl (any_of HT_.out (by kernel_rfl)) (fun _ _ _ h => h) (Or.inl ⟨by rfl, ?_⟩) ?_ ?_
                                            rotate_left
                                            · intro w'
                                              go_simp
                                              with_reducible rfl
                                            rotate_left
                                            · simp only [Act.put, List.setIfInBounds_toArray, List.set_cons_zero, List.set_cons_succ, i64_w, i32_w]
                                              rfl
                                            refine pure_ (i := 16) (N := some 119) (v := ?_) (a' := ?_) #[true, true, false, true, true, false, true, true, false, true, true, false, true, true, false, true, true, false, false, false, false, false, false, false, false, false] rfl rfl (any_of HT_.out (by kernel_rfl)) (fun _ _ _ h => h) (Or.inl ⟨by rfl, ?_⟩) ?_ ?_
                                            rotate_left
                                            · intro w'
                                              go_simp
                                              with_reducible rfl
                                            rotate_left
                                            · simp only [Act.put, List.setIfInBounds_toArray, List.set_cons_zero, List.set_cons_succ, i64_w, i32_w]
                                              rfl
                                            refine pure_ (i := 17) (N := some 120) (v := ?_) (a' := ?_) #[true, true, false, true, true, false, true, true, false, true, true, false, true, true, false, true, true, true, false, false, false, false, false, false, false, false] rfl rfl (any_of HT_.out (by kernel_rfl)) (fun _ _ _ h => h) (Or.inl ⟨by rfl, ?_⟩) ?_ ?_
                                            rotate_left
                                            · intro w'
                                              go_simp
                                              with_reducible rfl
                                            rotate_left
                                            · simp only [Act.put, List.setIfInBounds_toArray, List.set_cons_zero, List.set_cons_succ, i64_w, i32_w]
                                              rfl
                                            refine pure_ (i := 18) (N := some 121) (v := ?_) (a' := ?_) #[true, true, false, true, true, false, true, true, false, true, true, false, true, true, false, true, true, true, true, false, false, false, false, false, false, false] rfl rfl (any_of HT_.out (by kernel_rfl)) (fun _ _ _ h => h) (Or.inl ⟨by rfl, ?_⟩) ?_ ?_
                                            rotate_left
                                            · intro w'
                                              go_simp
                                              with_reducible rfl
                                            rotate_left
                                            · simp only [Act.put, List.setIfInBounds_toArray, List.set_cons_zero, List.set_cons_succ, i64_w, i32_w]
                                              rfl
                                            refine pure_ (i := 20) (N := some 123) (v := ?_) (a' := ?_) #[true, true, false, true, true, false, true, true, false, true, true, false, true, true, false, true, true, true, true, false, true, false, false, false, false, false] rfl rfl (any_of HT_.out (by kernel_rfl)) (fun _ _ _ h => h) (Or.inl ⟨by rfl, ?_⟩) ?_ ?_
                                            rotate_left
                                            · intro w'
                                              go_simp
                                              with_reducible rfl
                                            rotate_left
                                            · simp only [Act.put, List.setIfInBounds_toArray, List.set_cons_zero, List.set_cons_succ, i64_w, i32_w]
                                              rfl
                                            refine pure_ (i := 21) (N := some 124) (v := ?_) (a' := ?_) #[true, true, false, true, true, false, true, true, false, true, true, false, true, true, false, true, true, true, true, false, true, true, false, false, false, false] rfl rfl (any_of HT_.out (by kernel_rfl)) (fun _ _ _ h => h) (Or.inl ⟨by rfl, ?_⟩) ?_ ?_
                                            rotate_left
                                            · intro w'
                                              go_simp
                                              with_reducible rfl
                                            rotate_left
                                            · simp only [Act.put, List.setIfInBounds_toArray, List.set_cons_zero, List.set_cons_succ, i64_w, i32_w]
                                              rfl
                                            refine pure_ (i := 22) (N := some 125) (v := ?_) (a' := ?_) #[true, true, false, true, true, false, true, true, false, true, true, false, true, true, false, true, true, true, true, false, true, true, true, false, false, false] rfl rfl (any_of HT_.out (by kernel_rfl)) (fun _ _ _ h => h) (Or.inl ⟨by rfl, ?_⟩) ?_ ?_
                                            rotate_left
                                            · intro w'
                                              go_simp
                                              with_reducible rfl
                                            rotate_left
                                            · simp only [Act.put, List.setIfInBounds_toArray, List.set_cons_zero, List.set_cons_succ, i64_w, i32_w]
                                              rfl
                                            refine take_ (i := 2) (N := some 105) (v := ?_) (a' := ?_) #[true, true, true, true, true, false, true, true, false, true, true, false, true, true, false, true, true, true, true, false, true, true, true, false, false, false] rfl rfl (take_ofW HT_.out HW_.out (by kernel_rfl)) (fun _ _ _ h => h) (Or.inl ⟨by rfl, ?_⟩) hHeld ?_ ?_
                                            rotate_left
                                            · rintro w' ⟨s0, s1, s2, s3, s4⟩
                                              go_simp
                                              with_reducible rfl
                                            rotate_left
                                            · simp only [Act.put, List.setIfInBounds_toArray, List.set_cons_zero, List.set_cons_succ, i64_w, i32_w]
                                              rfl
                                            refine take_ (i := 5) (N := some 108) (v := ?_) (a' := ?_) #[true, true, true, true, true, true, true, true, false, true, true, false, true, true, false, true, true, true, true, false, true, true, true, false, false, false] rfl rfl (take_ofW HT_.out HW_.out (by kernel_rfl)) (fun _ _ _ h => h) (Or.inl ⟨by rfl, ?_⟩) hHeld ?_ ?_
                                            rotate_left
                                            · rintro w' ⟨s0, s1, s2, s3, s4⟩
                                              go_simp
                                              with_reducible rfl
                                            rotate_left
                                            · simp only [Act.put, List.setIfInBounds_toArray, List.set_cons_zero, List.set_cons_succ, i64_w, i32_w]
                                              rfl
                                            refine take_ (i := 8) (N := some 111) (v := ?_) (a' := ?_) #[true, true, true, true, true, true, true, true, true, true, true, false, true, true, false, true, true, true, true, false, true, true, true, false, false, false] rfl rfl (take_ofW HT_.out HW_.out (by kernel_rfl)) (fun _ _ _ h => h) (Or.inl ⟨by rfl, ?_⟩) hHeld ?_ ?_
                                            rotate_left
                                            · rintro w' ⟨s0, s1, s2, s3, s4⟩
                                              go_simp
                                              with_reducible rfl
                                            rotate_left
                                            · simp only [Act.put, List.setIfInBounds_toArray, List.set_cons_zero, List.set_cons_succ, i64_w, i32_w]
                                              rfl
                                            refine take_ (i := 11) (N := some 114) (v := ?_) (a' := ?_) #[true, true, true, true, true, true, true, true, true, true, true, true, true, true, false, true, true, true, true, false, true, true, true, false, false, false] rfl rfl (take_ofW HT_.out HW_.out (by kernel_rfl)) (fun _ _ _ h => h) (Or.inl ⟨by rfl, ?_⟩) hHeld ?_ ?_
                                            rotate_left
                                            · rintro w' ⟨s0, s1, s2, s3, s4⟩
                                              go_simp
                                              with_reducible rfl
                                            rotate_left
                                            · simp only [Act.put, List.setIfInBounds_toArray, List.set_cons_zero, List.set_cons_succ, i64_w, i32_w]
                                              rfl
                                            refine take_ (i := 14) (N := some 117) (v := ?_) (a' := ?_) #[true, true, true, true, true, true, true, true, true, true, true, true, true, true, true, true, true, true, true, false, true, true, true, false, false, false] rfl rfl (take_ofW HT_.out HW_.out (by kernel_rfl)) (fun _ _ _ h => h) (Or.inl ⟨by rfl, ?_⟩) hHeld ?_ ?_
                                            rotate_left
                                            · rintro w' ⟨s0, s1, s2, s3, s4⟩
                                              go_simp
                                              with_reducible rfl
                                            rotate_left
                                            · simp only [Act.put, List.setIfInBounds_toArray, List.set_cons_zero, List.set_cons_succ, i64_w, i32_w]
                                              rfl
                                            refine pure_ (i := 19) (N := some 122) (v := ?_) (a' := ?_) #[true, true, true, true, true, true, true, true, true, true, true, true, true, true, true, true, true, true, true, true, true, true, true, false, false, false] rfl rfl (any_of HT_.out (by kernel_rfl)) (fun _ _ _ h => h) (Or.inl ⟨by rfl, ?_⟩) ?_ ?_
                                            rotate_left
                                            · intro w'
                                              go_simp
                                              with_reducible rfl
                                            rotate_left
                                            · simp only [Act.put, List.setIfInBounds_toArray, List.set_cons_zero, List.set_cons_succ, i64_w, i32_w]
                                              rfl
                                            refine pure_ (i := 23) (N := some 126) (v := ?_) (a' := ?_) #[true, true, true, true, true, true, true, true, true, true, true, true, true, true, true, true, true, true, true, true, true, true, true, true, false, false] rfl rfl (any_of HT_.out (by kernel_rfl)) (fun _ _ _ h => h) (Or.inl ⟨by rfl, ?_⟩) ?_ ?_
                                            rotate_left
                                            · intro w'
                                              go_simp
                                              with_reducible rfl
                                            rotate_left
                                            · simp only [Act.put, List.setIfInBounds_toArray, List.set_cons_zero, List.set_cons_succ, i64_w, i32_w]
                                              rfl
                                            refine one_ (i := 24) (N := none) #[true, true, true, true, true, true, true, true, true, true, true, true, true, true, true, true, true, true, true, true, true, true, true, true, true, false] rfl rfl (one_of HT_.out (by kernel_rfl)) (by decide) (fun K hK => ?_)
                                            have hs68 : w67.cell? ⟨gb182, 0, none⟩ = some (.int .i64 x183000_1) := (blk_cell BK182.out 0).trans rfl
                                            have hfs68 := blk_frozen BK182.out 0
                                            have hs69 : w67.cell? ⟨gb182, 1, none⟩ = some (.int .i64 x183001_1) := (blk_cell BK182.out 1).trans rfl
                                            have hfs69 := blk_frozen BK182.out 1
                                            have hs70 : w67.cell? ⟨gb182, 2, none⟩ = some (.int .i64 x183002_1) := (blk_cell BK182.out 2).trans rfl
                                            have hfs70 := blk_frozen BK182.out 2
                                            have hs71 : w67.cell? ⟨gb182, 3, none⟩ = some (.int .i64 x183003_1) := (blk_cell BK182.out 3).trans rfl
                                            have hfs71 := blk_frozen BK182.out 3
                                            have hs72 : w67.cell? ⟨gb182, 4, none⟩ = some (.int .i64 x183004_1) := (blk_cell BK182.out 4).trans rfl
                                            have hfs72 := blk_frozen BK182.out 4
                                            have hs73 : w67.cell? ⟨gb182, 5, none⟩ = some (.string x183005_1) := (blk_cell BK182.out 5).trans rfl
                                            have hfs73 := blk_frozen BK182.out 5
                                            have hs74 : w67.cell? ⟨gb182, 6, none⟩ = some (.string x183006_1) := (blk_cell BK182.out 6).trans rfl
                                            have hfs74 := blk_frozen BK182.out 6
                                            refine skip_ (w1 := ?_) (by rfl) rfl ?_ ?_
                                            rotate_left
                                            · go_simp
                                              rfl
                                            refine hK.out _ _ ⟨((cell_far (p := ⟨gb182, _, none⟩) (by first | exact Kd.own_blk (Kd.R_ne HO_4.out BK182.out (by decide)) | (rw [add_block]; exact Kd.own_blk (Kd.R_ne HO_4.out BK182.out (by decide))) | (show (Addr.add _ _).block ≠ _; rw [add_block]; exact Kd.own_blk (Kd.R_ne HO_4.out BK182.out (by decide))) | (dsimp only; exact Kd.own_blk (Kd.R_ne HO_4.out BK182.out (by decide)))) _).trans (((cell_far (p := ⟨gb182, _, none⟩) (by first | exact Kd.own_blk (Kd.R_ne HO_4.out BK182.out (by decide)) | (rw [add_block]; exact Kd.own_blk (Kd.R_ne HO_4.out BK182.out (by decide))) | (show (Addr.add _ _).block ≠ _; rw [add_block]; exact Kd.own_blk (Kd.R_ne HO_4.out BK182.out (by decide))) | (dsimp only; exact Kd.own_blk (Kd.R_ne HO_4.out BK182.out (by decide)))) _).trans (((cell_far (p := ⟨gb182, _, none⟩) (by first | exact Kd.own_blk (Kd.R_ne HO_4.out BK182.out (by decide)) | (rw [add_block]; exact Kd.own_blk (Kd.R_ne HO_4.out BK182.out (by decide))) | (show (Addr.add _ _).block ≠ _; rw [add_block]; exact Kd.own_blk (Kd.R_ne HO_4.out BK182.out (by decide))) | (dsimp only; exact Kd.own_blk (Kd.R_ne HO_4.out BK182.out (by decide)))) _).trans (((cell_far (p := ⟨gb182, _, none⟩) (by first | exact Kd.own_blk (Kd.R_ne HO_4.out BK182.out (by decide)) | (rw [add_block]; exact Kd.own_blk (Kd.R_ne HO_4.out BK182.out (by decide))) | (show (Addr.add _ _).block ≠ _; rw [add_block]; exact Kd.own_blk (Kd.R_ne HO_4.out BK182.out (by decide))) | (dsimp only; exact Kd.own_blk (Kd.R_ne HO_4.out BK182.out (by decide)))) _).trans (((cell_far (p := ⟨gb182, _, none⟩) (by first | exact Kd.own_blk (Kd.R_ne HO_4.out BK182.out (by decide)) | (rw [add_block]; exact Kd.own_blk (Kd.R_ne HO_4.out BK182.out (by decide))) | (show (Addr.add _ _).block ≠ _; rw [add_block]; exact Kd.own_blk (Kd.R_ne HO_4.out BK182.out (by decide))) | (dsimp only; exact Kd.own_blk (Kd.R_ne HO_4.out BK182.out (by decide)))) _).trans (((cell_far (p := ⟨gb182, _, none⟩) (by first | exact Kd.own_blk (Kd.R_ne HO_4.out BK182.out (by decide)) | (rw [add_block]; exact Kd.own_blk (Kd.R_ne HO_4.out BK182.out (by decide))) | (show (Addr.add _ _).block ≠ _; rw [add_block]; exact Kd.own_blk (Kd.R_ne HO_4.out BK182.out (by decide))) | (dsimp only; exact Kd.own_blk (Kd.R_ne HO_4.out BK182.out (by decide)))) _).trans (((cell_far (p := ⟨gb182, _, none⟩) (by first | exact Kd.own_blk (Kd.R_ne HO_4.out BK182.out (by decide)) | (rw [add_block]; exact Kd.own_blk (Kd.R_ne HO_4.out BK182.out (by decide))) | (show (Addr.add _ _).block ≠ _; rw [add_block]; exact Kd.own_blk (Kd.R_ne HO_4.out BK182.out (by decide))) | (dsimp only; exact Kd.own_blk (Kd.R_ne HO_4.out BK182.out (by decide)))) _).trans (hHeld.1)))))))))))))), ((cell_far (p := ⟨gb182, _, none⟩) (by first | exact Kd.own_blk (Kd.R_ne HO_4.out BK182.out (by decide)) | (rw [add_block]; exact Kd.own_blk (Kd.R_ne HO_4.out BK182.out (by decide))) | (show (Addr.add _ _).block ≠ _; rw [add_block]; exact Kd.own_blk (Kd.R_ne HO_4.out BK182.out (by decide))) | (dsimp only; exact Kd.own_blk (Kd.R_ne HO_4.out BK182.out (by decide)))) _).trans (((cell_far (p := ⟨gb182, _, none⟩) (by first | exact Kd.own_blk (Kd.R_ne HO_4.out BK182.out (by decide)) | (rw [add_block]; exact Kd.own_blk (Kd.R_ne HO_4.out BK182.out (by decide))) | (show (Addr.add _ _).block ≠ _; rw [add_block]; exact Kd.own_blk (Kd.R_ne HO_4.out BK182.out (by decide))) | (dsimp only; exact Kd.own_blk (Kd.R_ne HO_4.out BK182.out (by decide)))) _).trans (((cell_far (p := ⟨gb182, _, none⟩) (by first | exact Kd.own_blk (Kd.R_ne HO_4.out BK182.out (by decide)) | (rw [add_block]; exact Kd.own_blk (Kd.R_ne HO_4.out BK182.out (by decide))) | (show (Addr.add _ _).block ≠ _; rw [add_block]; exact Kd.own_blk (Kd.R_ne HO_4.out BK182.out (by decide))) | (dsimp only; exact Kd.own_blk (Kd.R_ne HO_4.out BK182.out (by decide)))) _).trans (((cell_far (p := ⟨gb182, _, none⟩) (by first | exact Kd.own_blk (Kd.R_ne HO_4.out BK182.out (by decide)) | (rw [add_block]; exact Kd.own_blk (Kd.R_ne HO_4.out BK182.out (by decide))) | (show (Addr.add _ _).block ≠ _; rw [add_block]; exact Kd.own_blk (Kd.R_ne HO_4.out BK182.out (by decide))) | (dsimp only; exact Kd.own_blk (Kd.R_ne HO_4.out BK182.out (by decide)))) _).trans (((cell_far (p := ⟨gb182, _, none⟩) (by first | exact Kd.own_blk (Kd.R_ne HO_4.out BK182.out (by decide)) | (rw [add_block]; exact Kd.own_blk (Kd.R_ne HO_4.out BK182.out (by decide))) | (show (Addr.add _ _).block ≠ _; rw [add_block]; exact Kd.own_blk (Kd.R_ne HO_4.out BK182.out (by decide))) | (dsimp only; exact Kd.own_blk (Kd.R_ne HO_4.out BK182.out (by decide)))) _).trans (((cell_far (p := ⟨gb182, _, none⟩) (by first | exact Kd.own_blk (Kd.R_ne HO_4.out BK182.out (by decide)) | (rw [add_block]; exact Kd.own_blk (Kd.R_ne HO_4.out BK182.out (by decide))) | (show (Addr.add _ _).block ≠ _; rw [add_block]; exact Kd.own_blk (Kd.R_ne HO_4.out BK182.out (by decide))) | (dsimp only; exact Kd.own_blk (Kd.R_ne HO_4.out BK182.out (by decide)))) _).trans (((cell_far (p := ⟨gb182, _, none⟩) (by first | exact Kd.own_blk (Kd.R_ne HO_4.out BK182.out (by decide)) | (rw [add_block]; exact Kd.own_blk (Kd.R_ne HO_4.out BK182.out (by decide))) | (show (Addr.add _ _).block ≠ _; rw [add_block]; exact Kd.own_blk (Kd.R_ne HO_4.out BK182.out (by decide))) | (dsimp only; exact Kd.own_blk (Kd.R_ne HO_4.out BK182.out (by decide)))) _).trans (hHeld.2.1)))))))))))))), ((cell_far (p := ⟨gb182, _, none⟩) (by first | exact Kd.own_blk (Kd.R_ne HO_4.out BK182.out (by decide)) | (rw [add_block]; exact Kd.own_blk (Kd.R_ne HO_4.out BK182.out (by decide))) | (show (Addr.add _ _).block ≠ _; rw [add_block]; exact Kd.own_blk (Kd.R_ne HO_4.out BK182.out (by decide))) | (dsimp only; exact Kd.own_blk (Kd.R_ne HO_4.out BK182.out (by decide)))) _).trans (((cell_far (p := ⟨gb182, _, none⟩) (by first | exact Kd.own_blk (Kd.R_ne HO_4.out BK182.out (by decide)) | (rw [add_block]; exact Kd.own_blk (Kd.R_ne HO_4.out BK182.out (by decide))) | (show (Addr.add _ _).block ≠ _; rw [add_block]; exact Kd.own_blk (Kd.R_ne HO_4.out BK182.out (by decide))) | (dsimp only; exact Kd.own_blk (Kd.R_ne HO_4.out BK182.out (by decide)))) _).trans (((cell_far (p := ⟨gb182, _, none⟩) (by first | exact Kd.own_blk (Kd.R_ne HO_4.out BK182.out (by decide)) | (rw [add_block]; exact Kd.own_blk (Kd.R_ne HO_4.out BK182.out (by decide))) | (show (Addr.add _ _).block ≠ _; rw [add_block]; exact Kd.own_blk (Kd.R_ne HO_4.out BK182.out (by decide))) | (dsimp only; exact Kd.own_blk (Kd.R_ne HO_4.out BK182.out (by decide)))) _).trans (((cell_far (p := ⟨gb182, _, none⟩) (by first | exact Kd.own_blk (Kd.R_ne HO_4.out BK182.out (by decide)) | (rw [add_block]; exact Kd.own_blk (Kd.R_ne HO_4.out BK182.out (by decide))) | (show (Addr.add _ _).block ≠ _; rw [add_block]; exact Kd.own_blk (Kd.R_ne HO_4.out BK182.out (by decide))) | (dsimp only; exact Kd.own_blk (Kd.R_ne HO_4.out BK182.out (by decide)))) _).trans (((cell_far (p := ⟨gb182, _, none⟩) (by first | exact Kd.own_blk (Kd.R_ne HO_4.out BK182.out (by decide)) | (rw [add_block]; exact Kd.own_blk (Kd.R_ne HO_4.out BK182.out (by decide))) | (show (Addr.add _ _).block ≠ _; rw [add_block]; exact Kd.own_blk (Kd.R_ne HO_4.out BK182.out (by decide))) | (dsimp only; exact Kd.own_blk (Kd.R_ne HO_4.out BK182.out (by decide)))) _).trans (((cell_far (p := ⟨gb182, _, none⟩) (by first | exact Kd.own_blk (Kd.R_ne HO_4.out BK182.out (by decide)) | (rw [add_block]; exact Kd.own_blk (Kd.R_ne HO_4.out BK182.out (by decide))) | (show (Addr.add _ _).block ≠ _; rw [add_block]; exact Kd.own_blk (Kd.R_ne HO_4.out BK182.out (by decide))) | (dsimp only; exact Kd.own_blk (Kd.R_ne HO_4.out BK182.out (by decide)))) _).trans (((cell_far (p := ⟨gb182, _, none⟩) (by first | exact Kd.own_blk (Kd.R_ne HO_4.out BK182.out (by decide)) | (rw [add_block]; exact Kd.own_blk (Kd.R_ne HO_4.out BK182.out (by decide))) | (show (Addr.add _ _).block ≠ _; rw [add_block]; exact Kd.own_blk (Kd.R_ne HO_4.out BK182.out (by decide))) | (dsimp only; exact Kd.own_blk (Kd.R_ne HO_4.out BK182.out (by decide)))) _).trans (hHeld.2.2.1)))))))))))))), ((cell_far (p := ⟨gb182, _, none⟩) (by first | exact Kd.own_blk (Kd.R_ne HO_4.out BK182.out (by decide)) | (rw [add_block]; exact Kd.own_blk (Kd.R_ne HO_4.out BK182.out (by decide))) | (show (Addr.add _ _).block ≠ _; rw [add_block]; exact Kd.own_blk (Kd.R_ne HO_4.out BK182.out (by decide))) | (dsimp only; exact Kd.own_blk (Kd.R_ne HO_4.out BK182.out (by decide)))) _).trans (((cell_far (p := ⟨gb182, _, none⟩) (by first | exact Kd.own_blk (Kd.R_ne HO_4.out BK182.out (by decide)) | (rw [add_block]; exact Kd.own_blk (Kd.R_ne HO_4.out BK182.out (by decide))) | (show (Addr.add _ _).block ≠ _; rw [add_block]; exact Kd.own_blk (Kd.R_ne HO_4.out BK182.out (by decide))) | (dsimp only; exact Kd.own_blk (Kd.R_ne HO_4.out BK182.out (by decide)))) _).trans (((cell_far (p := ⟨gb182, _, none⟩) (by first | exact Kd.own_blk (Kd.R_ne HO_4.out BK182.out (by decide)) | (rw [add_block]; exact Kd.own_blk (Kd.R_ne HO_4.out BK182.out (by decide))) | (show (Addr.add _ _).block ≠ _; rw [add_block]; exact Kd.own_blk (Kd.R_ne HO_4.out BK182.out (by decide))) | (dsimp only; exact Kd.own_blk (Kd.R_ne HO_4.out BK182.out (by decide)))) _).trans (((cell_far (p := ⟨gb182, _, none⟩) (by first | exact Kd.own_blk (Kd.R_ne HO_4.out BK182.out (by decide)) | (rw [add_block]; exact Kd.own_blk (Kd.R_ne HO_4.out BK182.out (by decide))) | (show (Addr.add _ _).block ≠ _; rw [add_block]; exact Kd.own_blk (Kd.R_ne HO_4.out BK182.out (by decide))) | (dsimp only; exact Kd.own_blk (Kd.R_ne HO_4.out BK182.out (by decide)))) _).trans (((cell_far (p := ⟨gb182, _, none⟩) (by first | exact Kd.own_blk (Kd.R_ne HO_4.out BK182.out (by decide)) | (rw [add_block]; exact Kd.own_blk (Kd.R_ne HO_4.out BK182.out (by decide))) | (show (Addr.add _ _).block ≠ _; rw [add_block]; exact Kd.own_blk (Kd.R_ne HO_4.out BK182.out (by decide))) | (dsimp only; exact Kd.own_blk (Kd.R_ne HO_4.out BK182.out (by decide)))) _).trans (((cell_far (p := ⟨gb182, _, none⟩) (by first | exact Kd.own_blk (Kd.R_ne HO_4.out BK182.out (by decide)) | (rw [add_block]; exact Kd.own_blk (Kd.R_ne HO_4.out BK182.out (by decide))) | (show (Addr.add _ _).block ≠ _; rw [add_block]; exact Kd.own_blk (Kd.R_ne HO_4.out BK182.out (by decide))) | (dsimp only; exact Kd.own_blk (Kd.R_ne HO_4.out BK182.out (by decide)))) _).trans (((cell_far (p := ⟨gb182, _, none⟩) (by first | exact Kd.own_blk (Kd.R_ne HO_4.out BK182.out (by decide)) | (rw [add_block]; exact Kd.own_blk (Kd.R_ne HO_4.out BK182.out (by decide))) | (show (Addr.add _ _).block ≠ _; rw [add_block]; exact Kd.own_blk (Kd.R_ne HO_4.out BK182.out (by decide))) | (dsimp only; exact Kd.own_blk (Kd.R_ne HO_4.out BK182.out (by decide)))) _).trans (hHeld.2.2.2.1)))))))))))))), ((cell_far (p := ⟨gb182, _, none⟩) (by first | exact Kd.own_blk (Kd.R_ne HO_4.out BK182.out (by decide)) | (rw [add_block]; exact Kd.own_blk (Kd.R_ne HO_4.out BK182.out (by decide))) | (show (Addr.add _ _).block ≠ _; rw [add_block]; exact Kd.own_blk (Kd.R_ne HO_4.out BK182.out (by decide))) | (dsimp only; exact Kd.own_blk (Kd.R_ne HO_4.out BK182.out (by decide)))) _).trans (((cell_far (p := ⟨gb182, _, none⟩) (by first | exact Kd.own_blk (Kd.R_ne HO_4.out BK182.out (by decide)) | (rw [add_block]; exact Kd.own_blk (Kd.R_ne HO_4.out BK182.out (by decide))) | (show (Addr.add _ _).block ≠ _; rw [add_block]; exact Kd.own_blk (Kd.R_ne HO_4.out BK182.out (by decide))) | (dsimp only; exact Kd.own_blk (Kd.R_ne HO_4.out BK182.out (by decide)))) _).trans (((cell_far (p := ⟨gb182, _, none⟩) (by first | exact Kd.own_blk (Kd.R_ne HO_4.out BK182.out (by decide)) | (rw [add_block]; exact Kd.own_blk (Kd.R_ne HO_4.out BK182.out (by decide))) | (show (Addr.add _ _).block ≠ _; rw [add_block]; exact Kd.own_blk (Kd.R_ne HO_4.out BK182.out (by decide))) | (dsimp only; exact Kd.own_blk (Kd.R_ne HO_4.out BK182.out (by decide)))) _).trans (((cell_far (p := ⟨gb182, _, none⟩) (by first | exact Kd.own_blk (Kd.R_ne HO_4.out BK182.out (by decide)) | (rw [add_block]; exact Kd.own_blk (Kd.R_ne HO_4.out BK182.out (by decide))) | (show (Addr.add _ _).block ≠ _; rw [add_block]; exact Kd.own_blk (Kd.R_ne HO_4.out BK182.out (by decide))) | (dsimp only; exact Kd.own_blk (Kd.R_ne HO_4.out BK182.out (by decide)))) _).trans (((cell_far (p := ⟨gb182, _, none⟩) (by first | exact Kd.own_blk (Kd.R_ne HO_4.out BK182.out (by decide)) | (rw [add_block]; exact Kd.own_blk (Kd.R_ne HO_4.out BK182.out (by decide))) | (show (Addr.add _ _).block ≠ _; rw [add_block]; exact Kd.own_blk (Kd.R_ne HO_4.out BK182.out (by decide))) | (dsimp only; exact Kd.own_blk (Kd.R_ne HO_4.out BK182.out (by decide)))) _).trans (((cell_far (p := ⟨gb182, _, none⟩) (by first | exact Kd.own_blk (Kd.R_ne HO_4.out BK182.out (by decide)) | (rw [add_block]; exact Kd.own_blk (Kd.R_ne HO_4.out BK182.out (by decide))) | (show (Addr.add _ _).block ≠ _; rw [add_block]; exact Kd.own_blk (Kd.R_ne HO_4.out BK182.out (by decide))) | (dsimp only; exact Kd.own_blk (Kd.R_ne HO_4.out BK182.out (by decide)))) _).trans (((cell_far (p := ⟨gb182, _, none⟩) (by first | exact Kd.own_blk (Kd.R_ne HO_4.out BK182.out (by decide)) | (rw [add_block]; exact Kd.own_blk (Kd.R_ne HO_4.out BK182.out (by decide))) | (show (Addr.add _ _).block ≠ _; rw [add_block]; exact Kd.own_blk (Kd.R_ne HO_4.out BK182.out (by decide))) | (dsimp only; exact Kd.own_blk (Kd.R_ne HO_4.out BK182.out (by decide)))) _).trans (hHeld.2.2.2.2))))))))))))))⟩ (fun hHeld => ?_)
                                            clear hK K
                                            refine pure_ (i := 25) (N := some 3) (v := ?_) (a' := ?_) #[true, true, true, true, true, true, true, true, true, true, true, true, true, true, true, true, true, true, true, true, true, true, true, true, true, true] rfl rfl (any_of HT_.out (by kernel_rfl)) (fun _ _ _ h => h) (Or.inl ⟨by rfl, ?_⟩) ?_ ?_
                                            rotate_left
                                            · intro w'
                                              go_simp
                                              with_reducible rfl
                                            rotate_left
                                            · simp only [Act.put, List.setIfInBounds_toArray, List.set_cons_zero, List.set_cons_succ, i64_w, i32_w]
                                              rfl
                                            refine done_ (done_of HT_.out (by kernel_rfl)) ?_
                                            try go_wp2
                                            refine bodyPost_ret (results_ct rfl _ _ gb182 73 #[.int .i64 (rd x4_1 0), .int .i64 (rd x4_1 1), .int .i64 (rd x4_1 2), .int .i64 (rd x4_1 3), .int .i64 (rd x4_1 4), .string (a0.extract (x5_1 : Int).toNat ((ji62) : Int).toNat), .string (a0.extract ((ji62) : Int).toNat a0.size)] (0, 0) _ rfl (by (with_reducible repeat (first | refine blk_drewN ?_ _ | refine blk_drew ?_ | refine blk_alloc ?_ _)); refine blk_put (cs := #[.int .i64 (rd x4_1 0), .int .i64 (rd x4_1 1), .int .i64 (rd x4_1 2), .int .i64 (rd x4_1 3), .int .i64 (rd x4_1 4), .string (a0.extract (x5_1 : Int).toNat ((ji62) : Int).toNat), .string x183006_1]) ?_ 6 _ rfl; (with_reducible repeat (first | refine blk_drewN ?_ _ | refine blk_drew ?_ | refine blk_alloc ?_ _)); refine blk_put (cs := #[.int .i64 (rd x4_1 0), .int .i64 (rd x4_1 1), .int .i64 (rd x4_1 2), .int .i64 (rd x4_1 3), .int .i64 (rd x4_1 4), .string x183005_1, .string x183006_1]) ?_ 5 _ rfl; (with_reducible repeat (first | refine blk_drewN ?_ _ | refine blk_drew ?_ | refine blk_alloc ?_ _)); refine blk_put (cs := #[.int .i64 (rd x4_1 0), .int .i64 (rd x4_1 1), .int .i64 (rd x4_1 2), .int .i64 (rd x4_1 3), .int .i64 x183004_1, .string x183005_1, .string x183006_1]) ?_ 4 _ rfl; (with_reducible repeat (first | refine blk_drewN ?_ _ | refine blk_drew ?_ | refine blk_alloc ?_ _)); refine blk_put (cs := #[.int .i64 (rd x4_1 0), .int .i64 (rd x4_1 1), .int .i64 (rd x4_1 2), .int .i64 x183003_1, .int .i64 x183004_1, .string x183005_1, .string x183006_1]) ?_ 3 _ rfl; (with_reducible repeat (first | refine blk_drewN ?_ _ | refine blk_drew ?_ | refine blk_alloc ?_ _)); refine blk_put (cs := #[.int .i64 (rd x4_1 0), .int .i64 (rd x4_1 1), .int .i64 x183002_1, .int .i64 x183003_1, .int .i64 x183004_1, .string x183005_1, .string x183006_1]) ?_ 2 _ rfl; (with_reducible repeat (first | refine blk_drewN ?_ _ | refine blk_drew ?_ | refine blk_alloc ?_ _)); refine blk_put (cs := #[.int .i64 (rd x4_1 0), .int .i64 x183001_1, .int .i64 x183002_1, .int .i64 x183003_1, .int .i64 x183004_1, .string x183005_1, .string x183006_1]) ?_ 1 _ rfl; (with_reducible repeat (first | refine blk_drewN ?_ _ | refine blk_drew ?_ | refine blk_alloc ?_ _)); refine blk_put (cs := #[.int .i64 x183000_1, .int .i64 x183001_1, .int .i64 x183002_1, .int .i64 x183003_1, .int .i64 x183004_1, .string x183005_1, .string x183006_1]) ?_ 0 _ rfl; (with_reducible repeat (first | refine blk_drewN ?_ _ | refine blk_drew ?_ | refine blk_alloc ?_ _)); exact BK182.out) Tryz.underlying73 rfl (by kernel_rfl)) rfl ?_
                                            exact ⟨by first | rfl | (simp [errW_none, errW_some] <;> rfl) | (simp only [← hji62]; first | rfl | (simp [errW_none, errW_some] <;> rfl)) | (simp [*, errW_none, errW_some] <;> rfl), by repeat (first | (with_reducible first | exact HB.out | apply below_alloc | apply pw_below_drewN | apply below_drew1 | refine below_set ?_ GE182.out) | exact HB.out)⟩
                                          · rw [if_neg c63] at H
                                            exact absurd H (by simp)
                                        · rw [if_neg c61] at H
                                          exact absurd H (by simp)
                                      · rw [if_neg c60] at H
                                        exact absurd H (by simp)
                                    · rw [if_neg c59] at H
                                      exact absurd H (by simp)
                                  · rw [if_neg c58] at H
                                    exact absurd H (by simp)
                                · rw [if_neg c57] at H
                                  exact absurd H (by simp)
                              · rw [if_neg c56] at H
                                exact absurd H (by simp)
                            · rw [if_neg c55] at H
                              exact absurd H (by simp)
                          · rw [if_neg c54] at H
                            exact absurd H (by simp)
                        · rw [if_neg c53] at H
                          have c53b0 : ((rd x4_1 6) == (wrap64 ((wrap64 ((a0.size : Int) - x5_1)) - (rd x4_1 5)))) = false := beq_eq_false_iff_ne.mpr c53
                          have c53b1 : ((rd x4_1 6) != (wrap64 ((wrap64 ((a0.size : Int) - x5_1)) - (rd x4_1 5)))) = true := bne_iff_ne.mpr c53
                          simp only [Option.some.injEq, Prod.mk.injEq] at H
                          obtain ⟨rfl, rfl, rfl, rfl, rfl, rfl, rfl, rfl⟩ := H
                          try go_wp2
                          obtain ⟨Ao76, co76, eo76⟩ := Kd.R_slice HO_4.out
                          (first | subst eo76 | (injection eo76 with f1_ f2_ f3_; have f4_ := f1_.symm; have f5_ := f3_.symm; clear f1_ f2_ f3_; subst f4_; subst f5_))
                          have p183 : 0 ≤ (5 : Int) := (by omega)
                          have q183 : 5 < (x4_1.length : Int) := of_decide_eq_true (by first | (with_reducible assumption) | assumption)
                          obtain ⟨ad183, e183, hx183_0⟩ := Kd.at_int (Kd.R_reads' HO_4.out).2.2 5 p183 q183
                          cases e183
                          (try simp only [show (5 : Int).toNat = 5 from rfl, Nat.reduceMul, Nat.reduceEqDiff, Go.Addr.add, ↓reduceIte] at hx183_0)
                          have qi183 : (5 < x4_1.length) = True := eq_true (by omega)
                          (try rw [show ((5 : Int)).toNat = 5 from rfl] at hx183_0)
                          replace p183 := eq_true p183
                          replace q183 := eq_true q183
                          have p184 : 0 ≤ (6 : Int) := (by omega)
                          have q184 : 6 < (x4_1.length : Int) := of_decide_eq_true (by first | (with_reducible assumption) | assumption)
                          obtain ⟨ad184, e184, hx184_0⟩ := Kd.at_int (Kd.R_reads' HO_4.out).2.2 6 p184 q184
                          obtain rfl : ad183 = ad184 := (by injection e184)
                          (try simp only [show (6 : Int).toNat = 6 from rfl, Nat.reduceMul, Nat.reduceEqDiff, Go.Addr.add, ↓reduceIte] at hx184_0)
                          have qi184 : (6 < x4_1.length) = True := eq_true (by omega)
                          (try rw [show ((6 : Int)).toNat = 6 from rfl] at hx184_0)
                          replace p184 := eq_true p184
                          replace q184 := eq_true q184
                          have p185 : 0 ≤ (5 : Int) := (by omega)
                          have q185 : 5 < (x4_1.length : Int) := of_decide_eq_true (by first | (with_reducible assumption) | assumption)
                          obtain ⟨ad185, e185, hx185_0⟩ := Kd.at_int (Kd.R_reads' HO_4.out).2.2 5 p185 q185
                          obtain rfl : ad183 = ad185 := (by injection e185)
                          (try simp only [show (5 : Int).toNat = 5 from rfl, Nat.reduceMul, Nat.reduceEqDiff, Go.Addr.add, ↓reduceIte] at hx185_0)
                          have qi185 : (5 < x4_1.length) = True := eq_true (by omega)
                          (try rw [show ((5 : Int)).toNat = 5 from rfl] at hx185_0)
                          replace p185 := eq_true p185
                          replace q185 := eq_true q185
                          have p186 : 0 ≤ (6 : Int) := (by omega)
                          have q186 : 6 < (x4_1.length : Int) := of_decide_eq_true (by first | (with_reducible assumption) | assumption)
                          obtain ⟨ad186, e186, hx186_0⟩ := Kd.at_int (Kd.R_reads' HO_4.out).2.2 6 p186 q186
                          obtain rfl : ad183 = ad186 := (by injection e186)
                          (try simp only [show (6 : Int).toNat = 6 from rfl, Nat.reduceMul, Nat.reduceEqDiff, Go.Addr.add, ↓reduceIte] at hx186_0)
                          have qi186 : (6 < x4_1.length) = True := eq_true (by omega)
                          (try rw [show ((6 : Int)).toNat = 6 from rfl] at hx186_0)
                          replace p186 := eq_true p186
                          replace q186 := eq_true q186
                          have p187 : 0 ≤ (5 : Int) := (by omega)
                          have q187 : 5 < (x4_1.length : Int) := of_decide_eq_true (by first | (with_reducible assumption) | assumption)
                          obtain ⟨ad187, e187, hx187_0⟩ := Kd.at_int (Kd.R_reads' HO_4.out).2.2 5 p187 q187
                          obtain rfl : ad183 = ad187 := (by injection e187)
                          (try simp only [show (5 : Int).toNat = 5 from rfl, Nat.reduceMul, Nat.reduceEqDiff, Go.Addr.add, ↓reduceIte] at hx187_0)
                          have qi187 : (5 < x4_1.length) = True := eq_true (by omega)
                          (try rw [show ((5 : Int)).toNat = 5 from rfl] at hx187_0)
                          replace p187 := eq_true p187
                          replace q187 := eq_true q187
                          go_quiet (fail)
                          have n0_ := Aside0.mk (Kd.R_drewN HO_4.out nq)
                          have n1_ := Aside0.mk (blk_drewN BK182.out nq)
                          have n2_ := Aside0.mk (pw_below_drewN HB.out nq)
                          clear HO_4 BK182 HB
                          have HO_4 := n0_
                          have BK182 := n1_
                          have HB := n2_
                          clear n0_ n1_ n2_
                          generalize wc.drewN nq = w75 at HO_4 BK182 HB ⊢
                          have hcz77_0 : w75.cell? ⟨gb182, 0, none⟩ = some (.int .i64 x183000_1) := (blk_cell BK182.out 0).trans rfl
                          have hcz77_1 : w75.cell? ⟨gb182, 1, none⟩ = some (.int .i64 x183001_1) := (blk_cell BK182.out 1).trans rfl
                          have hcz77_2 : w75.cell? ⟨gb182, 2, none⟩ = some (.int .i64 x183002_1) := (blk_cell BK182.out 2).trans rfl
                          have hcz77_3 : w75.cell? ⟨gb182, 3, none⟩ = some (.int .i64 x183003_1) := (blk_cell BK182.out 3).trans rfl
                          have hcz77_4 : w75.cell? ⟨gb182, 4, none⟩ = some (.int .i64 x183004_1) := (blk_cell BK182.out 4).trans rfl
                          have hcz77_5 : w75.cell? ⟨gb182, 5, none⟩ = some (.string x183005_1) := (blk_cell BK182.out 5).trans rfl
                          have hcz77_6 : w75.cell? ⟨gb182, 6, none⟩ = some (.string x183006_1) := (blk_cell BK182.out 6).trans rfl
                          have hfz77_0 := blk_frozen BK182.out 0
                          have hfz77_1 := blk_frozen BK182.out 1
                          have hfz77_2 := blk_frozen BK182.out 2
                          have hfz77_3 := blk_frozen BK182.out 3
                          have hfz77_4 := blk_frozen BK182.out 4
                          have hfz77_5 := blk_frozen BK182.out 5
                          have hfz77_6 := blk_frozen BK182.out 6
                          try go_wp2
                          refine bodyPost_ret (results_ct rfl _ _ gb182 73 #[.int .i64 0, .int .i64 0, .int .i64 0, .int .i64 0, .int .i64 0, .string (⟨#[]⟩ : ByteArray), .string (⟨#[]⟩ : ByteArray)] (0, 0) _ rfl (by (with_reducible repeat (first | refine blk_drewN ?_ _ | refine blk_drew ?_ | refine blk_alloc ?_ _)); refine blk_put (cs := #[.int .i64 0, .int .i64 0, .int .i64 0, .int .i64 0, .int .i64 0, .string (⟨#[]⟩ : ByteArray), .string x183006_1]) ?_ 6 _ rfl; (with_reducible repeat (first | refine blk_drewN ?_ _ | refine blk_drew ?_ | refine blk_alloc ?_ _)); refine blk_put (cs := #[.int .i64 0, .int .i64 0, .int .i64 0, .int .i64 0, .int .i64 0, .string x183005_1, .string x183006_1]) ?_ 5 _ rfl; (with_reducible repeat (first | refine blk_drewN ?_ _ | refine blk_drew ?_ | refine blk_alloc ?_ _)); refine blk_put (cs := #[.int .i64 0, .int .i64 0, .int .i64 0, .int .i64 0, .int .i64 x183004_1, .string x183005_1, .string x183006_1]) ?_ 4 _ rfl; (with_reducible repeat (first | refine blk_drewN ?_ _ | refine blk_drew ?_ | refine blk_alloc ?_ _)); refine blk_put (cs := #[.int .i64 0, .int .i64 0, .int .i64 0, .int .i64 x183003_1, .int .i64 x183004_1, .string x183005_1, .string x183006_1]) ?_ 3 _ rfl; (with_reducible repeat (first | refine blk_drewN ?_ _ | refine blk_drew ?_ | refine blk_alloc ?_ _)); refine blk_put (cs := #[.int .i64 0, .int .i64 0, .int .i64 x183002_1, .int .i64 x183003_1, .int .i64 x183004_1, .string x183005_1, .string x183006_1]) ?_ 2 _ rfl; (with_reducible repeat (first | refine blk_drewN ?_ _ | refine blk_drew ?_ | refine blk_alloc ?_ _)); refine blk_put (cs := #[.int .i64 0, .int .i64 x183001_1, .int .i64 x183002_1, .int .i64 x183003_1, .int .i64 x183004_1, .string x183005_1, .string x183006_1]) ?_ 1 _ rfl; (with_reducible repeat (first | refine blk_drewN ?_ _ | refine blk_drew ?_ | refine blk_alloc ?_ _)); refine blk_put (cs := #[.int .i64 x183000_1, .int .i64 x183001_1, .int .i64 x183002_1, .int .i64 x183003_1, .int .i64 x183004_1, .string x183005_1, .string x183006_1]) ?_ 0 _ rfl; (with_reducible repeat (first | refine blk_drewN ?_ _ | refine blk_drew ?_ | refine blk_alloc ?_ _)); exact BK182.out) Tryz.underlying73 rfl (by kernel_rfl)) rfl ?_
                          exact ⟨by first | rfl | (simp [errW_none, errW_some] <;> rfl) | (simp [*, errW_none, errW_some] <;> rfl), by repeat (first | (with_reducible first | exact HB.out | apply below_alloc | apply pw_below_drewN | apply below_drew1 | refine below_set ?_ GE182.out) | exact HB.out)⟩
                  · rw [if_neg c44] at H
                    exact absurd H (by simp)
              · rw [if_neg c39] at H
                exact absurd H (by simp)
end Go.Proofs.YtanpkbglfhdjfaaGreatDoor
