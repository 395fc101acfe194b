/- What the protocol's printed functions call: strconv.Itoa, strings.Cut and protocol.decimal, each as a plain Lean function with the contract that the Go function comes to it. The world is one in which the listed package-level variables hold what the program's text lays. · protocol.validMethod as a plain Lean function: 1 to 24 small letters. · protocol.body as a plain Lean function: the body of a message. -/
import Derived.Test.YtanpkbglfhdjfaaGreatDoorShelf
import Derived.Below
import Derived.WalkKit
import Derived.WalkSmall
import Derived.Lib.Hide
import Derived.Outline
import Derived.LoopTactic
import Derived.Lib.ConvBytes
import Derived.Test.YtanpkbglfhdjfaaGreatDoorShelfB
import Derived.Test.YtanpkbglfhdjfaaGreatDoorWMore
import Derived.Deep.RegionHeld3
import Derived.Lib.OthersKept
namespace Go.Proofs.YtanpkbglfhdjfaaGreatDoor
open Go.RowKit
open Go.Sort (grow)

/-- The package-level variables that the library's functions read. -/
structure Env (w : World) : Prop where
  big : 7 ≤ w.heap.size
  tab : Lib.TabIs Tryz.prog w "internal/strconv.uint64pow10" .u64 Lib.pow10Tab
  most : ∃ m, w.cell? ⟨1, 0, none⟩ = some (.int .i64 m)
  syn : ∃ tp p, w.var? Tryz.prog "strconv.ErrSyntax" = some #[.iface tp p]
  rng : ∃ tp p, w.var? Tryz.prog "strconv.ErrRange" = some #[.iface tp p]

theorem gPow : Tryz.prog.globalNamed "internal/strconv.uint64pow10" = some 0 := by kernel_rfl
theorem gSyn : Tryz.prog.globalNamed "strconv.ErrSyntax" = some 2 := by kernel_rfl
theorem gRng : Tryz.prog.globalNamed "strconv.ErrRange" = some 3 := by kernel_rfl

/-- What is made later turns none of them. -/
theorem Env.of {w W : World} (h : Env w) (hb : Below w.heap.size w W) : Env W := by
  have b := h.big
  refine ⟨Nat.le_trans b hb.size, var?_below hb gPow (by omega) h.tab, ?_, ?_, ?_⟩
  · obtain ⟨m, hm⟩ := h.most
    exact ⟨m, (hb.cell (p := ⟨1, 0, none⟩) (by show 1 < _; omega)).trans hm⟩
  · obtain ⟨tp, p, hv⟩ := h.syn
    exact ⟨tp, p, var?_below hb gSyn (by omega) hv⟩
  · obtain ⟨tp, p, hv⟩ := h.rng
    exact ⟨tp, p, var?_below hb gRng (by omega) hv⟩

theorem below_grow (w : World) (k : Nat) (os : Array Obj) : Below w.heap.size w (grow (w.drewN k) os) := by
  refine ⟨rfl, rfl, rfl, ?_, fun i hi => ?_⟩
  · show _ ≤ (w.heap ++ os).size
    simp
  · show (w.heap ++ os)[i]? = _
    rw [Array.getElem?_append, if_pos hi]

def strconv_Itoa.f (a0 : Int) : Option ByteArray := if -9223372036854775808 ≤ a0 ∧ a0 ≤ 9223372036854775807 then some ⟨(Lib.itoa a0).toArray⟩ else none

theorem strconv_Itoa.calls (a0 : Int) (r : ByteArray) (w : World) (h : strconv_Itoa.f a0 = some r) (hE : Env w) :
    Calls Tryz.prog 20 #[.int .i64 a0] w fun e w' => e = .returned (.string r) ∧ Below w.heap.size w w' := by
  unfold strconv_Itoa.f at h
  by_cases c : -9223372036854775808 ≤ a0 ∧ a0 ≤ 9223372036854775807
  · rw [if_pos c] at h
    obtain rfl := Option.some.inj h
    refine (Tryz.strconv_Itoa a0 c.1 c.2 w hE.tab).mono ?_
    rintro e w' ⟨rfl, k, os, rfl⟩
    exact ⟨rfl, below_grow w k os⟩
  · rw [if_neg c] at h
    cases h

def strings_Cut.f (a0 a1 : ByteArray) : Option (ByteArray × ByteArray × Bool) :=
  if a0.size < 4294967281 then some (⟨(Lib.cut a0.data.toList a1.data.toList).1.toArray⟩, ⟨(Lib.cut a0.data.toList a1.data.toList).2.1.toArray⟩, (Lib.cut a0.data.toList a1.data.toList).2.2) else none

theorem strings_Cut.calls (a0 a1 : ByteArray) (r1 r2 : ByteArray) (r3 : Bool) (w : World) (h : strings_Cut.f a0 a1 = some (r1, r2, r3)) (hE : Env w) :
    Calls Tryz.prog 38 #[.string a0, .string a1] w fun e w' => e = .returned (.tuple #[.string r1, .string r2, .bool r3]) ∧ Below w.heap.size w w' := by
  unfold strings_Cut.f at h
  by_cases c : a0.size < 4294967281
  · rw [if_pos c] at h
    simp only [Option.some.injEq, Prod.mk.injEq] at h
    obtain ⟨rfl, rfl, rfl⟩ := h
    obtain ⟨m, hm⟩ := hE.most
    refine (Tryz.strings_Cut a0 a1 m w c hm).mono ?_
    rintro e w' ⟨rfl, n, rfl⟩
    exact ⟨rfl, ⟨rfl, rfl, rfl, Nat.le_refl _, fun _ _ => rfl⟩⟩
  · rw [if_neg c] at h
    cases h

/-- The value of a decimal form, and whether it is one. -/
def protocol_decimal.f (a0 : ByteArray) : Option (Int × Bool) :=
  if a0.size ≤ 281474976710656 then
    match Lib.atoiAll a0.data.toList with
    | .ok v => some (v, Lib.itoa v == a0.toList)
    | Lib.NumEnd.syntax => some (0, false)
    | .range => some (Lib.atoiSat a0.data.toList, false)
  else none

theorem bytesWorld_below (w : World) (t : TypeId) (s : ByteArray) : Below w.heap.size w (Lib.bytesWorld w t s) := by
  unfold Lib.bytesWorld World.freeze
  rw [if_neg (by decide)]
  refine ⟨rfl, rfl, rfl, by simp, fun k hk => ?_⟩
  simp only [Array.getElem?_modify]
  rw [if_neg (by show ¬ w.heap.size = k; omega)]
  exact Below.heap_alloc w.drew _ k hk

theorem decimal_ok (a0 : ByteArray) (v : Int) (w : World) (hmax : a0.size ≤ 281474976710656) (hv : Lib.atoiAll a0.data.toList = .ok v) (b0 : -9223372036854775808 ≤ v) (b1 : v ≤ 9223372036854775807) (hE : Env w) :
    Calls Tryz.prog 36 #[.string a0] w fun e w' => e = .returned (.tuple #[.int .i64 v, .bool (Lib.itoa v == a0.toList)]) ∧ Below w.heap.size w w' := by
  have C1 := Lib.hid (Tryz.strconv_Atoi_ok a0 (by omega) v hv w)
  clear hv
  go_enter Tryz.func36, Tryz.ntmps36
  go_wp2_with fail
  refine C1.out.mono ?_
  rintro e w1 ⟨rfl, hw⟩
  have hb : Below w.heap.size w w1 := by
    rcases hw with rfl | ⟨t, rfl⟩
    · exact Below.refl _ _
    · exact bytesWorld_below _ _ _
  have E1 := Lib.hid (hE.of hb)
  clear hw
  have C2 := Lib.hid (strconv_Itoa.calls v ⟨(Lib.itoa v).toArray⟩ w1 (by unfold strconv_Itoa.f; rw [if_pos ⟨b0, b1⟩]) E1.out)
  have HB := Lib.hid hb
  clear hb b0 b1 hmax
  go_wp2_with fail
  refine C2.out.mono ?_
  rintro e w2 ⟨rfl, hb2⟩
  have HB2 := Lib.hid (HB.out.trans (hb2.mono HB.out.size))
  clear hb2
  go_wp2_with fail
  go_ret2
  exact ⟨rfl, HB2.out⟩

theorem decimal_no (a0 : ByteArray) (v : Int) (w : World)
    (C1 : Calls Tryz.prog 48 #[.string a0] w fun e w' => ∃ N, e = .returned (.tuple #[.int .i64 v, .iface 129 (.pointer (some ⟨N, 0, none⟩))]) ∧ Below w.heap.size w w') :
    Calls Tryz.prog 36 #[.string a0] w fun e w' => e = .returned (.tuple #[.int .i64 v, .bool false]) ∧ Below w.heap.size w w' := by
  have C2 := Lib.hid C1
  clear C1
  go_enter Tryz.func36, Tryz.ntmps36
  go_wp2_with fail
  refine C2.out.mono ?_
  rintro e w1 ⟨N, rfl, hb⟩
  have HB := Lib.hid hb
  clear hb
  go_wp2_with fail
  go_ret2
  exact ⟨rfl, HB.out⟩

theorem atoiAll_bounds {l : List UInt8} {v : Int} (h : Lib.atoiAll l = .ok v) : -9223372036854775808 ≤ v ∧ v ≤ 9223372036854775807 := by
  unfold Lib.atoiAll at h
  cases l with
  | nil => cases h
  | cons c r =>
    simp only at h
    split at h
    · cases h
    · cases h
    · rename_i u hu
      split at h
      · cases h
      · rename_i c1
        split at h
        · cases h
        · rename_i c2
          injection h with h
          subst h
          by_cases hn : c.toNat = 45
          · rw [if_pos hn]
            simp only [hn, true_and] at c2
            omega
          · rw [if_neg hn]
            simp only [hn, not_false_eq_true, true_and] at c1
            omega

theorem protocol_decimal.calls (a0 : ByteArray) (r1 : Int) (r2 : Bool) (w : World) (h : protocol_decimal.f a0 = some (r1, r2)) (hE : Env w) :
    Calls Tryz.prog 36 #[.string a0] w fun e w' => e = .returned (.tuple #[.int .i64 r1, .bool r2]) ∧ Below w.heap.size w w' := by
  unfold protocol_decimal.f at h
  by_cases c : a0.size ≤ 281474976710656
  · rw [if_pos c] at h
    rcases hv : Lib.atoiAll a0.data.toList with v | _ | _
    · rw [hv] at h
      simp only [Option.some.injEq, Prod.mk.injEq] at h
      obtain ⟨rfl, rfl⟩ := h
      obtain ⟨b0, b1⟩ := atoiAll_bounds hv
      exact decimal_ok a0 _ w c hv b0 b1 hE
    · rw [hv] at h
      simp only [Option.some.injEq, Prod.mk.injEq] at h
      obtain ⟨rfl, rfl⟩ := h
      obtain ⟨tp, p, hs⟩ := hE.syn
      exact decimal_no a0 _ w ((Tryz.strconv_Atoi_syntax_var a0 c hv tp p w hs).mono fun e w' ⟨N, he, _, _, hb⟩ => ⟨N, he, hb⟩)
    · rw [hv] at h
      simp only [Option.some.injEq, Prod.mk.injEq] at h
      obtain ⟨rfl, rfl⟩ := h
      obtain ⟨tp, p, hs⟩ := hE.rng
      exact decimal_no a0 _ w ((Tryz.strconv_Atoi_range_var a0 c hv tp p w hs).mono fun e w' ⟨N, he, _, _, hb⟩ => ⟨N, he, hb⟩)
  · rw [if_neg c] at h
    cases h

end Go.Proofs.YtanpkbglfhdjfaaGreatDoor

namespace Go.Proofs.YtanpkbglfhdjfaaGreatDoor
open Go.RowKit

def small (c : UInt8) : Bool := decide (97 ≤ c.toNat) && decide (c.toNat ≤ 122)
def validL (l : List UInt8) : Bool := decide (1 ≤ l.length) && (decide (l.length ≤ 24) && l.all small)

def protocol_validMethod.f (a0 : ByteArray) : Option Bool := some (validL a0.data.toList)

theorem all_take_succ {l : List UInt8} {k : Nat} (h : k < l.length) : (l.take (k + 1)).all small = ((l.take k).all small && small (l.getD k 0)) := by
  rw [List.take_succ_eq_append_getElem h, List.all_append]
  simp [List.getD, h]

theorem all_false {l : List UInt8} {k : Nat} (h : k < l.length) (hs : small (l.getD k 0) = false) : l.all small = false := by
  rw [Bool.eq_false_iff]
  intro hall
  rw [List.all_eq_true] at hall
  have := hall _ (List.getElem_mem h)
  simp [List.getD, h] at hs
  rw [hs] at this
  cases this

set_option maxHeartbeats 1000000 in
set_option maxRecDepth 100000 in
theorem valid_walk (a0 : ByteArray) (r : Bool) (HR : Hid (a0.data.toList.all small = r)) (B c : Nat) (w W : World) (h0 : 1 ≤ a0.size) (h1 : a0.size ≤ 24) (hne : a0.toList.isEmpty = false)
    (hconv : (convert 9 60 (.string a0)).run Tryz.prog w = .ok (.slice (some ⟨B, 0, none⟩) a0.size c) W)
    (hcell : ∀ j, j < a0.size → W.cell? ⟨B, j, none⟩ = some (.int .u8 (a0.data.toList.getD j 0).toNat)) :
    Calls Tryz.prog 18 #[.string a0] w fun e w' => e = .returned (.bool r) ∧ w' = W := by
  have HC := Lib.hid hcell
  have hn1 : ¬ 24 < a0.size := by omega
  have hl : a0.data.toList.length = a0.size := by simp
  have HL := Lib.hid hl
  clear hcell hl
  go_enter Tryz.func18, Tryz.ntmps18
  go_wp2
  go_loop [15] (fun i => ∃ k : Nat, k ≤ a0.size ∧ i = .int .i64 k ∧ Hid ((a0.data.toList.take k).all small = true)) (fun i => a0.size - (intOf i).toNat)
  case atStart => exact ⟨0, by omega, rfl, rfl⟩
  case round =>
    obtain ⟨k, hk, rfl, HA⟩ := hrel
    by_cases hlt : k < a0.size
    · have hc := HC.out k hlt
      have hsucc := Lib.hid (all_take_succ (l := a0.data.toList) (k := k) (by rw [HL.out]; exact hlt))
      have hfal := Lib.hid (fun hs => all_false (l := a0.data.toList) (k := k) (by rw [HL.out]; exact hlt) hs)
      generalize hg : a0.data.toList.getD k 0 = cc at *
      clear hg
      have hb : cc.toNat < 256 := cc.toNat_lt
      by_cases h1 : cc.toNat < 97
      · have c1 : ((cc.toNat : Int) < 97) := by omega
        have hs : small cc = false := by simp [small]; omega
        have HS := Lib.hid (hfal.out hs)
        clear h1 hs hsucc hfal
        go_wp2
        go_ret
        obtain rfl : r = false := HR.out.symm.trans HS.out
        exact ⟨rfl, rfl⟩
      · have c1 : ¬ ((cc.toNat : Int) < 97) := by omega
        by_cases h2 : 122 < cc.toNat
        · have c2 : (122 : Int) < (cc.toNat : Int) := by omega
          have hs : small cc = false := by simp [small]; omega
          have HS := Lib.hid (hfal.out hs)
          clear h1 h2 hs hsucc hfal
          go_wp2
          go_ret
          obtain rfl : r = false := HR.out.symm.trans HS.out
          exact ⟨rfl, rfl⟩
        · have c2 : ¬ (122 : Int) < (cc.toNat : Int) := by omega
          have hs : small cc = true := by simp [small]; omega
          have HS : Hid ((a0.data.toList.take (k + 1)).all small = true) := by
            show _ = true
            rw [hsucc.out, HA.out, hs]
            rfl
          clear h1 h2 hs hsucc hfal
          go_wp2
          go_round
          case rel => exact ⟨k + 1, by omega, by go_num, HS⟩
          case measure => simp [intOf]; omega
    · have HS : Hid (a0.data.toList.all small = true) := by
        show _ = true
        have := HA.out
        rw [List.take_of_length_le (by rw [HL.out]; omega)] at this
        exact this
      clear HA
      go_wp2
      go_ret
      obtain rfl : r = true := HR.out.symm.trans HS.out
      exact ⟨rfl, rfl⟩

theorem protocol_validMethod.calls (a0 : ByteArray) (r : Bool) (w : World) (h : protocol_validMethod.f a0 = some r) (_hE : Env w) :
    Calls Tryz.prog 18 #[.string a0] w fun e w' => e = .returned (.bool r) ∧ Below w.heap.size w w' := by
  unfold protocol_validMethod.f at h
  obtain rfl := Option.some.inj h
  have hl : a0.data.toList.length = a0.size := by simp
  by_cases h0 : a0.size = 0
  · have he : a0.toList.isEmpty = true := by rw [Lib.toList_data, List.isEmpty_iff, ← List.length_eq_zero_iff, hl, h0]
    have hv : Hid (validL a0.data.toList = false) := by show _ = false; unfold validL; rw [hl, h0]; rfl
    clear hl h0 h
    go_enter Tryz.func18, Tryz.ntmps18
    go_wp2
    go_ret
    exact ⟨by rw [hv.out]; rfl, Below.refl _ _⟩
  · have he : a0.toList.isEmpty = false := by
      rw [Bool.eq_false_iff]
      intro hx
      rw [Lib.toList_data, List.isEmpty_iff, ← List.length_eq_zero_iff, hl] at hx
      exact h0 hx
    by_cases h1 : 24 < a0.size
    · have hv : Hid (validL a0.data.toList = false) := by
        show _ = false
        unfold validL
        rw [hl, decide_eq_false (show ¬ a0.size ≤ 24 by omega)]
        simp
      clear hl h0 h
      go_enter Tryz.func18, Tryz.ntmps18
      go_wp2
      go_ret
      exact ⟨by rw [hv.out]; rfl, Below.refl _ _⟩
    · have hv : validL a0.data.toList = a0.data.toList.all small := by
        unfold validL
        rw [hl, decide_eq_true (show a0.size ≤ 24 by omega), decide_eq_true (show 1 ≤ a0.size by omega)]
        rfl
      rw [hv]
      refine (valid_walk a0 _ (show _ = _ from rfl) w.heap.size _ w (Lib.bytesWorld w 5 a0) (by omega) (by omega) he (Lib.run_convert_string_bytes w 9 60 5 a0 Tryz.underlying9 Tryz.underlying60 Tryz.underlying5) (fun j hj => Lib.bytesWorld_cell w 5 a0 j hj)).mono ?_
      rintro e w' ⟨rfl, rfl⟩
      exact ⟨rfl, bytesWorld_below _ _ _⟩

end Go.Proofs.YtanpkbglfhdjfaaGreatDoor

namespace Go.Proofs.YtanpkbglfhdjfaaGreatDoor
open Go.RowKit Go.Proofs.YtanpkbglfhdjfaaGreatDoorW.PrintWords Go.Proofs.YtanpkbglfhdjfaaGreatDoorW.PrintLast Go.Proofs.YtanpkbglfhdjfaaGreatDoorW.PrintMore

/-- An argument in a body. -/
def argL (a : ByteArray) : List UInt8 := Lib.itoa (a.size : Int) ++ (58 :: (a.data.toList ++ [10]))
/-- The first line of a body. -/
def headL (id : Int) (m : ByteArray) : List UInt8 := Lib.itoa id ++ (32 :: (m.data.toList ++ [10]))
def argsL : List ByteArray → List UInt8
  | [] => []
  | a :: r => argL a ++ argsL r
def bodyL (id : Int) (m : ByteArray) (l : List ByteArray) : List UInt8 := headL id m ++ argsL l

theorem argsL_snoc : ∀ (l : List ByteArray) (a : ByteArray), argsL (l ++ [a]) = argsL l ++ argL a
  | [], a => by simp [argsL]
  | b :: l, a => by simp [argsL, argsL_snoc l a, List.append_assoc]
theorem argsL_append : ∀ (l r : List ByteArray), argsL (l ++ r) = argsL l ++ argsL r
  | [], _ => by simp [argsL]
  | b :: l, r => by simp [argsL, argsL_append l r, List.append_assoc]
theorem argsL_len : ∀ l : List ByteArray, l.length ≤ (argsL l).length
  | [] => by simp
  | a :: l => by have := argsL_len l; simp only [argsL, argL, List.length_append, List.length_cons]; omega
theorem argsL_le (l : List ByteArray) (k : Nat) (h : k < l.length) : (argsL (l.take k)).length + (argL l[k]).length ≤ (argsL l).length := by
  have e : l = l.take k ++ l[k] :: l.drop (k + 1) := by simp
  have e2 : argsL l = argsL (l.take k) ++ (argL l[k] ++ argsL (l.drop (k + 1))) := by
    conv => lhs; rw [e, argsL_append]
    rfl
  rw [e2]
  simp only [List.length_append]
  omega

/-- What holds while the body is written: the message's copy, the builder behind it, all else as it was. -/
structure Inv0 (w : World) (cs : Array Value) (bs : List UInt8) (W : World) : Prop where
  box : W.heap[w.heap.size]? = some (.cells cs 24 (0, 0))
  bld : Lib.IsBuilderF 63 5 (w.heap.size + 1) (w.heap.size + 1) (Lib.byteCells bs) W
  low : Below w.heap.size w W
  big : w.heap.size + 2 ≤ W.heap.size
structure Inv (w : World) (cs : Array Value) (bs : List UInt8) (W : World) : Prop where
  get : Inv0 w cs bs W

theorem Inv0.cell {w W : World} {cs : Array Value} {bs : List UInt8} (h : Inv0 w cs bs W) (i : Nat) : W.cell? ⟨w.heap.size, i, none⟩ = cs[i]? := blk_cell h.box i
theorem Inv0.env {w W : World} {cs : Array Value} {bs : List UInt8} (h : Inv0 w cs bs W) (hE : Env w) : Env W := hE.of h.low

theorem Inv.start (w : World) (cs : Array Value) : Inv w cs [] ((w.alloc (.cells cs 24)).alloc (.cells #[.pointer none, .slice none 0 0] 63)) := by
  refine ⟨⟨?_, ?_, ?_, ?_⟩⟩
  · exact blk_alloc (blk_new w _) _
  · have := Lib.IsBuilderF.of (e := 5) (Lib.fresh_isBuilder 63 5 (w.alloc (.cells cs 24)))
    simpa [Lib.byteCells] using this
  · exact below_alloc (below_alloc (Below.refl _ _) _) _
  · simp

theorem atF_below {B b : Nat} {p : Value} {bs : List Value} {W W1 : World} (h : Lib.BuilderAtF 63 5 B b p bs W) (hb : Below W.heap.size W W1) : Lib.BuilderAtF 63 5 B b p bs W1 := by
  obtain ⟨hB, v, hv, hown, hne⟩ := h
  refine ⟨hB, v, blk_below hv hb, hown.kept (row := none) ⟨hb.os, hb.tape, hb.output, hb.size, fun k hk _ => hb.block k hk⟩ ?_, hne⟩
  cases hx : v.ownBlock <;> simp

/-- The builder stands where a callee has made memory of its own. -/
theorem isBuilder_below {B b : Nat} {bs : List Value} {W W1 : World} (h : Lib.IsBuilderF 63 5 B b bs W) (hb : Below W.heap.size W W1) : Lib.IsBuilderF 63 5 B b bs W1 := by
  rcases h with h | h
  · exact .inl (atF_below h hb)
  · exact .inr (atF_below h hb)

theorem Inv0.step {w W W1 : World} {cs : Array Value} {bs : List UInt8} (h : Inv0 w cs bs W) (hb : Below W.heap.size W W1) : Inv0 w cs bs W1 :=
  ⟨blk_below h.box hb, isBuilder_below h.bld hb, below_step h.low hb, Nat.le_trans h.big hb.size⟩

theorem size_l (l : List UInt8) : (⟨l.toArray⟩ : ByteArray).size = l.length := by show l.toArray.size = _; simp

theorem write_calls {w W : World} {cs : Array Value} {bs : List UInt8} (s : ByteArray) (h : Inv0 w cs bs W) (hlen : bs.length + s.size ≤ 140737488355328) :
    Calls Tryz.prog 30 #[.pointer (some ⟨w.heap.size + 1, 0, none⟩), .string s] W fun e w' => e = .returned (.tuple #[.int .i64 s.size, .nilIface]) ∧ Inv0 w cs (bs ++ s.data.toList) w' := by
  refine (Tryz.Builder_WriteString_k (w.heap.size + 1) (w.heap.size + 1) (Lib.byteCells bs) s W h.bld (by rw [Lib.byteCells_length]; exact hlen) (by have := h.big; omega)).mono ?_
  rintro e w' ⟨rfl, hat, hb, _⟩
  refine ⟨rfl, ?_, ?_, ?_, Nat.le_trans h.big hb.size⟩
  · rw [hb.block _ (by omega)]
    exact h.box
  · rw [Lib.byteCells_append]
    exact .inr hat
  · exact h.low.trans (hb.mono (by omega))

set_option maxHeartbeats 1000000 in
set_option maxRecDepth 100000 in
theorem body_walk (a0_0 : Int) (a0_1 : ByteArray) (A0_2 : Option Addr) (c0_2 : Nat) (l0_2 : List ByteArray) (r : ByteArray) (HRES : r = ⟨(bodyL a0_0 a0_1 l0_2).toArray⟩) (w : World)
    (i0 : -9223372036854775808 ≤ a0_0) (i1 : a0_0 ≤ 9223372036854775807)
    (hr : Kd.C Kd.string w A0_2 l0_2.length l0_2) (hc : l0_2.length ≤ c0_2) (hlen : (bodyL a0_0 a0_1 l0_2).length ≤ 140737488355328) (hE : Env w) :
    Calls Tryz.prog 19 #[.agg #[.int .i64 a0_0, .string a0_1, .slice A0_2 l0_2.length c0_2]] w fun e w' => e = .returned (.string r) ∧ Below w.heap.size w w' := by
  have HRES := Lib.hid HRES
  have hu24 := Tryz.underlying24
  have HI := Lib.hid (show strconv_Itoa.f a0_0 = some ⟨(Lib.itoa a0_0).toArray⟩ by unfold strconv_Itoa.f; rw [if_pos ⟨i0, i1⟩])
  have HR := Lib.hid hr
  have HC := Lib.hid hc
  have HL := Lib.hid hlen
  have HE := Lib.hid hE
  have hl2 := hlen
  simp only [bodyL, headL, List.length_append, List.length_cons, List.length_nil, Array.length_toList] at hl2
  have hsz : (⟨(Lib.itoa a0_0).toArray⟩ : ByteArray).size = (Lib.itoa a0_0).length := size_l _
  have hm : a0_1.data.size = a0_1.size := rfl
  generalize hs0 : (⟨(Lib.itoa a0_0).toArray⟩ : ByteArray) = s0 at *
  have q1 : (9223372036854775807 < s0.size + 1) = False := eq_false (by omega)
  have q2 : (9223372036854775807 < s0.size + 1 + a0_1.size) = False := eq_false (by omega)
  have q3 : (9223372036854775807 < s0.size + 1 + a0_1.size + 1) = False := eq_false (by omega)
  have q4 : s0.size + 1 + a0_1.size + 1 ≤ 140737488355328 := by omega
  have HS := Lib.hid hs0
  clear hr hc hlen hE i0 i1 hl2 hsz hs0 hm
  go_enter Tryz.func19, Tryz.ntmps19
  go_wp2_with fail
  obtain ⟨S0⟩ : Inv w #[.int .i64 a0_0, .string a0_1, .slice A0_2 l0_2.length c0_2] [] ((w.alloc (.cells #[.int .i64 a0_0, .string a0_1, .slice A0_2 l0_2.length c0_2] 24)).alloc (.cells #[.pointer none, .slice none 0 0] 63)) := Inv.start w _
  generalize (w.alloc (.cells #[.int .i64 a0_0, .string a0_1, .slice A0_2 l0_2.length c0_2] 24)).alloc (.cells #[.pointer none, .slice none 0 0] 63) = W at S0 ⊢
  have c0 := S0.cell 0
  have c1 := S0.cell 1
  simp at c0 c1
  have HD := Lib.hid (S0.step (below_drew (Below.refl _ _)))
  have C1 := Lib.hid (strconv_Itoa.calls a0_0 _ W.drew HI.out (HD.out.env HE.out))
  clear S0 HI
  have HW := Lib.hid (fun w1 (h : Inv0 w #[.int .i64 a0_0, .string a0_1, .slice A0_2 l0_2.length c0_2] [] w1) => write_calls (s0 ++ ⟨#[32]⟩ ++ a0_1 ++ ⟨#[10]⟩) h (by have e1 : (⟨#[32]⟩ : ByteArray).size = 1 := rfl; have e2 : (⟨#[10]⟩ : ByteArray).size = 1 := rfl; simp only [ByteArray.size_append, List.length_nil]; omega))
  clear q4
  go_region_held3 (fun w' => w'.cell? ⟨w.heap.size, 0, none⟩ = some (.int .i64 a0_0) ∧ w'.cell? ⟨w.heap.size, 1, none⟩ = some (.string a0_1)) (go_keep)
    (first | (go_at_call 20; refine C1.out.mono ?_; rintro e w1 ⟨rfl, hb1⟩; have H1 := Lib.hid (HD.out.step hb1); have k0 := (H1.out.cell 0); have k1 := (H1.out.cell 1); simp at k0 k1; clear hb1 HD C1) | (go_at_call 30; refine (HW.out w1 H1.out).mono ?_; rintro e w2 ⟨rfl, h2⟩; have H2 := Lib.hid h2; have k0 := (H2.out.cell 0); have k1 := (H2.out.cell 1); simp at k0 k1; clear h2))
  clear q1 q2 q3 c0 c1 HW H1
  have HB : Hid ((([] : List UInt8) ++ (s0 ++ ⟨#[32]⟩ ++ a0_1 ++ ⟨#[10]⟩ : ByteArray).data.toList) = headL a0_0 a0_1) := by
    show _ = _
    rw [← HS.out]
    simp [headL]
  have H3 : Hid (Inv0 w #[.int .i64 a0_0, .string a0_1, .slice A0_2 l0_2.length c0_2] (headL a0_0 a0_1 ++ argsL (l0_2.take 0)) w2) := by
    show Inv0 _ _ _ _
    have := H2.out
    rw [HB.out] at this
    simpa [argsL] using this
  clear H2 HB HS
  have k2 := H3.out.cell 2
  simp at k2
  have hl0 : l0_2.length ≤ 140737488355328 := by
    have := HL.out
    have h2 := argsL_len l0_2
    simp only [bodyL, List.length_append] at this
    omega
  go_wp2
  clear k0 k1 k2
  go_loopw [18] (fun i wr => ∃ k : Nat, k ≤ l0_2.length ∧ i = .int .i64 k ∧ Hid (Inv0 w #[.int .i64 a0_0, .string a0_1, .slice A0_2 l0_2.length c0_2] (headL a0_0 a0_1 ++ argsL (l0_2.take k)) wr)) (fun i _ => l0_2.length - (intOf i).toNat)
  case atStart => exact ⟨0, by omega, rfl, H3⟩
  case round =>
    clear H3
    obtain ⟨k, hk, rfl, H4⟩ := hrel
    by_cases hlt : k < l0_2.length
    · obtain ⟨ad, e1, hx⟩ := Kd.at_string (Kd.C_below HR.out H4.out.low) (k : Int) (by omega) (by omega)
      cases e1
      rw [Int.toNat_natCast] at hx
      have ha : rdOf ByteArray.empty l0_2 (k : Int) = l0_2[k] := by simp [rdOf, List.getD, hlt]
      rw [ha] at hx
      have ht : argsL (l0_2.take (k + 1)) = argsL (l0_2.take k) ++ argL l0_2[k] := by rw [List.take_succ_eq_append_getElem hlt]; exact argsL_snoc _ _
      have hle := argsL_le l0_2 k hlt
      generalize hgen : l0_2[k] = a at *
      clear hgen ha
      have hbig := HL.out
      simp only [bodyL, List.length_append] at hbig
      have hargl : (argL a).length = (Lib.itoa (a.size : Int)).length + a.size + 2 := by simp only [argL, List.length_append, List.length_cons, List.length_nil, Array.length_toList]; have : a.data.size = a.size := rfl; omega
      have hsz := size_l (Lib.itoa (a.size : Int))
      have HI := Lib.hid (show strconv_Itoa.f (a.size : Int) = some ⟨(Lib.itoa (a.size : Int)).toArray⟩ by unfold strconv_Itoa.f; rw [if_pos ⟨by omega, by omega⟩])
      have hD : argL a = ((⟨(Lib.itoa (a.size : Int)).toArray⟩ : ByteArray) ++ ⟨#[58]⟩ ++ a ++ ⟨#[10]⟩).data.toList := by simp [argL]
      generalize hs0 : (⟨(Lib.itoa (a.size : Int)).toArray⟩ : ByteArray) = s0 at *
      have q1 : (9223372036854775807 < s0.size + 1) = False := eq_false (by omega)
      have q2 : (9223372036854775807 < s0.size + 1 + a.size) = False := eq_false (by omega)
      have q3 : (9223372036854775807 < s0.size + 1 + a.size + 1) = False := eq_false (by omega)
      have q4 : (headL a0_0 a0_1 ++ argsL (l0_2.take k)).length + (s0 ++ ⟨#[58]⟩ ++ a ++ ⟨#[10]⟩).size ≤ 140737488355328 := by
        have e1 : (⟨#[58]⟩ : ByteArray).size = 1 := rfl
        have e2 : (⟨#[10]⟩ : ByteArray).size = 1 := rfl
        simp only [ByteArray.size_append, List.length_append]
        omega
      have Q4 := Lib.hid q4
      have HT := Lib.hid (ht.trans (congrArg _ hD))
      clear ht hD q4 hs0 hsz hargl hbig hle
      have C1 := Lib.hid (strconv_Itoa.calls (a.size : Int) s0 wr HI.out (H4.out.env HE.out))
      clear HI
      go_wp2_with fail
      refine C1.out.mono ?_
      rintro e w3 ⟨rfl, hb⟩
      have H5 := Lib.hid (H4.out.step hb)
      clear hb C1 H4
      go_wp2_with fail
      refine (write_calls _ H5.out Q4.out).mono ?_
      rintro e w4 ⟨rfl, h6⟩
      have H6 := Lib.hid h6
      clear h6 H5 Q4 hx q1 q2 q3
      have H7 : Hid (Inv0 w #[.int .i64 a0_0, .string a0_1, .slice (some ad) l0_2.length c0_2] (headL a0_0 a0_1 ++ argsL (l0_2.take (k + 1))) w4) := by
        show Inv0 _ _ _ _
        rw [HT.out, ← List.append_assoc]
        exact H6.out
      clear H6 HT
      go_wp2
      go_roundw
      case rel => exact ⟨k + 1, by omega, by go_num, H7⟩
      case measure => simp [intOf]; omega
    · have HF : Hid (Lib.IsBuilderF 63 5 (w.heap.size + 1) (w.heap.size + 1) (Lib.byteCells (bodyL a0_0 a0_1 l0_2)) wr ∧ Below w.heap.size w wr ∧ w.heap.size + 1 ≤ wr.heap.size) := by
        show _ ∧ _ ∧ _
        have := H4.out
        rw [List.take_of_length_le (by omega)] at this
        exact ⟨this.bld, this.low, by have := this.big; omega⟩
      clear H4
      go_wp2_with fail
      refine (Tryz.Builder_String_any_k _ _ _ wr HF.out.1 HF.out.2.2).mono ?_
      rintro e w5 ⟨rfl, hrest⟩
      have HB : Hid (Below w.heap.size w w5) := HF.out.2.1.trans (hrest.2.1.mono (by omega))
      clear hrest HF
      go_wp2
      go_ret
      exact ⟨by rw [HRES.out]; rfl, HB.out⟩

def protocol_body.f (a0_0 : Int) (a0_1 : ByteArray) (l0_2 : List ByteArray) : Option ByteArray :=
  if -9223372036854775808 ≤ a0_0 ∧ a0_0 ≤ 9223372036854775807 ∧ (bodyL a0_0 a0_1 l0_2).length ≤ 140737488355328 then some ⟨(bodyL a0_0 a0_1 l0_2).toArray⟩ else none

theorem protocol_body.calls (a0_0 : Int) (a0_1 : ByteArray) (A0_2 : Option Addr) (c0_2 : Nat) (l0_2 : List ByteArray) (r : ByteArray) (w : World) (hr0_2 : Kd.C Kd.string w A0_2 l0_2.length l0_2) (hc0_2 : l0_2.length ≤ c0_2) (h : protocol_body.f a0_0 a0_1 l0_2 = some r) (hE : Env w) :
    Calls Tryz.prog 19 #[.agg #[.int .i64 a0_0, .string a0_1, .slice A0_2 l0_2.length c0_2]] w fun e w' => e = .returned (.string r) ∧ Below w.heap.size w w' := by
  unfold protocol_body.f at h
  by_cases c : -9223372036854775808 ≤ a0_0 ∧ a0_0 ≤ 9223372036854775807 ∧ (bodyL a0_0 a0_1 l0_2).length ≤ 140737488355328
  · rw [if_pos c] at h
    obtain rfl := Option.some.inj h
    exact body_walk a0_0 a0_1 A0_2 c0_2 l0_2 _ rfl w c.1 c.2.1 hr0_2 hc0_2 c.2.2 hE
  · rw [if_neg c] at h
    cases h

end Go.Proofs.YtanpkbglfhdjfaaGreatDoor
