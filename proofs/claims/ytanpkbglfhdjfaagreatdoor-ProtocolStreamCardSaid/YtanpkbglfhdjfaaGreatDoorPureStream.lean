/- The law ProtocolStream, as the printed walk computes it, is true at every list of messages and every place to cut. No program in sight. -/
import Derived.Test.YtanpkbglfhdjfaaGreatDoorPlainA
import Derived.Test.YtanpkbglfhdjfaaGreatDoorQLStreamx
import Derived.Test.YtanpkbglfhdjfaaGreatDoorRowS
set_option linter.unusedVariables false
set_option linter.unusedSimpArgs false
namespace Go.Proofs.YtanpkbglfhdjfaaGreatDoor.PureStream
open Go.RowKit Go.Proofs.YtanpkbglfhdjfaaGreatDoor Go.Proofs.YtanpkbglfhdjfaaGreatDoor.QP Go.Proofs.YtanpkbglfhdjfaaGreatDoor.QLStream Go.Proofs.YtanpkbglfhdjfaaGreatDoor.Plain
open Go.Proofs.YtanpkbglfhdjfaaGreatDoorW.PrintWords (rdOf bt rd)
open Go.Proofs.YtanpkbglfhdjfaaGreatDoor.RowA (okMsg)

theorem awake_eq : emendatelaw55_awake.f = some true := rfl
def enc1 (m : S24) : List UInt8 := whole (bodyL m.f0 m.f1 m.f2)
def all1 : List S24 → List UInt8
  | [] => []
  | m :: r => enc1 m ++ all1 r
theorem all1_snoc : ∀ (l : List S24) (m : S24), all1 (l ++ [m]) = all1 l ++ enc1 m
  | [], m => by simp [all1]
  | a :: l, m => by simp [all1, all1_snoc l m]
theorem all1_app : ∀ (l r : List S24), all1 (l ++ r) = all1 l ++ all1 r
  | [], r => rfl
  | a :: l, r => by simp [all1, all1_app l r]
def good1 (m : S24) : Prop := good m.f0 m.f1 m.f2
theorem enc1_len {m : S24} (hg : good1 m) : (enc1 m).length ≤ 100100 ∧ 20 ≤ (enc1 m).length := by
  have hwl := whole_len (bodyL m.f0 m.f1 m.f2)
  have hbl := hg.2.2
  have hil := Lib.itoa_length_le ((bodyL m.f0 m.f1 m.f2).length : Int) (by omega) (by omega)
  unfold enc1
  omega
theorem all1_len : ∀ l : List S24, (∀ m ∈ l, good1 m) → (all1 l).length ≤ l.length * 100100
  | [], _ => by simp [all1]
  | m :: r, h => by
    have ih := all1_len r (fun x hx => h x (List.mem_cons_of_mem _ hx))
    have h1 := enc1_len (h m (List.mem_cons_self ..))
    simp only [all1, List.length_append, List.length_cons, Nat.succ_mul]
    omega
theorem rd_at (l : List S24) (i : Nat) (h : i < l.length) : rd_T24 l (i : Int) = l[i] := by
  unfold rd_T24
  rw [Int.toNat_natCast, List.getD_eq_getElem?_getD, List.getElem?_eq_getElem h]
  rfl
theorem all1_drop (l : List S24) (i : Nat) (h : i < l.length) : all1 (l.drop i) = enc1 l[i] ++ all1 (l.drop (i + 1)) := by
  rw [List.drop_eq_getElem_cons h]
  rfl

section
variable (l : List S24) (c : Int) (hl : l.length ≤ 6) (ho : ∀ m ∈ l, okMsg m) (hg : ∀ m ∈ l, good1 m)

theorem dec1 (hl : l.length ≤ 6) (ho : ∀ m ∈ l, okMsg m) (hg : ∀ m ∈ l, good1 m) (i : Nat) (hi : i < l.length) (more : List UInt8) (hm : more.length ≤ 700000) :
    Ev (fun k => protocol_Decode.f k ⟨(enc1 l[i] ++ more).toArray⟩) (l[i].f0, l[i].f1, l[i].f2, ((enc1 l[i]).length : Int), 0) := by
  have h1 := hg l[i] (List.getElem_mem hi)
  have h2 := ho l[i] (List.getElem_mem hi)
  have h3 := enc1_len h1
  obtain ⟨b0, b1⟩ := int_in h2.1
  have := decode_eq (enc1 l[i] ++ more) (by rw [List.length_append]; omega)
  unfold enc1 at this
  rw [dec_whole _ _ _ b0 b1 h1 h2.2.2 more] at this
  exact this

/-- One message read, whatever comes behind. -/
theorem round (hl : l.length ≤ 6) (ho : ∀ m ∈ l, okMsg m) (hg : ∀ m ∈ l, good1 m) (s : ByteArray) (late : Bool) (i : Nat) (hi : i < l.length) (more : List UInt8) (hm : more.length ≤ 700000)
    (h : Ev (fun k => emendatelaw55_ProtocolStream.l1 k l c s ⟨more.toArray⟩ late ((i + 1 : Nat) : Int)) true) :
    Ev (fun k => emendatelaw55_ProtocolStream.l1 k l c s ⟨(enc1 l[i] ++ more).toArray⟩ late (i : Int)) true := by
  have h1 := hg l[i] (List.getElem_mem hi)
  have h3 := enc1_len h1
  refine Ev.step ?_
  simp only [emendatelaw55_ProtocolStream.l1, if_pos (show (i : Int) < (l.length : Int) by omega)]
  refine Ev.bind (dec1 l hl ho hg i hi more hm) ?_
  simp only [if_neg (show ¬ (0 : Int) = 6 by decide)]
  refine Ev.step ?_
  simp only [emendatelaw55_ProtocolStream.j2, Bool.false_eq_true, if_false, if_true, sz, List.length_append, rd_at l i hi]
  simp only [if_neg (show ¬ ((enc1 l[i]).length : Int) < 1 by omega), if_neg (show ¬ ((enc1 l[i]).length : Int) > (((enc1 l[i]).length + more.length : Nat) : Int) by omega), if_pos (show (0 : Int) ≤ (i : Int) by omega), if_pos (show (i : Int) < (l.length : Int) by omega)]
  refine Ev.bind (same_refl _ _ _ (by have := h1.2.1; omega)) ?_
  simp only [if_true, if_pos (show (0 : Int) ≤ ((enc1 l[i]).length : Int) by omega), if_pos (show ((enc1 l[i]).length : Int) ≤ (((enc1 l[i]).length + more.length : Nat) : Int) by omega), ext, Int.toNat_natCast, w64 ((i : Int) + 1) (by omega) (by omega)]
  have e : ((enc1 l[i] ++ more).take ((enc1 l[i]).length + more.length)).drop (enc1 l[i]).length = more := by
    rw [List.take_of_length_le (by rw [List.length_append]; omega), List.drop_left]
  rw [e]
  exact h

theorem late_true (hl : l.length ≤ 6) (ho : ∀ m ∈ l, okMsg m) (hg : ∀ m ∈ l, good1 m) (s : ByteArray) : ∀ (j i : Nat), i + j = l.length →
    Ev (fun k => emendatelaw55_ProtocolStream.l1 k l c s ⟨(all1 (l.drop i)).toArray⟩ true (i : Int)) true
  | 0, i, hi => by
    refine Ev.step ?_
    have hi' : i = l.length := by omega
    subst hi'
    simp only [emendatelaw55_ProtocolStream.l1, Int.lt_irrefl, if_false, awake_eq, Option.bind_some, if_true, toL, List.drop_length, all1]
    exact Ev.const rfl
  | j + 1, i, hi => by
    have hil : i < l.length := by omega
    rw [all1_drop l i hil]
    have hlen := all1_len (l.drop (i + 1)) (fun m hm => hg m (List.mem_of_mem_drop hm))
    have h2 : (l.drop (i + 1)).length * 100100 ≤ 6 * 100100 := Nat.mul_le_mul_right _ (by rw [List.length_drop]; omega)
    exact round l c hl ho hg s true i hil _ (by omega) (late_true hl ho hg s j (i + 1) (by omega))

theorem late_false (hl : l.length ≤ 6) (ho : ∀ m ∈ l, okMsg m) (hg : ∀ m ∈ l, good1 m) (c0 : 0 ≤ c) (c1 : c ≤ 65535) (p : Nat) (hp : Int.tmod c (((all1 l).length : Int) + 1) = (p : Int)) :
    ∀ (j i q : Nat), i + j = l.length → q + (all1 (l.take i)).length = p →
    Ev (fun k => emendatelaw55_ProtocolStream.l1 k l c ⟨(all1 l).toArray⟩ ⟨((all1 (l.drop i)).take q).toArray⟩ false (i : Int)) true
  | 0, i, q, hi, _ => by
    refine Ev.step ?_
    have hi' : i = l.length := by omega
    subst hi'
    simp only [emendatelaw55_ProtocolStream.l1, Int.lt_irrefl, if_false, awake_eq, Option.bind_some, if_true, toL, List.drop_length, all1, List.take_nil]
    exact Ev.const rfl
  | j + 1, i, q, hi, hq => by
    have hil : i < l.length := by omega
    have hlen := all1_len (l.drop (i + 1)) (fun m hm => hg m (List.mem_of_mem_drop hm))
    have h2 : (l.drop (i + 1)).length * 100100 ≤ 6 * 100100 := Nat.mul_le_mul_right _ (by rw [List.length_drop]; omega)
    have hlen0 := all1_len l hg
    have h20 : l.length * 100100 ≤ 6 * 100100 := Nat.mul_le_mul_right _ hl
    have h1 := hg l[i] (List.getElem_mem hil)
    have h3 := enc1_len h1
    have htk : all1 (l.take (i + 1)) = all1 (l.take i) ++ enc1 l[i] := by
      rw [List.take_succ_eq_append_getElem hil, all1_snoc]
    by_cases hc : (enc1 l[i]).length ≤ q
    · have ih := late_false hl ho hg c0 c1 p hp j (i + 1) (q - (enc1 l[i]).length) (by omega) (by rw [htk, List.length_append]; omega)
      rw [all1_drop l i hil, take_app_ge _ _ _ hc]
      exact round l c hl ho hg _ false i hil _ (by rw [List.length_take]; omega) ih
    · -- a part of a message: the rest of the stream arrives
      have hsplit : all1 l = all1 (l.take i) ++ all1 (l.drop i) := by
        rw [← all1_app, List.take_append_drop]
      have hpl : p ≤ (all1 l).length := by
        rw [hsplit, all1_drop l i hil]
        simp only [List.length_append]
        omega
      have ht : (all1 (l.drop i)).take q = (enc1 l[i]).take q := by
        rw [all1_drop l i hil, take_app_le _ _ _ (by omega)]
      have hd := decode_eq ((enc1 l[i]).take q) (by rw [List.length_take]; omega)
      unfold enc1 at hd
      rw [dec_part _ _ _ h1 q (by unfold enc1 at hc; omega)] at hd
      refine Ev.step ?_
      simp only [emendatelaw55_ProtocolStream.l1, if_pos (show (i : Int) < (l.length : Int) by omega)]
      rw [ht]
      refine Ev.bind hd ?_
      simp only [decOut, if_true, Bool.not_false]
      refine Ev.step ?_
      simp only [emendatelaw55_ProtocolStream.j2, if_true, sz]
      rw [w64 c (by omega) (by omega), w64 (((all1 l).length : Int) + 1) (by omega) (by omega), hp]
      have hex : (⟨(all1 l).toArray⟩ : ByteArray).extract ((p : Int)).toNat (all1 l).length = ⟨((all1 l).drop p).toArray⟩ := by
        rw [ext, List.take_length, Int.toNat_natCast]
      rw [hex]
      simp only [if_neg (show ¬ ((all1 l).length : Int) + 1 = 0 by omega), if_pos (show (0 : Int) ≤ (p : Int) by omega), if_pos (show (p : Int) ≤ ((all1 l).length : Int) by omega), sz, app]
      have hsm : ((enc1 l[i]).take q).length + ((all1 l).drop p).length ≤ 9223372036854775807 := by
        rw [List.length_take, List.length_drop]
        omega
      simp only [if_pos hsm]
      have hj : (enc1 l[i]).take q ++ (all1 l).drop p = all1 (l.drop i) := by
        have e : (all1 l).drop p = (all1 (l.drop i)).drop q := by
          conv => lhs; rw [hsplit]
          rw [← hq, Nat.add_comm q, ← List.drop_drop, List.drop_left]
        rw [e, ← ht, List.take_append_drop]
      rw [hj]
      exact late_true l c hl ho hg _ (j + 1) i (by omega)
end

theorem first_loop (l : List S24) (c : Int) (hl : l.length ≤ 6) (ho : ∀ m ∈ l, okMsg m) (c0 : 0 ≤ c) (c1 : c ≤ 65535) : ∀ (j i : Nat), i + j = l.length → (∀ m ∈ l.take i, good1 m) →
    Ev (fun k => emendatelaw55_ProtocolStream.l0 k l c ⟨(all1 (l.take i)).toArray⟩ (i : Int)) true
  | 0, i, hi, hg => by
    refine Ev.step ?_
    have hi' : i = l.length := by omega
    subst hi'
    rw [List.take_length] at hg ⊢
    have hlen := all1_len l hg
    have h2 : l.length * 100100 ≤ 6 * 100100 := Nat.mul_le_mul_right _ hl
    simp only [emendatelaw55_ProtocolStream.l0, Int.lt_irrefl, if_false, sz]
    rw [w64 c (by omega) (by omega), w64 (((all1 l).length : Int) + 1) (by omega) (by omega)]
    have t0 : 0 ≤ Int.tmod c (((all1 l).length : Int) + 1) := Int.tmod_nonneg _ c0
    have t1 : Int.tmod c (((all1 l).length : Int) + 1) < ((all1 l).length : Int) + 1 := Int.tmod_lt_of_pos _ (by omega)
    obtain ⟨p, hp⟩ := Int.eq_ofNat_of_zero_le t0
    rw [hp] at t1
    have := late_false l c hl ho hg c0 c1 p hp l.length 0 p (by omega) (by simp [all1])
    simp only [hp, if_neg (show ¬ ((all1 l).length : Int) + 1 = 0 by omega), if_pos (show (0 : Int) ≤ (p : Int) by omega), if_pos (show (p : Int) ≤ ((all1 l).length : Int) by omega), ext, List.drop_zero, Int.toNat_natCast]
    simpa using this
  | j + 1, i, hi, hg => by
    refine Ev.step ?_
    have hil : i < l.length := by omega
    have h2 := ho l[i] (List.getElem_mem hil)
    obtain ⟨b0, b1⟩ := int_in h2.1
    simp only [emendatelaw55_ProtocolStream.l0, if_pos (show (i : Int) < (l.length : Int) by omega), if_pos (show (0 : Int) ≤ (i : Int) by omega), rd_at l i hil, w64 ((i : Int) + 1) (by omega) (by omega)]
    refine Ev.bind (short_eq l[i].f0 l[i].f1 l[i].f2 h2.2.1 h2.2.2) ?_
    cases shortB l[i].f1 l[i].f2 with
    | false => exact Ev.const rfl
    | true =>
      simp only [if_true]
      refine Ev.bind (enc_eq l[i].f0 l[i].f1 l[i].f2 b0 b1 h2.2.2) ?_
      unfold encL
      by_cases hgi : good l[i].f0 l[i].f1 l[i].f2
      · rw [if_pos hgi]
        have hgl : ∀ m ∈ l.take (i + 1), good1 m := by
          intro m hm
          rw [List.take_succ_eq_append_getElem hil, List.mem_append] at hm
          rcases hm with hm | hm
          · exact hg m hm
          · rw [List.mem_singleton.1 hm]
            exact hgi
        have ih := first_loop l c hl ho c0 c1 j (i + 1) (by omega) hgl
        have hlen := all1_len (l.take (i + 1)) hgl
        have h3 : (l.take (i + 1)).length * 100100 ≤ 6 * 100100 := Nat.mul_le_mul_right _ (by rw [List.length_take]; omega)
        have htk : all1 (l.take (i + 1)) = all1 (l.take i) ++ whole (bodyL l[i].f0 l[i].f1 l[i].f2) := by
          rw [List.take_succ_eq_append_getElem hil, all1_snoc]
          rfl
        rw [htk] at ih hlen
        rw [List.length_append] at hlen
        simp only [if_true, sz, app]
        simp only [if_pos (show (all1 (l.take i)).length + (whole (bodyL l[i].f0 l[i].f1 l[i].f2)).length ≤ 9223372036854775807 by omega)]
        exact ih
      · rw [if_neg hgi]
        exact Ev.const rfl

theorem holds (l : List S24) (c : Int) (ho : ∀ m ∈ l, okMsg m) (hc : (Lit.int .u16 c).wf = true) : ∃ k, emendatelaw55_ProtocolStream.f k l c = some true := by
  obtain ⟨c0, c1⟩ := u16_in hc
  refine Ev.get ?_
  unfold emendatelaw55_ProtocolStream.f
  by_cases hl : (l.length : Int) > 6
  · simp only [if_pos hl]
    exact Ev.const rfl
  · simp only [if_neg hl]
    exact first_loop l c (by omega) ho c0 c1 l.length 0 (by omega) (by simp)
end Go.Proofs.YtanpkbglfhdjfaaGreatDoor.PureStream
