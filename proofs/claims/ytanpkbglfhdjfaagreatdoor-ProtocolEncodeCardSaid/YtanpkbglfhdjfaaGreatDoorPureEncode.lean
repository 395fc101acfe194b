/- The law ProtocolEncode, as the printed walk computes it, is true at every message: the reference's encoder makes the same encoding. No program in sight. -/
import Derived.Test.YtanpkbglfhdjfaaGreatDoorPlainE
import Derived.Test.YtanpkbglfhdjfaaGreatDoorQRx
import Derived.Test.YtanpkbglfhdjfaaGreatDoorQLEncodex
set_option linter.unusedVariables false
set_option linter.unusedSimpArgs false
namespace Go.Proofs.YtanpkbglfhdjfaaGreatDoor.PureEncode
open Go.RowKit Go.Proofs.YtanpkbglfhdjfaaGreatDoor Go.Proofs.YtanpkbglfhdjfaaGreatDoor.QP Go.Proofs.YtanpkbglfhdjfaaGreatDoor.QE Go.Proofs.YtanpkbglfhdjfaaGreatDoor.QR Go.Proofs.YtanpkbglfhdjfaaGreatDoor.QLEncode Go.Proofs.YtanpkbglfhdjfaaGreatDoor.Plain
open Go.Proofs.YtanpkbglfhdjfaaGreatDoorW.PrintWords (rdOf bt rd)

theorem awake_eq : emendatelaw55_awake.f = some true := rfl

/-! ### method -/
theorem method_loop (x : List UInt8) (hx : x.length ≤ 140737488355328) : ∀ (t pre : List UInt8), x = pre ++ t → pre.all small = true → Ev (fun k => emendateref55_method.l0 k ⟨x.toArray⟩ (pre.length : Int)) (validL x)
  | [], pre, e, hp => by
    subst e
    rw [List.append_nil] at hx ⊢
    refine Ev.step ?_
    simp only [emendateref55_method.l0, sz, Int.lt_irrefl, if_false]
    unfold validL
    rw [hp, Bool.and_true]
    by_cases h1 : 1 ≤ pre.length
    · simp only [if_pos (show (pre.length : Int) ≥ 1 by omega), h1, decide_true, Bool.true_and]
      refine Ev.const ?_
      simp only [Option.some.injEq, decide_eq_decide]
      omega
    · simp only [if_neg (show ¬ (pre.length : Int) ≥ 1 by omega), h1, decide_false, Bool.false_and]
      exact Ev.const rfl
  | c :: t, pre, e, hp => by
    subst e
    have hlen : (pre ++ c :: t).length = pre.length + (t.length + 1) := by simp
    refine Ev.step ?_
    simp only [emendateref55_method.l0, sz, bt_mid, if_pos (show (pre.length : Int) < ((pre ++ c :: t).length : Int) by omega), if_pos (show (0 : Int) ≤ (pre.length : Int) by omega), w64 ((pre.length : Int) + 1) (by omega) (by omega)]
    by_cases hc : small c = true
    · have hc' := hc
      unfold small at hc'
      simp only [Bool.and_eq_true, decide_eq_true_eq] at hc'
      simp only [if_neg (show ¬ (c.toNat : Int) < 97 by omega), if_neg (show ¬ (c.toNat : Int) > 122 by omega)]
      have ih := method_loop (pre ++ c :: t) hx t (pre ++ [c]) (by simp) (by rw [List.all_append, hp, List.all_cons, hc]; rfl)
      simp only [List.length_append, List.length_cons, List.length_nil] at ih
      exact ih
    · have hf : validL (pre ++ c :: t) = false := by
        unfold validL
        rw [Bool.eq_false_iff]
        intro h
        simp only [Bool.and_eq_true] at h
        have := List.all_eq_true.1 h.2.2 c (by simp)
        exact hc this
      rw [hf]
      have hc' : ¬ (97 ≤ c.toNat ∧ c.toNat ≤ 122) := by
        intro h
        exact hc (by unfold small; simp [h.1, h.2])
      by_cases h1 : (c.toNat : Int) < 97
      · simp only [if_pos h1]
        exact Ev.const rfl
      · simp only [if_neg h1, if_pos (show (c.toNat : Int) > 122 by omega)]
        exact Ev.const rfl
theorem method_eq (b : ByteArray) (hb : b.size ≤ reachBytes) : Ev (fun k => emendateref55_method.f k b) (validL b.data.toList) := by
  unfold emendateref55_method.f
  have := method_loop b.data.toList (by rw [data_len]; rw [reach_eq] at hb; omega) b.data.toList [] rfl rfl
  rw [back b] at this
  exact this

/-! ### Decimal -/
theorem blank_loop (x t : List UInt8) : ∀ (m pre : List UInt8), x = pre ++ (m ++ 32 :: t) → (32 : UInt8) ∉ m → x.length ≤ 1000 → Ev (fun k => emendateref55_Decimal.l0 k ⟨x.toArray⟩ (pre.length : Int)) (B (pre ++ m))
  | [], pre, e, _, hx => by
    subst e
    rw [List.nil_append] at hx ⊢
    refine Ev.step ?_
    have hlen : (pre ++ 32 :: t).length = pre.length + (t.length + 1) := by simp
    have e32 : (((32 : UInt8)).toNat : Int) = 32 := rfl
    simp only [emendateref55_Decimal.l0, sz, bt_mid, e32, if_true, if_pos (show (pre.length : Int) < ((pre ++ 32 :: t).length : Int) by omega), if_pos (show (0 : Int) ≤ (pre.length : Int) by omega), if_pos (show (pre.length : Int) ≤ ((pre ++ 32 :: t).length : Int) by omega), ext, Int.toNat_natCast, List.drop_zero, List.take_left, List.append_nil]
    exact Ev.const rfl
  | c :: m, pre, e, hm, hx => by
    subst e
    rw [List.cons_append] at hx ⊢
    have hlen : (pre ++ c :: (m ++ 32 :: t)).length = pre.length + ((m ++ 32 :: t).length + 1) := by simp
    refine Ev.step ?_
    have hc : ¬ ((c.toNat : Int) = 32) := by
      intro h
      refine hm ?_
      have : c = 32 := UInt8.toNat_inj.1 (by show c.toNat = 32; omega)
      rw [this]
      exact List.mem_cons_self ..
    simp only [emendateref55_Decimal.l0, sz, bt_mid, if_neg hc, if_pos (show (pre.length : Int) < ((pre ++ c :: (m ++ 32 :: t)).length : Int) by omega), if_pos (show (0 : Int) ≤ (pre.length : Int) by omega), w64 ((pre.length : Int) + 1) (by omega) (by omega)]
    have ih := blank_loop (pre ++ c :: (m ++ 32 :: t)) t m (pre ++ [c]) (by simp) (fun h => hm (List.mem_cons_of_mem _ h)) hx
    simp only [List.length_append, List.length_cons, List.length_nil] at ih
    have e2 : pre ++ [c] ++ m = pre ++ c :: m := by simp
    rw [e2] at ih
    exact ih
theorem dec55_eq (a : Int) (h0 : -9223372036854775808 ≤ a) (h1 : a ≤ 9223372036854775807) : Ev (fun k => emendateref55_Decimal.f k a) (B (Lib.itoa a)) := by
  unfold emendateref55_Decimal.f
  refine Ev.bind (event_eq a h0 h1) ?_
  have hl := Lib.itoa_length_le a h0 h1
  have hn : (32 : UInt8) ∉ Lib.itoa a := not_mem_itoa 32 a (by decide) (by decide)
  have := blank_loop (Lib.itoa a ++ zeros) [48, 32, 48, 32, 48, 32, 48, 32, 48, 32, 48, 58] (Lib.itoa a) [] rfl hn (by simp [zeros]; omega)
  exact this

/-! ### body -/
theorem rbody_loop (a : Int) (b : ByteArray) (l : List ByteArray) (hl : l.length ≤ 20) (hs : ∀ s ∈ l, s.size ≤ reachBytes) (hd : List UInt8) (ht : hd.length + (argsL l).length ≤ 1000000) :
    ∀ (j i : Nat), i + j = l.length → Ev (fun k => emendateref55_body.l0 k ⟨(hd ++ argsL (l.take i)).toArray⟩ (i : Int) a b l) (B (hd ++ argsL l))
  | 0, i, hi => by
    refine Ev.step ?_
    have hi' : i = l.length := by omega
    subst hi'
    simp only [emendateref55_body.l0, Int.lt_irrefl, if_false, List.take_length]
    exact Ev.const rfl
  | j + 1, i, hi => by
    refine Ev.step ?_
    have hil : i < l.length := by omega
    have hsz := hs l[i] (List.getElem_mem hil)
    rw [reach_eq] at hsz
    have ih := rbody_loop a b l hl hs hd ht j (i + 1) (by omega)
    have hle := argsL_le l i hil
    have hal : (argL l[i]).length = (Lib.itoa (l[i].size : Int)).length + (l[i].size + 2) := by
      unfold argL
      rw [List.length_append, List.length_cons, List.length_append, data_len]
      rfl
    have htk : argsL (l.take (i + 1)) = argsL (l.take i) ++ argL l[i] := by
      rw [List.take_succ_eq_append_getElem hil, argsL_snoc]
    simp only [emendateref55_body.l0, if_pos (show (i : Int) < (l.length : Int) by omega), if_pos (show (0 : Int) ≤ (i : Int) by omega), rdOf_at l i hil, w64 ((i : Int) + 1) (by omega) (by omega)]
    refine Ev.bind (dec55_eq (l[i].size : Int) (by omega) (by omega)) ?_
    have h58 : ∀ z : List UInt8, (⟨z.toArray⟩ : ByteArray) ++ (⟨#[58]⟩ : ByteArray) = ⟨(z ++ [58]).toArray⟩ := fun z => app z [58]
    have h10 : ∀ z : List UInt8, (⟨z.toArray⟩ : ByteArray) ++ (⟨#[10]⟩ : ByteArray) = ⟨(z ++ [10]).toArray⟩ := fun z => app z [10]
    have hbk : ∀ z : List UInt8, (⟨z.toArray⟩ : ByteArray) ++ l[i] = ⟨(z ++ l[i].data.toList).toArray⟩ := fun z => by
      conv => lhs; rw [← back l[i]]
      exact app _ _
    simp only [app, h58, hbk, h10, sz, List.length_append, List.length_cons, List.length_nil, data_len]
    simp only [if_pos (show hd.length + (argsL (l.take i)).length + (Lib.itoa (l[i].size : Int)).length ≤ 9223372036854775807 by omega), if_pos (show hd.length + (argsL (l.take i)).length + (Lib.itoa (l[i].size : Int)).length + 1 ≤ 9223372036854775807 by omega),
      if_pos (show hd.length + (argsL (l.take i)).length + (Lib.itoa (l[i].size : Int)).length + (0 + 1) + l[i].size ≤ 9223372036854775807 by omega), if_pos (show hd.length + (argsL (l.take i)).length + (Lib.itoa (l[i].size : Int)).length + (0 + 1) + l[i].size + 1 ≤ 9223372036854775807 by omega)]
    rw [htk] at ih
    have e : hd ++ argsL (l.take i) ++ Lib.itoa (l[i].size : Int) ++ [58] ++ l[i].data.toList ++ [10] = hd ++ (argsL (l.take i) ++ argL l[i]) := by
      simp only [argL, List.append_assoc]
      rfl
    rw [e]
    exact ih
theorem rbody_eq (a : Int) (b : ByteArray) (l : List ByteArray) (h0 : -9223372036854775808 ≤ a) (h1 : a ≤ 9223372036854775807) (hl : l.length ≤ 20) (hs : ∀ s ∈ l, s.size ≤ reachBytes) (ht : (bodyL a b l).length ≤ 1000000) :
    Ev (fun k => emendateref55_body.f k a b l) (B (bodyL a b l)) := by
  unfold emendateref55_body.f
  refine Ev.bind (dec55_eq a h0 h1) ?_
  have h32 : ∀ z : List UInt8, (⟨z.toArray⟩ : ByteArray) ++ (⟨#[32]⟩ : ByteArray) = ⟨(z ++ [32]).toArray⟩ := fun z => app z [32]
  have h10 : ∀ z : List UInt8, (⟨z.toArray⟩ : ByteArray) ++ (⟨#[10]⟩ : ByteArray) = ⟨(z ++ [10]).toArray⟩ := fun z => app z [10]
  have hbk : ∀ z : List UInt8, (⟨z.toArray⟩ : ByteArray) ++ b = ⟨(z ++ b.data.toList).toArray⟩ := fun z => by
    conv => lhs; rw [← back b]
    exact app _ _
  have hhl : (headL a b).length = (Lib.itoa a).length + (b.size + 2) := by
    unfold headL
    rw [List.length_append, List.length_cons, List.length_append, data_len]
    rfl
  have hbl : (headL a b).length + (argsL l).length ≤ 1000000 := by
    unfold bodyL at ht
    rwa [List.length_append] at ht
  simp only [h32, hbk, h10, sz, List.length_append, List.length_cons, List.length_nil, data_len]
  simp only [if_pos (show (Lib.itoa a).length + 1 ≤ 9223372036854775807 by omega), if_pos (show (Lib.itoa a).length + (0 + 1) + b.size ≤ 9223372036854775807 by omega), if_pos (show (Lib.itoa a).length + (0 + 1) + b.size + 1 ≤ 9223372036854775807 by omega)]
  have := rbody_loop a b l hl hs (headL a b) hbl l.length 0 (by omega)
  have e : Lib.itoa a ++ [32] ++ b.data.toList ++ [10] = headL a b ++ argsL (l.take 0) := by
    simp only [headL, argsL, List.take_zero, List.append_assoc, List.append_nil]
    rfl
  rw [e]
  exact this

theorem renc_eq (a : Int) (b : ByteArray) (l : List ByteArray) (h0 : -9223372036854775808 ≤ a) (h1 : a ≤ 9223372036854775807) (hb : b.size ≤ reachBytes) (hs : ∀ s ∈ l, s.size ≤ reachBytes) (ht : tot l ≤ 100000) :
    Ev (fun k => emendateref55_Encode.f k a b l) (encL a b l) := by
  unfold emendateref55_Encode.f
  refine Ev.bind (method_eq b hb) ?_
  cases hv : validL b.data.toList with
  | false =>
    simp only [Bool.false_eq_true, if_false]
    refine Ev.step ?_
    simp only [emendateref55_Encode.j0]
    unfold encL
    rw [if_neg (fun h : good a b l => by have := h.1; rw [hv] at this; cases this)]
    exact Ev.const rfl
  | true =>
    simp only [if_true]
    refine Ev.step ?_
    simp only [emendateref55_Encode.j0]
    by_cases hl : l.length ≤ 10
    · have hd : decide ((l.length : Int) > 10) = false := decide_eq_false (by omega)
      simp only [hd, Bool.false_eq_true, if_false]
      have hbl := body_len_le a b l h0 h1 hv hl ht hs
      refine Ev.bind (rbody_eq a b l h0 h1 (by omega) hs (by omega)) ?_
      simp only [sz]
      unfold encL
      by_cases hg : (bodyL a b l).length ≤ 100000
      · rw [if_pos (show good a b l from ⟨hv, hl, hg⟩)]
        simp only [if_neg (show ¬ ((bodyL a b l).length : Int) > 100000 by omega)]
        refine Ev.bind (dec55_eq ((bodyL a b l).length : Int) (by omega) (by omega)) ?_
        have hil := Lib.itoa_length_le ((bodyL a b l).length : Int) (by omega) (by omega)
        simp only [app, sz, List.length_append, List.length_cons, List.length_nil]
        simp only [if_pos (show 16 + (Lib.itoa ((bodyL a b l).length : Int)).length ≤ 9223372036854775807 by omega)]
        refine Ev.const ?_
        rw [if_pos (by omega), if_pos (by omega)]
        unfold whole
        simp only [List.append_assoc]
        rfl
      · rw [if_neg (fun h : good a b l => hg h.2.2)]
        simp only [if_pos (show ((bodyL a b l).length : Int) > 100000 by omega)]
        exact Ev.const rfl
    · have hd : decide ((l.length : Int) > 10) = true := decide_eq_true (by omega)
      simp only [hd, if_true]
      unfold encL
      rw [if_neg (fun h : good a b l => hl h.2.1)]
      exact Ev.const rfl

theorem holds (a : Int) (b : ByteArray) (l : List ByteArray) (hw : (Lit.int .i64 a).wf = true) (hb : b.size ≤ reachBytes) (hs : ∀ s ∈ l, s.size ≤ reachBytes) : ∃ k, emendatelaw55_ProtocolEncode.f k a b l = some true := by
  obtain ⟨h0, h1⟩ := int_in hw
  refine Ev.get ?_
  unfold emendatelaw55_ProtocolEncode.f
  refine Ev.bind (short_eq a b l hb hs) ?_
  cases hsh : shortB b l with
  | false => exact Ev.const rfl
  | true =>
    unfold shortB at hsh
    simp only [Bool.and_eq_true, decide_eq_true_eq] at hsh
    simp only [if_true]
    refine Ev.bind (enc_eq a b l h0 h1 hs) ?_
    refine Ev.bind (renc_eq a b l h0 h1 hb hs (by omega)) ?_
    simp only [awake_eq, Option.bind_some, if_true, beq_self_eq_true]
    exact Ev.const rfl
end Go.Proofs.YtanpkbglfhdjfaaGreatDoor.PureEncode
