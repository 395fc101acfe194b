/- What the reference's printed encoder computes: the same numerals, the same body, the same encoding. -/
import Derived.Test.YtanpkbglfhdjfaaGreatDoorPlainA
import Derived.Test.YtanpkbglfhdjfaaGreatDoorQEx
set_option linter.unusedVariables false
set_option linter.unusedSimpArgs false
namespace Go.Proofs.YtanpkbglfhdjfaaGreatDoor.Plain
open Go.RowKit Go.Proofs.YtanpkbglfhdjfaaGreatDoor Go.Proofs.YtanpkbglfhdjfaaGreatDoor.QP Go.Proofs.YtanpkbglfhdjfaaGreatDoor.QE Go.Proofs.YtanpkbglfhdjfaaGreatDoorW.PrintWords

theorem str_one (d : Nat) (h : d < 10) : strOfNums [(48 + (d : Int)) % 256] = ⟨([UInt8.ofNat (48 + d)] : List UInt8).toArray⟩ := by
  have e : ∀ i : Fin 10, strOfNums [(48 + (i.val : Int)) % 256] = ⟨([UInt8.ofNat (48 + i.val)] : List UInt8).toArray⟩ := by decide +kernel
  exact e ⟨d, h⟩
theorem tmod_nat (n : Nat) : Int.tmod (n : Int) 10 = ((n % 10 : Nat) : Int) := by
  rw [Int.tmod_eq_emod_of_nonneg (by omega)]
  rfl
theorem tdiv_nat (n : Nat) : Int.tdiv (n : Int) 10 = ((n / 10 : Nat) : Int) := by
  rw [Int.tdiv_eq_ediv_of_nonneg (by omega)]
  rfl
def digs (q : Nat) : List UInt8 := if q = 0 then [] else Lib.decDigits q
theorem decDigits_step (n : Nat) : Lib.decDigits n = digs (n / 10) ++ [UInt8.ofNat (48 + n % 10)] := by
  by_cases h : n < 10
  · rw [Lib.decDigits_one h, show n / 10 = 0 by omega, show n % 10 = n by omega]
    rfl
  · rw [Lib.decDigits, dif_neg h]
    unfold digs
    rw [if_neg (by omega)]
theorem dec16_loop (q : Nat) : ∀ (t : List UInt8), t.length + (digs q).length ≤ 1000 → q ≤ 9223372036854775807 → Ev (fun k => emendateref16_Decimal.l0 k (q : Int) ⟨t.toArray⟩) (B (digs q ++ t)) := by
  induction q using Nat.strongRecOn with
  | ind q ih =>
    intro t ht hq
    refine Ev.step ?_
    simp only [emendateref16_Decimal.l0]
    by_cases h0 : q = 0
    · subst h0
      simp only [if_neg (show ¬ ((0 : Nat) : Int) > 0 by decide)]
      exact Ev.const rfl
    · simp only [if_pos (show (q : Int) > 0 by omega), Option.bind_some, tmod_nat, tdiv_nat, w64 (48 + ((q % 10 : Nat) : Int)) (by omega) (by omega), w64 ((q / 10 : Nat) : Int) (by omega) (by omega), str_one (q % 10) (by omega), sz, app]
      have e : digs q = digs (q / 10) ++ [UInt8.ofNat (48 + q % 10)] := by
        conv => lhs; unfold digs
        rw [if_neg h0, decDigits_step]
      rw [e, List.length_append] at ht
      simp only [List.length_cons, List.length_nil] at ht ⊢
      simp only [if_pos (show 0 + 1 + t.length ≤ 9223372036854775807 by omega)]
      have := ih (q / 10) (by omega) ([UInt8.ofNat (48 + q % 10)] ++ t) (by simp only [List.length_append, List.length_cons, List.length_nil]; omega) (by omega)
      rw [e, List.append_assoc]
      exact this
theorem digs_len (n : Nat) (h : n ≤ 9223372036854775807) : (digs n).length ≤ 21 := by
  unfold digs
  split
  · simp
  · have := Lib.itoa_length_le (n : Int) (by omega) (by omega)
    rwa [itoa_nat] at this
theorem dec16_eq (n : Nat) (h : n ≤ 9223372036854775807) : Ev (fun k => emendateref16_Decimal.f k (n : Int)) (B (Lib.decDigits n)) := by
  unfold emendateref16_Decimal.f
  rw [tmod_nat, tdiv_nat, w64 (48 + ((n % 10 : Nat) : Int)) (by omega) (by omega), w64 ((n / 10 : Nat) : Int) (by omega) (by omega), str_one (n % 10) (by omega), decDigits_step]
  have hl := digs_len (n / 10) (by omega)
  exact dec16_loop (n / 10) _ (by simp only [List.length_cons, List.length_nil]; omega) (by omega)

theorem integer_eq (a : Int) (h0 : -9223372036854775808 ≤ a) (h1 : a ≤ 9223372036854775807) : Ev (fun k => emendateref52_integer.f k a) (B (Lib.itoa a)) := by
  unfold emendateref52_integer.f
  by_cases hn : a ≥ 0
  · obtain ⟨n, rfl⟩ := Int.eq_ofNat_of_zero_le hn
    simp only [if_pos hn]
    rw [itoa_nat]
    exact Ev.bind (dec16_eq n (by omega)) (Ev.const rfl)
  · simp only [if_neg hn]
    obtain ⟨n, rfl⟩ : ∃ n : Nat, a = -(n : Int) := ⟨a.natAbs, by omega⟩
    have em : Int.tmod (-(n : Int)) 10 = -((n % 10 : Nat) : Int) := by rw [Int.neg_tmod, tmod_nat]
    have ed : Int.tdiv (-(n : Int)) 10 = -((n / 10 : Nat) : Int) := by rw [Int.neg_tdiv, tdiv_nat]
    rw [Lib.itoa_neg n (by omega)]
    have e48 : (48 : Int) - -((n % 10 : Nat) : Int) = 48 + ((n % 10 : Nat) : Int) := by omega
    simp only [em, ed, e48, w64 (48 + ((n % 10 : Nat) : Int)) (by omega) (by omega), str_one (n % 10) (by omega), Option.bind_some, w64 (-((n / 10 : Nat) : Int)) (by omega) (by omega), Int.neg_neg, w64 ((n / 10 : Nat) : Int) (by omega) (by omega)]
    have hap : ∀ l : List UInt8, (⟨#[45]⟩ : ByteArray) ++ (⟨l.toArray⟩ : ByteArray) = ⟨(45 :: l).toArray⟩ := fun l => app [45] l
    by_cases h10 : -(n : Int) > -10
    · simp only [if_pos h10, sz, hap, List.length_cons, List.length_nil]
      refine Ev.const ?_
      rw [if_pos (by omega), decDigits_step, show n / 10 = 0 by omega]
      rfl
    · simp only [if_neg h10]
      refine Ev.bind (dec16_eq (n / 10) (by omega)) (Ev.const ?_)
      have hl := digs_len (n / 10) (by omega)
      have e : Lib.decDigits (n / 10) = digs (n / 10) := by
        unfold digs
        rw [if_neg (by omega)]
      rw [e]
      simp only [sz, hap, List.length_cons, List.length_nil, app]
      rw [if_pos (by omega), if_pos (by omega), decDigits_step n]
      rfl

/-! ### An event of which only the kind is told -/
def zeros : List UInt8 := [32, 48, 32, 48, 32, 48, 32, 48, 32, 48, 32, 48, 58]
theorem integer_zero : Ev (fun k => emendateref52_integer.f k 0) (⟨([48] : List UInt8).toArray⟩) := by
  have := integer_eq 0 (by decide) (by decide)
  have e : Lib.itoa 0 = [48] := by decide +kernel
  rw [e] at this
  exact this
theorem ev_round (a : Int) (t : List UInt8) (ht : t.length ≤ 1000) (i : Nat) (h1 : 1 ≤ i) (hi : i < 6) {r : ByteArray}
    (h : Ev (fun k => emendateref52_EncodeEvent.l0 k [a, 0, 0, 0, 0, 0, 0] ⟨(t ++ [48] ++ [32]).toArray⟩ ((i + 1 : Nat) : Int) a 0 0 0 0 ⟨#[]⟩ ⟨#[]⟩) r) :
    Ev (fun k => emendateref52_EncodeEvent.l0 k [a, 0, 0, 0, 0, 0, 0] ⟨t.toArray⟩ (i : Int) a 0 0 0 0 ⟨#[]⟩ ⟨#[]⟩) r := by
  refine Ev.step ?_
  have hr : rd [a, 0, 0, 0, 0, 0, 0] (i : Int) = 0 := by
    unfold rd
    rw [Int.toNat_natCast]
    match i, h1, hi with
    | 1, _, _ => rfl
    | 2, _, _ => rfl
    | 3, _, _ => rfl
    | 4, _, _ => rfl
    | 5, _, _ => rfl
  have hap : ∀ l : List UInt8, (⟨l.toArray⟩ : ByteArray) ++ (⟨#[32]⟩ : ByteArray) = ⟨(l ++ [32]).toArray⟩ := fun l => app l [32]
  simp only [emendateref52_EncodeEvent.l0, List.length_cons, List.length_nil, hr]
  simp only [if_pos (show (i : Int) < ((0 + 1 + 1 + 1 + 1 + 1 + 1 + 1 : Nat) : Int) by omega), if_pos (show (0 : Int) ≤ (i : Int) by omega), w64 (((0 + 1 + 1 + 1 + 1 + 1 + 1 + 1 : Nat) : Int) - 1) (by omega) (by omega), w64 ((i : Int) + 1) (by omega) (by omega), if_pos (show (i : Int) < ((0 + 1 + 1 + 1 + 1 + 1 + 1 + 1 : Nat) : Int) - 1 by omega)]
  refine Ev.bind integer_zero ?_
  simp only [sz, app, hap, List.length_append, List.length_cons, List.length_nil]
  simp only [if_pos (show t.length + (0 + 1) ≤ 9223372036854775807 by omega), if_pos (show t.length + (0 + 1) + 1 ≤ 9223372036854775807 by omega)]
  exact h
theorem event_eq (a : Int) (h0 : -9223372036854775808 ≤ a) (h1 : a ≤ 9223372036854775807) : Ev (fun k => emendateref52_EncodeEvent.f k a 0 0 0 0 ⟨#[]⟩ ⟨#[]⟩) (B (Lib.itoa a ++ zeros)) := by
  unfold emendateref52_EncodeEvent.f
  have hl := Lib.itoa_length_le a h0 h1
  have hap : ∀ l : List UInt8, (⟨l.toArray⟩ : ByteArray) ++ (⟨#[32]⟩ : ByteArray) = ⟨(l ++ [32]).toArray⟩ := fun l => app l [32]
  have hap2 : ∀ l : List UInt8, (⟨l.toArray⟩ : ByteArray) ++ (⟨#[58]⟩ : ByteArray) = ⟨(l ++ [58]).toArray⟩ := fun l => app l [58]
  have hap3 : ∀ l : List UInt8, (⟨#[]⟩ : ByteArray) ++ (⟨l.toArray⟩ : ByteArray) = ⟨l.toArray⟩ := fun l => app [] l
  have hap4 : ∀ l : List UInt8, (⟨l.toArray⟩ : ByteArray) ++ (⟨#[]⟩ : ByteArray) = ⟨l.toArray⟩ := fun l => by
    have := app l []
    rwa [List.append_nil] at this
  have hz : ((⟨#[]⟩ : ByteArray).size : Int) = 0 := rfl
  have hz' : (⟨#[]⟩ : ByteArray).size = 0 := rfl
  rw [hz]
  -- the first number
  refine Ev.step ?_
  simp only [emendateref52_EncodeEvent.l0, List.length_cons, List.length_nil]
  have hr : rd [a, 0, 0, 0, 0, 0, 0] 0 = a := rfl
  simp only [hr, if_pos (show (0 : Int) < ((0 + 1 + 1 + 1 + 1 + 1 + 1 + 1 : Nat) : Int) by decide), if_pos (show (0 : Int) ≤ 0 by decide), w64 (((0 + 1 + 1 + 1 + 1 + 1 + 1 + 1 : Nat) : Int) - 1) (by decide) (by decide), if_pos (show (0 : Int) < ((0 + 1 + 1 + 1 + 1 + 1 + 1 + 1 : Nat) : Int) - 1 by decide)]
  refine Ev.bind (integer_eq a h0 h1) ?_
  simp only [hap3, sz, hz', if_pos (show 0 + (Lib.itoa a).length ≤ 9223372036854775807 by omega), if_pos (show (Lib.itoa a).length + 1 ≤ 9223372036854775807 by omega), hap]
  rw [w64 (0 + 1) (by decide) (by decide)]
  refine ev_round a (Lib.itoa a ++ [32]) (by simp; omega) 1 (by decide) (by decide) ?_
  refine ev_round a _ (by simp; omega) 2 (by decide) (by decide) ?_
  refine ev_round a _ (by simp; omega) 3 (by decide) (by decide) ?_
  refine ev_round a _ (by simp; omega) 4 (by decide) (by decide) ?_
  refine ev_round a _ (by simp; omega) 5 (by decide) (by decide) ?_
  -- the last number
  refine Ev.step ?_
  have hr6 : rd [a, 0, 0, 0, 0, 0, 0] ((5 + 1 : Nat) : Int) = 0 := rfl
  simp only [emendateref52_EncodeEvent.l0, List.length_cons, List.length_nil, hr6]
  simp only [if_pos (show ((5 + 1 : Nat) : Int) < ((0 + 1 + 1 + 1 + 1 + 1 + 1 + 1 : Nat) : Int) by decide), if_pos (show (0 : Int) ≤ ((5 + 1 : Nat) : Int) by decide), w64 (((0 + 1 + 1 + 1 + 1 + 1 + 1 + 1 : Nat) : Int) - 1) (by decide) (by decide), if_neg (show ¬ ((5 + 1 : Nat) : Int) < ((0 + 1 + 1 + 1 + 1 + 1 + 1 + 1 : Nat) : Int) - 1 by decide), w64 (((5 + 1 : Nat) : Int) + 1) (by decide) (by decide)]
  refine Ev.bind integer_zero ?_
  simp only [sz, app]
  simp only [if_pos (show (Lib.itoa a ++ [32] ++ [48] ++ [32] ++ [48] ++ [32] ++ [48] ++ [32] ++ [48] ++ [32] ++ [48] ++ [32]).length + ([48] : List UInt8).length ≤ 9223372036854775807 by simp; omega)]
  -- the end
  refine Ev.step ?_
  simp only [emendateref52_EncodeEvent.l0, List.length_cons, List.length_nil]
  simp only [if_neg (show ¬ ((5 + 1 : Nat) : Int) + 1 < ((0 + 1 + 1 + 1 + 1 + 1 + 1 + 1 : Nat) : Int) by decide), sz, hap2, hap4, hz']
  refine Ev.const ?_
  rw [if_pos (by simp; omega), if_pos (by simp; omega), if_pos (by simp; omega)]
  simp only [zeros, List.append_assoc]
  rfl
end Go.Proofs.YtanpkbglfhdjfaaGreatDoor.Plain
