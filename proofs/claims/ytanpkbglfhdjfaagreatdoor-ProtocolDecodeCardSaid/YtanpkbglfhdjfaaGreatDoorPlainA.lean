/- Plain facts, with no program in sight: numerals read back what they spell; and what the protocol's printed functions compute, as functions of lists of bytes (for texts of at most a million bytes). · What the protocol's printed decoder computes, as functions of lists of bytes (for texts of at most a million bytes). · What the protocol's printed decoder computes, continued: numbers, arguments, a body, a message. · What the protocol's printed encoder computes, as a function of lists of bytes; a decoded encoding is the message. · The size test of the laws, and the comparison of a message with itself. · A proper prefix of an encoding is not yet a message. -/
import Derived.Test.YtanpkbglfhdjfaaGreatDoorQPx
import Derived.Lib.Strings
import Derived.Lib.IndexMore
import Derived.Lib.AtoiAll
import Derived.Lib.ItoaMem
import Derived.Lib.ItoaLen
set_option linter.unusedVariables false
set_option linter.unusedSimpArgs false
namespace Go.Proofs.YtanpkbglfhdjfaaGreatDoor.Plain
open Go.RowKit Go.Proofs.YtanpkbglfhdjfaaGreatDoor Go.Proofs.YtanpkbglfhdjfaaGreatDoor.QP Go.Proofs.YtanpkbglfhdjfaaGreatDoorW.PrintWords

/-! ### 'From some round on' -/
def Ev {α : Type} (g : Nat → Option α) (r : α) : Prop := ∃ k0, ∀ k, k0 ≤ k → g k = some r
theorem Ev.const {α : Type} {g : Option α} {r : α} (h : g = some r) : Ev (fun _ => g) r := ⟨0, fun _ _ => h⟩
theorem Ev.step {α : Type} {F : Nat → Option α} {r : α} (h : Ev (fun k => F (k + 1)) r) : Ev F r := by
  obtain ⟨k0, h⟩ := h
  refine ⟨k0 + 1, fun k hk => ?_⟩
  cases k with
  | zero => omega
  | succ k => exact h k (by omega)
theorem Ev.bind {α β : Type} {g : Nat → Option α} {h : Nat → α → Option β} {x : α} {r : β} (hg : Ev g x) (hh : Ev (fun k => h k x) r) : Ev (fun k => (g k).bind (h k)) r := by
  obtain ⟨a, ha⟩ := hg
  obtain ⟨b, hb⟩ := hh
  refine ⟨max a b, fun k hk => ?_⟩
  show (g k).bind (h k) = some r
  rw [ha k (by omega)]
  exact hb k (by omega)
theorem Ev.get {α : Type} {g : Nat → Option α} {r : α} (h : Ev g r) : ∃ k, g k = some r := by
  obtain ⟨k, h⟩ := h
  exact ⟨k, h k (Nat.le_refl _)⟩
theorem Ev.of {α : Type} {g g' : Nat → Option α} {r : α} (h : Ev g r) (e : ∀ k, g' k = g k) : Ev g' r := by
  obtain ⟨k, h⟩ := h
  exact ⟨k, fun j hj => (e j).trans (h j hj)⟩

/-! ### Strings of bytes as lists -/
theorem sz (l : List UInt8) : (⟨l.toArray⟩ : ByteArray).size = l.length := size_l l
theorem app (l r : List UInt8) : (⟨l.toArray⟩ : ByteArray) ++ (⟨r.toArray⟩ : ByteArray) = ⟨(l ++ r).toArray⟩ := by
  apply ByteArray.ext
  apply Array.ext'
  simp
theorem toL (l : List UInt8) : (⟨l.toArray⟩ : ByteArray).toList = l := by rw [Lib.toList_data]
theorem ext (l : List UInt8) (i j : Nat) : (⟨l.toArray⟩ : ByteArray).extract i j = ⟨((l.take j).drop i).toArray⟩ := by
  apply ByteArray.ext
  apply Array.ext'
  rw [ByteArray.data_extract, Array.toList_extract]
  simp [List.drop_take]
theorem back (b : ByteArray) : (⟨b.data.toList.toArray⟩ : ByteArray) = b := by cases b; simp
theorem btl (l : List UInt8) (i : Nat) (h : i < l.length) : bt (⟨l.toArray⟩ : ByteArray) (i : Int) = ((l[i]).toNat : Int) := by
  have hs : ((i : Int)).toNat < (⟨l.toArray⟩ : ByteArray).size := by rw [sz]; simpa using h
  unfold bt
  rw [dif_pos hs]
  rfl
theorem w64 (n : Int) (h0 : -9223372036854775808 ≤ n) (h1 : n ≤ 9223372036854775807) : wrap64 n = n := by unfold wrap64; omega

/-! ### Numerals -/
theorem parse_append : ∀ (l r : List UInt8) (acc v : Nat), Lib.parseUint10 acc l = .ok v → Lib.parseUint10 acc (l ++ r) = Lib.parseUint10 v r
  | [], r, acc, v, h => by
    simp only [Lib.parseUint10] at h
    injection h with h
    subst h
    rfl
  | c :: l, r, acc, v, h => by
    simp only [Lib.parseUint10, List.cons_append] at h ⊢
    split at h
    · rename_i hd
      rw [if_pos hd]
      split at h
      · cases h
      · rename_i h1
        rw [if_neg h1]
        split at h
        · cases h
        · rename_i h2
          rw [if_neg h2]
          exact parse_append l r _ v h
    · cases h

theorem dig_toNat (d : Nat) (h : d < 10) : (UInt8.ofNat (48 + d)).toNat = 48 + d := by
  simp [UInt8.toNat_ofNat']
  omega

theorem parse_decDigits (u : Nat) (hu : u < 18446744073709551616) : Lib.parseUint10 0 (Lib.decDigits u) = .ok u := by
  induction u using Nat.strongRecOn with
  | ind u ih =>
    by_cases h : u < 10
    · rw [Lib.decDigits_one h]
      simp only [Lib.parseUint10, dig_toNat u h]
      rw [if_pos (by omega), if_neg (by omega), if_neg (by omega)]
      congr 1
      omega
    · rw [Lib.decDigits, dif_neg h, parse_append _ _ 0 (u / 10) (ih (u / 10) (by omega) (by omega))]
      simp only [Lib.parseUint10, dig_toNat (u % 10) (by omega)]
      rw [if_pos (by omega), if_neg (by omega), if_neg (by omega)]
      congr 1
      omega

def isDig (c : UInt8) : Bool := decide (48 ≤ c.toNat) && decide (c.toNat ≤ 57)
theorem isDig_ofNat (d : Nat) (h : d < 10) : isDig (UInt8.ofNat (48 + d)) = true := by
  unfold isDig
  rw [dig_toNat d h]
  simp
  omega
theorem decDigits_all (u : Nat) : (Lib.decDigits u).all isDig = true := by
  induction u using Nat.strongRecOn with
  | ind u ih =>
    by_cases h : u < 10
    · rw [Lib.decDigits_one h]
      rw [List.all_cons, isDig_ofNat u h]
      rfl
    · rw [Lib.decDigits, dif_neg h, List.all_append, ih (u / 10) (by omega), List.all_cons, isDig_ofNat (u % 10) (by omega)]
      rfl
theorem decDigits_ne (u : Nat) : Lib.decDigits u ≠ [] := by
  rw [Lib.decDigits]
  split <;> simp
theorem decDigits_head (u : Nat) : ∃ c r, Lib.decDigits u = c :: r ∧ isDig c = true := by
  have h := decDigits_all u
  cases e : Lib.decDigits u with
  | nil => exact absurd e (decDigits_ne u)
  | cons c r =>
    rw [e] at h
    simp at h
    exact ⟨c, r, rfl, h.1⟩
theorem isDig_range {c : UInt8} (h : isDig c = true) : 48 ≤ c.toNat ∧ c.toNat ≤ 57 := by simpa [isDig] using h

theorem atoi_itoa (n : Int) (h0 : -9223372036854775808 ≤ n) (h1 : n ≤ 9223372036854775807) : Lib.atoiAll (Lib.itoa n) = .ok n := by
  unfold Lib.itoa
  by_cases hn : n < 0
  · rw [if_pos hn]
    have hp : Lib.parseMag (Lib.decDigits n.natAbs) = .ok n.natAbs := by
      unfold Lib.parseMag
      rw [if_neg (decDigits_ne _), parse_decDigits _ (by omega)]
    simp only [Lib.atoiAll]
    have e45 : (45 : UInt8).toNat = 45 := rfl
    rw [e45]
    rw [if_pos (Or.inr rfl), hp]
    simp only [not_true, false_and, if_false, true_and, if_true]
    rw [if_neg (by omega)]
    congr 1
    omega
  · rw [if_neg hn]
    obtain ⟨c, r, e, hc⟩ := decDigits_head n.toNat
    have hr := isDig_range hc
    have hp : Lib.parseMag (c :: r) = .ok n.toNat := by
      unfold Lib.parseMag
      rw [if_neg (by simp), ← e, parse_decDigits _ (by omega)]
    rw [e]
    simp only [Lib.atoiAll]
    rw [if_neg (by omega), hp]
    simp only []
    rw [if_neg (by omega), if_neg (by omega), if_neg (by omega)]
    congr 1
    omega

/-- The value of a decimal form, and whether it is one. -/
def decL (l : List UInt8) : Int × Bool :=
  match Lib.atoiAll l with
  | .ok v => (v, Lib.itoa v == l)
  | Lib.NumEnd.syntax => (0, false)
  | .range => (Lib.atoiSat l, false)
theorem decimal_eq (l : List UInt8) (h : l.length ≤ 1000000) : protocol_decimal.f ⟨l.toArray⟩ = some (decL l) := by
  unfold protocol_decimal.f decL
  rw [sz, if_pos (by omega), toL]
  show (match Lib.atoiAll l with | .ok v => _ | Lib.NumEnd.syntax => _ | .range => _) = _
  cases Lib.atoiAll l <;> rfl
theorem decL_itoa (n : Int) (h0 : -9223372036854775808 ≤ n) (h1 : n ≤ 9223372036854775807) : decL (Lib.itoa n) = (n, true) := by
  unfold decL
  rw [atoi_itoa n h0 h1]
  simp
theorem decL_true {l : List UInt8} {v : Int} (h : decL l = (v, true)) : l = Lib.itoa v ∧ -9223372036854775808 ≤ v ∧ v ≤ 9223372036854775807 := by
  unfold decL at h
  rcases e : Lib.atoiAll l with u | _ | _
  · rw [e] at h
    simp at h
    obtain ⟨rfl, h⟩ := h
    exact ⟨h.symm, atoiAll_bounds e⟩
  · rw [e] at h; simp at h
  · rw [e] at h; simp at h

end Go.Proofs.YtanpkbglfhdjfaaGreatDoor.Plain

namespace Go.Proofs.YtanpkbglfhdjfaaGreatDoor.Plain
open Go.RowKit Go.Proofs.YtanpkbglfhdjfaaGreatDoor Go.Proofs.YtanpkbglfhdjfaaGreatDoor.QP Go.Proofs.YtanpkbglfhdjfaaGreatDoorW.PrintWords

/-! ### Prefixes -/
def pre16 : List UInt8 := [67, 111, 110, 116, 101, 110, 116, 45, 76, 101, 110, 103, 116, 104, 58, 32]
def crlf : List UInt8 := [13, 10, 13, 10]
theorem pre_iff (p x : List UInt8) : p.isPrefixOf x = true ↔ x.take p.length = p := by
  rw [List.isPrefixOf_iff_prefix, List.prefix_iff_eq_take]
  exact eq_comm
theorem hasPrefix_eq (x p : List UInt8) : strings_HasPrefix.f ⟨x.toArray⟩ ⟨p.toArray⟩ = some (p.isPrefixOf x) := by
  unfold strings_HasPrefix.f stringslite_HasPrefix.f
  simp only [sz]
  by_cases h : p.length ≤ x.length
  · rw [if_pos (by omega), if_pos (by omega), if_pos (by omega), ext, toL, toL]
    simp only [Option.bind_some, Option.some.injEq]
    rw [Bool.eq_iff_iff, pre_iff]
    simp
  · rw [if_neg (by omega)]
    simp only [Option.bind_some, Option.some.injEq]
    symm
    rw [Bool.eq_false_iff]
    intro hp
    have := (List.isPrefixOf_iff_prefix.1 hp).length_le
    omega
theorem lite_eq (x p : List UInt8) : stringslite_HasPrefix.f ⟨x.toArray⟩ ⟨p.toArray⟩ = some (p.isPrefixOf x) := by
  have h := hasPrefix_eq x p
  unfold strings_HasPrefix.f at h
  cases e : stringslite_HasPrefix.f ⟨x.toArray⟩ ⟨p.toArray⟩ with
  | none => rw [e] at h; cases h
  | some b => rw [e] at h; simpa using h
theorem cutPrefix_eq (x p : List UInt8) : strings_CutPrefix.f ⟨x.toArray⟩ ⟨p.toArray⟩ = some (if p.isPrefixOf x then (⟨(x.drop p.length).toArray⟩, true) else (⟨x.toArray⟩, false)) := by
  unfold strings_CutPrefix.f stringslite_CutPrefix.f
  rw [lite_eq]
  simp only [Option.bind_some]
  by_cases h : p.isPrefixOf x = true
  · rw [if_pos h, if_pos h]
    have hl := (List.isPrefixOf_iff_prefix.1 h).length_le
    simp only [sz]
    rw [if_pos (by omega), if_pos (by omega), ext]
    simp
  · rw [if_neg h, if_neg h]
    rfl

/-! ### The header -/
/-- How many digits stand ahead, at most n. -/
def run : Nat → List UInt8 → Nat
  | 0, _ => 0
  | _ + 1, [] => 0
  | n + 1, c :: r => if isDig c then run n r + 1 else 0
theorem run_le : ∀ (n : Nat) (l : List UInt8), run n l ≤ l.length
  | 0, _ => Nat.zero_le _
  | _ + 1, [] => Nat.zero_le _
  | n + 1, c :: r => by
    have := run_le n r
    simp only [run, List.length_cons]
    split <;> omega
theorem run_le' : ∀ (n : Nat) (l : List UInt8), run n l ≤ n
  | 0, _ => Nat.zero_le _
  | _ + 1, [] => Nat.zero_le _
  | n + 1, c :: r => by
    have := run_le' n r
    simp only [run]
    split <;> omega
theorem run_all : ∀ (n : Nat) (l : List UInt8), (l.take (run n l)).all isDig = true
  | 0, _ => by simp [run]
  | _ + 1, [] => by simp [run]
  | n + 1, c :: r => by
    have ih := run_all n r
    simp only [run]
    split
    · rename_i h
      rw [List.take_succ_cons, List.all_cons, h, ih]
      rfl
    · simp
theorem bt_mid (pre : List UInt8) (c : UInt8) (r : List UInt8) : bt (⟨(pre ++ c :: r).toArray⟩ : ByteArray) (pre.length : Int) = (c.toNat : Int) := by
  rw [btl _ _ (by simp)]
  simp

theorem l0_stop (pre t : List UInt8) (h : pre.length = 6 ∨ ∀ c r, t = c :: r → isDig c = false) (k : Nat) :
    protocol_header.l0 (k + 1) ⟨(pre ++ t).toArray⟩ (pre.length : Int) = protocol_header.j1 k ⟨(pre ++ t).toArray⟩ (pre.length : Int) := by
  rw [protocol_header.l0, sz, List.length_append]
  cases t with
  | nil => rw [if_neg (by simp)]
  | cons c r =>
    rw [if_pos (by simp only [List.length_cons]; omega), if_pos (by omega), bt_mid]
    by_cases h1 : (c.toNat : Int) ≥ 48
    · rw [if_pos h1]
      by_cases h2 : (c.toNat : Int) ≤ 57
      · rw [if_pos h2]
        rcases h with h | h
        · rw [if_neg (by omega)]
        · have := h c r rfl
          simp [isDig] at this
          omega
      · rw [if_neg h2]
    · rw [if_neg h1]
theorem l0_go (pre : List UInt8) (c : UInt8) (r : List UInt8) (h : pre.length < 6) (hc : isDig c = true) (k : Nat) :
    protocol_header.l0 (k + 1) ⟨(pre ++ c :: r).toArray⟩ (pre.length : Int) = protocol_header.l0 k ⟨(pre ++ c :: r).toArray⟩ ((pre.length + 1 : Nat) : Int) := by
  have hr := isDig_range hc
  rw [protocol_header.l0, sz, List.length_append]
  rw [if_pos (by simp only [List.length_cons]; omega), if_pos (by omega), bt_mid, if_pos (by omega), if_pos (by omega), if_pos (by omega), w64 _ (by omega) (by omega)]
  rfl
theorem l0_run (x : List UInt8) {r : Int × ByteArray × Bool × Bool} : ∀ (m : Nat) (pre t : List UInt8), x = pre ++ t → pre.length + m = 6 →
    Ev (fun k => protocol_header.j1 k ⟨x.toArray⟩ ((pre.length + run m t : Nat) : Int)) r → Ev (fun k => protocol_header.l0 k ⟨x.toArray⟩ (pre.length : Int)) r
  | 0, pre, t, e, hm, h => by
    subst e
    exact Ev.step (Ev.of h (fun k => l0_stop pre t (.inl (by omega)) k))
  | m + 1, pre, [], e, hm, h => by
    subst e
    exact Ev.step (Ev.of h (fun k => l0_stop pre [] (.inr (fun _ _ h => by cases h)) k))
  | m + 1, pre, c :: t, e, hm, h => by
    subst e
    by_cases hc : isDig c = true
    · simp only [run, hc, if_true] at h
      refine Ev.step (Ev.of ?_ (fun k => l0_go pre c t (by omega) hc k))
      have := l0_run (pre ++ c :: t) m (pre ++ [c]) t (by simp) (by simp; omega) (by
        refine Ev.of h (fun k => ?_)
        simp only [List.length_append, List.length_cons, List.length_nil]
        rw [show pre.length + (0 + 1) + run m t = pre.length + (run m t + 1) by omega])
      simpa using this
    · have hf : isDig c = false := by simpa using hc
      simp only [run, hf] at h
      exact Ev.step (Ev.of h (fun k => l0_stop pre (c :: t) (.inr (fun c' r' h' => by cases h'; exact hf)) k))

/-- The header of a text: the length of the body, what follows, whether it is whole, whether more may come. -/
def headerL (x : List UInt8) : Int × List UInt8 × Bool × Bool :=
  if x.length < 16 then (0, [], false, x.isPrefixOf pre16)
  else if pre16.isPrefixOf x then
    let y := x.drop 16
    let p := run 6 y
    if p = 0 then (0, [], false, y.isEmpty)
    else
      let d := decL (y.take p)
      if d.2 && !decide (d.1 > 100000) then
        let z := y.drop p
        if z.length < 4 then (0, [], false, z.isPrefixOf crlf)
        else if crlf.isPrefixOf z then (d.1, z.drop 4, true, false)
        else (d.1, z, false, false)
      else (0, [], false, false)
  else (0, [], false, false)

def hd (r : Int × List UInt8 × Bool × Bool) : Int × ByteArray × Bool × Bool := (r.1, ⟨r.2.1.toArray⟩, r.2.2.1, r.2.2.2)

theorem header_eq (x : List UInt8) (hx : x.length ≤ 1000000) : Ev (fun k => protocol_header.f k ⟨x.toArray⟩) (hd (headerL x)) := by
  unfold protocol_header.f headerL
  rw [sz]
  by_cases h16 : x.length < 16
  · rw [if_pos h16]
    simp only [if_pos (show (x.length : Int) < 16 by omega)]
    refine Ev.const ?_
    have h : strings_HasPrefix.f (⟨#[67, 111, 110, 116, 101, 110, 116, 45, 76, 101, 110, 103, 116, 104, 58, 32]⟩ : ByteArray) ⟨x.toArray⟩ = some (x.isPrefixOf pre16) := hasPrefix_eq pre16 x
    rw [h]
    rfl
  · rw [if_neg h16]
    simp only [if_neg (show ¬ (x.length : Int) < 16 by omega)]
    have hc : strings_CutPrefix.f ⟨x.toArray⟩ (⟨#[67, 111, 110, 116, 101, 110, 116, 45, 76, 101, 110, 103, 116, 104, 58, 32]⟩ : ByteArray) = some (if pre16.isPrefixOf x then (⟨(x.drop 16).toArray⟩, true) else (⟨x.toArray⟩, false)) := cutPrefix_eq x pre16
    by_cases hp : pre16.isPrefixOf x = true
    · rw [if_pos hp]
      rw [if_pos hp] at hc
      rw [hc]
      simp only [Option.bind_some, if_true]
      have hl : (x.drop 16).length ≤ 1000000 := by rw [List.length_drop]; omega
      generalize x.drop 16 = y at hl
      refine l0_run y 6 [] y rfl rfl ?_
      simp only [List.length_nil, Nat.zero_add]
      refine Ev.step ?_
      simp only [protocol_header.j1]
      have hr := run_le 6 y
      by_cases hz : run 6 y = 0
      · simp only [hz, if_true, Int.ofNat_zero]
        refine Ev.const ?_
        rw [toL]
        cases y <;> rfl
      · rw [if_neg hz]
        have hz' : ¬ ((run 6 y : Nat) : Int) = 0 := by omega
        simp only [if_neg hz', sz, if_pos (show (0 : Int) ≤ (run 6 y : Nat) by omega), if_pos (show ((run 6 y : Nat) : Int) ≤ (y.length : Int) by omega), ext, Int.toNat_natCast, List.drop_zero]
        rw [decimal_eq _ (by rw [List.length_take]; omega)]
        simp only [Option.bind_some]
        generalize decL (y.take (run 6 y)) = d
        obtain ⟨v, ok⟩ := d
        simp only
        cases ok with
        | false =>
          refine Ev.step ?_
          simp only [protocol_header.j2]
          exact Ev.const rfl
        | true =>
          simp only [if_true, Bool.true_and]
          refine Ev.step ?_
          simp only [protocol_header.j2]
          by_cases hv : v > 100000
          · simp only [hv, decide_true, if_true, Bool.not_true]
            exact Ev.const rfl
          · simp only [hv, decide_false, if_false, Bool.not_false, if_true, sz, if_pos (show (0 : Int) ≤ (run 6 y : Nat) by omega), if_pos (show ((run 6 y : Nat) : Int) ≤ (y.length : Int) by omega), ext, Int.toNat_natCast, List.take_length]
            generalize y.drop (run 6 y) = z
            by_cases h4 : z.length < 4
            · rw [if_pos h4]
              simp only [if_pos (show (z.length : Int) < 4 by omega)]
              refine Ev.const ?_
              have h : strings_HasPrefix.f (⟨#[13, 10, 13, 10]⟩ : ByteArray) ⟨z.toArray⟩ = some (z.isPrefixOf crlf) := hasPrefix_eq crlf z
              rw [h]
              rfl
            · rw [if_neg h4]
              simp only [if_neg (show ¬ (z.length : Int) < 4 by omega)]
              refine Ev.const ?_
              have h : strings_CutPrefix.f ⟨z.toArray⟩ (⟨#[13, 10, 13, 10]⟩ : ByteArray) = some (if crlf.isPrefixOf z then (⟨(z.drop 4).toArray⟩, true) else (⟨z.toArray⟩, false)) := cutPrefix_eq z crlf
              by_cases hcr : crlf.isPrefixOf z = true
              · rw [if_pos hcr] at h ⊢
                rw [h]
                rfl
              · rw [if_neg hcr] at h ⊢
                rw [h]
                rfl
    · rw [if_neg hp]
      rw [if_neg hp] at hc
      rw [hc]
      exact Ev.const rfl
end Go.Proofs.YtanpkbglfhdjfaaGreatDoor.Plain

namespace Go.Proofs.YtanpkbglfhdjfaaGreatDoor.Plain
open Go.RowKit Go.Proofs.YtanpkbglfhdjfaaGreatDoor Go.Proofs.YtanpkbglfhdjfaaGreatDoor.QP Go.Proofs.YtanpkbglfhdjfaaGreatDoorW.PrintWords

/-- A list parted at the first byte c. -/
def cutB (c : UInt8) : List UInt8 → List UInt8 × List UInt8 × Bool
  | [] => ([], [], false)
  | b :: l => if b = c then ([], l, true) else (b :: (cutB c l).1, (cutB c l).2.1, (cutB c l).2.2)
theorem cutB_true {c : UInt8} : ∀ {x a b : List UInt8}, cutB c x = (a, b, true) → x = a ++ c :: b ∧ c ∉ a
  | [], a, b, h => by simp [cutB] at h
  | d :: l, a, b, h => by
    unfold cutB at h
    split at h
    · rename_i hd
      simp only [Prod.mk.injEq] at h
      obtain ⟨rfl, rfl, _⟩ := h
      exact ⟨by rw [hd]; rfl, by simp⟩
    · rename_i hd
      simp only [Prod.mk.injEq] at h
      obtain ⟨rfl, rfl, h3⟩ := h
      have ih := cutB_true (c := c) (x := l) (a := (cutB c l).1) (b := (cutB c l).2.1) (by rw [← h3])
      refine ⟨?_, ?_⟩
      · conv => lhs; rw [ih.1]
        rfl
      · intro hm
        rcases List.mem_cons.1 hm with hm | hm
        · exact hd hm.symm
        · exact ih.2 hm
theorem cutB_false {c : UInt8} : ∀ {x : List UInt8}, (cutB c x).2.2 = false → cutB c x = (x, [], false) ∧ c ∉ x
  | [], h => by simp [cutB]
  | d :: l, h => by
    unfold cutB at h ⊢
    split at h
    · cases h
    · rename_i hd
      rw [if_neg hd]
      obtain ⟨h1, h2⟩ := cutB_false (c := c) (x := l) h
      rw [h1]
      exact ⟨rfl, fun hm => by
        rcases List.mem_cons.1 hm with hm | hm
        · exact hd hm.symm
        · exact h2 hm⟩
theorem cutB_at (c : UInt8) : ∀ (a b : List UInt8), c ∉ a → cutB c (a ++ c :: b) = (a, b, true)
  | [], b, _ => by simp [cutB]
  | d :: a, b, h => by
    rw [List.cons_append, cutB, if_neg (fun e => h (by simp [e])), cutB_at c a b (fun hm => h (List.mem_cons_of_mem _ hm))]
theorem cutB_len (c : UInt8) : ∀ x : List UInt8, (cutB c x).1.length ≤ x.length ∧ (cutB c x).2.1.length ≤ x.length ∧ ((cutB c x).2.2 = true → (cutB c x).2.1.length < x.length)
  | [] => by simp [cutB]
  | d :: l => by
    have ih := cutB_len c l
    unfold cutB
    split
    · simp
    · simp only [List.length_cons]
      exact ⟨by omega, by omega, fun h => by have := ih.2.2 h; omega⟩
theorem cut_eq (c : UInt8) : ∀ x : List UInt8, Lib.cut x [c] = cutB c x
  | [] => by simp [Lib.cut, Lib.index, cutB]
  | b :: l => by
    have ih := cut_eq c l
    have hg := Lib.index_ge l [c]
    unfold Lib.cut at ih ⊢
    unfold cutB
    simp only [Lib.index]
    by_cases hb : b = c
    · subst hb
      simp
    · have hp : ([c] : List UInt8).isPrefixOf (b :: l) = false := by
        rw [Bool.eq_false_iff]
        intro h
        have := List.isPrefixOf_iff_prefix.1 h
        simp at this
        exact hb this.symm
      rw [if_neg hb]
      simp only [hp]
      by_cases hm : Lib.index l [c] = -1
      · have e : (Lib.index l [c] == -1) = true := by simp [hm]
        simp only [e, if_true]
        rw [if_neg (by omega)] at ih
        rw [← ih]
        simp
      · have e : (Lib.index l [c] == -1) = false := by simp [hm]
        simp only [e]
        rw [if_pos (by omega)] at ih
        rw [← ih]
        have h0 : 0 ≤ Lib.index l [c] + 1 := by omega
        have e2 : (Lib.index l [c] + 1).toNat = (Lib.index l [c]).toNat + 1 := by omega
        simp only [Bool.false_eq_true, if_false, if_pos h0, e2, List.length_cons, List.length_nil]
        rw [List.take_succ_cons, show (Lib.index l [c]).toNat + 1 + (0 + 1) = (Lib.index l [c]).toNat + (0 + 1) + 1 by omega, List.drop_succ_cons]
theorem sCut_eq (c : UInt8) (x : List UInt8) (hx : x.length ≤ 1000000) : strings_Cut.f ⟨x.toArray⟩ ⟨[c].toArray⟩ = some (⟨(cutB c x).1.toArray⟩, ⟨(cutB c x).2.1.toArray⟩, (cutB c x).2.2) := by
  unfold strings_Cut.f
  rw [sz, if_pos (by omega)]
  show some _ = some _
  have e : Lib.cut (⟨x.toArray⟩ : ByteArray).data.toList (⟨[c].toArray⟩ : ByteArray).data.toList = cutB c x := cut_eq c x
  rw [e]

/-- A number that ends at the byte c; what follows. -/
def numL (c : UInt8) (x : List UInt8) : Int × List UInt8 × Bool := ((decL (cutB c x).1).1, (cutB c x).2.1, (cutB c x).2.2 && (decL (cutB c x).1).2)
theorem num_eq (c : UInt8) (x : List UInt8) (hx : x.length ≤ 1000000) : protocol_number.f ⟨x.toArray⟩ ⟨[c].toArray⟩ = some ((numL c x).1, ⟨(numL c x).2.1.toArray⟩, (numL c x).2.2) := by
  unfold protocol_number.f numL
  have hl := cutB_len c x
  rw [sCut_eq c x hx]
  simp only [Option.bind_some]
  rw [decimal_eq _ (by omega)]
  simp only [Option.bind_some]
  cases (cutB c x).2.2 with
  | true => simp only [if_true, Bool.true_and]
  | false => rfl
theorem numL_len (c : UInt8) (x : List UInt8) : (numL c x).2.1.length ≤ x.length ∧ ((numL c x).2.2 = true → (numL c x).2.1.length < x.length) := by
  have h := cutB_len c x
  unfold numL
  refine ⟨h.2.1, fun ht => h.2.2 ?_⟩
  simp only [Bool.and_eq_true] at ht
  exact ht.1
/-- The arguments of a body. -/
def argsD : Nat → List UInt8 → List (List UInt8) → Option (List (List UInt8))
  | 0, _, _ => none
  | n + 1, x, acc =>
    if x = [] then some acc
    else if (numL 58 x).2.2 = true ∧ 0 ≤ (numL 58 x).1 ∧ (numL 58 x).1 < ((numL 58 x).2.1.length : Int) ∧ (numL 58 x).2.1.getD (numL 58 x).1.toNat 0 = 10 ∧ acc.length ≠ 10 then
      argsD n ((numL 58 x).2.1.drop ((numL 58 x).1.toNat + 1)) (acc ++ [(numL 58 x).2.1.take (numL 58 x).1.toNat])
    else none

abbrev B (l : List UInt8) : ByteArray := ⟨l.toArray⟩

theorem bt_ten (l : List UInt8) (v : Int) (h0 : 0 ≤ v) (h1 : v < (l.length : Int)) : (bt (⟨l.toArray⟩ : ByteArray) v = 10) ↔ l.getD v.toNat 0 = 10 := by
  obtain ⟨n, rfl⟩ := Int.eq_ofNat_of_zero_le h0
  have hn : n < l.length := by omega
  rw [btl l n hn]
  have e : l.getD (n : Int).toNat 0 = l[n] := by
    rw [Int.toNat_natCast, List.getD_eq_getElem?_getD, List.getElem?_eq_getElem hn]
    rfl
  rw [e]
  constructor
  · intro h
    apply UInt8.toNat_inj.1
    have : (l[n]).toNat = 10 := by omega
    rw [this]; rfl
  · intro h
    rw [h]; rfl

theorem args_eq (id : Int) (m : ByteArray) : ∀ (n : Nat) (x : List UInt8) (acc : List (List UInt8)), x.length < n → x.length ≤ 1000000 → acc.length ≤ 10 →
    Ev (fun k => protocol_message.l0 k ⟨x.toArray⟩ id m (acc.map B)) (match argsD n x acc with | some l => (id, m, l.map B, true) | none => (0, B [], [], false))
  | 0, x, acc, h, _, _ => absurd h (Nat.not_lt_zero _)
  | n + 1, x, acc, h, hx, ha => by
    refine Ev.step ?_
    simp only [protocol_message.l0, argsD, toL]
    by_cases h0 : x = []
    · simp only [if_pos h0]
      exact Ev.const rfl
    · simp only [if_neg h0]
      have hnum : protocol_number.f ⟨x.toArray⟩ (⟨#[58]⟩ : ByteArray) = some ((numL 58 x).1, ⟨(numL 58 x).2.1.toArray⟩, (numL 58 x).2.2) := num_eq 58 x hx
      rw [hnum]
      simp only [Option.bind_some]
      have hl := numL_len 58 x
      have ih := args_eq id m n ((numL 58 x).2.1.drop ((numL 58 x).1.toNat + 1)) (acc ++ [(numL 58 x).2.1.take (numL 58 x).1.toNat])
      generalize numL 58 x = b at *
      obtain ⟨v, y, ok⟩ := b
      simp only at *
      cases ok with
      | false =>
        simp only [Bool.false_eq_true, false_and, if_false]
        exact Ev.const rfl
      | true =>
        simp only [if_true, true_and]
        by_cases h1 : v < 0
        · simp only [if_pos h1]
          rw [if_neg (fun h => by omega)]
          exact Ev.const rfl
        · simp only [if_neg h1, sz]
          by_cases h2 : v ≥ (y.length : Int)
          · simp only [if_pos h2]
            rw [if_neg (fun h => by omega)]
            exact Ev.const rfl
          · simp only [if_neg h2, if_pos (show (0 : Int) ≤ v by omega), if_pos (show v < (y.length : Int) by omega), bt_ten y v (by omega) (by omega)]
            by_cases h3 : y.getD v.toNat 0 = 10
            · simp only [if_pos h3, List.length_map]
              by_cases h4 : acc.length = 10
              · rw [if_neg (fun h => h.2.2.2 h4)]
                simp only [h4]
                exact Ev.const rfl
              · rw [if_pos ⟨by omega, by omega, h3, h4⟩]
                have hy : y.length ≤ 1000000 := by omega
                simp only [if_neg (show ¬ (acc.length : Int) = 10 by omega), if_pos (show v ≤ (y.length : Int) by omega), if_pos (show acc.length < 8796093022208 by omega), w64 (v + 1) (by omega) (by omega), if_pos (show (0 : Int) ≤ v + 1 by omega), if_pos (show v + 1 ≤ (y.length : Int) by omega), ext, List.take_length, List.drop_zero]
                have e : (v + 1).toNat = v.toNat + 1 := by omega
                rw [e]
                have := ih (by rw [List.length_drop]; have := hl.2 rfl; omega) (by rw [List.length_drop]; omega) (by rw [List.length_append]; simp; omega)
                simpa [List.map_append] using this
            · simp only [if_neg h3]
              rw [if_neg (fun h => h3 h.2.2.1)]
              exact Ev.const rfl

/-- A body: the message's number, its method, its arguments. -/
def messageL (x : List UInt8) : Option (Int × List UInt8 × List (List UInt8)) :=
  if (numL 32 x).2.2 then
    if (cutB 10 (numL 32 x).2.1).2.2 && validL (cutB 10 (numL 32 x).2.1).1 then
      (argsD ((cutB 10 (numL 32 x).2.1).2.1.length + 1) (cutB 10 (numL 32 x).2.1).2.1 []).map fun l => ((numL 32 x).1, (cutB 10 (numL 32 x).2.1).1, l)
    else none
  else none
def msgOut : Option (Int × List UInt8 × List (List UInt8)) → Int × ByteArray × List ByteArray × Bool
  | some r => (r.1, B r.2.1, r.2.2.map B, true)
  | none => (0, B [], [], false)

theorem valid_eq (l : List UInt8) : protocol_validMethod.f ⟨l.toArray⟩ = some (validL l) := rfl

theorem message_eq (x : List UInt8) (hx : x.length ≤ 1000000) : Ev (fun k => protocol_message.f k ⟨x.toArray⟩) (msgOut (messageL x)) := by
  unfold protocol_message.f messageL
  have hnum : protocol_number.f ⟨x.toArray⟩ (⟨#[32]⟩ : ByteArray) = some ((numL 32 x).1, ⟨(numL 32 x).2.1.toArray⟩, (numL 32 x).2.2) := num_eq 32 x hx
  rw [hnum]
  simp only [Option.bind_some]
  have hl := numL_len 32 x
  generalize numL 32 x = b at *
  obtain ⟨v, y, ok⟩ := b
  simp only at *
  cases ok with
  | false => exact Ev.const rfl
  | true =>
    simp only [if_true]
    have hcut : strings_Cut.f ⟨y.toArray⟩ (⟨#[10]⟩ : ByteArray) = some (⟨(cutB 10 y).1.toArray⟩, ⟨(cutB 10 y).2.1.toArray⟩, (cutB 10 y).2.2) := sCut_eq 10 y (by omega)
    rw [hcut]
    simp only [Option.bind_some]
    have hl2 := cutB_len 10 y
    generalize cutB 10 y = c at *
    obtain ⟨m, z, ok⟩ := c
    simp only at *
    cases ok with
    | false =>
      refine Ev.step ?_
      simp only [protocol_message.j0]
      exact Ev.const rfl
    | true =>
      simp only [if_true, valid_eq, Option.bind_some, Bool.true_and]
      refine Ev.step ?_
      simp only [protocol_message.j0]
      cases validL m with
      | false => exact Ev.const rfl
      | true =>
        simp only [Bool.not_true, Bool.false_eq_true, if_false, if_true]
        have := args_eq v ⟨m.toArray⟩ (z.length + 1) z [] (by omega) (by omega) (by simp)
        cases h : argsD (z.length + 1) z [] with
        | none =>
          rw [h] at this
          exact this
        | some l =>
          rw [h] at this
          exact this

/-- The decoder: number, method, arguments, how many bytes, how it ends (0: well; 6: more is to come; 7: no message). -/
def decodeL (x : List UInt8) : Int × List UInt8 × List (List UInt8) × Int × Int :=
  if (headerL x).2.2.2 || ((headerL x).2.2.1 && decide (((headerL x).2.1.length : Int) < (headerL x).1)) then (0, [], [], 0, 6)
  else if (headerL x).2.2.1 then
    match messageL ((headerL x).2.1.take (headerL x).1.toNat) with
    | some r => (r.1, r.2.1, r.2.2, (x.length : Int) - ((headerL x).2.1.length : Int) + (headerL x).1, 0)
    | none => (0, [], [], 0, 7)
  else (0, [], [], 0, 7)
def decOut (r : Int × List UInt8 × List (List UInt8) × Int × Int) : Int × ByteArray × List ByteArray × Int × Int := (r.1, B r.2.1, r.2.2.1.map B, r.2.2.2.1, r.2.2.2.2)

theorem itoa_digits {v : Int} (h : (Lib.itoa v).all isDig = true) : 0 ≤ v := by
  rcases Int.lt_or_le v 0 with hv | hv
  · unfold Lib.itoa at h
    rw [if_pos hv, List.all_cons] at h
    have e : isDig 45 = false := by decide
    rw [e] at h
    cases h
  · exact hv
theorem pre_split {p x : List UInt8} (h : p.isPrefixOf x = true) : x = p ++ x.drop p.length := by
  have := (pre_iff p x).1 h
  conv => lhs; rw [← List.take_append_drop p.length x, this]

/-- What a whole header says. -/
theorem headerL_whole {x : List UInt8} (h : (headerL x).2.2.1 = true) :
    x = pre16 ++ (Lib.itoa (headerL x).1 ++ (crlf ++ (headerL x).2.1)) ∧ 0 ≤ (headerL x).1 ∧ (headerL x).1 ≤ 100000 ∧ (headerL x).2.2.2 = false := by
  unfold headerL at h ⊢
  by_cases h1 : x.length < 16
  · rw [if_pos h1] at h
    cases h
  · rw [if_neg h1] at h ⊢
    by_cases h2 : pre16.isPrefixOf x = true
    · rw [if_pos h2] at h ⊢
      simp only at h ⊢
      have e1 := pre_split h2
      have e1' : x = pre16 ++ x.drop 16 := e1
      generalize x.drop 16 = y at h e1' ⊢
      by_cases h3 : run 6 y = 0
      · rw [if_pos h3] at h
        cases h
      · rw [if_neg h3] at h ⊢
        by_cases h4 : ((decL (y.take (run 6 y))).2 && !decide ((decL (y.take (run 6 y))).1 > 100000)) = true
        · rw [if_pos h4] at h ⊢
          simp only [Bool.and_eq_true, Bool.not_eq_true', decide_eq_false_iff_not] at h4
          by_cases h5 : (y.drop (run 6 y)).length < 4
          · rw [if_pos h5] at h
            cases h
          · rw [if_neg h5] at h ⊢
            by_cases h6 : crlf.isPrefixOf (y.drop (run 6 y)) = true
            · rw [if_pos h6]
              have e2 := pre_split h6
              obtain ⟨d1, d2, d3⟩ := decL_true (l := y.take (run 6 y)) (v := (decL (y.take (run 6 y))).1) (by rw [← h4.1])
              refine ⟨?_, ?_, by omega, rfl⟩
              · simp only
                rw [← d1, e1']
                congr 1
                conv => lhs; rw [← List.take_append_drop (run 6 y) y]
                congr 1
              · have ha := run_all 6 y
                rw [d1] at ha
                exact itoa_digits ha
            · rw [if_neg h6] at h
              cases h
        · rw [if_neg h4] at h
          cases h
    · rw [if_neg h2] at h
      cases h

theorem decode_eq (x : List UInt8) (hx : x.length ≤ 1000000) : Ev (fun k => protocol_Decode.f k ⟨x.toArray⟩) (decOut (decodeL x)) := by
  unfold protocol_Decode.f decodeL
  refine Ev.bind (header_eq x hx) ?_
  have hw := @headerL_whole x
  generalize headerL x = hh at *
  obtain ⟨n, rest, ok, more⟩ := hh
  simp only [hd] at *
  cases more with
  | true =>
    simp only [if_true, Bool.true_or]
    refine Ev.step ?_
    simp only [protocol_Decode.j0]
    exact Ev.const rfl
  | false =>
    simp only [Bool.false_eq_true, if_false, Bool.false_or]
    cases ok with
    | false =>
      simp only [Bool.false_eq_true, if_false, Bool.false_and]
      refine Ev.step ?_
      simp only [protocol_Decode.j0]
      exact Ev.const rfl
    | true =>
      obtain ⟨e, h0, h1, -⟩ := hw rfl
      have hlen : x.length = 16 + ((Lib.itoa n).length + (4 + rest.length)) := by
        have := congrArg List.length e
        simp only [List.length_append] at this
        have e1 : pre16.length = 16 := rfl
        have e2 : crlf.length = 4 := rfl
        omega
      simp only [if_true, Bool.true_and, sz]
      refine Ev.step ?_
      simp only [protocol_Decode.j0]
      by_cases h2 : (rest.length : Int) < n
      · simp only [h2, decide_true, if_true]
        exact Ev.const rfl
      · simp only [h2, decide_false, Bool.false_eq_true, if_false, if_true, if_pos h0, sz, if_pos (show n ≤ (rest.length : Int) by omega), ext, List.drop_zero]
        refine Ev.bind (message_eq (rest.take n.toNat) (by rw [List.length_take]; omega)) ?_
        cases hm : messageL (rest.take n.toNat) with
        | none => exact Ev.const rfl
        | some r =>
          simp only [msgOut, if_true]
          rw [w64 ((x.length : Int) - (rest.length : Int)) (by omega) (by omega), w64 _ (by omega) (by omega)]
          exact Ev.const rfl
end Go.Proofs.YtanpkbglfhdjfaaGreatDoor.Plain

namespace Go.Proofs.YtanpkbglfhdjfaaGreatDoor.Plain
open Go.RowKit Go.Proofs.YtanpkbglfhdjfaaGreatDoor Go.Proofs.YtanpkbglfhdjfaaGreatDoor.QP Go.Proofs.YtanpkbglfhdjfaaGreatDoorW.PrintWords

theorem reach_eq : reachBytes = 140737488351232 := rfl
theorem data_len (a : ByteArray) : a.data.toList.length = a.size := by simp
/-- A body behind its header. -/
def whole (body : List UInt8) : List UInt8 := pre16 ++ (Lib.itoa (body.length : Int) ++ (crlf ++ body))
/-- May the message be encoded? -/
def good (a : Int) (b : ByteArray) (l : List ByteArray) : Prop := validL b.data.toList = true ∧ l.length ≤ 10 ∧ (bodyL a b l).length ≤ 100000
instance (a : Int) (b : ByteArray) (l : List ByteArray) : Decidable (good a b l) := by unfold good; infer_instance
/-! ### Decoding what was encoded -/
theorem itoa_nat (n : Nat) : Lib.itoa (n : Int) = Lib.decDigits n := Lib.itoa_nonneg n
theorem not_mem_digits {c : UInt8} {l : List UInt8} (h : l.all isDig = true) (hc : isDig c = false) : c ∉ l := by
  intro hm
  have := List.all_eq_true.1 h c hm
  rw [hc] at this
  cases this
theorem not_mem_itoa (c : UInt8) (n : Int) (hc : isDig c = false) (h45 : c ≠ 45) : c ∉ Lib.itoa n := by
  unfold Lib.itoa
  split
  · intro h
    rcases List.mem_cons.1 h with h | h
    · exact h45 h
    · exact not_mem_digits (decDigits_all _) hc h
  · exact not_mem_digits (decDigits_all _) hc
end Go.Proofs.YtanpkbglfhdjfaaGreatDoor.Plain

namespace Go.Proofs.YtanpkbglfhdjfaaGreatDoor.Plain
open Go.RowKit Go.Proofs.YtanpkbglfhdjfaaGreatDoor Go.Proofs.YtanpkbglfhdjfaaGreatDoor.QP Go.Proofs.YtanpkbglfhdjfaaGreatDoorW.PrintWords

theorem same_loop (a : Int) (b : ByteArray) (l : List ByteArray) (hl : l.length ≤ 1000000) :
    ∀ (j i : Nat), i + j = l.length → Ev (fun k => emendateref55_Same.l0 k (i : Int) a b l a b l) true
  | 0, i, hi => by
    refine Ev.step ?_
    have hi' : i = l.length := by omega
    subst hi'
    simp only [emendateref55_Same.l0, Int.lt_irrefl, if_false]
    exact Ev.const rfl
  | j + 1, i, hi => by
    refine Ev.step ?_
    have ih := same_loop a b l hl j (i + 1) (by omega)
    simp only [emendateref55_Same.l0, if_pos (show (i : Int) < (l.length : Int) by omega), if_pos (show (0 : Int) ≤ (i : Int) by omega), if_true, w64 ((i : Int) + 1) (by omega) (by omega)]
    exact ih
theorem same_refl (a : Int) (b : ByteArray) (l : List ByteArray) (hl : l.length ≤ 1000000) : Ev (fun k => emendateref55_Same.f k a b l a b l) true := by
  unfold emendateref55_Same.f
  simp only [if_true]
  refine Ev.step ?_
  simp only [emendateref55_Same.j0, bne_self_eq_false, Bool.false_eq_true, if_false]
  exact same_loop a b l hl l.length 0 (by omega)
end Go.Proofs.YtanpkbglfhdjfaaGreatDoor.Plain

namespace Go.Proofs.YtanpkbglfhdjfaaGreatDoor.Plain
open Go.RowKit Go.Proofs.YtanpkbglfhdjfaaGreatDoor Go.Proofs.YtanpkbglfhdjfaaGreatDoor.QP Go.Proofs.YtanpkbglfhdjfaaGreatDoorW.PrintWords

end Go.Proofs.YtanpkbglfhdjfaaGreatDoor.Plain
