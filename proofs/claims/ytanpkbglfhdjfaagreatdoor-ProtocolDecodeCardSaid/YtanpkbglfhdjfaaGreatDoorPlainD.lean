/- What the reference's printed encoder computes: the same numerals, the same body, the same encoding. · What the reference's printed header reader computes, and that it agrees with the program's. · What the reference's printed reader of numbers computes: just the decimal forms of int are numbers. · What the reference's printed decoder computes: it agrees with the program's. · What the reference's printed parser and decoder compute: what the program's compute. -/
import Derived.Test.YtanpkbglfhdjfaaGreatDoorPlainA
import Derived.Test.YtanpkbglfhdjfaaGreatDoorQEx
import Derived.Test.YtanpkbglfhdjfaaGreatDoorQXx
set_option linter.unusedVariables false
set_option linter.unusedSimpArgs false
namespace Go.Proofs.YtanpkbglfhdjfaaGreatDoor.Plain
open Go.RowKit Go.Proofs.YtanpkbglfhdjfaaGreatDoor Go.Proofs.YtanpkbglfhdjfaaGreatDoor.QP Go.Proofs.YtanpkbglfhdjfaaGreatDoor.QE Go.Proofs.YtanpkbglfhdjfaaGreatDoorW.PrintWords

theorem str_one (d : Nat) (h : d < 10) : strOfNums [(48 + (d : Int)) % 256] = ⟨([UInt8.ofNat (48 + d)] : List UInt8).toArray⟩ := by
  have e : ∀ i : Fin 10, strOfNums [(48 + (i.val : Int)) % 256] = ⟨([UInt8.ofNat (48 + i.val)] : List UInt8).toArray⟩ := by decide +kernel
  exact e ⟨d, h⟩
theorem tmod_nat (n : Nat) : Int.tmod (n : Int) 10 = ((n % 10 : Nat) : Int) := by
  rw [Int.tmod_eq_emod_of_nonneg (by omega)]
  rfl
theorem tdiv_nat (n : Nat) : Int.tdiv (n : Int) 10 = ((n / 10 : Nat) : Int) := by
  rw [Int.tdiv_eq_ediv_of_nonneg (by omega)]
  rfl
def digs (q : Nat) : List UInt8 := if q = 0 then [] else Lib.decDigits q
theorem decDigits_step (n : Nat) : Lib.decDigits n = digs (n / 10) ++ [UInt8.ofNat (48 + n % 10)] := by
  by_cases h : n < 10
  · rw [Lib.decDigits_one h, show n / 10 = 0 by omega, show n % 10 = n by omega]
    rfl
  · rw [Lib.decDigits, dif_neg h]
    unfold digs
    rw [if_neg (by omega)]
theorem dec16_loop (q : Nat) : ∀ (t : List UInt8), t.length + (digs q).length ≤ 1000 → q ≤ 9223372036854775807 → Ev (fun k => emendateref16_Decimal.l0 k (q : Int) ⟨t.toArray⟩) (B (digs q ++ t)) := by
  induction q using Nat.strongRecOn with
  | ind q ih =>
    intro t ht hq
    refine Ev.step ?_
    simp only [emendateref16_Decimal.l0]
    by_cases h0 : q = 0
    · subst h0
      simp only [if_neg (show ¬ ((0 : Nat) : Int) > 0 by decide)]
      exact Ev.const rfl
    · simp only [if_pos (show (q : Int) > 0 by omega), Option.bind_some, tmod_nat, tdiv_nat, w64 (48 + ((q % 10 : Nat) : Int)) (by omega) (by omega), w64 ((q / 10 : Nat) : Int) (by omega) (by omega), str_one (q % 10) (by omega), sz, app]
      have e : digs q = digs (q / 10) ++ [UInt8.ofNat (48 + q % 10)] := by
        conv => lhs; unfold digs
        rw [if_neg h0, decDigits_step]
      rw [e, List.length_append] at ht
      simp only [List.length_cons, List.length_nil] at ht ⊢
      simp only [if_pos (show 0 + 1 + t.length ≤ 9223372036854775807 by omega)]
      have := ih (q / 10) (by omega) ([UInt8.ofNat (48 + q % 10)] ++ t) (by simp only [List.length_append, List.length_cons, List.length_nil]; omega) (by omega)
      rw [e, List.append_assoc]
      exact this
theorem digs_len (n : Nat) (h : n ≤ 9223372036854775807) : (digs n).length ≤ 21 := by
  unfold digs
  split
  · simp
  · have := Lib.itoa_length_le (n : Int) (by omega) (by omega)
    rwa [itoa_nat] at this
theorem dec16_eq (n : Nat) (h : n ≤ 9223372036854775807) : Ev (fun k => emendateref16_Decimal.f k (n : Int)) (B (Lib.decDigits n)) := by
  unfold emendateref16_Decimal.f
  rw [tmod_nat, tdiv_nat, w64 (48 + ((n % 10 : Nat) : Int)) (by omega) (by omega), w64 ((n / 10 : Nat) : Int) (by omega) (by omega), str_one (n % 10) (by omega), decDigits_step]
  have hl := digs_len (n / 10) (by omega)
  exact dec16_loop (n / 10) _ (by simp only [List.length_cons, List.length_nil]; omega) (by omega)

theorem integer_eq (a : Int) (h0 : -9223372036854775808 ≤ a) (h1 : a ≤ 9223372036854775807) : Ev (fun k => emendateref52_integer.f k a) (B (Lib.itoa a)) := by
  unfold emendateref52_integer.f
  by_cases hn : a ≥ 0
  · obtain ⟨n, rfl⟩ := Int.eq_ofNat_of_zero_le hn
    simp only [if_pos hn]
    rw [itoa_nat]
    exact Ev.bind (dec16_eq n (by omega)) (Ev.const rfl)
  · simp only [if_neg hn]
    obtain ⟨n, rfl⟩ : ∃ n : Nat, a = -(n : Int) := ⟨a.natAbs, by omega⟩
    have em : Int.tmod (-(n : Int)) 10 = -((n % 10 : Nat) : Int) := by rw [Int.neg_tmod, tmod_nat]
    have ed : Int.tdiv (-(n : Int)) 10 = -((n / 10 : Nat) : Int) := by rw [Int.neg_tdiv, tdiv_nat]
    rw [Lib.itoa_neg n (by omega)]
    have e48 : (48 : Int) - -((n % 10 : Nat) : Int) = 48 + ((n % 10 : Nat) : Int) := by omega
    simp only [em, ed, e48, w64 (48 + ((n % 10 : Nat) : Int)) (by omega) (by omega), str_one (n % 10) (by omega), Option.bind_some, w64 (-((n / 10 : Nat) : Int)) (by omega) (by omega), Int.neg_neg, w64 ((n / 10 : Nat) : Int) (by omega) (by omega)]
    have hap : ∀ l : List UInt8, (⟨#[45]⟩ : ByteArray) ++ (⟨l.toArray⟩ : ByteArray) = ⟨(45 :: l).toArray⟩ := fun l => app [45] l
    by_cases h10 : -(n : Int) > -10
    · simp only [if_pos h10, sz, hap, List.length_cons, List.length_nil]
      refine Ev.const ?_
      rw [if_pos (by omega), decDigits_step, show n / 10 = 0 by omega]
      rfl
    · simp only [if_neg h10]
      refine Ev.bind (dec16_eq (n / 10) (by omega)) (Ev.const ?_)
      have hl := digs_len (n / 10) (by omega)
      have e : Lib.decDigits (n / 10) = digs (n / 10) := by
        unfold digs
        rw [if_neg (by omega)]
      rw [e]
      simp only [sz, hap, List.length_cons, List.length_nil, app]
      rw [if_pos (by omega), if_pos (by omega), decDigits_step n]
      rfl

/-! ### An event of which only the kind is told -/
def zeros : List UInt8 := [32, 48, 32, 48, 32, 48, 32, 48, 32, 48, 32, 48, 58]
end Go.Proofs.YtanpkbglfhdjfaaGreatDoor.Plain

set_option linter.unusedVariables false
set_option linter.unusedSimpArgs false
namespace Go.Proofs.YtanpkbglfhdjfaaGreatDoor.Plain
open Go.RowKit Go.Proofs.YtanpkbglfhdjfaaGreatDoor Go.Proofs.YtanpkbglfhdjfaaGreatDoor.QP Go.Proofs.YtanpkbglfhdjfaaGreatDoor.QE Go.Proofs.YtanpkbglfhdjfaaGreatDoor.QR Go.Proofs.YtanpkbglfhdjfaaGreatDoor.QX
open Go.Proofs.YtanpkbglfhdjfaaGreatDoorW.PrintWords (rdOf bt rd)

theorem begins_eq (x p : List UInt8) : emendateref55_begins.f ⟨x.toArray⟩ ⟨p.toArray⟩ = some (p.isPrefixOf x) := lite_eq x p

/-- The value of digits behind n. -/
def valF : Nat → List UInt8 → Nat
  | n, [] => n
  | n, d :: r => valF (10 * n + (d.toNat - 48)) r
/-- The reference's reading of a header's number: c digits are read, their value is n. -/
def endH (z : List UInt8) (c n : Nat) : Int × Int :=
  if z = [] then (-1, 0) else if c = 0 then (-2, 0) else if crlf.isPrefixOf z then (((16 + c + 4 : Nat) : Int), (n : Int)) else if z.isPrefixOf crlf then (-1, 0) else (-2, 0)
def goH : List UInt8 → Nat → Nat → Int × Int
  | [], c, n => endH [] c n
  | d :: r, c, n =>
    if isDig d then
      if c > 0 ∧ n = 0 then (-2, 0)
      else if 10 * n + (d.toNat - 48) > 100000 then (-2, 0)
      else goH r (c + 1) (10 * n + (d.toNat - 48))
    else endH (d :: r) c n
def refH (x : List UInt8) : Int × Int :=
  if x.length < 16 then (if x.isPrefixOf pre16 then (-1, 0) else (-2, 0))
  else if pre16.isPrefixOf x then goH (x.drop 16) 0 0 else (-2, 0)

theorem end_eq (pre z : List UInt8) (c n : Nat) (hp : pre.length = 16 + c) (hx : (pre ++ z).length ≤ 1000000) :
    Ev (fun k => emendateref55_header.j1 k ⟨(pre ++ z).toArray⟩ (pre.length : Int) (n : Int) false) (endH z c n) := by
  refine Ev.step ?_
  have hl : (pre ++ z).length = pre.length + z.length := List.length_append
  simp only [emendateref55_header.j1, Bool.false_eq_true, if_false, sz, if_pos (show (0 : Int) ≤ (pre.length : Int) by omega), if_pos (show (pre.length : Int) ≤ ((pre ++ z).length : Int) by omega), ext, List.take_length, Int.toNat_natCast, List.drop_left, toL]
  unfold endH
  by_cases h0 : z = []
  · simp only [if_pos h0]
    exact Ev.const rfl
  · simp only [if_neg h0]
    by_cases hc : c = 0
    · simp only [if_pos (show (pre.length : Int) = 16 by omega), if_pos hc]
      exact Ev.const rfl
    · simp only [if_neg (show ¬ (pre.length : Int) = 16 by omega), if_neg hc]
      have h1 : emendateref55_begins.f ⟨z.toArray⟩ (⟨#[13, 10, 13, 10]⟩ : ByteArray) = some (crlf.isPrefixOf z) := begins_eq z crlf
      have h2 : emendateref55_begins.f (⟨#[13, 10, 13, 10]⟩ : ByteArray) ⟨z.toArray⟩ = some (z.isPrefixOf crlf) := begins_eq crlf z
      simp only [h1, h2, Option.bind_some]
      refine Ev.const ?_
      cases crlf.isPrefixOf z with
      | true =>
        simp only [if_true]
        rw [w64 _ (by omega) (by omega)]
        congr 2
        omega
      | false =>
        simp only [Bool.false_eq_true, if_false]
        cases z.isPrefixOf crlf <;> rfl

theorem goH_eq : ∀ (y pre : List UInt8) (c n : Nat), pre.length = 16 + c → n ≤ 100000 → (pre ++ y).length ≤ 1000000 →
    Ev (fun k => emendateref55_header.l0 k ⟨(pre ++ y).toArray⟩ (pre.length : Int) (n : Int)) (goH y c n)
  | [], pre, c, n, hp, hn, hx => by
    refine Ev.step ?_
    have he := end_eq pre [] c n hp hx
    simp only [List.append_nil] at he ⊢
    simp only [emendateref55_header.l0, sz, Int.lt_irrefl, if_false]
    exact he
  | d :: r, pre, c, n, hp, hn, hx => by
    refine Ev.step ?_
    have hl : (pre ++ d :: r).length = pre.length + (r.length + 1) := by simp
    simp only [emendateref55_header.l0, sz, bt_mid, if_pos (show (pre.length : Int) < ((pre ++ d :: r).length : Int) by omega), if_pos (show (0 : Int) ≤ (pre.length : Int) by omega), goH]
    by_cases hd : isDig d = true
    · have hr := isDig_range hd
      simp only [if_pos hd, if_pos (show (d.toNat : Int) ≥ 48 by omega), show decide ((d.toNat : Int) ≤ 57) = true from decide_eq_true (by omega)]
      refine Ev.step ?_
      simp only [emendateref55_header.j1, if_true]
      have step : ∀ b : Bool, (b = true ↔ (c > 0 ∧ n = 0)) → Ev (fun k => emendateref55_header.j2 k ⟨(pre ++ d :: r).toArray⟩ (pre.length : Int) (n : Int) b) (if c > 0 ∧ n = 0 then (-2, 0) else if 10 * n + (d.toNat - 48) > 100000 then (-2, 0) else goH r (c + 1) (10 * n + (d.toNat - 48))) := by
        intro b hb
        refine Ev.step ?_
        simp only [emendateref55_header.j2]
        cases b with
        | true =>
          simp only [if_true, if_pos (hb.1 rfl)]
          exact Ev.const rfl
        | false =>
          have hno : ¬ (c > 0 ∧ n = 0) := fun h => by have := hb.2 h; cases this
          have hv : wrap64 ((wrap64 (10 * (n : Int))) + (((d.toNat : Int) - 48) % 256)) = ((10 * n + (d.toNat - 48) : Nat) : Int) := by
            rw [w64 (10 * (n : Int)) (by omega) (by omega), w64 _ (by omega) (by omega)]
            omega
          simp only [Bool.false_eq_true, if_false, if_neg hno, sz, bt_mid, if_pos (show (pre.length : Int) < ((pre ++ d :: r).length : Int) by omega), if_pos (show (0 : Int) ≤ (pre.length : Int) by omega), hv]
          by_cases h1 : 10 * n + (d.toNat - 48) > 100000
          · simp only [if_pos h1, if_pos (show ((10 * n + (d.toNat - 48) : Nat) : Int) > 100000 by omega)]
            exact Ev.const rfl
          · simp only [if_neg h1, if_neg (show ¬ ((10 * n + (d.toNat - 48) : Nat) : Int) > 100000 by omega), w64 ((pre.length : Int) + 1) (by omega) (by omega)]
            have ih := goH_eq r (pre ++ [d]) (c + 1) (10 * n + (d.toNat - 48)) (by simp; omega) (by omega) (by simpa using hx)
            have e : pre ++ [d] ++ r = pre ++ d :: r := by simp
            rw [e] at ih
            simp only [List.length_append, List.length_cons, List.length_nil] at ih
            exact ih
      by_cases hc : (pre.length : Int) > 16
      · simp only [if_pos hc]
        refine step _ ?_
        constructor
        · intro h
          have : (n : Int) = 0 := by simpa using h
          omega
        · intro h
          have : (n : Int) = 0 := by omega
          simp [this]
      · simp only [if_neg hc]
        refine step false ?_
        constructor
        · intro h; cases h
        · intro h; omega
    · have he := end_eq pre (d :: r) c n hp hx
      have hdr : ¬ (48 ≤ d.toNat ∧ d.toNat ≤ 57) := by
        intro h
        exact hd (by unfold isDig; simp [h.1, h.2])
      simp only [if_neg hd]
      by_cases h1 : (d.toNat : Int) ≥ 48
      · simp only [if_pos h1, show decide ((d.toNat : Int) ≤ 57) = false from decide_eq_false (by omega)]
        exact he
      · simp only [if_neg h1]
        exact he

theorem refH_eq (x : List UInt8) (hx : x.length ≤ 1000000) : Ev (fun k => emendateref55_header.f k ⟨x.toArray⟩) (refH x) := by
  unfold emendateref55_header.f refH
  rw [sz]
  have h1 : emendateref55_begins.f (⟨#[67, 111, 110, 116, 101, 110, 116, 45, 76, 101, 110, 103, 116, 104, 58, 32]⟩ : ByteArray) ⟨x.toArray⟩ = some (x.isPrefixOf pre16) := begins_eq pre16 x
  have h2 : emendateref55_begins.f ⟨x.toArray⟩ (⟨#[67, 111, 110, 116, 101, 110, 116, 45, 76, 101, 110, 103, 116, 104, 58, 32]⟩ : ByteArray) = some (pre16.isPrefixOf x) := begins_eq x pre16
  rw [h1, h2]
  simp only [Option.bind_some]
  by_cases h16 : x.length < 16
  · simp only [if_pos h16, if_pos (show (x.length : Int) < 16 by omega)]
    cases x.isPrefixOf pre16 <;> exact Ev.const rfl
  · simp only [if_neg h16, if_neg (show ¬ (x.length : Int) < 16 by omega)]
    by_cases hp : pre16.isPrefixOf x = true
    · simp only [if_pos hp]
      have e := pre_split hp
      have e' : x = pre16 ++ x.drop 16 := e
      have := goH_eq (x.drop 16) pre16 0 0 rfl (by omega) (by rw [← e']; exact hx)
      rw [← e'] at this
      exact this
    · simp only [if_neg hp]
      exact Ev.const rfl

/-! ### The two readings agree -/
def okD : Nat → Nat → List UInt8 → Bool
  | _, _, [] => true
  | c, n, d :: r => !(decide (c > 0) && decide (n = 0)) && (decide (10 * n + (d.toNat - 48) ≤ 100000) && okD (c + 1) (10 * n + (d.toNat - 48)) r)
theorem goH_digits : ∀ (ds z : List UInt8) (c n : Nat), ds.all isDig = true → goH (ds ++ z) c n = if okD c n ds then goH z (c + ds.length) (valF n ds) else (-2, 0)
  | [], z, c, n, _ => by
    show goH z c n = if true = true then goH z c n else (-2, 0)
    rw [if_pos rfl]
  | d :: r, z, c, n, h => by
    rw [List.all_cons, Bool.and_eq_true] at h
    have ih := goH_digits r z (c + 1) (10 * n + (d.toNat - 48)) h.2
    have hok : okD c n (d :: r) = (!(decide (c > 0) && decide (n = 0)) && (decide (10 * n + (d.toNat - 48) ≤ 100000) && okD (c + 1) (10 * n + (d.toNat - 48)) r)) := rfl
    have hgo : goH (d :: (r ++ z)) c n = if c > 0 ∧ n = 0 then (-2, 0) else if 10 * n + (d.toNat - 48) > 100000 then (-2, 0) else goH (r ++ z) (c + 1) (10 * n + (d.toNat - 48)) := by
      rw [goH, if_pos h.1]
    have hval : valF n (d :: r) = valF (10 * n + (d.toNat - 48)) r := rfl
    rw [List.cons_append, hgo, hval]
    generalize 10 * n + (d.toNat - 48) = q at ih hok ⊢
    by_cases h1 : c > 0 ∧ n = 0
    · have e : (!(decide (c > 0) && decide (n = 0))) = false := by rw [decide_eq_true h1.1, decide_eq_true h1.2]; rfl
      have ho : okD c n (d :: r) = false := by rw [hok, e, Bool.false_and]
      rw [if_pos h1, ho, if_neg (by simp)]
    · rw [if_neg h1]
      have e : (!(decide (c > 0) && decide (n = 0))) = true := by
        by_cases hc : c > 0
        · rw [decide_eq_false (fun hn => h1 ⟨hc, hn⟩), Bool.and_false]; rfl
        · rw [decide_eq_false hc, Bool.false_and]; rfl
      by_cases h2 : q > 100000
      · have ho : okD c n (d :: r) = false := by rw [hok, decide_eq_false (show ¬ q ≤ 100000 by omega), Bool.false_and, Bool.and_false]
        rw [if_pos h2, ho, if_neg (by simp)]
      · have ho : okD c n (d :: r) = okD (c + 1) q r := by rw [hok, e, decide_eq_true (show q ≤ 100000 by omega), Bool.true_and, Bool.true_and]
        rw [if_neg h2, ih, ho, List.length_cons, show c + 1 + r.length = c + (r.length + 1) by omega]

theorem valF_ge : ∀ (ds : List UInt8) (n : Nat), n ≤ valF n ds
  | [], n => Nat.le_refl _
  | d :: r, n => by
    have ih := valF_ge r (10 * n + (d.toNat - 48))
    have hval : valF n (d :: r) = valF (10 * n + (d.toNat - 48)) r := rfl
    rw [hval]
    generalize valF (10 * n + (d.toNat - 48)) r = q at ih ⊢
    omega
theorem valF_lt (ds : List UInt8) : ∀ (n : Nat), ds.all isDig = true → valF n ds < (n + 1) * 10 ^ ds.length := by
  induction ds with
  | nil =>
    intro n _
    show n < (n + 1) * 1
    omega
  | cons d r ih =>
    intro n h
    rw [List.all_cons, Bool.and_eq_true] at h
    have hr := isDig_range h.1
    have ih' := ih (10 * n + (d.toNat - 48)) h.2
    have hval : valF n (d :: r) = valF (10 * n + (d.toNat - 48)) r := rfl
    have hq : 10 * n + (d.toNat - 48) + 1 ≤ (n + 1) * 10 := by omega
    rw [hval, List.length_cons, Nat.pow_succ]
    generalize 10 * n + (d.toNat - 48) = q at ih' hq ⊢
    generalize 10 ^ r.length = w at ih' ⊢
    have h1 : (q + 1) * w ≤ ((n + 1) * 10) * w := Nat.mul_le_mul_right _ hq
    have h2 : (n + 1) * (w * 10) = ((n + 1) * 10) * w := by
      rw [Nat.mul_comm w 10, Nat.mul_assoc]
    rw [h2]
    exact Nat.lt_of_lt_of_le ih' h1
theorem parse_val (ds : List UInt8) : ∀ (n : Nat), ds.all isDig = true → valF n ds ≤ 1000000000000 → Lib.parseUint10 n ds = .ok (valF n ds) := by
  induction ds with
  | nil =>
    intro n _ _
    rfl
  | cons d r ih =>
    intro n h hv
    rw [List.all_cons, Bool.and_eq_true] at h
    have hr := isDig_range h.1
    have hval : valF n (d :: r) = valF (10 * n + (d.toNat - 48)) r := rfl
    have hge := valF_ge r (10 * n + (d.toNat - 48))
    have ih' := ih (10 * n + (d.toNat - 48)) h.2
    rw [hval] at hv ⊢
    rw [Lib.parseUint10, if_pos hr, if_neg (by omega), if_neg (by omega), Nat.mul_comm n 10]
    exact ih' hv
theorem ofNat_digit {d : UInt8} (h : isDig d = true) : UInt8.ofNat (48 + (d.toNat - 48)) = d := by
  have hr := isDig_range h
  rw [show 48 + (d.toNat - 48) = d.toNat by omega]
  simp
theorem decDigits_snoc (n d : Nat) (hn : 0 < n) (hd : d < 10) : Lib.decDigits (10 * n + d) = Lib.decDigits n ++ [UInt8.ofNat (48 + d)] := by
  rw [Lib.decDigits, dif_neg (by omega), show (10 * n + d) / 10 = n by omega, show (10 * n + d) % 10 = d by omega]
theorem decDigits_valF (ds : List UInt8) : ∀ (n : Nat), 0 < n → ds.all isDig = true → Lib.decDigits (valF n ds) = Lib.decDigits n ++ ds := by
  induction ds with
  | nil =>
    intro n _ _
    rw [List.append_nil]
    rfl
  | cons d r ih =>
    intro n hn h
    rw [List.all_cons, Bool.and_eq_true] at h
    have hr := isDig_range h.1
    have hval : valF n (d :: r) = valF (10 * n + (d.toNat - 48)) r := rfl
    rw [hval, ih _ (by omega) h.2, decDigits_snoc n _ hn (by omega), ofNat_digit h.1, List.append_assoc]
    rfl
theorem decDigits_zero {u : Nat} {r : List UInt8} (h : Lib.decDigits u = 48 :: r) : r = [] := by
  induction u using Nat.strongRecOn generalizing r with
  | ind u ih =>
    by_cases hu : u < 10
    · rw [Lib.decDigits_one hu] at h
      simp at h
      exact h.2
    · rw [Lib.decDigits, dif_neg hu] at h
      obtain ⟨c, r', e, hc⟩ := decDigits_head (u / 10)
      rw [e] at h
      simp only [List.cons_append, List.cons.injEq] at h
      obtain ⟨rfl, _⟩ := h
      have hr' := ih (u / 10) (by omega) e
      subst hr'
      by_cases h10 : u / 10 < 10
      · rw [Lib.decDigits_one h10] at e
        simp only [List.cons.injEq, and_true] at e
        have := congrArg UInt8.toNat e
        rw [dig_toNat _ h10] at this
        have e48 : (48 : UInt8).toNat = 48 := rfl
        omega
      · rw [Lib.decDigits, dif_neg h10] at e
        have hl := congrArg List.length e
        simp only [List.length_append, List.length_cons, List.length_nil] at hl
        have : (Lib.decDigits (u / 10 / 10)).length ≠ 0 := fun h => decDigits_ne _ (List.eq_nil_of_length_eq_zero h)
        omega

theorem decL_digits {ds : List UInt8} (h : ds.all isDig = true) (hne : ds ≠ []) (hl : ds.length ≤ 6) : decL ds = ((valF 0 ds : Int), Lib.decDigits (valF 0 ds) == ds) := by
  have hv := valF_lt ds 0 h
  have hp : 10 ^ ds.length ≤ 10 ^ 6 := Nat.pow_le_pow_right (by decide) hl
  have hv' : valF 0 ds < 1000000 := by omega
  cases ds with
  | nil => exact absurd rfl hne
  | cons c r =>
    have hc := h
    rw [List.all_cons, Bool.and_eq_true] at hc
    have hr := isDig_range hc.1
    have hpm : Lib.parseMag (c :: r) = .ok (valF 0 (c :: r)) := by
      unfold Lib.parseMag
      rw [if_neg (by simp), parse_val _ _ h (by omega)]
    have ha : Lib.atoiAll (c :: r) = .ok ((valF 0 (c :: r) : Nat) : Int) := by
      simp only [Lib.atoiAll]
      rw [if_neg (by omega), hpm]
      simp only []
      rw [if_neg (by omega), if_neg (by omega), if_neg (by omega)]
    unfold decL
    rw [ha]
    simp only [itoa_nat]

theorem okD_pos (ds : List UInt8) : ∀ (c n : Nat), 0 < c → 0 < n → n ≤ 100000 → okD c n ds = decide (valF n ds ≤ 100000) := by
  induction ds with
  | nil =>
    intro c n _ _ hn
    show true = decide (n ≤ 100000)
    rw [decide_eq_true hn]
  | cons d r ih =>
    intro c n hc hn hm
    have hok : okD c n (d :: r) = (!(decide (c > 0) && decide (n = 0)) && (decide (10 * n + (d.toNat - 48) ≤ 100000) && okD (c + 1) (10 * n + (d.toNat - 48)) r)) := rfl
    have hval : valF n (d :: r) = valF (10 * n + (d.toNat - 48)) r := rfl
    have hq : 0 < 10 * n + (d.toNat - 48) := by omega
    have hge := valF_ge r (10 * n + (d.toNat - 48))
    rw [hok, hval]
    generalize 10 * n + (d.toNat - 48) = q at hq hge ⊢
    have e : (!(decide (c > 0) && decide (n = 0))) = true := by
      rw [decide_eq_false (show ¬ n = 0 by omega), Bool.and_false]
      rfl
    rw [e, Bool.true_and]
    by_cases h2 : q ≤ 100000
    · rw [ih (c + 1) q (by omega) hq h2, decide_eq_true h2, Bool.true_and]
    · rw [decide_eq_false h2, Bool.false_and, decide_eq_false (show ¬ valF q r ≤ 100000 by omega)]
theorem okD_decL {ds : List UInt8} (h : ds.all isDig = true) (hne : ds ≠ []) (hl : ds.length ≤ 6) : okD 0 0 ds = ((decL ds).2 && !decide ((decL ds).1 > 100000)) := by
  rw [decL_digits h hne hl]
  cases ds with
  | nil => exact absurd rfl hne
  | cons d r =>
    have hc := h
    rw [List.all_cons, Bool.and_eq_true] at hc
    have hr := isDig_range hc.1
    have h1 : okD 0 0 (d :: r) = okD 1 (d.toNat - 48) r := by
      have e1 : (!(decide ((0 : Nat) > 0) && decide ((0 : Nat) = 0))) = true := rfl
      have e2 : decide (10 * 0 + (d.toNat - 48) ≤ 100000) = true := decide_eq_true (by omega)
      show (!(decide ((0 : Nat) > 0) && decide ((0 : Nat) = 0)) && (decide (10 * 0 + (d.toNat - 48) ≤ 100000) && okD 1 (10 * 0 + (d.toNat - 48)) r)) = _
      rw [e1, e2, Bool.true_and, Bool.true_and, show 10 * 0 + (d.toNat - 48) = d.toNat - 48 by omega]
    have h2 : valF 0 (d :: r) = valF (d.toNat - 48) r := by
      show valF (10 * 0 + (d.toNat - 48)) r = _
      rw [show 10 * 0 + (d.toNat - 48) = d.toNat - 48 by omega]
    rw [h1, h2]
    by_cases hd : d.toNat - 48 = 0
    · rw [hd]
      cases r with
      | nil =>
        have e : (Lib.decDigits (valF 0 []) == [d]) = true := by
          have ed : d = 48 := UInt8.toNat_inj.1 (by have e48 : (48 : UInt8).toNat = 48 := rfl; omega)
          subst ed
          decide +kernel
        rw [e]
        rfl
      | cons f r' =>
        have e1 : okD 1 0 (f :: r') = false := rfl
        have e2 : (Lib.decDigits (valF 0 (f :: r')) == d :: f :: r') = false := by
          rw [Bool.eq_false_iff]
          intro h
          have h' : Lib.decDigits (valF 0 (f :: r')) = d :: f :: r' := by simpa using h
          have ed : d = 48 := UInt8.toNat_inj.1 (by have e48 : (48 : UInt8).toNat = 48 := rfl; omega)
          rw [ed] at h'
          have := decDigits_zero h'
          cases this
        rw [e1, e2]
        rfl
    · rw [okD_pos r 1 _ (by decide) (by omega) (by omega)]
      have e : (Lib.decDigits (valF (d.toNat - 48) r) == d :: r) = true := by
        rw [decDigits_valF r _ (by omega) hc.2, Lib.decDigits_one (by omega), ofNat_digit hc.1]
        simp
      rw [e, Bool.true_and]
      by_cases h3 : valF (d.toNat - 48) r ≤ 100000
      · rw [decide_eq_true h3, decide_eq_false (by omega)]
        rfl
      · rw [decide_eq_false h3, decide_eq_true (by omega)]
        rfl

theorem run_stop : ∀ (n : Nat) (y : List UInt8), run n y < n → ∀ d r, y.drop (run n y) = d :: r → isDig d = false
  | 0, y, h, _, _, _ => absurd h (Nat.not_lt_zero _)
  | n + 1, [], _, d, r, e => by simp [run] at e
  | n + 1, c :: y, h, d, r, e => by
    simp only [run] at h e
    by_cases hc : isDig c = true
    · rw [if_pos hc] at h e
      rw [List.drop_succ_cons] at e
      exact run_stop n y (by omega) d r e
    · rw [if_neg hc] at e
      simp only [List.drop_zero, List.cons.injEq] at e
      rw [← e.1]
      simpa using hc
theorem goH_end {z : List UInt8} {c n : Nat} (h : ∀ d r, z = d :: r → isDig d = false) : goH z c n = endH z c n := by
  cases z with
  | nil => rfl
  | cons d r =>
    simp only [goH]
    rw [h d r rfl, if_neg (by simp)]

def sel (a b : Bool) (u : Int × Int) : Int × Int := if a then (-1, 0) else if b then u else (-2, 0)

theorem digits_short {n : Nat} (h : n < 100000) : (Lib.decDigits n).length ≤ 5 := by
  have key : ∀ (k u : Nat), u < 10 ^ (k + 1) → (Lib.decDigits u).length ≤ k + 1 := by
    intro k
    induction k with
    | zero =>
      intro u hu
      rw [Lib.decDigits_one (by simpa using hu)]
      simp
    | succ k ih =>
      intro u hu
      by_cases h : u < 10
      · rw [Lib.decDigits_one h]
        simp
      · rw [Lib.decDigits, dif_neg h, List.length_append]
        have := ih (u / 10) (by rw [Nat.pow_succ] at hu; omega)
        simp only [List.length_cons, List.length_nil]
        omega
  exact key 4 n (by omega)

theorem head_agree (x : List UInt8) : refH x = sel (headerL x).2.2.2 (headerL x).2.2.1 ((x.length : Int) - ((headerL x).2.1.length : Int), (headerL x).1) := by
  unfold refH headerL
  by_cases h16 : x.length < 16
  · simp only [if_pos h16]
    cases x.isPrefixOf pre16 <;> rfl
  · simp only [if_neg h16]
    by_cases hp : pre16.isPrefixOf x = true
    · simp only [if_pos hp]
      have hlx : x.length = 16 + (x.drop 16).length := by rw [List.length_drop]; omega
      generalize hy : x.drop 16 = y at hlx ⊢
      by_cases h0 : run 6 y = 0
      · simp only [if_pos h0]
        cases y with
        | nil => rfl
        | cons d r =>
          have hd := run_stop 6 (d :: r) (by omega) d r (by rw [h0]; rfl)
          rw [goH_end (fun d' r' e => by cases e; exact hd)]
          unfold endH
          rw [if_neg (by simp), if_pos rfl]
          rfl
      · simp only [if_neg h0]
        have hall := run_all 6 y
        have hrl := run_le 6 y
        have hr6 := run_le' 6 y
        have hne : y.take (run 6 y) ≠ [] := by
          intro h
          have h2 : (y.take (run 6 y)).length = 0 := by rw [h]; rfl
          rw [List.length_take] at h2
          omega
        have hlt : (y.take (run 6 y)).length = run 6 y := by rw [List.length_take]; omega
        have hgo := goH_digits (y.take (run 6 y)) (y.drop (run 6 y)) 0 0 hall
        rw [List.take_append_drop, okD_decL hall hne (by omega), hlt, Nat.zero_add] at hgo
        rw [hgo]
        have hdl := decL_digits hall hne (by omega)
        have hlz : y.length = run 6 y + (y.drop (run 6 y)).length := by rw [List.length_drop]; omega
        have hstop := run_stop 6 y
        generalize y.drop (run 6 y) = z at hlz hstop ⊢
        by_cases h4 : ((decL (y.take (run 6 y))).2 && !decide ((decL (y.take (run 6 y))).1 > 100000)) = true
        · simp only [if_pos h4]
          rw [hdl] at h4 ⊢
          simp only [Bool.and_eq_true, Bool.not_eq_true', decide_eq_false_iff_not, beq_iff_eq] at h4
          by_cases hz : ∀ d r, z = d :: r → isDig d = false
          · rw [goH_end hz]
            unfold endH
            by_cases hz0 : z = []
            · subst hz0
              rfl
            · rw [if_neg hz0, if_neg h0]
              by_cases h5 : crlf.isPrefixOf z = true
              · rw [if_pos h5]
                have hle := (List.isPrefixOf_iff_prefix.1 h5).length_le
                have e2 : crlf.length = 4 := rfl
                rw [if_neg (by omega), if_pos h5]
                simp only [sel, Bool.false_eq_true, if_false, if_true, Prod.mk.injEq, and_true]
                rw [List.length_drop]
                omega
              · rw [if_neg h5]
                by_cases h6 : z.length < 4
                · rw [if_pos h6]
                  cases z.isPrefixOf crlf <;> rfl
                · rw [if_neg h6, if_neg h5]
                  have h7 : z.isPrefixOf crlf = false := by
                    rw [Bool.eq_false_iff]
                    intro h
                    have hpre := List.isPrefixOf_iff_prefix.1 h
                    have e2 : crlf.length = 4 := rfl
                    have := hpre.eq_of_length (by have := hpre.length_le; omega)
                    rw [this] at h5
                    exact h5 (by decide)
                  rw [h7]
                  rfl
          · -- a seventh digit
            obtain ⟨d, r, ez, hd⟩ : ∃ d r, z = d :: r ∧ isDig d = true := by
              cases z with
              | nil => exact absurd (fun d r e => by cases e) hz
              | cons d r =>
                refine ⟨d, r, rfl, ?_⟩
                cases hdd : isDig d with
                | true => rfl
                | false => exact absurd (fun d' r' e => by cases e; exact hdd) hz
            have hp6 : run 6 y = 6 := by
              rcases Nat.lt_or_ge (run 6 y) 6 with h | h
              · have := hstop h d r ez
                rw [hd] at this
                cases this
              · omega
            have hbig : 100000 ≤ valF 0 (y.take (run 6 y)) := by
              rcases Nat.lt_or_ge (valF 0 (y.take (run 6 y))) 100000 with h | h
              · have hk := digits_short h
                rw [h4.1, hlt] at hk
                omega
              · exact h
            have hd' := isDig_range hd
            have hgz : goH z (run 6 y) (valF 0 (y.take (run 6 y))) = (-2, 0) := by
              rw [ez]
              simp only [goH, if_pos hd]
              rw [if_neg (by omega), if_pos (by omega)]
            rw [hgz]
            have hn13 : d ≠ 13 := by
              intro h
              rw [h] at hd
              have : isDig 13 = false := by decide
              rw [this] at hd
              cases hd
            have hc1 : z.isPrefixOf crlf = false := by
              rw [ez]
              simp only [crlf, List.isPrefixOf, Bool.and_eq_false_iff]
              left
              simpa using hn13
            have hc2 : crlf.isPrefixOf z = false := by
              rw [ez]
              simp only [crlf, List.isPrefixOf, Bool.and_eq_false_iff]
              left
              simpa using fun h : (13 : UInt8) = d => hn13 h.symm
            by_cases h6 : z.length < 4
            · rw [if_pos h6, hc1]
              rfl
            · rw [if_neg h6, hc2]
              rfl
        · simp only [if_neg h4]
          rfl
    · simp only [if_neg hp]
      rfl
end Go.Proofs.YtanpkbglfhdjfaaGreatDoor.Plain

set_option linter.unusedVariables false
set_option linter.unusedSimpArgs false
namespace Go.Proofs.YtanpkbglfhdjfaaGreatDoor.Plain
open Go.RowKit Go.Proofs.YtanpkbglfhdjfaaGreatDoor Go.Proofs.YtanpkbglfhdjfaaGreatDoor.QP Go.Proofs.YtanpkbglfhdjfaaGreatDoor.QE
open Go.Proofs.YtanpkbglfhdjfaaGreatDoorW.PrintWords (rdOf bt rd)

theorem wrap_in (n : Int) : -9223372036854775808 ≤ wrap64 n ∧ wrap64 n ≤ 9223372036854775807 := by unfold wrap64; omega

/-- The loop over the bytes, wherever it ends: a value, and whether its decimal form is the text. -/
theorem num_any (s : List UInt8) (hs : s.length ≤ 1000) (neg : Bool) : ∀ (t pre : List UInt8) (a : Int), s = pre ++ t → -9223372036854775808 ≤ a → a ≤ 9223372036854775807 →
    ∃ (w : Int) (ok : Bool), Ev (fun k => emendateref52_number.l0 k ⟨s.toArray⟩ a (pre.length : Int) neg) (w, ok) ∧ (ok = true → s = Lib.itoa w ∧ -9223372036854775808 ≤ w ∧ w ≤ 9223372036854775807)
  | [], pre, a, e, a0, a1 => by
    subst e
    rw [List.append_nil] at hs ⊢
    cases neg with
    | true =>
      refine ⟨a, Lib.itoa a == pre, Ev.step ?_, fun h => ?_⟩
      · simp only [emendateref52_number.l0, sz, Int.lt_irrefl, if_false, if_true]
        refine Ev.bind (integer_eq a a0 a1) (Ev.const ?_)
        rw [toL, toL]
      · have := eq_of_beq h
        exact ⟨this.symm, a0, a1⟩
    | false =>
      obtain ⟨w0, w1⟩ := wrap_in (-a)
      refine ⟨wrap64 (-a), Lib.itoa (wrap64 (-a)) == pre, Ev.step ?_, fun h => ?_⟩
      · simp only [emendateref52_number.l0, sz, Int.lt_irrefl, if_false, Bool.false_eq_true]
        refine Ev.bind (integer_eq _ w0 w1) (Ev.const ?_)
        rw [toL, toL]
      · have := eq_of_beq h
        exact ⟨this.symm, w0, w1⟩
  | c :: t, pre, a, e, a0, a1 => by
    subst e
    have hl : (pre ++ c :: t).length = pre.length + (t.length + 1) := by simp
    by_cases h1 : (c.toNat : Int) < 48
    · refine ⟨0, false, Ev.step ?_, fun h => by cases h⟩
      simp only [emendateref52_number.l0, sz, bt_mid, if_pos (show (pre.length : Int) < ((pre ++ c :: t).length : Int) by omega), if_pos (show (0 : Int) ≤ (pre.length : Int) by omega), if_pos h1]
      exact Ev.const rfl
    · by_cases h2 : (c.toNat : Int) > 57
      · refine ⟨0, false, Ev.step ?_, fun h => by cases h⟩
        simp only [emendateref52_number.l0, sz, bt_mid, if_pos (show (pre.length : Int) < ((pre ++ c :: t).length : Int) by omega), if_pos (show (0 : Int) ≤ (pre.length : Int) by omega), if_neg h1, if_pos h2]
        exact Ev.const rfl
      · obtain ⟨w0, w1⟩ := wrap_in ((wrap64 (10 * a)) - (((c.toNat : Int) - 48) % 256))
        obtain ⟨w, ok, hE, hok⟩ := num_any (pre ++ c :: t) hs neg t (pre ++ [c]) _ (by simp) w0 w1
        refine ⟨w, ok, Ev.step ?_, hok⟩
        simp only [emendateref52_number.l0, sz, bt_mid, if_pos (show (pre.length : Int) < ((pre ++ c :: t).length : Int) by omega), if_pos (show (0 : Int) ≤ (pre.length : Int) by omega), if_neg h1, if_neg h2, w64 ((pre.length : Int) + 1) (by omega) (by omega)]
        simp only [List.length_append, List.length_cons, List.length_nil] at hE
        exact hE

/-- The loop over digits that do not pass the range. -/
theorem num_digits (s : List UInt8) (hs : s.length ≤ 1000) (neg : Bool) : ∀ (t pre : List UInt8) (a : Nat), s = pre ++ t → t.all isDig = true → valF a t ≤ 9223372036854775808 →
    ∀ {r : Int × Bool}, Ev (fun k => emendateref52_number.l0 k ⟨s.toArray⟩ (-(valF a t : Nat) : Int) (s.length : Int) neg) r → Ev (fun k => emendateref52_number.l0 k ⟨s.toArray⟩ (-(a : Nat) : Int) (pre.length : Int) neg) r := by
  intro t
  induction t with
  | nil =>
    intro pre a e _ _ r h
    subst e
    rw [List.append_nil] at h ⊢
    exact h
  | cons c t ih =>
    intro pre a e hd hv r h
    subst e
    rw [List.all_cons, Bool.and_eq_true] at hd
    have hr := isDig_range hd.1
    have hl : (pre ++ c :: t).length = pre.length + (t.length + 1) := by simp
    have hval : valF a (c :: t) = valF (10 * a + (c.toNat - 48)) t := rfl
    have hge := valF_ge t (10 * a + (c.toNat - 48))
    rw [hval] at hv h
    have hE := ih (pre ++ [c]) (10 * a + (c.toNat - 48)) (by simp) hd.2 hv h
    refine Ev.step ?_
    have hw : wrap64 ((wrap64 (10 * (-(a : Nat) : Int))) - (((c.toNat : Int) - 48) % 256)) = (-((10 * a + (c.toNat - 48) : Nat) : Int)) := by
      rw [w64 (10 * (-(a : Nat) : Int)) (by omega) (by omega), w64 _ (by omega) (by omega)]
      omega
    simp only [emendateref52_number.l0, sz, bt_mid, if_pos (show (pre.length : Int) < ((pre ++ c :: t).length : Int) by omega), if_pos (show (0 : Int) ≤ (pre.length : Int) by omega), if_neg (show ¬ (c.toNat : Int) < 48 by omega), if_neg (show ¬ (c.toNat : Int) > 57 by omega), hw, w64 ((pre.length : Int) + 1) (by omega) (by omega)]
    simp only [List.length_append, List.length_cons, List.length_nil] at hE
    exact hE
theorem valF_app : ∀ (l : List UInt8) (a : Nat) (d : UInt8), valF a (l ++ [d]) = 10 * valF a l + (d.toNat - 48)
  | [], a, d => rfl
  | c :: l, a, d => by
    show valF (10 * a + (c.toNat - 48)) (l ++ [d]) = 10 * valF (10 * a + (c.toNat - 48)) l + (d.toNat - 48)
    exact valF_app l _ d
theorem valF_dec (n : Nat) : valF 0 (Lib.decDigits n) = n := by
  induction n using Nat.strongRecOn with
  | ind n ih =>
    by_cases h : n < 10
    · rw [Lib.decDigits_one h]
      show 10 * 0 + ((UInt8.ofNat (48 + n)).toNat - 48) = n
      rw [dig_toNat n h]
      omega
    · rw [Lib.decDigits, dif_neg h, valF_app, ih (n / 10) (by omega), dig_toNat (n % 10) (by omega)]
      omega
theorem digits_19 {n : Nat} (h : n ≤ 9223372036854775808) : (Lib.decDigits n).length ≤ 19 := by
  have key : ∀ (k u : Nat), u < 10 ^ (k + 1) → (Lib.decDigits u).length ≤ k + 1 := by
    intro k
    induction k with
    | zero =>
      intro u hu
      rw [Lib.decDigits_one (by simpa using hu)]
      simp
    | succ k ih =>
      intro u hu
      by_cases h : u < 10
      · rw [Lib.decDigits_one h]
        simp
      · rw [Lib.decDigits, dif_neg h, List.length_append]
        have := ih (u / 10) (by rw [Nat.pow_succ] at hu; omega)
        simp only [List.length_cons, List.length_nil]
        omega
  exact key 18 n (by omega)

/-- The way into the loop. -/
theorem num_in (s : List UInt8) (c : UInt8) (r : List UInt8) (e : s = c :: r) (hs : s.length ≤ 20) (x5 : Nat) (h5 : x5 = if c = 45 then 1 else 0) (hne : s.length ≠ x5) {q : Int × Bool}
    (h : Ev (fun k => emendateref52_number.l0 k ⟨s.toArray⟩ 0 (x5 : Int) (decide (c = 45))) q) : Ev (fun k => emendateref52_number.f k ⟨s.toArray⟩) q := by
  unfold emendateref52_number.f
  have hpos : 0 < s.length := by rw [e]; simp
  have hb : bt (⟨s.toArray⟩ : ByteArray) 0 = (c.toNat : Int) := by
    rw [e]
    exact bt_mid [] c r
  have hc : ((c.toNat : Int) == 45) = decide (c = 45) := by
    by_cases h45 : c = 45
    · rw [h45]; rfl
    · rw [decide_eq_false h45]
      refine beq_eq_false_iff_ne.2 (fun h => h45 (UInt8.toNat_inj.1 ?_))
      show c.toNat = 45
      omega
  simp only [sz, if_pos (show (s.length : Int) > 0 by omega), if_pos (show (0 : Int) < (s.length : Int) by omega), hb, hc]
  refine Ev.step ?_
  simp only [emendateref52_number.j0]
  have main : Ev (fun k => emendateref52_number.j1 k ⟨s.toArray⟩ 0 (x5 : Int) (decide (c = 45))) q := by
    refine Ev.step ?_
    simp only [emendateref52_number.j1, sz, if_neg (show ¬ (s.length : Int) = (x5 : Int) by omega), show decide ((s.length : Int) > 20) = false from decide_eq_false (by omega)]
    refine Ev.step ?_
    simp only [emendateref52_number.j2, Bool.false_eq_true, if_false]
    exact h
  by_cases h45 : c = 45
  · rw [if_pos h45] at h5
    subst h5
    simp only [decide_eq_true h45, if_true] at main ⊢
    exact main
  · rw [if_neg h45] at h5
    subst h5
    simp only [decide_eq_false h45, Bool.false_eq_true, if_false] at main ⊢
    exact main

theorem num_out (s : List UInt8) (c : UInt8) (r : List UInt8) (e : s = c :: r) (hs : s.length ≤ 1000) (hbad : ¬ (s.length ≤ 20 ∧ s.length ≠ (if c = 45 then 1 else 0))) : Ev (fun k => emendateref52_number.f k ⟨s.toArray⟩) (0, false) := by
  unfold emendateref52_number.f
  have hpos : 0 < s.length := by rw [e]; simp
  have hb : bt (⟨s.toArray⟩ : ByteArray) 0 = (c.toNat : Int) := by
    rw [e]
    exact bt_mid [] c r
  have hc : ((c.toNat : Int) == 45) = decide (c = 45) := by
    by_cases h45 : c = 45
    · rw [h45]; rfl
    · rw [decide_eq_false h45]
      refine beq_eq_false_iff_ne.2 (fun h => h45 (UInt8.toNat_inj.1 ?_))
      show c.toNat = 45
      omega
  simp only [sz, if_pos (show (s.length : Int) > 0 by omega), if_pos (show (0 : Int) < (s.length : Int) by omega), hb, hc]
  refine Ev.step ?_
  simp only [emendateref52_number.j0]
  have main : ∀ (x5 : Nat) (b : Bool), (s.length ≠ x5 → s.length > 20) → Ev (fun k => emendateref52_number.j1 k ⟨s.toArray⟩ 0 (x5 : Int) b) (0, false) := by
    intro x5 b hx
    refine Ev.step ?_
    by_cases h5 : s.length = x5
    · simp only [emendateref52_number.j1, sz, if_pos (show (s.length : Int) = (x5 : Int) by omega)]
      refine Ev.step ?_
      simp only [emendateref52_number.j2]
      exact Ev.const rfl
    · have := hx h5
      simp only [emendateref52_number.j1, sz, if_neg (show ¬ (s.length : Int) = (x5 : Int) by omega), show decide ((s.length : Int) > 20) = true from decide_eq_true (by omega)]
      refine Ev.step ?_
      simp only [emendateref52_number.j2]
      exact Ev.const rfl
  by_cases h45 : c = 45
  · rw [if_pos h45] at hbad
    simp only [decide_eq_true h45, if_true]
    exact main 1 true (by omega)
  · rw [if_neg h45] at hbad
    simp only [decide_eq_false h45, Bool.false_eq_true, if_false]
    exact main 0 false (by omega)

theorem number_yes (v : Int) (v0 : -9223372036854775808 ≤ v) (v1 : v ≤ 9223372036854775807) : Ev (fun k => emendateref52_number.f k ⟨(Lib.itoa v).toArray⟩) (v, true) := by
  by_cases hn : v < 0
  · obtain ⟨n, rfl⟩ : ∃ n : Nat, v = -(n : Int) := ⟨v.natAbs, by omega⟩
    have e : Lib.itoa (-(n : Int)) = 45 :: Lib.decDigits n := Lib.itoa_neg n (by omega)
    have hl := digits_19 (n := n) (by omega)
    have hpos : (Lib.decDigits n).length ≠ 0 := fun h => decDigits_ne n (List.eq_nil_of_length_eq_zero h)
    have hint := integer_eq (-(n : Int)) v0 v1
    rw [e] at hint ⊢
    refine num_in _ 45 (Lib.decDigits n) rfl (by simp; omega) 1 rfl (by simp; exact fun h => decDigits_ne n h) ?_
    have := num_digits (45 :: Lib.decDigits n) (by simp; omega) true (Lib.decDigits n) [45] 0 rfl (decDigits_all n) (by rw [valF_dec]; omega) (r := (-(n : Int), true)) (by
      rw [valF_dec]
      refine Ev.step ?_
      simp only [emendateref52_number.l0, sz, Int.lt_irrefl, if_false, if_true]
      refine Ev.bind hint (Ev.const ?_)
      simp)
    exact this
  · obtain ⟨n, rfl⟩ := Int.eq_ofNat_of_zero_le (show 0 ≤ v by omega)
    have hl := digits_19 (n := n) (by omega)
    obtain ⟨c, r, e, hc⟩ := decDigits_head n
    have hr := isDig_range hc
    have hint := integer_eq (n : Int) v0 v1
    rw [itoa_nat] at hint ⊢
    have h45 : c ≠ 45 := by
      intro h
      rw [h] at hr
      have : (45 : UInt8).toNat = 45 := rfl
      omega
    have hpos : (Lib.decDigits n).length ≠ 0 := fun h => decDigits_ne n (List.eq_nil_of_length_eq_zero h)
    refine num_in _ c r e (by omega) 0 (by rw [if_neg h45]) hpos ?_
    have := num_digits (Lib.decDigits n) (by omega) false (Lib.decDigits n) [] 0 rfl (decDigits_all n) (by rw [valF_dec]; omega) (r := ((n : Int), true)) (by
      rw [valF_dec]
      refine Ev.step ?_
      simp only [emendateref52_number.l0, sz, Int.lt_irrefl, if_false, Bool.false_eq_true, Int.neg_neg, w64 (n : Int) (by omega) (by omega)]
      refine Ev.bind hint (Ev.const ?_)
      simp)
    rw [decide_eq_false h45]
    exact this

theorem number_no (s : List UInt8) (hs : s.length ≤ 1000) (hno : ∀ v : Int, -9223372036854775808 ≤ v → v ≤ 9223372036854775807 → s ≠ Lib.itoa v) : ∃ w : Int, Ev (fun k => emendateref52_number.f k ⟨s.toArray⟩) (w, false) := by
  cases s with
  | nil =>
    refine ⟨0, ?_⟩
    unfold emendateref52_number.f
    simp only [sz, List.length_nil]
    refine Ev.step ?_
    simp only [emendateref52_number.j0]
    refine Ev.step ?_
    simp only [emendateref52_number.j1, sz, List.length_nil]
    refine Ev.step ?_
    simp only [emendateref52_number.j2]
    exact Ev.const rfl
  | cons c r =>
    by_cases h20 : (c :: r).length ≤ 20 ∧ (c :: r).length ≠ (if c = 45 then 1 else 0)
    · by_cases h45 : c = 45
      · obtain ⟨w, ok, hE, hok⟩ := num_any (c :: r) hs (decide (c = 45)) r [c] 0 rfl (by decide) (by decide)
        cases ok with
        | true =>
          obtain ⟨e1, e2, e3⟩ := hok rfl
          exact absurd e1 (hno w e2 e3)
        | false =>
          exact ⟨w, num_in (c :: r) c r rfl h20.1 1 (by rw [if_pos h45]) (by have := h20.2; rwa [if_pos h45] at this) hE⟩
      · obtain ⟨w, ok, hE, hok⟩ := num_any (c :: r) hs (decide (c = 45)) (c :: r) [] 0 rfl (by decide) (by decide)
        cases ok with
        | true =>
          obtain ⟨e1, e2, e3⟩ := hok rfl
          exact absurd e1 (hno w e2 e3)
        | false =>
          exact ⟨w, num_in (c :: r) c r rfl h20.1 0 (by rw [if_neg h45]) (by simp) hE⟩
    · exact ⟨0, num_out (c :: r) c r rfl hs h20⟩
end Go.Proofs.YtanpkbglfhdjfaaGreatDoor.Plain

set_option linter.unusedVariables false
set_option linter.unusedSimpArgs false
namespace Go.Proofs.YtanpkbglfhdjfaaGreatDoor.Plain
open Go.RowKit Go.Proofs.YtanpkbglfhdjfaaGreatDoor Go.Proofs.YtanpkbglfhdjfaaGreatDoor.QP Go.Proofs.YtanpkbglfhdjfaaGreatDoor.QE Go.Proofs.YtanpkbglfhdjfaaGreatDoor.QR Go.Proofs.YtanpkbglfhdjfaaGreatDoor.QX
open Go.Proofs.YtanpkbglfhdjfaaGreatDoorW.PrintWords (rdOf bt rd)

theorem find_hit (c : UInt8) (t : List UInt8) : ∀ (m pre : List UInt8), c ∉ m → (pre ++ (m ++ c :: t)).length ≤ 1000000 →
    Ev (fun k => emendateref55_find.l0 k ⟨(pre ++ (m ++ c :: t)).toArray⟩ (c.toNat : Int) (pre.length : Int)) ((pre.length + m.length : Nat) : Int)
  | [], pre, _, hx => by
    rw [List.nil_append] at hx ⊢
    refine Ev.step ?_
    have hlen : (pre ++ c :: t).length = pre.length + (t.length + 1) := by simp
    simp only [emendateref55_find.l0, sz, bt_mid, if_true, if_pos (show (pre.length : Int) < ((pre ++ c :: t).length : Int) by omega), if_pos (show (0 : Int) ≤ (pre.length : Int) by omega)]
    exact Ev.const rfl
  | d :: m, pre, hm, hx => by
    rw [List.cons_append] at hx ⊢
    have hlen : (pre ++ d :: (m ++ c :: t)).length = pre.length + ((m ++ c :: t).length + 1) := by simp
    refine Ev.step ?_
    have hc : ¬ ((d.toNat : Int) = (c.toNat : Int)) := by
      intro h
      have e : d = c := UInt8.toNat_inj.1 (by omega)
      exact hm (by rw [e]; exact List.mem_cons_self ..)
    simp only [emendateref55_find.l0, sz, bt_mid, if_neg hc, if_pos (show (pre.length : Int) < ((pre ++ d :: (m ++ c :: t)).length : Int) by omega), if_pos (show (0 : Int) ≤ (pre.length : Int) by omega), w64 ((pre.length : Int) + 1) (by omega) (by omega)]
    have e : pre ++ d :: (m ++ c :: t) = (pre ++ [d]) ++ (m ++ c :: t) := by simp
    have ih := find_hit c t m (pre ++ [d]) (fun h => hm (List.mem_cons_of_mem _ h)) (by rw [← e]; exact hx)
    rw [← e] at ih
    simp only [List.length_append, List.length_cons, List.length_nil] at ih
    have e2 : pre.length + (0 + 1) + m.length = pre.length + (m.length + 1) := by omega
    rw [e2] at ih
    exact ih
theorem find_miss (c : UInt8) : ∀ (m pre : List UInt8), c ∉ m → (pre ++ m).length ≤ 1000000 →
    Ev (fun k => emendateref55_find.l0 k ⟨(pre ++ m).toArray⟩ (c.toNat : Int) (pre.length : Int)) (-1)
  | [], pre, _, hx => by
    rw [List.append_nil] at hx ⊢
    refine Ev.step ?_
    simp only [emendateref55_find.l0, sz, Int.lt_irrefl, if_false]
    exact Ev.const rfl
  | d :: m, pre, hm, hx => by
    have hlen : (pre ++ d :: m).length = pre.length + (m.length + 1) := by simp
    refine Ev.step ?_
    have hc : ¬ ((d.toNat : Int) = (c.toNat : Int)) := by
      intro h
      have e : d = c := UInt8.toNat_inj.1 (by omega)
      exact hm (by rw [e]; exact List.mem_cons_self ..)
    simp only [emendateref55_find.l0, sz, bt_mid, if_neg hc, if_pos (show (pre.length : Int) < ((pre ++ d :: m).length : Int) by omega), if_pos (show (0 : Int) ≤ (pre.length : Int) by omega), w64 ((pre.length : Int) + 1) (by omega) (by omega)]
    have e : pre ++ d :: m = (pre ++ [d]) ++ m := by simp
    have ih := find_miss c m (pre ++ [d]) (fun h => hm (List.mem_cons_of_mem _ h)) (by rw [← e]; exact hx)
    rw [← e] at ih
    simp only [List.length_append, List.length_cons, List.length_nil] at ih
    exact ih

/-! ### DecodeEvent on a number and six zeros -/
/-- A byte that ends no number. -/
theorem ev_skip (pre : List UInt8) (c : UInt8) (t : List UInt8) (L : List Int) (at5 : Int) (hL : L.length < 7) (hx : (pre ++ c :: t).length ≤ 1000000) (h1 : L.length < 6 → c ≠ 32) (h2 : L.length = 6 → c ≠ 58) {r : Int × Int × Int × Int × Int × ByteArray × ByteArray × Int}
    (h : Ev (fun k => emendateref52_DecodeEvent.l0 k ⟨(pre ++ c :: t).toArray⟩ L at5 ((pre.length + 1 : Nat) : Int)) r) :
    Ev (fun k => emendateref52_DecodeEvent.l0 k ⟨(pre ++ c :: t).toArray⟩ L at5 (pre.length : Int)) r := by
  have hlen : (pre ++ c :: t).length = pre.length + (t.length + 1) := by simp
  have go : Ev (fun k => emendateref52_DecodeEvent.j2 k ⟨(pre ++ c :: t).toArray⟩ L at5 (pre.length : Int) false) r := by
    refine Ev.step ?_
    simp only [emendateref52_DecodeEvent.j2, Bool.false_eq_true, if_false, w64 ((pre.length : Int) + 1) (by omega) (by omega)]
    exact h
  refine Ev.step ?_
  simp only [emendateref52_DecodeEvent.l0, sz, if_pos (show (pre.length : Int) < ((pre ++ c :: t).length : Int) by omega), show decide ((L.length : Int) < 7) = true from decide_eq_true (by omega)]
  refine Ev.step ?_
  simp only [emendateref52_DecodeEvent.j1, if_true, sz, bt_mid, if_pos (show (0 : Int) ≤ (pre.length : Int) by omega), if_pos (show (pre.length : Int) < ((pre ++ c :: t).length : Int) by omega)]
  by_cases h6 : L.length < 6
  · have hc : ¬ (c.toNat : Int) = 32 := fun h => h1 h6 (UInt8.toNat_inj.1 (by show c.toNat = 32; omega))
    simp only [if_pos (show (L.length : Int) < 6 by omega), if_neg hc, if_neg (show ¬ (L.length : Int) = 6 by omega)]
    exact go
  · have hc : ((c.toNat : Int) == 58) = false := beq_eq_false_iff_ne.2 (fun h => h2 (by omega) (UInt8.toNat_inj.1 (by show c.toNat = 58; omega)))
    simp only [if_neg (show ¬ (L.length : Int) < 6 by omega), if_pos (show (L.length : Int) = 6 by omega), hc]
    exact go

/-- A byte that ends a number. -/
theorem ev_stop (p0 s : List UInt8) (c : UInt8) (t : List UInt8) (L : List Int) (hL : L.length < 7) (hx : (p0 ++ s ++ c :: t).length ≤ 1000000) (hc : (L.length < 6 ∧ c = 32) ∨ (L.length = 6 ∧ c = 58)) {v : Int} {ok : Bool} {r : Int × Int × Int × Int × Int × ByteArray × ByteArray × Int}
    (hn : Ev (fun k => emendateref52_number.f k ⟨s.toArray⟩) (v, ok))
    (h : ok = true → Ev (fun k => emendateref52_DecodeEvent.l0 k ⟨(p0 ++ s ++ c :: t).toArray⟩ (L ++ [v]) (((p0 ++ s).length + 1 : Nat) : Int) (((p0 ++ s).length + 1 : Nat) : Int)) r)
    (h' : ok = false → r = (0, 0, 0, 0, 0, ⟨#[]⟩, ⟨#[]⟩, 7)) :
    Ev (fun k => emendateref52_DecodeEvent.l0 k ⟨(p0 ++ s ++ c :: t).toArray⟩ L (p0.length : Int) ((p0 ++ s).length : Int)) r := by
  have hlen : (p0 ++ s ++ c :: t).length = (p0 ++ s).length + (t.length + 1) := List.length_append
  have hps : (p0 ++ s).length = p0.length + s.length := List.length_append
  have hex : (⟨(p0 ++ s ++ c :: t).toArray⟩ : ByteArray).extract ((p0.length : Int)).toNat (((p0 ++ s).length : Int)).toNat = ⟨s.toArray⟩ := by
    rw [ext, Int.toNat_natCast, Int.toNat_natCast, List.take_left, List.drop_left]
  have go : Ev (fun k => emendateref52_DecodeEvent.j2 k ⟨(p0 ++ s ++ c :: t).toArray⟩ L (p0.length : Int) ((p0 ++ s).length : Int) true) r := by
    refine Ev.step ?_
    simp only [emendateref52_DecodeEvent.j2, if_true, sz, hex, if_pos (show (0 : Int) ≤ (p0.length : Int) by omega), if_pos (show (p0.length : Int) ≤ ((p0 ++ s).length : Int) by omega), if_pos (show ((p0 ++ s).length : Int) ≤ ((p0 ++ s ++ c :: t).length : Int) by omega), w64 (((p0 ++ s).length : Int) + 1) (by omega) (by omega)]
    refine Ev.bind hn ?_
    cases ok with
    | true =>
      simp only [if_true, if_pos (show L.length < 17592186044416 by omega)]
      exact h rfl
    | false =>
      rw [h' rfl]
      exact Ev.const rfl
  refine Ev.step ?_
  simp only [emendateref52_DecodeEvent.l0, sz, if_pos (show ((p0 ++ s).length : Int) < ((p0 ++ s ++ c :: t).length : Int) by omega), show decide ((L.length : Int) < 7) = true from decide_eq_true (by omega)]
  refine Ev.step ?_
  simp only [emendateref52_DecodeEvent.j1, if_true, sz, bt_mid, if_pos (show (0 : Int) ≤ ((p0 ++ s).length : Int) by omega), if_pos (show ((p0 ++ s).length : Int) < ((p0 ++ s ++ c :: t).length : Int) by omega)]
  rcases hc with ⟨h6, rfl⟩ | ⟨h6, rfl⟩
  · simp only [if_pos (show (L.length : Int) < 6 by omega), if_pos (show ((32 : UInt8).toNat : Int) = 32 from rfl)]
    exact go
  · simp only [if_neg (show ¬ (L.length : Int) < 6 by omega), if_pos (show (L.length : Int) = 6 by omega)]
    exact go

theorem number_zero : Ev (fun k => emendateref52_number.f k ⟨([48] : List UInt8).toArray⟩) (0, true) := by
  have := number_yes 0 (by decide) (by decide)
  have e : Lib.itoa 0 = [48] := by decide +kernel
  rwa [e] at this
theorem ev_zero (p0 : List UInt8) (c : UInt8) (t : List UInt8) (L : List Int) (hL : L.length < 7) (hx : (p0 ++ [48] ++ c :: t).length ≤ 1000000) (hc : (L.length < 6 ∧ c = 32) ∨ (L.length = 6 ∧ c = 58)) {r : Int × Int × Int × Int × Int × ByteArray × ByteArray × Int}
    (h : Ev (fun k => emendateref52_DecodeEvent.l0 k ⟨(p0 ++ [48] ++ c :: t).toArray⟩ (L ++ [0]) ((p0.length + 2 : Nat) : Int) ((p0.length + 2 : Nat) : Int)) r) :
    Ev (fun k => emendateref52_DecodeEvent.l0 k ⟨(p0 ++ [48] ++ c :: t).toArray⟩ L (p0.length : Int) (p0.length : Int)) r := by
  have e : p0 ++ [48] ++ c :: t = p0 ++ 48 :: (c :: t) := by simp
  have h1 := ev_stop p0 [48] c t L hL hx hc number_zero (r := r) (fun _ => by
    have e2 : (p0 ++ [48]).length + 1 = p0.length + 2 := by simp
    rw [e2]
    exact h) (fun h => by cases h)
  have e3 : (p0 ++ [48]).length = p0.length + 1 := by simp
  rw [e3, e] at h1
  rw [e]
  exact ev_skip p0 48 (c :: t) L (p0.length : Int) hL (by rw [← e]; exact hx) (fun _ => by decide) (fun _ => by decide) h1

theorem ev_end (x : List UInt8) (hx : x.length ≤ 1000000) (v : Int) : Ev (fun k => emendateref52_DecodeEvent.l0 k ⟨x.toArray⟩ [v, 0, 0, 0, 0, 0, 0] (x.length : Int) (x.length : Int)) (v, 0, 0, 0, 0, ⟨#[]⟩, ⟨#[]⟩, 0) := by
  refine Ev.step ?_
  simp only [emendateref52_DecodeEvent.l0, sz, Int.lt_irrefl, if_false]
  refine Ev.step ?_
  have r0 : rd [v, 0, 0, 0, 0, 0, 0] 0 = v := rfl
  have r1 : rd [v, 0, 0, 0, 0, 0, 0] 1 = 0 := rfl
  have r2 : rd [v, 0, 0, 0, 0, 0, 0] 2 = 0 := rfl
  have r3 : rd [v, 0, 0, 0, 0, 0, 0] 3 = 0 := rfl
  have r4 : rd [v, 0, 0, 0, 0, 0, 0] 4 = 0 := rfl
  have r5 : rd [v, 0, 0, 0, 0, 0, 0] 5 = 0 := rfl
  have r6 : rd [v, 0, 0, 0, 0, 0, 0] 6 = 0 := rfl
  have hl : (([v, 0, 0, 0, 0, 0, 0] : List Int).length : Int) = 7 := rfl
  simp only [emendateref52_DecodeEvent.j1, Bool.false_eq_true, if_false, hl, sz, r0, r1, r2, r3, r4, r5, r6, Int.sub_self, Int.add_zero, w64 0 (by decide) (by decide), w64 (x.length : Int) (by omega) (by omega)]
  refine Ev.const ?_
  have he : (⟨x.toArray⟩ : ByteArray).extract ((x.length : Int)).toNat ((x.length : Int)).toNat = ⟨#[]⟩ := by
    rw [ext, Int.toNat_natCast, List.take_length, List.drop_length]
  have he2 : (⟨x.toArray⟩ : ByteArray).extract ((x.length : Int)).toNat x.length = ⟨#[]⟩ := by
    rw [ext, Int.toNat_natCast, List.take_length, List.drop_length]
  rw [he, he2]
  simp

theorem ev_scan (t : List UInt8) {r : Int × Int × Int × Int × Int × ByteArray × ByteArray × Int} : ∀ (m pre : List UInt8), (32 : UInt8) ∉ m → (pre ++ (m ++ t)).length ≤ 1000000 →
    Ev (fun k => emendateref52_DecodeEvent.l0 k ⟨(pre ++ (m ++ t)).toArray⟩ [] 0 ((pre.length + m.length : Nat) : Int)) r → Ev (fun k => emendateref52_DecodeEvent.l0 k ⟨(pre ++ (m ++ t)).toArray⟩ [] 0 (pre.length : Int)) r
  | [], pre, _, _, h => h
  | c :: m, pre, hm, hx, h => by
    rw [List.cons_append] at hx h ⊢
    refine ev_skip pre c (m ++ t) [] 0 (by simp) hx (fun _ e => hm (by rw [← e]; exact List.mem_cons_self ..)) (fun h => by simp at h) ?_
    have e : pre ++ c :: (m ++ t) = (pre ++ [c]) ++ (m ++ t) := by simp
    rw [e] at hx h ⊢
    have ih := ev_scan t m (pre ++ [c]) (fun h => hm (List.mem_cons_of_mem _ h)) hx (by
      have e2 : (pre ++ [c]).length + m.length = pre.length + (c :: m).length := by simp; omega
      rw [e2]
      exact h)
    simp only [List.length_append, List.length_cons, List.length_nil] at ih
    exact ih

theorem event_num (s : List UInt8) (hs : s.length ≤ 1000) (hb : (32 : UInt8) ∉ s) {v : Int} {ok : Bool} (hn : Ev (fun k => emendateref52_number.f k ⟨s.toArray⟩) (v, ok)) :
    Ev (fun k => emendateref52_DecodeEvent.f k ⟨(s ++ zeros).toArray⟩) (if ok then (v, 0, 0, 0, 0, ⟨#[]⟩, ⟨#[]⟩, 0) else (0, 0, 0, 0, 0, ⟨#[]⟩, ⟨#[]⟩, 7)) := by
  unfold emendateref52_DecodeEvent.f
  have hz : zeros.length = 13 := rfl
  refine ev_scan zeros s [] hb (by simp only [List.nil_append, List.length_append]; omega) ?_
  have h1 := ev_stop [] s 32 [48, 32, 48, 32, 48, 32, 48, 32, 48, 32, 48, 58] [] (by simp) (by simp; omega) (.inl ⟨by simp, rfl⟩) hn (r := if ok then (v, 0, 0, 0, 0, ⟨#[]⟩, ⟨#[]⟩, 0) else (0, 0, 0, 0, 0, ⟨#[]⟩, ⟨#[]⟩, 7)) (fun h => by
    rw [if_pos h]
    have z1 := ev_zero (s ++ [32]) 32 [48, 32, 48, 32, 48, 32, 48, 32, 48, 58] [v] (by simp) (by simp; omega) (.inl ⟨by simp, rfl⟩) (r := (v, 0, 0, 0, 0, ⟨#[]⟩, ⟨#[]⟩, 0))
    have z2 := ev_zero (s ++ [32] ++ [48] ++ [32]) 32 [48, 32, 48, 32, 48, 32, 48, 58] [v, 0] (by simp) (by simp; omega) (.inl ⟨by simp, rfl⟩) (r := (v, 0, 0, 0, 0, ⟨#[]⟩, ⟨#[]⟩, 0))
    have z3 := ev_zero (s ++ [32] ++ [48] ++ [32] ++ [48] ++ [32]) 32 [48, 32, 48, 32, 48, 58] [v, 0, 0] (by simp) (by simp; omega) (.inl ⟨by simp, rfl⟩) (r := (v, 0, 0, 0, 0, ⟨#[]⟩, ⟨#[]⟩, 0))
    have z4 := ev_zero (s ++ [32] ++ [48] ++ [32] ++ [48] ++ [32] ++ [48] ++ [32]) 32 [48, 32, 48, 58] [v, 0, 0, 0] (by simp) (by simp; omega) (.inl ⟨by simp, rfl⟩) (r := (v, 0, 0, 0, 0, ⟨#[]⟩, ⟨#[]⟩, 0))
    have z5 := ev_zero (s ++ [32] ++ [48] ++ [32] ++ [48] ++ [32] ++ [48] ++ [32] ++ [48] ++ [32]) 32 [48, 58] [v, 0, 0, 0, 0] (by simp) (by simp; omega) (.inl ⟨by simp, rfl⟩) (r := (v, 0, 0, 0, 0, ⟨#[]⟩, ⟨#[]⟩, 0))
    have z6 := ev_zero (s ++ [32] ++ [48] ++ [32] ++ [48] ++ [32] ++ [48] ++ [32] ++ [48] ++ [32] ++ [48] ++ [32]) 58 [] [v, 0, 0, 0, 0, 0] (by simp) (by simp; omega) (.inr ⟨by simp, rfl⟩) (r := (v, 0, 0, 0, 0, ⟨#[]⟩, ⟨#[]⟩, 0))
    have ze := ev_end (s ++ zeros) (by simp only [List.length_append]; omega) v
    simp only [zeros, List.append_assoc, List.length_append, List.length_cons, List.length_nil, List.cons_append, List.nil_append, Nat.add_assoc, Nat.reduceAdd] at z1 z2 z3 z4 z5 z6 ze ⊢
    exact z1 (z2 (z3 (z4 (z5 (z6 ze)))))) (fun h => by rw [if_neg (by rw [h]; simp)])
  simp only [List.nil_append, List.length_nil, Nat.zero_add] at h1 ⊢
  exact h1

/-! ### Integer -/
theorem int_loop (q : Int × Bool) : ∀ (m pre : List UInt8), (32 : UInt8) ∉ m → (pre ++ m).length ≤ 1000 → Ev (fun k => emendateref55_Integer.l0 k ⟨(pre ++ m).toArray⟩ ((pre ++ m).length : Int)) q → Ev (fun k => emendateref55_Integer.l0 k ⟨(pre ++ m).toArray⟩ (pre.length : Int)) q
  | [], pre, _, _, h => by
    rw [List.append_nil] at h ⊢
    exact h
  | c :: m, pre, hm, hx, h => by
    have hlen : (pre ++ c :: m).length = pre.length + (m.length + 1) := by simp
    refine Ev.step ?_
    have hc : ¬ (c.toNat : Int) = 32 := fun h => hm (by rw [UInt8.toNat_inj.1 (show c.toNat = (32 : UInt8).toNat by show c.toNat = 32; omega)]; exact List.mem_cons_self ..)
    simp only [emendateref55_Integer.l0, sz, bt_mid, if_neg hc, if_pos (show (pre.length : Int) < ((pre ++ c :: m).length : Int) by omega), if_pos (show (0 : Int) ≤ (pre.length : Int) by omega), w64 ((pre.length : Int) + 1) (by omega) (by omega)]
    have e : pre ++ c :: m = (pre ++ [c]) ++ m := by simp
    rw [e] at hx h ⊢
    have ih := int_loop q m (pre ++ [c]) (fun h => hm (List.mem_cons_of_mem _ h)) hx h
    simp only [List.length_append, List.length_cons, List.length_nil] at ih
    exact ih
theorem integer55 (s : List UInt8) (hs : s.length ≤ 1000) (hb : (32 : UInt8) ∉ s) {v : Int} {ok : Bool} (hn : Ev (fun k => emendateref52_number.f k ⟨s.toArray⟩) (v, ok)) :
    Ev (fun k => emendateref55_Integer.f k ⟨s.toArray⟩) (if ok then v else 0, ok) := by
  unfold emendateref55_Integer.f
  refine int_loop _ s [] hb hs ?_
  refine Ev.step ?_
  have hz : (⟨s.toArray⟩ : ByteArray) ++ (⟨#[32, 48, 32, 48, 32, 48, 32, 48, 32, 48, 32, 48, 58]⟩ : ByteArray) = ⟨(s ++ zeros).toArray⟩ := app s zeros
  simp only [emendateref55_Integer.l0, List.nil_append, sz, Int.lt_irrefl, if_false, if_pos (show s.length + 13 ≤ 9223372036854775807 by omega), hz]
  refine Ev.bind (event_num s hs hb hn) ?_
  cases ok <;> exact Ev.const rfl

/-- The reference's reader of numbers and the program's. -/
theorem integer_decL (s : List UInt8) (hs : s.length ≤ 1000) (hb : (32 : UInt8) ∉ s) : ∃ iv : Int, Ev (fun k => emendateref55_Integer.f k ⟨s.toArray⟩) (iv, (decL s).2) ∧ ((decL s).2 = true → iv = (decL s).1) := by
  cases hd : (decL s).2 with
  | true =>
    obtain ⟨e, v0, v1⟩ := decL_true (l := s) (v := (decL s).1) (by rw [← hd])
    have hn := number_yes (decL s).1 v0 v1
    rw [← e] at hn
    exact ⟨(decL s).1, integer55 s hs hb hn, fun _ => rfl⟩
  | false =>
    obtain ⟨w, hw⟩ := number_no s hs (fun v v0 v1 e => by
      rw [e, decL_itoa v v0 v1] at hd
      cases hd)
    exact ⟨0, integer55 s hs hb hw, fun h => by cases h⟩

theorem integer_blank : ∀ (a pre t : List UInt8), (32 : UInt8) ∉ a → (pre ++ (a ++ 32 :: t)).length ≤ 1000 → Ev (fun k => emendateref55_Integer.l0 k ⟨(pre ++ (a ++ 32 :: t)).toArray⟩ (pre.length : Int)) (0, false)
  | [], pre, t, _, hx => by
    rw [List.nil_append] at hx ⊢
    have hlen : (pre ++ 32 :: t).length = pre.length + (t.length + 1) := by simp
    refine Ev.step ?_
    simp only [emendateref55_Integer.l0, sz, bt_mid, if_pos (show ((32 : UInt8).toNat : Int) = 32 from rfl), if_pos (show (pre.length : Int) < ((pre ++ 32 :: t).length : Int) by omega), if_pos (show (0 : Int) ≤ (pre.length : Int) by omega)]
    exact Ev.const rfl
  | c :: a, pre, t, hm, hx => by
    rw [List.cons_append] at hx ⊢
    have hlen : (pre ++ c :: (a ++ 32 :: t)).length = pre.length + ((a ++ 32 :: t).length + 1) := by simp
    refine Ev.step ?_
    have hc : ¬ (c.toNat : Int) = 32 := fun h => hm (by rw [UInt8.toNat_inj.1 (show c.toNat = (32 : UInt8).toNat by show c.toNat = 32; omega)]; exact List.mem_cons_self ..)
    simp only [emendateref55_Integer.l0, sz, bt_mid, if_neg hc, if_pos (show (pre.length : Int) < ((pre ++ c :: (a ++ 32 :: t)).length : Int) by omega), if_pos (show (0 : Int) ≤ (pre.length : Int) by omega), w64 ((pre.length : Int) + 1) (by omega) (by omega)]
    have e : pre ++ c :: (a ++ 32 :: t) = (pre ++ [c]) ++ (a ++ 32 :: t) := by simp
    rw [e] at hx ⊢
    have ih := integer_blank a (pre ++ [c]) t (fun h => hm (List.mem_cons_of_mem _ h)) hx
    simp only [List.length_append, List.length_cons, List.length_nil] at ih
    exact ih
theorem integer_any (s : List UInt8) (hs : s.length ≤ 1000) : ∃ iv : Int, Ev (fun k => emendateref55_Integer.f k ⟨s.toArray⟩) (iv, (decL s).2) ∧ ((decL s).2 = true → iv = (decL s).1) := by
  by_cases hb : (32 : UInt8) ∈ s
  · have hf : (decL s).2 = false := by
      rw [Bool.eq_false_iff]
      intro h
      obtain ⟨e, _, _⟩ := decL_true (l := s) (v := (decL s).1) (by rw [← h])
      rw [e] at hb
      exact not_mem_itoa 32 _ (by decide) (by decide) hb
    rw [hf]
    refine ⟨0, ?_, fun h => by cases h⟩
    cases hc : (cutB 32 s).2.2 with
    | false => exact absurd hb (cutB_false hc).2
    | true =>
      obtain ⟨e, hn⟩ := cutB_true (c := 32) (x := s) (a := (cutB 32 s).1) (b := (cutB 32 s).2.1) (by rw [← hc])
      have := integer_blank (cutB 32 s).1 [] (cutB 32 s).2.1 hn (by rw [List.nil_append, ← e]; exact hs)
      rw [List.nil_append, ← e] at this
      exact this
  · exact integer_decL s hs hb

end Go.Proofs.YtanpkbglfhdjfaaGreatDoor.Plain

set_option linter.unusedVariables false
set_option linter.unusedSimpArgs false
namespace Go.Proofs.YtanpkbglfhdjfaaGreatDoor.Plain
open Go.RowKit Go.Proofs.YtanpkbglfhdjfaaGreatDoor Go.Proofs.YtanpkbglfhdjfaaGreatDoor.QP Go.Proofs.YtanpkbglfhdjfaaGreatDoor.QE Go.Proofs.YtanpkbglfhdjfaaGreatDoor.QR Go.Proofs.YtanpkbglfhdjfaaGreatDoor.QX
open Go.Proofs.YtanpkbglfhdjfaaGreatDoorW.PrintWords (rdOf bt rd)

def noArgs : Int × ByteArray × List ByteArray × Bool := (0, B [], [], false)
def argsOut (id : Int) (m : ByteArray) : Option (List (List UInt8)) → Int × ByteArray × List ByteArray × Bool
  | some l => (id, m, l.map B, true)
  | none => noArgs

theorem numL_miss {c : UInt8} {y : List UInt8} (h : (cutB c y).2.2 = false) : (numL c y).2.2 = false := by
  unfold numL
  rw [h]
  rfl
theorem numL_at (c : UInt8) (s w : List UInt8) (h : c ∉ s) : numL c (s ++ c :: w) = ((decL s).1, w, (decL s).2) := by
  unfold numL
  rw [cutB_at c s w h]
  simp only [Bool.true_and]

theorem split_at (w : List UInt8) (n : Nat) (h : n < w.length) : w = w.take n ++ w.getD n 0 :: w.drop (n + 1) := by
  have e : w.getD n 0 = w[n] := by
    rw [List.getD_eq_getElem?_getD, List.getElem?_eq_getElem h]
    rfl
  rw [e]
  conv => lhs; rw [← List.take_append_drop n w]
  rw [List.drop_eq_getElem_cons h]

theorem ar1 (a b c L : Nat) (hL : L = a + (b + (c + 1))) (hx : L ≤ 1000) : wrap64 (wrap64 ((L : Int) - ((a + b : Nat) : Int)) - 1) = (c : Int) := by
  rw [w64 ((L : Int) - ((a + b : Nat) : Int)) (by omega) (by omega), w64 _ (by omega) (by omega)]
  omega
theorem ar2 (a b q : Nat) (hx : a + b + q ≤ 1000) : wrap64 (((a + b : Nat) : Int) + 1) = ((a + b + 1 : Nat) : Int) ∧ wrap64 (((a + b + 1 : Nat) : Int) + (q : Int)) = ((a + b + 1 + q : Nat) : Int) ∧ wrap64 (wrap64 (((a + b : Nat) : Int) + 2) + (q : Int)) = ((a + b + 1 + q + 1 : Nat) : Int) := by
  refine ⟨?_, ?_, ?_⟩
  · rw [w64 _ (by omega) (by omega)]
    omega
  · rw [w64 _ (by omega) (by omega)]
    omega
  · rw [w64 (((a + b : Nat) : Int) + 2) (by omega) (by omega), w64 _ (by omega) (by omega)]
    omega
theorem ar3 (a b c q L : Nat) (hL : L = a + (b + (c + 1))) (hq : q < c) : (0 : Int) ≤ ((a + b + 1 + q : Nat) : Int) ∧ (0 : Int) ≤ ((a + b + 1 : Nat) : Int) ∧ ((a + b + 1 + q : Nat) : Int) < (L : Int) ∧ ((a + b + 1 + q : Nat) : Int) ≤ (L : Int) ∧ ((a + b + 1 : Nat) : Int) ≤ ((a + b + 1 + q : Nat) : Int) := by
  refine ⟨?_, ?_, ?_, ?_, ?_⟩ <;> omega
theorem pargs_eq (id : Int) (m : ByteArray) (n : Nat) : ∀ (y pre : List UInt8) (acc : List (List UInt8)), y.length < n → (pre ++ y).length ≤ 1000 → acc.length ≤ 10 →
    Ev (fun k => emendateref55_parse.l0 k ⟨(pre ++ y).toArray⟩ (acc.map B) (pre.length : Int) id m) (argsOut id m (argsD n y acc)) := by
  induction n with
  | zero => intro y pre acc h; exact absurd h (Nat.not_lt_zero _)
  | succ n ih =>
    intro y pre acc hn hx ha
    refine Ev.step ?_
    have hl : (pre ++ y).length = pre.length + y.length := List.length_append
    by_cases h0 : y = []
    · subst h0
      simp only [emendateref55_parse.l0, argsD, if_true, List.append_nil, sz, Int.lt_irrefl, if_false]
      exact Ev.const rfl
    · have hpos : 0 < y.length := List.length_pos_iff.2 h0
      simp only [emendateref55_parse.l0, emendateref55_find.f, argsD, if_neg h0, sz, if_pos (show (pre.length : Int) < ((pre ++ y).length : Int) by omega)]
      cases hc : (cutB 58 y).2.2 with
      | false =>
        have hm := find_miss 58 y pre (cutB_false hc).2 (by omega)
        refine Ev.bind hm ?_
        simp only [if_pos (show (-1 : Int) < 0 by decide), numL_miss hc, Bool.false_eq_true, false_and, if_false]
        refine Ev.step ?_
        simp only [emendateref55_parse.j2, if_true]
        exact Ev.const rfl
      | true =>
        obtain ⟨e, hns⟩ := cutB_true (c := 58) (x := y) (a := (cutB 58 y).1) (b := (cutB 58 y).2.1) (by rw [← hc])
        generalize (cutB 58 y).1 = s at e hns
        generalize (cutB 58 y).2.1 = w at e
        subst e
        have hh := find_hit 58 w s pre hns (by omega)
        have hsw : (s ++ 58 :: w).length = s.length + (w.length + 1) := by simp
        refine Ev.bind hh ?_
        simp only [if_neg (show ¬ ((pre.length + s.length : Nat) : Int) < 0 by omega), numL_at 58 s w hns, List.length_map]
        by_cases h4 : acc.length = 10
        · rw [if_neg (fun h => h.2.2.2.2 h4)]
          refine Ev.step ?_
          have hb : ((acc.length : Int) == 10) = true := by rw [h4]; rfl
          simp only [emendateref55_parse.j2, hb, if_true]
          exact Ev.const rfl
        · have hb : ((acc.length : Int) == 10) = false := beq_eq_false_iff_ne.2 (by omega)
          rw [hb]
          refine Ev.step ?_
          have hex : (⟨(pre ++ (s ++ 58 :: w)).toArray⟩ : ByteArray).extract ((pre.length : Int)).toNat (((pre.length + s.length : Nat) : Int)).toNat = ⟨s.toArray⟩ := by
            have e2 : pre ++ (s ++ 58 :: w) = (pre ++ s) ++ 58 :: w := by simp
            rw [ext, Int.toNat_natCast, Int.toNat_natCast, e2, ← List.length_append, List.take_left, List.drop_left]
          simp only [emendateref55_parse.j2, Bool.false_eq_true, if_false, sz, hex, if_pos (show (0 : Int) ≤ (pre.length : Int) by omega), if_pos (show (pre.length : Int) ≤ ((pre.length + s.length : Nat) : Int) by omega), if_pos (show ((pre.length + s.length : Nat) : Int) ≤ ((pre ++ (s ++ 58 :: w)).length : Int) by omega)]
          obtain ⟨iv, hiv, hv⟩ := integer_any s (by omega)
          refine Ev.bind hiv ?_
          generalize decL s = d at hv ⊢
          obtain ⟨v, ok⟩ := d
          simp only at hv ⊢
          cases ok with
          | false =>
            simp only [Bool.false_eq_true, if_false, false_and]
            exact Ev.const rfl
          | true =>
            have hv := hv rfl
            subst hv
            have hwl := ar1 pre.length s.length w.length _ (hl.trans (congrArg (pre.length + ·) hsw)) hx
            simp only [if_true, true_and, hwl]
            clear hwl
            by_cases h1 : iv < 0
            · rw [if_neg (show ¬ (0 ≤ iv ∧ iv < (w.length : Int) ∧ w.getD iv.toNat 0 = 10 ∧ acc.length ≠ 10) from fun h => by omega)]
              simp only [if_pos h1]
              exact Ev.const rfl
            · simp only [if_neg h1]
              by_cases h2 : iv ≥ (w.length : Int)
              · rw [if_neg (show ¬ (0 ≤ iv ∧ iv < (w.length : Int) ∧ w.getD iv.toNat 0 = 10 ∧ acc.length ≠ 10) from fun h => by omega)]
                simp only [if_pos h2]
                exact Ev.const rfl
              · simp only [if_neg h2]
                obtain ⟨q, rfl⟩ := Int.eq_ofNat_of_zero_le (show 0 ≤ iv by omega)
                have hq : q < w.length := by omega
                rw [Int.toNat_natCast]
                have hsum : pre.length + s.length + q ≤ 1000 := by
                  rw [hl, hsw] at hx
                  clear hex hiv hh ih hb
                  omega
                obtain ⟨k1, k2, k3, k4, k5⟩ := ar3 pre.length s.length w.length q _ (hl.trans (congrArg (pre.length + ·) hsw)) hq
                have hsp := split_at w q hq
                have htl : (w.take q).length = q := by rw [List.length_take]; omega
                have hbt : bt (⟨(pre ++ (s ++ 58 :: w)).toArray⟩ : ByteArray) ((pre.length + s.length + 1 + q : Nat) : Int) = ((w.getD q 0).toNat : Int) := by
                  have e3 : pre ++ (s ++ 58 :: w) = (pre ++ (s ++ 58 :: w.take q)) ++ w.getD q 0 :: w.drop (q + 1) := by
                    conv => lhs; rw [hsp]
                    simp
                  have e4 : (pre ++ (s ++ 58 :: w.take q)).length = pre.length + s.length + 1 + q := by
                    simp only [List.length_append, List.length_cons, htl]
                    omega
                  rw [e3, ← e4]
                  exact bt_mid _ _ _
                have hacc : acc.length < 8796093022208 := by omega
                obtain ⟨hpos1, hpos2, hpos3⟩ := ar2 pre.length s.length q hsum
                simp only [hpos1, hpos2, hpos3, hbt, if_pos k1, if_pos k2, if_pos k3, if_pos k4, if_pos k5, List.length_map, if_pos hacc]
                clear hpos1 hpos2 hpos3
                by_cases h3 : w.getD q 0 = 10
                · have h3' : ((w.getD q 0).toNat : Int) = 10 := by rw [h3]; rfl
                  rw [if_pos (show 0 ≤ (q : Int) ∧ (q : Int) < (w.length : Int) ∧ w.getD q 0 = 10 ∧ acc.length ≠ 10 from ⟨by omega, by omega, h3, h4⟩)]
                  simp only [if_pos h3']
                  have e5 : pre ++ (s ++ 58 :: w) = (pre ++ (s ++ 58 :: (w.take q ++ [10]))) ++ w.drop (q + 1) := by
                    conv => lhs; rw [hsp, h3]
                    simp
                  have e6 : (pre ++ (s ++ 58 :: (w.take q ++ [10]))).length = pre.length + s.length + 1 + q + 1 := by
                    simp only [List.length_append, List.length_cons, htl, List.length_nil]
                    omega
                  have hex2 : (⟨(pre ++ (s ++ 58 :: w)).toArray⟩ : ByteArray).extract (((pre.length + s.length + 1 : Nat) : Int)).toNat (((pre.length + s.length + 1 + q : Nat) : Int)).toNat = B (w.take q) := by
                    have e7 : pre ++ (s ++ 58 :: w) = (pre ++ (s ++ [58])) ++ w := by simp
                    have e8 : (pre ++ (s ++ [58])).length = pre.length + s.length + 1 := by simp; omega
                    rw [ext, Int.toNat_natCast, Int.toNat_natCast, e7, ← e8, List.take_length_add_append, List.drop_left]
                  have := ih (w.drop (q + 1)) (pre ++ (s ++ 58 :: (w.take q ++ [10]))) (acc ++ [w.take q]) (by rw [List.length_drop]; omega) (by rw [← e5]; exact hx) (by rw [List.length_append]; simp; omega)
                  rw [← e5, e6] at this
                  simp only [hex2]
                  rw [List.map_append] at this
                  exact this
                · have h3' : ¬ ((w.getD q 0).toNat : Int) = 10 := fun h => h3 (UInt8.toNat_inj.1 (by show (w.getD q 0).toNat = 10; omega))
                  rw [if_neg (show ¬ (0 ≤ (q : Int) ∧ (q : Int) < (w.length : Int) ∧ w.getD q 0 = 10 ∧ acc.length ≠ 10) from fun h => h3 h.2.2.1)]
                  simp only [if_neg h3']
                  exact Ev.const rfl

theorem rmethod_loop (x : List UInt8) (hx : x.length ≤ 140737488355328) : ∀ (t pre : List UInt8), x = pre ++ t → pre.all small = true → Ev (fun k => emendateref55_method.l0 k ⟨x.toArray⟩ (pre.length : Int)) (validL x)
  | [], pre, e, hp => by
    subst e
    rw [List.append_nil] at hx ⊢
    refine Ev.step ?_
    simp only [emendateref55_method.l0, sz, Int.lt_irrefl, if_false]
    unfold validL
    rw [hp, Bool.and_true]
    by_cases h1 : 1 ≤ pre.length
    · simp only [if_pos (show (pre.length : Int) ≥ 1 by omega), h1, decide_true, Bool.true_and]
      refine Ev.const ?_
      simp only [Option.some.injEq, decide_eq_decide]
      omega
    · simp only [if_neg (show ¬ (pre.length : Int) ≥ 1 by omega), h1, decide_false, Bool.false_and]
      exact Ev.const rfl
  | c :: t, pre, e, hp => by
    subst e
    have hlen : (pre ++ c :: t).length = pre.length + (t.length + 1) := by simp
    refine Ev.step ?_
    simp only [emendateref55_method.l0, sz, bt_mid, if_pos (show (pre.length : Int) < ((pre ++ c :: t).length : Int) by omega), if_pos (show (0 : Int) ≤ (pre.length : Int) by omega), w64 ((pre.length : Int) + 1) (by omega) (by omega)]
    by_cases hc : small c = true
    · have hc' := hc
      unfold small at hc'
      simp only [Bool.and_eq_true, decide_eq_true_eq] at hc'
      simp only [if_neg (show ¬ (c.toNat : Int) < 97 by omega), if_neg (show ¬ (c.toNat : Int) > 122 by omega)]
      have ih := rmethod_loop (pre ++ c :: t) hx t (pre ++ [c]) (by simp) (by rw [List.all_append, hp, List.all_cons, hc]; rfl)
      simp only [List.length_append, List.length_cons, List.length_nil] at ih
      exact ih
    · have hf : validL (pre ++ c :: t) = false := by
        unfold validL
        rw [Bool.eq_false_iff]
        intro h
        simp only [Bool.and_eq_true] at h
        have := List.all_eq_true.1 h.2.2 c (by simp)
        exact hc this
      rw [hf]
      have hc' : ¬ (97 ≤ c.toNat ∧ c.toNat ≤ 122) := by
        intro h
        exact hc (by unfold small; simp [h.1, h.2])
      by_cases h1 : (c.toNat : Int) < 97
      · simp only [if_pos h1]
        exact Ev.const rfl
      · simp only [if_neg h1, if_pos (show (c.toNat : Int) > 122 by omega)]
        exact Ev.const rfl
theorem rmethod_eq (l : List UInt8) (hl : l.length ≤ 1000) : Ev (fun k => emendateref55_method.f k ⟨l.toArray⟩) (validL l) := by
  have := rmethod_loop l (by omega) l [] rfl rfl
  unfold emendateref55_method.f
  exact this

theorem parse_eq (x : List UInt8) (hx : x.length ≤ 1000) : Ev (fun k => emendateref55_parse.f k ⟨x.toArray⟩) (msgOut (messageL x)) := by
  unfold emendateref55_parse.f emendateref55_find.f messageL
  cases hc : (cutB 32 x).2.2 with
  | false =>
    have hm := find_miss 32 x [] (cutB_false hc).2 (by simp; omega)
    rw [numL_miss hc]
    refine Ev.bind hm ?_
    simp only [if_pos (show (-1 : Int) < 0 by decide), Bool.false_eq_true, if_false]
    exact Ev.const rfl
  | true =>
    obtain ⟨e, hna⟩ := cutB_true (c := 32) (x := x) (a := (cutB 32 x).1) (b := (cutB 32 x).2.1) (by rw [← hc])
    generalize (cutB 32 x).1 = a at e hna
    generalize (cutB 32 x).2.1 = y at e
    subst e
    have hlen : (a ++ 32 :: y).length = a.length + (y.length + 1) := by simp
    have hh := find_hit 32 y a [] hna (by simp; omega)
    simp only [List.nil_append, List.length_nil, Nat.zero_add] at hh
    refine Ev.bind hh ?_
    have hex : (⟨(a ++ 32 :: y).toArray⟩ : ByteArray).extract 0 ((a.length : Int)).toNat = ⟨a.toArray⟩ := by
      rw [ext, Int.toNat_natCast, List.take_left, List.drop_zero]
    simp only [sz, hex, if_neg (show ¬ (a.length : Int) < 0 by omega), if_pos (show (0 : Int) ≤ (a.length : Int) by omega), if_pos (show (a.length : Int) ≤ ((a ++ 32 :: y).length : Int) by omega), numL_at 32 a y hna]
    obtain ⟨iv, hiv, hv⟩ := integer_any a (by omega)
    refine Ev.bind hiv ?_
    generalize decL a = d at hv ⊢
    obtain ⟨v, ok⟩ := d
    simp only at hv ⊢
    have w1 : wrap64 ((a.length : Int) + 1) = ((a.length + 1 : Nat) : Int) := by
      rw [w64 _ (by omega) (by omega)]
      omega
    cases hc2 : (cutB 10 y).2.2 with
    | false =>
      have hn : (10 : UInt8) ∉ 32 :: y := by
        intro h
        rcases List.mem_cons.1 h with h | h
        · exact absurd h (by decide)
        · exact (cutB_false hc2).2 h
      have hm := find_miss 10 (32 :: y) a hn (by omega)
      refine Ev.bind hm ?_
      simp only [Bool.false_and, Bool.false_eq_true, if_false, if_pos (show (-1 : Int) < 0 by decide), ite_self]
      refine Ev.step ?_
      simp only [emendateref55_parse.j0, if_true]
      exact Ev.const rfl
    | true =>
      obtain ⟨e, hnm⟩ := cutB_true (c := 10) (x := y) (a := (cutB 10 y).1) (b := (cutB 10 y).2.1) (by rw [← hc2])
      generalize (cutB 10 y).1 = m at e hnm ⊢
      generalize (cutB 10 y).2.1 = z at e ⊢
      subst e
      have hlen2 : (m ++ 10 :: z).length = m.length + (z.length + 1) := by simp
      have hn : (10 : UInt8) ∉ 32 :: m := by
        intro h
        rcases List.mem_cons.1 h with h | h
        · exact absurd h (by decide)
        · exact hnm h
      have hm := find_hit 10 z (32 :: m) a hn (by simp only [List.cons_append]; omega)
      simp only [List.cons_append, List.length_cons] at hm
      refine Ev.bind hm ?_
      cases ok with
      | false =>
        simp only [Bool.false_eq_true, if_false]
        refine Ev.step ?_
        simp only [emendateref55_parse.j0, if_true]
        exact Ev.const rfl
      | true =>
        have hv := hv rfl
        subst hv
        have hex2 : (⟨(a ++ 32 :: (m ++ 10 :: z)).toArray⟩ : ByteArray).extract (((a.length + 1 : Nat) : Int)).toNat (((a.length + (m.length + 1) : Nat) : Int)).toNat = ⟨m.toArray⟩ := by
          have e1 : a ++ 32 :: (m ++ 10 :: z) = (a ++ [32]) ++ (m ++ 10 :: z) := by simp
          have e2 : (a ++ [32]).length = a.length + 1 := by simp
          have e3 : a.length + (m.length + 1) = (a ++ [32]).length + m.length := by rw [e2]; omega
          rw [ext, Int.toNat_natCast, Int.toNat_natCast, e3, ← e2, e1, List.take_length_add_append, List.take_left, List.drop_left]
        simp only [if_true, if_neg (show ¬ ((a.length + (m.length + 1) : Nat) : Int) < 0 by omega), w1, sz, if_pos (show (0 : Int) ≤ ((a.length + 1 : Nat) : Int) by omega), if_pos (show ((a.length + 1 : Nat) : Int) ≤ ((a.length + (m.length + 1) : Nat) : Int) by omega), if_pos (show ((a.length + (m.length + 1) : Nat) : Int) ≤ ((a ++ 32 :: (m ++ 10 :: z)).length : Int) by omega), hex2, Bool.true_and]
        refine Ev.bind (rmethod_eq m (by omega)) ?_
        refine Ev.step ?_
        cases hvm : validL m with
        | false =>
          simp only [emendateref55_parse.j0, Bool.not_false, if_true, Bool.false_eq_true, if_false]
          exact Ev.const rfl
        | true =>
          have w2 : wrap64 (((a.length + (m.length + 1) : Nat) : Int) + 1) = ((a.length + (m.length + 1) + 1 : Nat) : Int) := by
            rw [w64 _ (by omega) (by omega)]
            omega
          simp only [emendateref55_parse.j0, Bool.not_true, Bool.false_eq_true, if_false, if_true, w1, w2, sz, if_pos (show (0 : Int) ≤ ((a.length + 1 : Nat) : Int) by omega), if_pos (show ((a.length + 1 : Nat) : Int) ≤ ((a.length + (m.length + 1) : Nat) : Int) by omega), if_pos (show ((a.length + (m.length + 1) : Nat) : Int) ≤ ((a ++ 32 :: (m ++ 10 :: z)).length : Int) by omega), hex2]
          have e1 : a ++ 32 :: (m ++ 10 :: z) = (a ++ 32 :: (m ++ [10])) ++ z := by simp
          have e2 : (a ++ 32 :: (m ++ [10])).length = a.length + (m.length + 1) + 1 := by simp; omega
          have := pargs_eq iv ⟨m.toArray⟩ (z.length + 1) z (a ++ 32 :: (m ++ [10])) [] (by omega) (by rw [← e1]; omega) (by simp)
          rw [← e1, e2] at this
          cases h : argsD (z.length + 1) z [] with
          | none =>
            rw [h] at this
            exact this
          | some l =>
            rw [h] at this
            exact this

theorem rdecode_eq (x : List UInt8) (hx : x.length ≤ 1000) : Ev (fun k => emendateref55_Decode.f k ⟨x.toArray⟩) (decOut (decodeL x)) := by
  unfold emendateref55_Decode.f decodeL
  refine Ev.bind (refH_eq x (by omega)) ?_
  rw [head_agree]
  have hw := @headerL_whole x
  generalize headerL x = hh at *
  obtain ⟨n, rest, ok, more⟩ := hh
  simp only at *
  cases more with
  | true =>
    simp only [sel, if_true, Bool.true_or]
    exact Ev.const rfl
  | false =>
    cases ok with
    | false =>
      simp only [sel, Bool.false_eq_true, if_false, Bool.false_or, Bool.false_and]
      exact Ev.const rfl
    | true =>
      obtain ⟨hx2, hn0, hn1, _⟩ := hw rfl
      obtain ⟨q, rfl⟩ := Int.eq_ofNat_of_zero_le hn0
      have hrl : ∃ pre : List UInt8, x = pre ++ rest ∧ 20 ≤ pre.length := ⟨pre16 ++ (Lib.itoa (q : Int) ++ crlf), by rw [hx2]; simp, by simp [pre16, crlf] <;> omega⟩
      obtain ⟨pre, hpre, hp20⟩ := hrl
      clear hx2 hw
      subst hpre
      have hlen : (pre ++ rest).length = pre.length + rest.length := List.length_append
      have hat : ((pre ++ rest).length : Int) - (rest.length : Int) = (pre.length : Int) := by omega
      simp only [sel, Bool.false_eq_true, if_false, if_true, hat, sz, if_neg (show ¬ (pre.length : Int) = -1 by omega), if_neg (show ¬ (pre.length : Int) = -2 by omega), Bool.false_or, Bool.true_and]
      have w1 : wrap64 (((pre ++ rest).length : Int) - (pre.length : Int)) = (rest.length : Int) := by
        rw [w64 _ (by omega) (by omega)]
        omega
      rw [w1]
      by_cases h1 : (rest.length : Int) < (q : Int)
      · simp only [h1, decide_true, ↓reduceIte]
        exact Ev.const rfl
      · have w2 : wrap64 ((pre.length : Int) + (q : Int)) = ((pre.length + q : Nat) : Int) := by
          rw [w64 _ (by omega) (by omega)]
          omega
        have hex : (⟨(pre ++ rest).toArray⟩ : ByteArray).extract pre.length (pre.length + q) = ⟨(rest.take q).toArray⟩ := by
          rw [ext, List.take_length_add_append, List.drop_left]
        simp only [h1, decide_false, Bool.false_eq_true, if_false, w2, hex, if_pos (show (0 : Int) ≤ (pre.length : Int) by omega), if_pos (show (pre.length : Int) ≤ ((pre.length + q : Nat) : Int) by omega), if_pos (show ((pre.length + q : Nat) : Int) ≤ ((pre ++ rest).length : Int) by omega), Int.toNat_natCast]
        refine Ev.bind (parse_eq (rest.take q) (by rw [List.length_take]; omega)) ?_
        cases messageL (rest.take q) with
        | none => exact Ev.const rfl
        | some r =>
          refine Ev.const ?_
          simp only [msgOut, if_true, decOut, Option.some.injEq, Prod.mk.injEq, true_and, and_true]
          omega
end Go.Proofs.YtanpkbglfhdjfaaGreatDoor.Plain
