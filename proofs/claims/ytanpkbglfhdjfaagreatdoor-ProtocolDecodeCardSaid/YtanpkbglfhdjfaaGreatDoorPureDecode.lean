/- The law ProtocolDecode, as the printed walk computes it, is true at every string that a machine holds. No program in sight. -/
import Derived.Test.YtanpkbglfhdjfaaGreatDoorPlainD
import Derived.Test.YtanpkbglfhdjfaaGreatDoorQLDecodex
set_option linter.unusedVariables false
set_option linter.unusedSimpArgs false
namespace Go.Proofs.YtanpkbglfhdjfaaGreatDoor.PureDecode
open Go.RowKit Go.Proofs.YtanpkbglfhdjfaaGreatDoor Go.Proofs.YtanpkbglfhdjfaaGreatDoor.QP Go.Proofs.YtanpkbglfhdjfaaGreatDoor.QE Go.Proofs.YtanpkbglfhdjfaaGreatDoor.QR Go.Proofs.YtanpkbglfhdjfaaGreatDoor.QX Go.Proofs.YtanpkbglfhdjfaaGreatDoor.QLDecode Go.Proofs.YtanpkbglfhdjfaaGreatDoor.Plain

theorem awake_eq : emendatelaw55_awake.f = some true := rfl

theorem argsD_len : ∀ (n : Nat) (x : List UInt8) (acc l : List (List UInt8)), acc.length ≤ 10 → argsD n x acc = some l → l.length ≤ 10 := by
  intro n
  induction n with
  | zero => intro x acc l _ h; cases h
  | succ n ih =>
    intro x acc l ha h
    unfold argsD at h
    split at h
    · cases h; exact ha
    · split at h
      · rename_i hc
        refine ih _ _ l ?_ h
        have := hc.2.2.2.2
        rw [List.length_append]
        simp only [List.length_cons, List.length_nil]
        omega
      · cases h
theorem messageL_len {x : List UInt8} {r : Int × List UInt8 × List (List UInt8)} (h : messageL x = some r) : r.2.2.length ≤ 10 := by
  unfold messageL at h
  split at h
  · split at h
    · rw [Option.map_eq_some_iff] at h
      obtain ⟨l, hl, rfl⟩ := h
      exact argsD_len _ _ _ _ (by simp) hl
    · cases h
  · cases h
theorem decodeL_len (x : List UInt8) : (decodeL x).2.2.1.length ≤ 10 := by
  unfold decodeL
  split
  · simp
  · split
    · cases hm : messageL ((headerL x).2.1.take (headerL x).1.toNat) with
      | none => simp
      | some r => exact messageL_len hm
    · simp

theorem holds (b : ByteArray) (hb : b.size ≤ reachBytes) : ∃ k, emendatelaw55_ProtocolDecode.f k b = some true := by
  refine Ev.get ?_
  unfold emendatelaw55_ProtocolDecode.f
  by_cases hs : (b.size : Int) > 400
  · simp only [if_pos hs, awake_eq, Option.bind_some]
    exact Ev.const rfl
  · simp only [if_neg hs]
    have hl : b.data.toList.length ≤ 1000 := by rw [data_len]; omega
    have h1 := decode_eq b.data.toList (by omega)
    have h2 := rdecode_eq b.data.toList hl
    rw [back b] at h1 h2
    refine Ev.bind h1 ?_
    refine Ev.bind h2 ?_
    simp only [awake_eq, Option.bind_some, if_true]
    have hn := decodeL_len b.data.toList
    refine Ev.bind (same_refl _ _ _ (by simp only [decOut, List.length_map]; omega)) ?_
    exact Ev.const rfl
end Go.Proofs.YtanpkbglfhdjfaaGreatDoor.PureDecode
