/- The law ProtocolPrefix, as the printed walk computes it, is true at every message and every place to cut. No program in sight. -/
import Derived.Test.YtanpkbglfhdjfaaGreatDoorPlainA
import Derived.Test.YtanpkbglfhdjfaaGreatDoorQLPrefixx
set_option linter.unusedVariables false
set_option linter.unusedSimpArgs false
namespace Go.Proofs.YtanpkbglfhdjfaaGreatDoor.PurePrefix
open Go.RowKit Go.Proofs.YtanpkbglfhdjfaaGreatDoor Go.Proofs.YtanpkbglfhdjfaaGreatDoor.QP Go.Proofs.YtanpkbglfhdjfaaGreatDoor.QLPrefix Go.Proofs.YtanpkbglfhdjfaaGreatDoor.Plain

theorem awake_eq : emendatelaw55_awake.f = some true := rfl

theorem holds (a : Int) (b : ByteArray) (l : List ByteArray) (c : Int) (hw : (Lit.int .i64 a).wf = true) (hb : b.size ≤ reachBytes) (hs : ∀ s ∈ l, s.size ≤ reachBytes) (hc : (Lit.int .u16 c).wf = true) :
    ∃ k, emendatelaw55_ProtocolPrefix.f k a b l c = some true := by
  obtain ⟨h0, h1⟩ := int_in hw
  obtain ⟨c0, c1⟩ := u16_in hc
  refine Ev.get ?_
  unfold emendatelaw55_ProtocolPrefix.f
  refine Ev.bind (short_eq a b l hb hs) ?_
  cases shortB b l with
  | false => exact Ev.const rfl
  | true =>
    simp only [if_true]
    refine Ev.bind (enc_eq a b l h0 h1 hs) ?_
    unfold encL
    by_cases hg : good a b l
    · rw [if_pos hg]
      have hwl := whole_len (bodyL a b l)
      have hil := Lib.itoa_length_le ((bodyL a b l).length : Int) (by omega) (by have := hg.2.2; omega)
      have hbl := hg.2.2
      have hn0 : ¬ ((whole (bodyL a b l)).length : Int) = 0 := by omega
      have hbe : (((whole (bodyL a b l)).length : Int) == 0) = false := beq_eq_false_iff_ne.2 hn0
      simp only [if_true, sz, hbe]
      refine Ev.step ?_
      simp only [emendatelaw55_ProtocolPrefix.j0, Bool.false_eq_true, if_false, sz, if_neg hn0]
      rw [w64 c (by omega) (by omega)]
      have t0 : 0 ≤ Int.tmod c ((whole (bodyL a b l)).length : Int) := Int.tmod_nonneg _ c0
      have t1 : Int.tmod c ((whole (bodyL a b l)).length : Int) < ((whole (bodyL a b l)).length : Int) := Int.tmod_lt_of_pos _ (by omega)
      generalize Int.tmod c ((whole (bodyL a b l)).length : Int) = p at t0 t1 ⊢
      simp only [if_pos t0, if_pos (show p ≤ ((whole (bodyL a b l)).length : Int) by omega), ext, List.drop_zero]
      have hd := decode_eq ((whole (bodyL a b l)).take p.toNat) (by rw [List.length_take]; omega)
      rw [dec_part a b l hg p.toNat (by omega)] at hd
      refine Ev.bind hd ?_
      simp only [awake_eq, Option.bind_some, if_true, decOut]
      refine Ev.bind (same_refl 0 ⟨#[]⟩ [] (by simp)) ?_
      exact Ev.const rfl
    · rw [if_neg hg]
      simp only []
      refine Ev.step ?_
      simp only [emendatelaw55_ProtocolPrefix.j0]
      exact Ev.const rfl
end Go.Proofs.YtanpkbglfhdjfaaGreatDoor.PurePrefix
