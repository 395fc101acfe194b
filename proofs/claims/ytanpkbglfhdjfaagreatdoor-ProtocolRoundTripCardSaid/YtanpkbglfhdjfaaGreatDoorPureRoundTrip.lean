/- The law ProtocolRoundTrip, as the printed walk computes it, is true at every message and every string that a machine holds. No program in sight. -/
import Derived.Test.YtanpkbglfhdjfaaGreatDoorPlainA
import Derived.Test.YtanpkbglfhdjfaaGreatDoorQLRoundTripx
set_option linter.unusedVariables false
set_option linter.unusedSimpArgs false
namespace Go.Proofs.YtanpkbglfhdjfaaGreatDoor.PureRoundTrip
open Go.RowKit Go.Proofs.YtanpkbglfhdjfaaGreatDoor Go.Proofs.YtanpkbglfhdjfaaGreatDoor.QP Go.Proofs.YtanpkbglfhdjfaaGreatDoor.QLRoundTrip Go.Proofs.YtanpkbglfhdjfaaGreatDoor.Plain

theorem awake_eq : emendatelaw55_awake.f = some true := rfl

theorem holds (a : Int) (b : ByteArray) (l : List ByteArray) (m : ByteArray) (hw : (Lit.int .i64 a).wf = true) (hb : b.size ≤ reachBytes) (hs : ∀ s ∈ l, s.size ≤ reachBytes) (hm : m.size ≤ reachBytes) :
    ∃ k, emendatelaw55_ProtocolRoundTrip.f k a b l m = some true := by
  obtain ⟨h0, h1⟩ := int_in hw
  refine Ev.get ?_
  unfold emendatelaw55_ProtocolRoundTrip.f
  refine Ev.bind (short_eq a b l hb hs) ?_
  have out : Ev (fun k => emendatelaw55_ProtocolRoundTrip.j0 k m true a b l) true := by
    refine Ev.step ?_
    simp only [emendatelaw55_ProtocolRoundTrip.j0, if_true]
    exact Ev.const rfl
  cases shortB b l with
  | false => exact out
  | true =>
    simp only [if_true]
    by_cases hm2 : (m.size : Int) > 200
    · simp only [hm2, decide_true]
      exact out
    · simp only [hm2, decide_false]
      refine Ev.step ?_
      simp only [emendatelaw55_ProtocolRoundTrip.j0, Bool.false_eq_true, if_false]
      refine Ev.bind (enc_eq a b l h0 h1 hs) ?_
      unfold encL
      by_cases hg : good a b l
      · rw [if_pos hg]
        have hwl := whole_len (bodyL a b l)
        have hil := Lib.itoa_length_le ((bodyL a b l).length : Int) (by omega) (by have := hg.2.2; omega)
        have hbl := hg.2.2
        have hwm : (whole (bodyL a b l) ++ m.data.toList).length ≤ 1000000 := by
          rw [List.length_append, data_len]
          omega
        simp only [if_true, sz, if_pos (show (whole (bodyL a b l)).length + m.size ≤ 9223372036854775807 by omega)]
        have hd := decode_eq _ hwm
        rw [dec_whole a b l h0 h1 hg hs m.data.toList] at hd
        have he : (B (whole (bodyL a b l)) ++ m : ByteArray) = ⟨(whole (bodyL a b l) ++ m.data.toList).toArray⟩ := by
          conv => lhs; rw [← back m]
          exact app _ _
        rw [he]
        refine Ev.bind hd ?_
        simp only
        refine Ev.bind (enc_eq a b l h0 h1 hs) ?_
        unfold encL
        rw [if_pos hg]
        simp only [awake_eq, Option.bind_some, if_true]
        refine Ev.bind (same_refl a b l (by have := hg.2.1; omega)) ?_
        simp only [if_true, beq_self_eq_true]
        exact Ev.const rfl
      · rw [if_neg hg]
        refine Ev.const ?_
        show some ((⟨([] : List UInt8).toArray⟩ : ByteArray).toList == ([] : List UInt8)) = some true
        rw [toL]
        rfl
end Go.Proofs.YtanpkbglfhdjfaaGreatDoor.PureRoundTrip
