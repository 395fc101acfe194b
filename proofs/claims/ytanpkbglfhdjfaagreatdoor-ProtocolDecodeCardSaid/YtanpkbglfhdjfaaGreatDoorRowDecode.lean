/- The law emendatelaw55.ProtocolDecode returns true for every input that its row lets in, and its arguments read as before: the row's statement, and the card that ties the listed package-level variables to the program's text. Conditions: none but those of the given statement. -/
import Derived.Test.YtanpkbglfhdjfaaGreatDoorCards
import Derived.Test.YtanpkbglfhdjfaaGreatDoorTie
import Derived.Test.YtanpkbglfhdjfaaGreatDoorRowD
import Derived.Test.YtanpkbglfhdjfaaGreatDoorRowC
import Derived.Test.YtanpkbglfhdjfaaGreatDoorQLDecodex
import Derived.Test.YtanpkbglfhdjfaaGreatDoorPureDecode
import Derived.ChangeSame
import Derived.ChangeOld
import Derived.Below
import Derived.SevenTiedAt
namespace Go.Proofs.YtanpkbglfhdjfaaGreatDoor.protocolDecode
open Go.ChangeShapes Go.WideShapes Go.ChangeAt Go.RowKit
open Go.ChangeMaps (open_string shut_string)
open Go.Proofs.YtanpkbglfhdjfaaGreatDoor Go.Proofs.YtanpkbglfhdjfaaGreatDoor.RowA Go.Proofs.YtanpkbglfhdjfaaGreatDoor.QLDecode Go.Proofs.YtanpkbglfhdjfaaGreatDoorW.PrintWords
set_option linter.unusedVariables false
set_option maxRecDepth 100000 in
theorem contract (H : Type) (enc : TypeId × Value → H) (W : World) (base : Nat) (args : Array Value) (ds gs : List (DataW H)) (before : List MemPlace)
    (hval0 : ∀ (j : Nat) t v, Tryz.f4.params[j]? = some t → args[j]? = some v → Value.okWide Tryz.prog W .any base t v)
    (hW : DataW.Whole enc Tryz.prog Tryz.f4.params.toList Rows.protocolDecodeSpec.vars false W args.toList ds gs before)
    (hsz0 : (DataW.weightsEach Tryz.prog (Tryz.f4.params.toList ++ Rows.protocolDecodeSpec.plain.varTypes Tryz.prog) (ds ++ gs)).all (· ≤ reachBytes) = true) (hE : Env W) :
    Calls Tryz.prog 4 args W fun e W' => ∃ v, e = .returned v ∧ Rows.protocolDecodeSpec.post enc Tryz.prog Tryz.f4 false true false false W args v W' := by
  have hsz : (DataW.weightsEach Tryz.prog (Tryz.f4.params.toList ++ Rows.protocolDecodeSpec.plain.varTypes Tryz.prog) (ds ++ gs)).all (· ≤ reachBytes) = true := hsz0
  have hval : ∀ (j : Nat) t v, Tryz.f4.params[j]? = some t → args[j]? = some v → Value.okWide Tryz.prog W .any base t v := hval0
  clear hval0 hsz0
  have hW' := hW
  obtain ⟨p, q, hA0, hV, rfl, hfz, hnd⟩ := hW
  have hA : DataW.TrodAll enc Tryz.prog W 0 (fun _ => true) true Tryz.f4.params.toList args.toList ds p := hA0
  rw [Tryz.params4] at hA hval hsz
  obtain ⟨v0, vs0, d0, ds0, p0, q0, hargs, rfl, rfl, h0, r0⟩ := trodAll_cons hA
  obtain ⟨rfl, rfl, rfl⟩ := trodAll_nil r0
  obtain rfl : args = #[v0] := by cases args; simp_all
  obtain ⟨rfl, rfl⟩ := trodVars_none hV
  obtain ⟨a0, rfl, rfl, rfl, y0⟩ := open_string Tryz.underlying9 (hval 0 9 v0 rfl rfl) h0
  have w0 : a0.size ≤ reachBytes := by
    have z := sized_string hsz (j := 0) (t := 9) rfl rfl
    rw [Array.length_toList] at z
    exact z
  clear hA0
  obtain ⟨k, hk⟩ := PureDecode.holds a0 w0
  refine (emendatelaw55_ProtocolDecode.calls k a0 true W  hk hE).mono fun e W' ⟨he, bel⟩ => ?_
  subst he
  exact ⟨_, rfl, _, _, _, [], _, [], hW', trodAll_mk1 (shut_bool Tryz.underlying4 _), (trodAll_cons_mk (shut_string Tryz.underlying9 y0) trodAll_mk0), rfl, bel.frame _, fun h => by cases h⟩
abbrev start : Array Value := #[.string ByteArray.empty]
theorem reads (os : Os) {H : Type} (enc : TypeId × Value → H) : ∃ places, DataW.whole enc Tryz.prog ((laidWorld os).forCall (fun _ _ => 0) ⟨#[], start, []⟩).memory Tryz.f4.params.toList Rows.protocolDecodeSpec.vars false start.toList 8 = some ([.lit (.string [])], [], places) :=
  ⟨[], by kernel_rfl⟩
set_option maxRecDepth 100000 in
theorem lifted (os : Os) (started : os.Started) (H : Type) (enc : TypeId × Value → H) (F : Stop.Interp) :
    ReturnsInHanded {} Tryz.checked os 4 .any ((OpenSpec.ofChange Rows.protocolDecodeSpec).preRow enc Tryz.prog Tryz.f4 Rows.protocolDecodeRow.domain false Rows.protocolDecodeRow.laid) (((OpenSpec.ofChange Rows.protocolDecodeSpec).at F).post enc Tryz.prog Tryz.f4 false true false false) := by
  obtain ⟨places, hx⟩ := reads os enc
  refine returnsInHanded_of_row (C := Tryz.checked) (s := OpenSpec.ofChange Rows.protocolDecodeSpec) own started (by kernel_rfl) Tryz.func4
    (witness_row_at (enc := enc) (C := Tryz.checked) false (laidWorld os) start rfl (by kernel_rfl) (by kernel_rfl) (by kernel_rfl)
      (OpenSpec.preRow_of_cond 8 hx (by kernel_rfl) (fun k hk => by cases hk) (by kernel_rfl) (laidWorld_met os _))) ?_
  intro W base args ds gs before hval hW _ _ hsz hL hsh _
  exact contract H enc W base args ds gs before hval hW hsz (env_of hL hsh)
set_option maxRecDepth 100000 in
theorem j0 : (Rows.protocolDecodeRow.wf (OpenSpec.ofChange (OpenSpec.ofChange Rows.protocolDecodeSpec).bare)) = true := by kernel_rfl
set_option maxRecDepth 100000 in
theorem j3 : (Tryz.f4.params.all (Tryz.pinned.checked.prog.readableRec ·)) = true := by kernel_rfl
set_option maxRecDepth 100000 in
theorem j4 : (namedTie Tryz.pinned.checked.prog Rows.protocolDecodeRow.named (OpenSpec.ofChange Rows.protocolDecodeSpec).bare.vars) = true := by kernel_rfl
set_option maxRecDepth 100000 in
theorem j5 : ((Rows.protocolDecodeRow.stops == [])) = true := by kernel_rfl
set_option maxRecDepth 100000 in
theorem j7 : ((Rows.protocolDecodeRow.knobs == [])) = true := by kernel_rfl
set_option maxRecDepth 100000 in
theorem j9 : ((Rows.protocolDecodeRow.inPlace == Tryz.pinned.checked.prog.inPlace 4)) = true := by kernel_rfl
set_option maxRecDepth 100000 in
theorem j10 : ((Rows.protocolDecodeRow.unfollowed == Tryz.pinned.checked.prog.unfollowed 4)) = true := by kernel_rfl
set_option maxRecDepth 100000 in
theorem j11 : ((Rows.protocolDecodeRow.recurses == Tryz.pinned.checked.prog.recurses 4)) = true := by kernel_rfl
set_option maxRecDepth 100000 in
theorem j12 : ((Rows.protocolDecodeRow.named == Tryz.pinned.checked.prog.varsNamed 4)) = true := by kernel_rfl
set_option maxRecDepth 100000 in
theorem j13 : ((Rows.protocolDecodeRow.maps == (Tryz.f4.params.toList ++ (OpenSpec.ofChange Rows.protocolDecodeSpec).bare.plain.varTypes Tryz.pinned.checked.prog).any (Tryz.pinned.checked.prog.mapsRec ·))) = true := by kernel_rfl
set_option maxRecDepth 100000 in
theorem j14 : ((Rows.protocolDecodeRow.ifaces == (Tryz.f4.params.toList ++ (OpenSpec.ofChange Rows.protocolDecodeSpec).bare.plain.varTypes Tryz.pinned.checked.prog).any (Tryz.pinned.checked.prog.ifacesRec ·))) = true := by kernel_rfl
set_option maxRecDepth 100000 in
theorem j15 : ((Rows.protocolDecodeRow.mapsOut == Tryz.pinned.checked.prog.mapsAmong Tryz.f4.resultTypes.toList)) = true := by kernel_rfl
set_option maxRecDepth 100000 in
theorem j16 : ((Rows.protocolDecodeRow.loops == (Tryz.f4.params.toList ++ (OpenSpec.ofChange Rows.protocolDecodeSpec).bare.plain.varTypes Tryz.pinned.checked.prog).any (Tryz.pinned.checked.prog.loopsFrom ·))) = true := by kernel_rfl
set_option maxRecDepth 100000 in
theorem j17 : ((Rows.protocolDecodeRow.wideKeys == (Tryz.f4.params.toList ++ (OpenSpec.ofChange Rows.protocolDecodeSpec).bare.plain.varTypes Tryz.pinned.checked.prog ++ Tryz.f4.resultTypes.toList).any (Tryz.pinned.checked.prog.wideKeysFrom ·))) = true := by kernel_rfl
set_option maxRecDepth 100000 in
theorem j18 : ((OpenSpec.ofChange Rows.protocolDecodeSpec).bare.vars.all (Tryz.pinned.checked.prog.varReadable ·)) = true := by kernel_rfl
set_option maxRecDepth 100000 in
theorem j19 : (Tryz.f4.resultTypes.all (fun t => Tryz.pinned.checked.prog.readableRec t && decide (t < Tryz.pinned.checked.prog.types.size))) = true := by kernel_rfl
set_option maxRecDepth 100000 in
theorem j20 : ((Rows.protocolDecodeRow.ifacesOut == Tryz.f4.resultTypes.toList.any (Tryz.pinned.checked.prog.ifacesRec ·))) = true := by kernel_rfl
set_option maxRecDepth 100000 in
theorem j21 : ((Rows.protocolDecodeRow.loopsOut == Tryz.f4.resultTypes.toList.any (Tryz.pinned.checked.prog.loopsFrom ·))) = true := by kernel_rfl
set_option maxRecDepth 100000 in
theorem j23 : (Rows.protocolDecodeRow.shortTexts.isNone) = true := by kernel_rfl
set_option maxRecDepth 100000 in
theorem j28 : ((Rows.protocolDecodeRow.kinds == (if Rows.protocolDecodeRow.domain.isEmpty then [] else Tryz.f4.params.toList.map fun t => match Tryz.pinned.checked.prog.underlying t with | some (.int k) => some k | _ => none))) = true := by kernel_rfl
set_option maxRecDepth 100000 in
theorem j29 : ((Rows.protocolDecodeRow.pinned == Rows.protocolDecodeRow.pinnedBy)) = true := by kernel_rfl
set_option maxRecDepth 100000 in
theorem j30 : ((Rows.protocolDecodeRow.veiled == (Tryz.f4.params.toList ++ (OpenSpec.ofChange Rows.protocolDecodeSpec).bare.plain.varTypes Tryz.pinned.checked.prog ++ Tryz.f4.resultTypes.toList).any (Tryz.pinned.checked.prog.veiledRec ·))) = true := by kernel_rfl
set_option maxRecDepth 100000 in
theorem j31 : (Rows.protocolDecodeRow.veiledFits Tryz.pinned.checked.prog Tryz.f4.params.toList (Tryz.f4.params.toList ++ (OpenSpec.ofChange Rows.protocolDecodeSpec).bare.plain.varTypes Tryz.pinned.checked.prog ++ Tryz.f4.resultTypes.toList)) = true := by kernel_rfl
set_option maxRecDepth 100000 in
theorem facts : joinedFacts Tryz.pinned.checked.prog 4 Tryz.f4 (OpenSpec.ofChange Rows.protocolDecodeSpec).bare Rows.protocolDecodeRow = true := by
  unfold joinedFacts
  exact (RowC.and_t (RowC.and_t (RowC.and_t (RowC.and_t (RowC.and_t (RowC.and_t (RowC.and_t (RowC.and_t (RowC.and_t (RowC.and_t (RowC.and_t (RowC.and_t (RowC.and_t (RowC.and_t (RowC.and_t (RowC.and_t (RowC.and_t (RowC.and_t (RowC.and_t (RowC.and_t (RowC.and_t (RowC.and_t (RowC.and_t (RowC.and_t (RowC.and_t (RowC.and_t (RowC.and_t (RowC.and_t (RowC.and_t (RowC.and_t (RowC.and_t j0 RowC.j1) RowC.j2) j3) j4) j5) RowC.j6) j7) RowC.j8) j9) j10) j11) j12) j13) j14) j15) j16) j17) j18) j19) j20) j21) RowC.j22) j23) RowC.j24) RowC.j25) RowC.j26) RowC.j27) j28) j29) j30) j31)
theorem said : Rows.ProtocolDecodeSaid :=
  OpenClaim.holds_of_cond 4 Tryz.f4 rfl rfl rfl rfl rfl rfl rfl ⟨rfl, rfl, rfl, rfl, rfl⟩ rfl rfl rfl rfl rfl (by kernel_rfl) Tryz.func4 facts
    (of_decide_eq_true (by kernel_rfl)) (by unfold Func.isWrapper; first | (rw [if_pos (by decide +kernel)]; kernel_rfl) | (rw [if_neg (by decide +kernel)]; exact ⟨rfl, rfl⟩))
    (fun os started H enc _ F => by rw [OpenClaim.pre_eq_preRow]; exact lifted os started H enc F)
theorem plain (f : FuncId) (fn : Func) (hf : Tryz.pinned.checked.prog.funcNamed "emendate/emendatelaw55.ProtocolDecode" = some f) (hfn : Tryz.pinned.checked.prog.funcs[f]? = some fn) :
    true = Tryz.pinned.checked.prog.looks [] ∧ ∀ (j : Nat) t, fn.params[j]? = some t → Tryz.pinned.checked.prog.wantsStandIn t = false := by
  obtain rfl : f = 4 := Option.some.inj ((show Tryz.prog.funcNamed "emendate/emendatelaw55.ProtocolDecode" = some 4 by kernel_rfl).symm.trans hf) |>.symm
  obtain rfl : fn = Tryz.f4 := (Option.some.inj (Tryz.func4.symm.trans hfn)).symm
  refine ⟨by kernel_rfl, fun j t ht => ?_⟩
  rw [Tryz.params4] at ht
  have hm := Array.mem_of_getElem? ht
  obtain rfl : t = 9 := by simpa using hm
  exact (show Tryz.prog.wantsStandIn 9 = false by kernel_rfl)
theorem card : Rows.ProtocolDecodeCardSaid :=
  Claim7.holds_tied_plain_at .later [] _ _ _ _ said (fun _ h => by cases h) (by kernel_rfl) (fun _ h => by cases h) protocolDecode_row_tie rfl ⟨rfl, rfl⟩ (by kernel_rfl) rfl plain (by kernel_rfl)
#print axioms card
end Go.Proofs.YtanpkbglfhdjfaaGreatDoor.protocolDecode
namespace Go.Proofs.YtanpkbglfhdjfaaGreatDoor
/-- The card, under a short name, for the claim. -/
theorem protocolDecode_card : Rows.ProtocolDecodeCardSaid := protocolDecode.card
end Go.Proofs.YtanpkbglfhdjfaaGreatDoor
