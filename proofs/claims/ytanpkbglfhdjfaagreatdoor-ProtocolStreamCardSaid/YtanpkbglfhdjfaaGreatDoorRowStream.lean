/- The law emendatelaw55.ProtocolStream returns true for every input that its row lets in, and its arguments read as before: the row's statement, and the card that ties the listed package-level variables to the program's text. Conditions: none but those of the given statement. -/
import Derived.Test.YtanpkbglfhdjfaaGreatDoorCards
import Derived.Test.YtanpkbglfhdjfaaGreatDoorTie
import Derived.Test.YtanpkbglfhdjfaaGreatDoorRowD
import Derived.Test.YtanpkbglfhdjfaaGreatDoorRowC
import Derived.Test.YtanpkbglfhdjfaaGreatDoorQLStreamx
import Derived.Test.YtanpkbglfhdjfaaGreatDoorPureStream
import Derived.Test.YtanpkbglfhdjfaaGreatDoorRowS
import Derived.ChangeSame
import Derived.ChangeOld
import Derived.Below
import Derived.SevenTiedAt
namespace Go.Proofs.YtanpkbglfhdjfaaGreatDoor.protocolStream
open Go.ChangeShapes Go.WideShapes Go.ChangeAt Go.RowKit
open Go.ChangeMaps (open_string shut_string)
open Go.Proofs.YtanpkbglfhdjfaaGreatDoor Go.Proofs.YtanpkbglfhdjfaaGreatDoor.RowA Go.Proofs.YtanpkbglfhdjfaaGreatDoor.QLStream Go.Proofs.YtanpkbglfhdjfaaGreatDoorW.PrintWords
set_option linter.unusedVariables false
set_option maxRecDepth 100000 in
theorem contract (H : Type) (enc : TypeId × Value → H) (W : World) (base : Nat) (args : Array Value) (ds gs : List (DataW H)) (before : List MemPlace)
    (hval0 : ∀ (j : Nat) t v, Tryz.f7.params[j]? = some t → args[j]? = some v → Value.okWide Tryz.prog W .any base t v)
    (hW : DataW.Whole enc Tryz.prog Tryz.f7.params.toList Rows.protocolStreamSpec.vars false W args.toList ds gs before)
    (hsz0 : (DataW.weightsEach Tryz.prog (Tryz.f7.params.toList ++ Rows.protocolStreamSpec.plain.varTypes Tryz.prog) (ds ++ gs)).all (· ≤ reachBytes) = true) (hE : Env W) :
    Calls Tryz.prog 7 args W fun e W' => ∃ v, e = .returned v ∧ Rows.protocolStreamSpec.post enc Tryz.prog Tryz.f7 false true false false W args v W' := by
  have hsz : (DataW.weightsEach Tryz.prog (Tryz.f7.params.toList ++ Rows.protocolStreamSpec.plain.varTypes Tryz.prog) (ds ++ gs)).all (· ≤ reachBytes) = true := hsz0
  have hval : ∀ (j : Nat) t v, Tryz.f7.params[j]? = some t → args[j]? = some v → Value.okWide Tryz.prog W .any base t v := hval0
  clear hval0 hsz0
  have hW' := hW
  obtain ⟨p, q, hA0, hV, rfl, hfz, hnd⟩ := hW
  have hA : DataW.TrodAll enc Tryz.prog W 0 (fun _ => true) true Tryz.f7.params.toList args.toList ds p := hA0
  rw [Tryz.params7] at hA hval hsz
  obtain ⟨v0, vs0, d0, ds0, p0, q0, hargs, rfl, rfl, h0, r0⟩ := trodAll_cons hA
  obtain ⟨v1, vs1, d1, ds1, p1, q1, rfl, rfl, rfl, h1, r1⟩ := trodAll_cons r0
  obtain ⟨rfl, rfl, rfl⟩ := trodAll_nil r1
  obtain rfl : args = #[v0, v1] := by cases args; simp_all
  obtain ⟨rfl, rfl⟩ := trodVars_none hV
  have k0 := h0
  have lt0 : ∀ x ∈ p0, x.block < W.heap.size := by obtain ⟨m, hm⟩ := k0; exact DataW.trod_lt m _ _ _ hm
  obtain ⟨A0, len0, c0, rfl⟩ := okWide_slice Tryz.underlying37 (hval 0 37 v0 rfl rfl)
  obtain ⟨fu0, hf0⟩ := h0
  obtain ⟨l0, e0, hc0, hC0, hs0⟩ := open_msgs (by simpa [Value.cells] using hf0) (fun n hn => of_decide_eq_true (List.all_eq_true.1 hsz n (DataW.weights_mem_each (j := 0) (t := 37) rfl rfl n hn)))
  subst e0
  obtain ⟨a1, rfl, rfl, rfl, w1⟩ := open_int Tryz.underlying35 (hval 1 35 v1 rfl rfl) h1
  clear hA0
  obtain ⟨k, hk⟩ := PureStream.holds l0 a1 hs0 w1
  refine (emendatelaw55_ProtocolStream.calls k A0 c0 l0 a1 true W hC0 hc0 hk hE).mono fun e W' ⟨he, bel⟩ => ?_
  subst he
  exact ⟨_, rfl, _, _, _, [], _, [], hW', trodAll_mk1 (shut_bool Tryz.underlying4 _), (trodAll_cons_mk (Below.trod laidOut (by kernel_rfl) (of_decide_eq_true (by kernel_rfl)) k0 bel lt0) (trodAll_cons_mk (shut_int Tryz.underlying35 w1) trodAll_mk0)), rfl, bel.frame _, fun h => by cases h⟩
abbrev start : Array Value := #[.slice none 0 0, .int .u16 0]
theorem reads (os : Os) {H : Type} (enc : TypeId × Value → H) : ∃ places, DataW.whole enc Tryz.prog ((laidWorld os).forCall (fun _ _ => 0) ⟨#[], start, []⟩).memory Tryz.f7.params.toList Rows.protocolStreamSpec.vars false start.toList 8 = some ([.nil, .lit (.int .u16 0)], [], places) :=
  ⟨[], by kernel_rfl⟩
set_option maxRecDepth 100000 in
theorem lifted (os : Os) (started : os.Started) (H : Type) (enc : TypeId × Value → H) (F : Stop.Interp) :
    ReturnsInHanded {} Tryz.checked os 7 .any ((OpenSpec.ofChange Rows.protocolStreamSpec).preRow enc Tryz.prog Tryz.f7 Rows.protocolStreamRow.domain false Rows.protocolStreamRow.laid) (((OpenSpec.ofChange Rows.protocolStreamSpec).at F).post enc Tryz.prog Tryz.f7 false true false false) := by
  obtain ⟨places, hx⟩ := reads os enc
  refine returnsInHanded_of_row (C := Tryz.checked) (s := OpenSpec.ofChange Rows.protocolStreamSpec) own started (by kernel_rfl) Tryz.func7
    (witness_row_at (enc := enc) (C := Tryz.checked) false (laidWorld os) start rfl (by kernel_rfl) (by kernel_rfl) (by kernel_rfl)
      (OpenSpec.preRow_of_cond 8 hx (by kernel_rfl) (fun k hk => by cases hk) (by kernel_rfl) (laidWorld_met os _))) ?_
  intro W base args ds gs before hval hW _ _ hsz hL hsh _
  exact contract H enc W base args ds gs before hval hW hsz (env_of hL hsh)
set_option maxRecDepth 100000 in
theorem j0 : (Rows.protocolStreamRow.wf (OpenSpec.ofChange (OpenSpec.ofChange Rows.protocolStreamSpec).bare)) = true := by kernel_rfl
set_option maxRecDepth 100000 in
theorem j3 : (Tryz.f7.params.all (Tryz.pinned.checked.prog.readableRec ·)) = true := by kernel_rfl
set_option maxRecDepth 100000 in
theorem j4 : (namedTie Tryz.pinned.checked.prog Rows.protocolStreamRow.named (OpenSpec.ofChange Rows.protocolStreamSpec).bare.vars) = true := by kernel_rfl
set_option maxRecDepth 100000 in
theorem j5 : ((Rows.protocolStreamRow.stops == [])) = true := by kernel_rfl
set_option maxRecDepth 100000 in
theorem j7 : ((Rows.protocolStreamRow.knobs == [])) = true := by kernel_rfl
set_option maxRecDepth 100000 in
theorem j9 : ((Rows.protocolStreamRow.inPlace == Tryz.pinned.checked.prog.inPlace 7)) = true := by kernel_rfl
set_option maxRecDepth 100000 in
theorem j10 : ((Rows.protocolStreamRow.unfollowed == Tryz.pinned.checked.prog.unfollowed 7)) = true := by kernel_rfl
set_option maxRecDepth 100000 in
theorem j11 : ((Rows.protocolStreamRow.recurses == Tryz.pinned.checked.prog.recurses 7)) = true := by kernel_rfl
set_option maxRecDepth 100000 in
theorem j12 : ((Rows.protocolStreamRow.named == Tryz.pinned.checked.prog.varsNamed 7)) = true := by kernel_rfl
set_option maxRecDepth 100000 in
theorem j13 : ((Rows.protocolStreamRow.maps == (Tryz.f7.params.toList ++ (OpenSpec.ofChange Rows.protocolStreamSpec).bare.plain.varTypes Tryz.pinned.checked.prog).any (Tryz.pinned.checked.prog.mapsRec ·))) = true := by kernel_rfl
set_option maxRecDepth 100000 in
theorem j14 : ((Rows.protocolStreamRow.ifaces == (Tryz.f7.params.toList ++ (OpenSpec.ofChange Rows.protocolStreamSpec).bare.plain.varTypes Tryz.pinned.checked.prog).any (Tryz.pinned.checked.prog.ifacesRec ·))) = true := by kernel_rfl
set_option maxRecDepth 100000 in
theorem j15 : ((Rows.protocolStreamRow.mapsOut == Tryz.pinned.checked.prog.mapsAmong Tryz.f7.resultTypes.toList)) = true := by kernel_rfl
set_option maxRecDepth 100000 in
theorem j16 : ((Rows.protocolStreamRow.loops == (Tryz.f7.params.toList ++ (OpenSpec.ofChange Rows.protocolStreamSpec).bare.plain.varTypes Tryz.pinned.checked.prog).any (Tryz.pinned.checked.prog.loopsFrom ·))) = true := by kernel_rfl
set_option maxRecDepth 100000 in
theorem j17 : ((Rows.protocolStreamRow.wideKeys == (Tryz.f7.params.toList ++ (OpenSpec.ofChange Rows.protocolStreamSpec).bare.plain.varTypes Tryz.pinned.checked.prog ++ Tryz.f7.resultTypes.toList).any (Tryz.pinned.checked.prog.wideKeysFrom ·))) = true := by kernel_rfl
set_option maxRecDepth 100000 in
theorem j18 : ((OpenSpec.ofChange Rows.protocolStreamSpec).bare.vars.all (Tryz.pinned.checked.prog.varReadable ·)) = true := by kernel_rfl
set_option maxRecDepth 100000 in
theorem j19 : (Tryz.f7.resultTypes.all (fun t => Tryz.pinned.checked.prog.readableRec t && decide (t < Tryz.pinned.checked.prog.types.size))) = true := by kernel_rfl
set_option maxRecDepth 100000 in
theorem j20 : ((Rows.protocolStreamRow.ifacesOut == Tryz.f7.resultTypes.toList.any (Tryz.pinned.checked.prog.ifacesRec ·))) = true := by kernel_rfl
set_option maxRecDepth 100000 in
theorem j21 : ((Rows.protocolStreamRow.loopsOut == Tryz.f7.resultTypes.toList.any (Tryz.pinned.checked.prog.loopsFrom ·))) = true := by kernel_rfl
set_option maxRecDepth 100000 in
theorem j23 : (Rows.protocolStreamRow.shortTexts.isNone) = true := by kernel_rfl
set_option maxRecDepth 100000 in
theorem j28 : ((Rows.protocolStreamRow.kinds == (if Rows.protocolStreamRow.domain.isEmpty then [] else Tryz.f7.params.toList.map fun t => match Tryz.pinned.checked.prog.underlying t with | some (.int k) => some k | _ => none))) = true := by kernel_rfl
set_option maxRecDepth 100000 in
theorem j29 : ((Rows.protocolStreamRow.pinned == Rows.protocolStreamRow.pinnedBy)) = true := by kernel_rfl
set_option maxRecDepth 100000 in
theorem j30 : ((Rows.protocolStreamRow.veiled == (Tryz.f7.params.toList ++ (OpenSpec.ofChange Rows.protocolStreamSpec).bare.plain.varTypes Tryz.pinned.checked.prog ++ Tryz.f7.resultTypes.toList).any (Tryz.pinned.checked.prog.veiledRec ·))) = true := by kernel_rfl
set_option maxRecDepth 100000 in
theorem j31 : (Rows.protocolStreamRow.veiledFits Tryz.pinned.checked.prog Tryz.f7.params.toList (Tryz.f7.params.toList ++ (OpenSpec.ofChange Rows.protocolStreamSpec).bare.plain.varTypes Tryz.pinned.checked.prog ++ Tryz.f7.resultTypes.toList)) = true := by kernel_rfl
set_option maxRecDepth 100000 in
theorem facts : joinedFacts Tryz.pinned.checked.prog 7 Tryz.f7 (OpenSpec.ofChange Rows.protocolStreamSpec).bare Rows.protocolStreamRow = true := by
  unfold joinedFacts
  exact (RowC.and_t (RowC.and_t (RowC.and_t (RowC.and_t (RowC.and_t (RowC.and_t (RowC.and_t (RowC.and_t (RowC.and_t (RowC.and_t (RowC.and_t (RowC.and_t (RowC.and_t (RowC.and_t (RowC.and_t (RowC.and_t (RowC.and_t (RowC.and_t (RowC.and_t (RowC.and_t (RowC.and_t (RowC.and_t (RowC.and_t (RowC.and_t (RowC.and_t (RowC.and_t (RowC.and_t (RowC.and_t (RowC.and_t (RowC.and_t (RowC.and_t j0 RowC.j1) RowC.j2) j3) j4) j5) RowC.j6) j7) RowC.j8) j9) j10) j11) j12) j13) j14) j15) j16) j17) j18) j19) j20) j21) RowC.j22) j23) RowC.j24) RowC.j25) RowC.j26) RowC.j27) j28) j29) j30) j31)
theorem said : Rows.ProtocolStreamSaid :=
  OpenClaim.holds_of_cond 7 Tryz.f7 rfl rfl rfl rfl rfl rfl rfl ⟨rfl, rfl, rfl, rfl, rfl⟩ rfl rfl rfl rfl rfl (by kernel_rfl) Tryz.func7 facts
    (of_decide_eq_true (by kernel_rfl)) (by unfold Func.isWrapper; first | (rw [if_pos (by decide +kernel)]; kernel_rfl) | (rw [if_neg (by decide +kernel)]; exact ⟨rfl, rfl⟩))
    (fun os started H enc _ F => by rw [OpenClaim.pre_eq_preRow]; exact lifted os started H enc F)
theorem plain (f : FuncId) (fn : Func) (hf : Tryz.pinned.checked.prog.funcNamed "emendate/emendatelaw55.ProtocolStream" = some f) (hfn : Tryz.pinned.checked.prog.funcs[f]? = some fn) :
    true = Tryz.pinned.checked.prog.looks [] ∧ ∀ (j : Nat) t, fn.params[j]? = some t → Tryz.pinned.checked.prog.wantsStandIn t = false := by
  obtain rfl : f = 7 := Option.some.inj ((show Tryz.prog.funcNamed "emendate/emendatelaw55.ProtocolStream" = some 7 by kernel_rfl).symm.trans hf) |>.symm
  obtain rfl : fn = Tryz.f7 := (Option.some.inj (Tryz.func7.symm.trans hfn)).symm
  refine ⟨by kernel_rfl, fun j t ht => ?_⟩
  rw [Tryz.params7] at ht
  have hm := Array.mem_of_getElem? ht
  have hm' : t = 37 ∨ t = 35 := by simpa using hm
  rcases hm' with rfl | rfl
  · exact (show Tryz.prog.wantsStandIn 37 = false by kernel_rfl)
  · exact (show Tryz.prog.wantsStandIn 35 = false by kernel_rfl)
theorem card : Rows.ProtocolStreamCardSaid :=
  Claim7.holds_tied_plain_at .later [] _ _ _ _ said (fun _ h => by cases h) (by kernel_rfl) (fun _ h => by cases h) protocolStream_row_tie rfl ⟨rfl, rfl⟩ (by kernel_rfl) rfl plain (by kernel_rfl)
#print axioms card
end Go.Proofs.YtanpkbglfhdjfaaGreatDoor.protocolStream
namespace Go.Proofs.YtanpkbglfhdjfaaGreatDoor
/-- The card, under a short name, for the claim. -/
theorem protocolStream_card : Rows.ProtocolStreamCardSaid := protocolStream.card
end Go.Proofs.YtanpkbglfhdjfaaGreatDoor
