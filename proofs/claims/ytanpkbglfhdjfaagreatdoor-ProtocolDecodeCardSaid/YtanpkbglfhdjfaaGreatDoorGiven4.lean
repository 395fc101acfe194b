/- awake: the document's example holds, in every world in which the listed variables hold what the program's text lays. -/
import Derived.Test.YtanpkbglfhdjfaaGreatDoorAwake
import Derived.Test.YtanpkbglfhdjfaaGreatDoorQPx
namespace Go.Proofs.YtanpkbglfhdjfaaGreatDoor
open Go.RowKit Go.Proofs.YtanpkbglfhdjfaaGreatDoorW.PrintWords Go.Proofs.YtanpkbglfhdjfaaGreatDoorW.PrintLast Go.Proofs.YtanpkbglfhdjfaaGreatDoorW.PrintMore
open Go.Proofs.YtanpkbglfhdjfaaGreatDoor.QP

theorem p_enc : protocol_Encode.f 8 7 ⟨#[117, 110, 100, 111]⟩ [⟨#[48]⟩] = some (⟨#[67, 111, 110, 116, 101, 110, 116, 45, 76, 101, 110, 103, 116, 104, 58, 32, 49, 49, 13, 10, 13, 10, 55, 32, 117, 110, 100, 111, 10, 49, 58, 48, 10]⟩, 0) := by decide +kernel
theorem p_dec : protocol_Decode.f 30 ⟨#[67, 111, 110, 116, 101, 110, 116, 45, 76, 101, 110, 103, 116, 104, 58, 32, 49, 49, 13, 10, 13, 10, 55, 32, 117, 110, 100, 111, 10, 49, 58, 48, 10, 109, 111, 114, 101]⟩ = some (7, ⟨#[117, 110, 100, 111]⟩, [⟨#[48]⟩], 33, 0) := by decide +kernel
theorem p_dec2 : protocol_Decode.f 30 ⟨#[67, 111, 110, 116, 101, 110, 116, 45, 76, 101, 110, 103, 116, 104, 58, 32, 49, 49, 13, 10, 13, 10, 55, 32, 117, 110, 100, 111, 10, 49, 58, 48]⟩ = some (0, ⟨#[]⟩, [], 0, 6) := by decide +kernel
theorem p_dec3 : protocol_Decode.f 30 ⟨#[99, 111, 110, 116, 101, 110, 116]⟩ = some (0, ⟨#[]⟩, [], 0, 7) := by decide +kernel
theorem p_same : emendateref55_Same.f 8 7 ⟨#[117, 110, 100, 111]⟩ [⟨#[48]⟩] 7 ⟨#[117, 110, 100, 111]⟩ [⟨#[48]⟩] = some true := by decide +kernel
theorem p_same2 : emendateref55_Same.f 8 7 ⟨#[101, 114, 114, 111, 114]⟩ [⟨#[49, 53]⟩] 7 ⟨#[101, 114, 114, 111, 114]⟩ [⟨#[49, 53]⟩] = some true := by decide +kernel

theorem one_string {w : World} {g : Nat} {s : ByteArray} (h : w.heap[g]? = some (.cells #[.string s] 9 (0, 0))) : Kd.C Kd.string w (some ⟨g, 0, none⟩) 1 [s] := by
  refine Kd.C_of_reads (d := ByteArray.empty) ⟨rfl, by decide, fun _ => ⟨_, rfl, fun j hj => ?_⟩⟩
  obtain rfl : j = 0 := by omega
  exact (blk_cell h 0).trans rfl

/-- What a decoding leaves: its message's arguments can be read. -/
def Decoded (r1 : Int) (r2 : ByteArray) (r3 : List ByteArray) (r4 r5 : Int) (w : World) (e : Ending) (w' : World) : Prop :=
  ∃ (A : Option Addr) (c : Nat), e = .returned (.tuple #[.agg #[.int .i64 r1, .string r2, .slice A r3.length c], .int .i64 r4, .int .i64 r5]) ∧ Kd.C Kd.string w' A r3.length r3 ∧ r3.length ≤ c ∧ Below w.heap.size w w'

theorem decode_calls (k : Nat) (a0 : ByteArray) (r1 : Int) (r2 : ByteArray) (r3 : List ByteArray) (r4 r5 : Int) (w : World) (h : protocol_Decode.f k a0 = some (r1, r2, r3, r4, r5)) (hE : Env w) :
    Calls Tryz.prog 12 #[.string a0] w (Decoded r1 r2 r3 r4 r5 w) := by
  refine (protocol_Decode.calls k a0 r1 r2 r3 r4 r5 w h hE).mono ?_
  rintro e w' ⟨v, rfl, hR, hb⟩
  obtain ⟨A, c, rfl⟩ := Kd.R_slice hR
  obtain ⟨_, hc, hr⟩ := Kd.R_reads' hR
  exact ⟨A, c, rfl, hr, hc, hb⟩

/-- What holds between awake's calls: the message, its argument, the listed variables. -/
structure Aw (w W : World) : Prop where
  env : Env W
  low : Below w.heap.size w W
  arg : W.heap[w.heap.size]? = some (.cells #[.string ⟨#[48]⟩] 9 (0, 0))
  msg : W.heap[w.heap.size + 1]? = some (.cells #[.int .i64 7, .string ⟨#[117, 110, 100, 111]⟩, .slice (some ⟨w.heap.size, 0, none⟩) 1 1] 24 (0, 0))
theorem Aw.step {w W W1 : World} (h : Aw w W) (hb : Below W.heap.size W W1) : Aw w W1 := ⟨h.env.of hb, below_step h.low hb, blk_below h.arg hb, blk_below h.msg hb⟩
theorem Aw.start {w : World} (hE : Env w) : Aw w ((w.alloc (.cells #[.string ⟨#[48]⟩] 9)).alloc (.cells #[.int .i64 7, .string ⟨#[117, 110, 100, 111]⟩, .slice (some ⟨w.heap.size, 0, none⟩) 1 1] 24)) := by
  refine ⟨hE.of (below_alloc (below_alloc (Below.refl _ _) _) _), below_alloc (below_alloc (Below.refl _ _) _) _, blk_alloc (blk_new w _) _, ?_⟩
  have := blk_new (w.alloc (.cells #[.string ⟨#[48]⟩] 9)) (.cells #[.int .i64 7, .string ⟨#[117, 110, 100, 111]⟩, .slice (some ⟨w.heap.size, 0, none⟩) 1 1] 24)
  simpa using this
theorem Aw.alloc {w W : World} (h : Aw w W) (o : Obj) : Aw w (W.alloc o) := h.step (below_alloc (Below.refl _ _) o)

/-- The decoded message in its block. -/
structure Dec (g : Nat) (S : Option Addr) (c : Nat) (W : World) : Prop where
  blk : W.heap[g]? = some (.cells #[.int .i64 7, .string ⟨#[117, 110, 100, 111]⟩, .slice S 1 c] 24 (0, 0))
  rd : Kd.C Kd.string W S 1 [⟨#[48]⟩]
  le : 1 ≤ c
theorem Dec.step {g : Nat} {S : Option Addr} {c : Nat} {W W1 : World} (h : Dec g S c W) (hb : Below W.heap.size W W1) : Dec g S c W1 := ⟨blk_below h.blk hb, Kd.C_below h.rd hb, h.le⟩
/-- A response in its block. -/
structure Ans (g a : Nat) (W : World) : Prop where
  blk : W.heap[g]? = some (.cells #[.int .i64 7, .string ⟨#[101, 114, 114, 111, 114]⟩, .slice (some ⟨a, 0, none⟩) 1 1] 24 (0, 0))
  arg : W.heap[a]? = some (.cells #[.string ⟨#[49, 53]⟩] 9 (0, 0))
theorem Ans.step {g a : Nat} {W W1 : World} (h : Ans g a W) (hb : Below W.heap.size W W1) : Ans g a W1 := ⟨blk_below h.blk hb, blk_below h.arg hb⟩

def emendatelaw55_awake.f : Option Bool := some true

set_option maxHeartbeats 8000000 in
set_option maxRecDepth 100000 in
theorem awake_walk (w : World) (hE : Env w) : Calls Tryz.prog 9 #[] w fun e w' => e = .returned (.bool true) ∧ Below w.heap.size w w' := by
  have A := Lib.hid (Aw.start hE)
  clear hE
  go_enter Tryz.func9, Tryz.ntmps9
  go_wp2_with fail
  refine (protocol_Encode.calls 8 7 _ _ 1 _ _ 0 _ (one_string A.out.arg) (Nat.le_refl _) p_enc A.out.env).mono ?_
  rintro e w1 ⟨rfl, hb⟩
  have A1 := Lib.hid (A.out.step hb)
  clear hb A
  go_wp2_with fail
  refine (decode_calls 30 _ _ _ _ _ _ _ p_dec A1.out.env).mono ?_
  rintro e w2 ⟨S, c, rfl, hC, hc, hb⟩
  have bl2 := below_step hb (below_alloc (Below.refl w2.heap.size w2) (.cells #[.int .i64 7, .string ⟨#[117, 110, 100, 111]⟩, .slice S 1 c] 24))
  have A2 := Lib.hid (A1.out.step bl2)
  have D2 := Lib.hid (⟨blk_new w2 _, Kd.C_alloc hC _, hc⟩ : Dec w2.heap.size S c (w2.alloc (.cells #[.int .i64 7, .string ⟨#[117, 110, 100, 111]⟩, .slice S 1 c] 24)))
  clear hb A1 hC hc bl2
  go_wp2_with fail
  refine (decode_calls 30 _ _ _ _ _ _ _ p_dec2 A2.out.env).mono ?_
  rintro e w3 ⟨S3, c3, rfl, _, _, hb⟩
  have bl3 := below_step hb (below_alloc (Below.refl w3.heap.size w3) (.cells #[.int .i64 0, .string ⟨#[]⟩, .slice S3 0 c3] 24))
  have A3 := Lib.hid (A2.out.step bl3)
  have D3 := Lib.hid (D2.out.step bl3)
  clear hb A2 D2 bl3
  go_wp2_with fail
  refine (decode_calls 30 _ _ _ _ _ _ _ p_dec3 A3.out.env).mono ?_
  rintro e w4 ⟨S4, c4, rfl, _, _, hb⟩
  have bl4 := below_step hb (below_alloc (Below.refl w4.heap.size w4) (.cells #[.int .i64 0, .string ⟨#[]⟩, .slice S4 0 c4] 24))
  have A4 := Lib.hid (A3.out.step bl4)
  have D4 := Lib.hid (D3.out.step bl4)
  clear hb A3 D3 bl4
  go_wp2_with fail
  refine (new_nil _).mono ?_
  rintro e w5 ⟨rfl, hw⟩
  have HW := Lib.hid (blk_new (w4.alloc (.cells #[.int .i64 0, .string ⟨#[]⟩, .slice S4 0 c4] 24)) (.cells wsCells 57))
  have hb := below_alloc (Below.refl (w4.alloc (.cells #[.int .i64 0, .string ⟨#[]⟩, .slice S4 0 c4] 24)).heap.size _) (.cells wsCells 57)
  rw [hw] at HW hb
  have A5 := Lib.hid (A4.out.step hb)
  have D5 := Lib.hid (D4.out.step hb)
  clear hb A4 D4 hw
  have m0 : w5.cell? ⟨w.heap.size + 1, 0, none⟩ = some (.int .i64 7) := (blk_cell A5.out.msg 0).trans rfl
  have m1 : w5.cell? ⟨w.heap.size + 1, 1, none⟩ = some (.string ⟨#[117, 110, 100, 111]⟩) := (blk_cell A5.out.msg 1).trans rfl
  have m2 : w5.cell? ⟨w.heap.size + 1, 2, none⟩ = some (.slice (some ⟨w.heap.size, 0, none⟩) 1 1) := (blk_cell A5.out.msg 2).trans rfl
  have HW' : Hid (w5.heap[w4.heap.size + 1]? = some (.cells wsCells 57 (0, 0))) := by
    have := HW.out
    simp only [World.size_alloc] at this
    exact this
  go_wp2_with fail
  refine (serve_any (some ⟨w4.heap.size + 1, 0, none⟩) w.heap.size w5 A5.out.env (fun W hb => run_undo (w4.heap.size + 1) w.heap.size W (A5.out.env.of hb) (blk_below HW'.out hb) (blk_below A5.out.arg hb))).mono ?_
  rintro e w6 ⟨g6, rfl, ha, hb⟩
  have bl6 := below_step hb (below_alloc (Below.refl w6.heap.size w6) (.cells #[.int .i64 7, .string ⟨#[101, 114, 114, 111, 114]⟩, .slice (some ⟨g6, 0, none⟩) 1 1] 24))
  have A6' := A5.out.step hb
  have A6 := Lib.hid (A5.out.step bl6)
  have D6 := Lib.hid (D5.out.step bl6)
  have R6 := Lib.hid (⟨blk_new w6 _, blk_alloc ha _⟩ : Ans w6.heap.size g6 (w6.alloc (.cells #[.int .i64 7, .string ⟨#[101, 114, 114, 111, 114]⟩, .slice (some ⟨g6, 0, none⟩) 1 1] 24)))
  clear m0 m1 m2
  have m0 : w6.cell? ⟨w.heap.size + 1, 0, none⟩ = some (.int .i64 7) := (blk_cell A6'.msg 0).trans rfl
  have m0x : (w6.alloc (.cells #[.int .i64 7, .string ⟨#[101, 114, 114, 111, 114]⟩, .slice (some ⟨g6, 0, none⟩) 1 1] 24)).cell? ⟨w.heap.size + 1, 0, none⟩ = some (.int .i64 7) := (blk_cell (blk_alloc A6'.msg _) 0).trans rfl
  have m1 : w6.cell? ⟨w.heap.size + 1, 1, none⟩ = some (.string ⟨#[117, 110, 100, 111]⟩) := (blk_cell A6'.msg 1).trans rfl
  have m1x : (w6.alloc (.cells #[.int .i64 7, .string ⟨#[101, 114, 114, 111, 114]⟩, .slice (some ⟨g6, 0, none⟩) 1 1] 24)).cell? ⟨w.heap.size + 1, 1, none⟩ = some (.string ⟨#[117, 110, 100, 111]⟩) := (blk_cell (blk_alloc A6'.msg _) 1).trans rfl
  have m2 : w6.cell? ⟨w.heap.size + 1, 2, none⟩ = some (.slice (some ⟨w.heap.size, 0, none⟩) 1 1) := (blk_cell A6'.msg 2).trans rfl
  have m2x : (w6.alloc (.cells #[.int .i64 7, .string ⟨#[101, 114, 114, 111, 114]⟩, .slice (some ⟨g6, 0, none⟩) 1 1] 24)).cell? ⟨w.heap.size + 1, 2, none⟩ = some (.slice (some ⟨w.heap.size, 0, none⟩) 1 1) := (blk_cell (blk_alloc A6'.msg _) 2).trans rfl
  have ne6 : w.heap.size + 1 ≠ w6.heap.size := by have := blk_lt A6'.msg; omega
  clear hb bl6 A5 D5 HW HW' ha A6'
  go_wp2_with fail
  refine (serve_any none w.heap.size _ A6.out.env (fun W _ => run_none w.heap.size W)).mono ?_
  rintro e w7 ⟨g7, rfl, ha, hb⟩
  have bl7 := below_step hb (below_alloc (Below.refl w7.heap.size w7) (.cells #[.int .i64 7, .string ⟨#[101, 114, 114, 111, 114]⟩, .slice (some ⟨g7, 0, none⟩) 1 1] 24))
  have A7' := A6.out.step hb
  clear m0x m1x m2x
  have A7 := Lib.hid (A6.out.step bl7)
  have D7' := D6.out.step hb
  have D7 := Lib.hid (D6.out.step bl7)
  have R7 := Lib.hid (R6.out.step bl7)
  have R7' := R6.out.step hb
  have N7 := Lib.hid (⟨blk_new w7 _, blk_alloc ha _⟩ : Ans w7.heap.size g7 (w7.alloc (.cells #[.int .i64 7, .string ⟨#[101, 114, 114, 111, 114]⟩, .slice (some ⟨g7, 0, none⟩) 1 1] 24)))
  clear m0 m1 m2
  have m0 : w7.cell? ⟨w.heap.size + 1, 0, none⟩ = some (.int .i64 7) := (blk_cell A7'.msg 0).trans rfl
  have m0x : (w7.alloc (.cells #[.int .i64 7, .string ⟨#[101, 114, 114, 111, 114]⟩, .slice (some ⟨g7, 0, none⟩) 1 1] 24)).cell? ⟨w.heap.size + 1, 0, none⟩ = some (.int .i64 7) := (blk_cell (blk_alloc A7'.msg _) 0).trans rfl
  have m1 : w7.cell? ⟨w.heap.size + 1, 1, none⟩ = some (.string ⟨#[117, 110, 100, 111]⟩) := (blk_cell A7'.msg 1).trans rfl
  have m1x : (w7.alloc (.cells #[.int .i64 7, .string ⟨#[101, 114, 114, 111, 114]⟩, .slice (some ⟨g7, 0, none⟩) 1 1] 24)).cell? ⟨w.heap.size + 1, 1, none⟩ = some (.string ⟨#[117, 110, 100, 111]⟩) := (blk_cell (blk_alloc A7'.msg _) 1).trans rfl
  have m2 : w7.cell? ⟨w.heap.size + 1, 2, none⟩ = some (.slice (some ⟨w.heap.size, 0, none⟩) 1 1) := (blk_cell A7'.msg 2).trans rfl
  have m2x : (w7.alloc (.cells #[.int .i64 7, .string ⟨#[101, 114, 114, 111, 114]⟩, .slice (some ⟨g7, 0, none⟩) 1 1] 24)).cell? ⟨w.heap.size + 1, 2, none⟩ = some (.slice (some ⟨w.heap.size, 0, none⟩) 1 1) := (blk_cell (blk_alloc A7'.msg _) 2).trans rfl
  have d0 : w7.cell? ⟨w2.heap.size, 0, none⟩ = some (.int .i64 7) := (blk_cell D7'.blk 0).trans rfl
  have d0x : (w7.alloc (.cells #[.int .i64 7, .string ⟨#[101, 114, 114, 111, 114]⟩, .slice (some ⟨g7, 0, none⟩) 1 1] 24)).cell? ⟨w2.heap.size, 0, none⟩ = some (.int .i64 7) := (blk_cell (blk_alloc D7'.blk _) 0).trans rfl
  have d1 : w7.cell? ⟨w2.heap.size, 1, none⟩ = some (.string ⟨#[117, 110, 100, 111]⟩) := (blk_cell D7'.blk 1).trans rfl
  have d1x : (w7.alloc (.cells #[.int .i64 7, .string ⟨#[101, 114, 114, 111, 114]⟩, .slice (some ⟨g7, 0, none⟩) 1 1] 24)).cell? ⟨w2.heap.size, 1, none⟩ = some (.string ⟨#[117, 110, 100, 111]⟩) := (blk_cell (blk_alloc D7'.blk _) 1).trans rfl
  have d2 : w7.cell? ⟨w2.heap.size, 2, none⟩ = some (.slice S 1 c) := (blk_cell D7'.blk 2).trans rfl
  have d2x : (w7.alloc (.cells #[.int .i64 7, .string ⟨#[101, 114, 114, 111, 114]⟩, .slice (some ⟨g7, 0, none⟩) 1 1] 24)).cell? ⟨w2.heap.size, 2, none⟩ = some (.slice S 1 c) := (blk_cell (blk_alloc D7'.blk _) 2).trans rfl
  have ne7 : w.heap.size + 1 ≠ w7.heap.size := by have := blk_lt A7'.msg; omega
  have nd7 : w2.heap.size ≠ w7.heap.size := by have := blk_lt D7'.blk; omega
  clear hb bl7 A6 D6 R6 ha A7' D7' R7' ne6
  go_wp2_with fail
  refine (emendateref55_Same.calls 8 7 _ S c [⟨#[48]⟩] 7 _ (some ⟨w.heap.size, 0, none⟩) 1 [⟨#[48]⟩] true _ D7.out.rd D7.out.le (one_string A7.out.arg) (Nat.le_refl _) p_same A7.out.env).mono ?_
  rintro e w8 ⟨rfl, hb⟩
  have A8 := Lib.hid (A7.out.step hb)
  have R8 := Lib.hid (R7.out.step hb)
  have N8 := Lib.hid (N7.out.step hb)
  clear m0 m1 m2 m0x m1x m2x d0 d1 d2 d0x d1x d2x A7 D7 R7 N7 hb
  have r0 : w8.cell? ⟨w6.heap.size, 0, none⟩ = some (.int .i64 7) := (blk_cell R8.out.blk 0).trans rfl
  have r1 : w8.cell? ⟨w6.heap.size, 1, none⟩ = some (.string ⟨#[101, 114, 114, 111, 114]⟩) := (blk_cell R8.out.blk 1).trans rfl
  have r2 : w8.cell? ⟨w6.heap.size, 2, none⟩ = some (.slice (some ⟨g6, 0, none⟩) 1 1) := (blk_cell R8.out.blk 2).trans rfl
  go_wp2_with fail
  refine (emendateref55_Same.calls 8 7 _ (some ⟨g6, 0, none⟩) 1 [⟨#[49, 53]⟩] 7 _ (some ⟨w8.heap.size, 0, none⟩) 1 [⟨#[49, 53]⟩] true _ (one_string (blk_alloc R8.out.arg _)) (Nat.le_refl _) (one_string (blk_new w8 _)) (Nat.le_refl _) p_same2 (A8.out.alloc _).env).mono ?_
  rintro e w9 ⟨rfl, hb⟩
  have bl9 := below_step (below_alloc (Below.refl w8.heap.size w8) (.cells #[.string ⟨#[49, 53]⟩] 9)) hb
  have A9 := Lib.hid (A8.out.step bl9)
  have R9 := Lib.hid (R8.out.step bl9)
  have N9 := Lib.hid (N8.out.step bl9)
  clear r0 r1 r2 A8 R8 N8 hb bl9
  have r0 : w9.cell? ⟨w6.heap.size, 0, none⟩ = some (.int .i64 7) := (blk_cell R9.out.blk 0).trans rfl
  have r1 : w9.cell? ⟨w6.heap.size, 1, none⟩ = some (.string ⟨#[101, 114, 114, 111, 114]⟩) := (blk_cell R9.out.blk 1).trans rfl
  have r2 : w9.cell? ⟨w6.heap.size, 2, none⟩ = some (.slice (some ⟨g6, 0, none⟩) 1 1) := (blk_cell R9.out.blk 2).trans rfl
  have n0 : w9.cell? ⟨w7.heap.size, 0, none⟩ = some (.int .i64 7) := (blk_cell N9.out.blk 0).trans rfl
  have n1 : w9.cell? ⟨w7.heap.size, 1, none⟩ = some (.string ⟨#[101, 114, 114, 111, 114]⟩) := (blk_cell N9.out.blk 1).trans rfl
  have n2 : w9.cell? ⟨w7.heap.size, 2, none⟩ = some (.slice (some ⟨g7, 0, none⟩) 1 1) := (blk_cell N9.out.blk 2).trans rfl
  go_wp2_with fail
  refine (emendateref55_Same.calls 8 7 _ (some ⟨g7, 0, none⟩) 1 [⟨#[49, 53]⟩] 7 _ (some ⟨g6, 0, none⟩) 1 [⟨#[49, 53]⟩] true _ (one_string N9.out.arg) (Nat.le_refl _) (one_string R9.out.arg) (Nat.le_refl _) p_same2 A9.out.env).mono ?_
  rintro e w10 ⟨rfl, hb⟩
  have HL := Lib.hid (below_step A9.out.low hb)
  clear hb A9 R9 N9 r0 r1 r2 n0 n1 n2
  go_wp2_with fail
  go_ret
  exact ⟨rfl, HL.out⟩
theorem emendatelaw55_awake.calls (r : Bool) (w : World) (h : emendatelaw55_awake.f = some r) (hE : Env w) :
    Calls Tryz.prog 9 #[] w fun e w' => e = .returned (.bool r) ∧ Below w.heap.size w w' := by
  obtain rfl := Option.some.inj h
  exact awake_walk w hE
end Go.Proofs.YtanpkbglfhdjfaaGreatDoor
