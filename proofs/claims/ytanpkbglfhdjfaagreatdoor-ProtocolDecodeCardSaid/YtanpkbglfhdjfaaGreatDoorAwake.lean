/- An empty workspace: New, and an undo that fails: check, Do. · The report of a failing event as a request's arguments; words of none. · The table of requests: the functions that make its entries. · The entry's function: the event of an undo, executed and reported. · Serve on the undo of a document that is not open, with a workspace and with none. -/
import Derived.Test.YtanpkbglfhdjfaaGreatDoorGivenA
import Derived.WalkSpells
import Derived.Deep.QuietTactic
import Derived.BigQuiet
import Derived.Deep.RegionHeld3
import Derived.LoopTactic
import Derived.Laws.EntriesVeiled
import Derived.Maps.Own
import Derived.Deep.DeepCutAuto
namespace Go.Proofs.YtanpkbglfhdjfaaGreatDoor
open Go.RowKit Go.Proofs.YtanpkbglfhdjfaaGreatDoorW.PrintWords Go.Proofs.YtanpkbglfhdjfaaGreatDoorW.PrintLast Go.Proofs.YtanpkbglfhdjfaaGreatDoorW.PrintMore

theorem blk_six {w : World} {g : Nat} {t : TypeId} {a0 a1 a2 a3 a4 a5 : Value} (h : w.heap[g]? = some (.cells #[a0, a1, a2, a3, a4, a5] t (0, 0))) (b0 b1 b2 b3 b4 b5 : Value) :
    ((((((w.setCell ⟨g, 0, none⟩ b0).setCell ⟨g, 1, none⟩ b1).setCell ⟨g, 2, none⟩ b2).setCell ⟨g, 3, none⟩ b3).setCell ⟨g, 4, none⟩ b4).setCell ⟨g, 5, none⟩ b5).heap[g]? = some (.cells #[b0, b1, b2, b3, b4, b5] t (0, 0)) :=
  blk_put (cs := #[b0, b1, b2, b3, b4, a5]) (blk_put (cs := #[b0, b1, b2, b3, a4, a5]) (blk_put (cs := #[b0, b1, b2, a3, a4, a5]) (blk_put (cs := #[b0, b1, a2, a3, a4, a5]) (blk_put (cs := #[b0, a1, a2, a3, a4, a5]) (blk_put (cs := #[a0, a1, a2, a3, a4, a5]) h 0 b0 rfl) 1 b1 rfl) 2 b2 rfl) 3 b3 rfl) 4 b4 rfl) 5 b5 rfl
theorem blk_three {w : World} {g : Nat} {t : TypeId} {a0 a1 a2 : Value} (h : w.heap[g]? = some (.cells #[a0, a1, a2] t (0, 0))) (b0 b1 b2 : Value) :
    (((w.setCell ⟨g, 0, none⟩ b0).setCell ⟨g, 1, none⟩ b1).setCell ⟨g, 2, none⟩ b2).heap[g]? = some (.cells #[b0, b1, b2] t (0, 0)) :=
  blk_put (cs := #[b0, b1, a2]) (blk_put (cs := #[b0, a1, a2]) (blk_put (cs := #[a0, a1, a2]) h 0 b0 rfl) 1 b1 rfl) 2 b2 rfl

def wsCells : Array Value := #[.slice none 0 0, .pointer none, .pointer none, .pointer none, .pointer none, .pointer none, .pointer none, .pointer none, .pointer none]
def evCells : Array Value := #[.int .i64 3, .int .i64 0, .int .i64 0, .int .i64 0, .int .i64 0, .string ⟨#[]⟩, .string ⟨#[]⟩]

set_option maxRecDepth 100000 in
theorem new_nil (w : World) : Calls Tryz.prog 16 #[.slice none 0 0] w fun e w' => e = .returned (.pointer (some ⟨w.heap.size, 0, none⟩)) ∧ w.alloc (.cells wsCells 57) = w' := by
  have hs := Lib.run_eql_slice_nil_nil (P := Tryz.prog) w 0 0 Tryz.underlying51
  go_enter Tryz.func16, Tryz.ntmps16
  go_wp2
  go_ret
  exact ⟨rfl, rfl⟩

set_option maxRecDepth 100000 in
theorem check_undo (b : Nat) (w : World) (hb : w.heap[b]? = some (.cells wsCells 57)) :
    Calls Tryz.prog 92 #[.pointer (some ⟨b, 0, none⟩), .agg evCells] w fun e w' => e = .returned (.int .i64 15) ∧ Below w.heap.size w w' := by
  have hlt := blk_lt hb
  have hne : b ≠ w.heap.size := by omega
  have c1 : w.cell? ⟨b, 1, none⟩ = some (.pointer none) := (blk_cell hb 1).trans rfl
  unfold evCells
  clear hb
  go_enter Tryz.func92, Tryz.ntmps92
  go_wp2
  go_quiet (fail)
  go_wp2
  go_ret
  exact ⟨rfl, by repeat (first | exact Below.refl _ _ | apply below_alloc | apply pw_below_drewN | apply below_drew1)⟩

set_option maxRecDepth 100000 in
theorem do_undo (b : Nat) (w : World) (hb : w.heap[b]? = some (.cells wsCells 57)) :
    Calls Tryz.prog 74 #[.pointer (some ⟨b, 0, none⟩), .agg evCells] w fun e w' => e = .returned (.tuple #[.agg #[.int .i64 0, .int .i64 0, .string ⟨#[]⟩, .int .i64 15, .int .i64 0, .slice none 0 0], .int .i64 15]) ∧ Below w.heap.size w w' := by
  have hlt := blk_lt hb
  have C1 := Lib.hid (fun W hW => check_undo b W hW)
  have HB := Lib.hid hb
  clear hb
  unfold evCells at *
  go_enter Tryz.func74, Tryz.ntmps74
  go_wp2_with fail
  refine (C1.out _ ?_).mono ?_
  · exact blk_alloc (blk_alloc HB.out _) _
  rintro e w1 ⟨rfl, hb1⟩
  have hB0 : w1.heap[w.heap.size]? = some (.cells #[.int .i64 3, .int .i64 0, .int .i64 0, .int .i64 0, .int .i64 0, .string ⟨#[]⟩, .string ⟨#[]⟩] 73 (0, 0)) := blk_below (blk_alloc (blk_new w _) _) hb1
  have hB1 : w1.heap[w.heap.size + 1]? = some (.cells #[.int .i64 0, .int .i64 0, .string ⟨#[]⟩, .int .i64 0, .int .i64 0, .slice none 0 0] 99 (0, 0)) := by
    have := blk_below (blk_new (w.alloc (.cells #[.int .i64 3, .int .i64 0, .int .i64 0, .int .i64 0, .int .i64 0, .string ⟨#[]⟩, .string ⟨#[]⟩] 73)) (.cells #[.int .i64 0, .int .i64 0, .string ⟨#[]⟩, .int .i64 0, .int .i64 0, .slice none 0 0] 99)) hb1
    simpa using this
  have k0 : w1.cell? ⟨w.heap.size, 0, none⟩ = some (.int .i64 3) := (blk_cell hB0 0).trans rfl
  have k1 : w1.cell? ⟨w.heap.size, 1, none⟩ = some (.int .i64 0) := (blk_cell hB0 1).trans rfl
  have HL := Lib.hid (below_step (below_alloc (below_alloc (Below.refl w.heap.size w) _) _) hb1)
  have r0 : w1.cell? ⟨w.heap.size + 1, 0, none⟩ = some (.int .i64 0) := (blk_cell hB1 0).trans rfl
  have r1 : w1.cell? ⟨w.heap.size + 1, 1, none⟩ = some (.int .i64 0) := (blk_cell hB1 1).trans rfl
  have r2 : w1.cell? ⟨w.heap.size + 1, 2, none⟩ = some (.string ⟨#[]⟩) := (blk_cell hB1 2).trans rfl
  have r3 : w1.cell? ⟨w.heap.size + 1, 3, none⟩ = some (.int .i64 0) := (blk_cell hB1 3).trans rfl
  have r4 : w1.cell? ⟨w.heap.size + 1, 4, none⟩ = some (.int .i64 0) := (blk_cell hB1 4).trans rfl
  have r5 : w1.cell? ⟨w.heap.size + 1, 5, none⟩ = some (.slice none 0 0) := (blk_cell hB1 5).trans rfl
  have f0 : ∀ j, w1.frozen? ⟨w.heap.size + 1, j, none⟩ = false := blk_frozen hB1
  clear hb1 hB0 C1
  have HB1 := Lib.hid hB1
  clear hB1
  go_wp2
  refine bodyPost_ret (results_ct rfl _ _ (w.heap.size + 1) 99 #[.int .i64 0, .int .i64 0, .string ⟨#[]⟩, .int .i64 15, .int .i64 0, .slice none 0 0] (0, 0) _ rfl (by exact blk_six HB1.out _ _ _ _ _ _) Tryz.underlying99 rfl (by kernel_rfl)) rfl ?_
  exact ⟨rfl, below_set (below_set (below_set (below_set (below_set (below_set HL.out (by omega)) (by omega)) (by omega)) (by omega)) (by omega)) (by omega)⟩
end Go.Proofs.YtanpkbglfhdjfaaGreatDoor

namespace Go.Proofs.YtanpkbglfhdjfaaGreatDoor
open Go.RowKit Go.Proofs.YtanpkbglfhdjfaaGreatDoorW.PrintWords Go.Proofs.YtanpkbglfhdjfaaGreatDoorW.PrintLast Go.Proofs.YtanpkbglfhdjfaaGreatDoorW.PrintMore

set_option maxRecDepth 100000 in
theorem words_nil (w : World) : Calls Tryz.prog 61 #[.slice none 0 0] w fun e w' => e = .returned (.slice none 0 0) ∧ w = w' := by
  go_enter Tryz.func61, Tryz.ntmps61
  go_wp2
  go_loop [3, 8] (fun a i => a = .slice none 0 0 ∧ i = .int .i64 0) (fun _ _ => 0)
  case atStart => exact ⟨rfl, rfl⟩
  case round =>
    obtain ⟨rfl, rfl⟩ := hrel
    go_wp2
    go_ret
    exact ⟨rfl, rfl⟩

/-- What holds between the calls: the listed variables, the copy in its block, all else as it was. -/
structure Good (w : World) (t : TypeId) (cs : Array Value) (W : World) : Prop where
  env : Env W
  low : Below w.heap.size w W
  box : W.heap[w.heap.size]? = some (.cells cs t (0, 0))

theorem Good.step {w W W1 : World} {t : TypeId} {cs : Array Value} (h : Good w t cs W) (hb : Below W.heap.size W W1) : Good w t cs W1 :=
  ⟨h.env.of hb, below_step h.low hb, blk_below h.box hb⟩
theorem Good.start {w : World} (hE : Env w) (t : TypeId) (cs : Array Value) : Good w t cs (w.alloc (.cells cs t)) :=
  ⟨hE.of (below_alloc (Below.refl _ _) _), below_alloc (Below.refl _ _) _, blk_new w _⟩
theorem Good.cell {w W : World} {t : TypeId} {cs : Array Value} (h : Good w t cs W) (i : Nat) : W.cell? ⟨w.heap.size, i, none⟩ = cs[i]? := blk_cell h.box i
theorem Good.frozen {w W : World} {t : TypeId} {cs : Array Value} (h : Good w t cs W) (i : Nat) : W.frozen? ⟨w.heap.size, i, none⟩ = false := blk_frozen h.box i

theorem itoa_good {w W : World} {t : TypeId} {cs : Array Value} (h : Good w t cs W) (n : Int) (h0 : -9223372036854775808 ≤ n) (h1 : n ≤ 9223372036854775807) :
    Calls Tryz.prog 20 #[.int .i64 n] W fun e w' => e = .returned (.string ⟨(Lib.itoa n).toArray⟩) ∧ Good w t cs w' := by
  refine (strconv_Itoa.calls n _ W (by unfold strconv_Itoa.f; rw [if_pos ⟨h0, h1⟩]) h.env).mono ?_
  rintro e w' ⟨rfl, hb⟩
  exact ⟨rfl, h.step hb⟩

/-- It returns some value; what was there stands. -/
def SomeValue (w : World) (e : Ending) (w' : World) : Prop := ∃ v : Value, e = .returned v ∧ Below w.heap.size w w'

set_option maxHeartbeats 1000000 in
set_option maxRecDepth 100000 in
theorem report_fails (w : World) (hE : Env w) :
    Calls Tryz.prog 59 #[.agg #[.int .i64 0, .int .i64 0, .string ⟨#[]⟩, .int .i64 15, .int .i64 0, .slice none 0 0]] w fun e w' => SomeValue w e w' := by
  have G := Lib.hid ((Good.start hE 99 #[.int .i64 0, .int .i64 0, .string ⟨#[]⟩, .int .i64 15, .int .i64 0, .slice none 0 0]).step (below_drew (Below.refl _ _)))
  have C0 := Lib.hid (fun W (g : Good w 99 #[.int .i64 0, .int .i64 0, .string ⟨#[]⟩, .int .i64 15, .int .i64 0, .slice none 0 0] W) => itoa_good g 0 (by omega) (by omega))
  have C15 := Lib.hid (fun W (g : Good w 99 #[.int .i64 0, .int .i64 0, .string ⟨#[]⟩, .int .i64 15, .int .i64 0, .slice none 0 0] W) => itoa_good g 15 (by omega) (by omega))
  clear hE
  go_enter Tryz.func59, Tryz.ntmps59
  go_wp2
  go_region_held3 (fun w' => w'.cell? ⟨w.heap.size, 0, none⟩ = some (.int .i64 0) ∧ w'.cell? ⟨w.heap.size, 1, none⟩ = some (.int .i64 0) ∧ w'.cell? ⟨w.heap.size, 2, none⟩ = some (.string ⟨#[]⟩) ∧ w'.cell? ⟨w.heap.size, 3, none⟩ = some (.int .i64 15) ∧ w'.cell? ⟨w.heap.size, 4, none⟩ = some (.int .i64 0) ∧ w'.cell? ⟨w.heap.size, 5, none⟩ = some (.slice none 0 0)) (first | go_keep | exact ⟨(G.out.cell 0).trans rfl, (G.out.cell 1).trans rfl, (G.out.cell 2).trans rfl, (G.out.cell 3).trans rfl, (G.out.cell 4).trans rfl, (G.out.cell 5).trans rfl⟩)
    (first | (go_at_call 20; refine (C0.out _ G.out).mono ?_; rintro e w1 ⟨rfl, g⟩; clear G; have G := Lib.hid g; clear g) | (go_at_call 20; refine (C15.out _ G.out).mono ?_; rintro e w1 ⟨rfl, g⟩; clear G; have G := Lib.hid g; clear g) | (go_at_call 61; refine (words_nil _).mono ?_; rintro e w1 ⟨rfl, rfl⟩) | (go_at_call 77; refine (Tryz.strings_Join_none none 0 ⟨#[32]⟩ _).mono ?_; rintro e w1 ⟨rfl, rfl⟩))
  go_wp2
  go_ret
  exact ⟨_, rfl, below_alloc G.out.low _⟩
end Go.Proofs.YtanpkbglfhdjfaaGreatDoor

namespace Go.Proofs.YtanpkbglfhdjfaaGreatDoor
open Go.RowKit Go.Proofs.YtanpkbglfhdjfaaGreatDoorW.PrintWords Go.Proofs.YtanpkbglfhdjfaaGreatDoorW.PrintLast Go.Proofs.YtanpkbglfhdjfaaGreatDoorW.PrintMore

set_option maxRecDepth 100000 in
theorem event_fn (fn : Fn) (c : Array Value) (w : World) : Calls Tryz.prog 52 #[.func fn #[] c] w fun e w' => e = .returned (.func (.func 73) #[] #[.pointer (some ⟨w.heap.size, 0, none⟩)]) ∧ w.alloc (.cells #[.func fn #[] c] 96) = w' := by
  go_enter Tryz.func52, Tryz.ntmps52
  go_wp2
  go_ret
  exact ⟨rfl, rfl⟩

/-- The entry for an event with one number: it leads to its kind. -/
def Leads (W : World) (k : Int) (v : Value) : Prop := ∃ b0 b2 : Nat, v = .agg #[.int .i64 1, .bool false, .func (.func 73) #[] #[.pointer (some ⟨b2, 0, none⟩)]] ∧
  W.heap[b2]? = some (.cells #[.func (.func 53) #[] #[.pointer (some ⟨b0, 0, none⟩)]] 96 (0, 0)) ∧ W.heap[b0]? = some (.cells #[.int .i64 k] 3 (0, 0))
def MadeEntry (w : World) (k : Int) (e : Ending) (w' : World) : Prop := ∃ v, e = .returned v ∧ Leads w' k v ∧ Below w.heap.size w w'

set_option maxRecDepth 100000 in
theorem simple_fn (k : Int) (w : World) : Calls Tryz.prog 51 #[.int .i64 k] w fun e w' => MadeEntry w k e w' := by
  go_enter Tryz.func51, Tryz.ntmps51
  go_wp2_with fail
  refine (event_fn _ _ _).mono ?_
  rintro e w1 ⟨rfl, rfl⟩
  go_wp2
  refine bodyPost_ret (v := .agg #[.int .i64 1, .bool false, .func (.func 73) #[] #[.pointer (some ⟨w.heap.size + 1 + 1, 0, none⟩)]]) (by simp [results, Tryz.results51, go_sem]) rfl ?_
  refine ⟨_, rfl, ⟨w.heap.size, w.heap.size + 1 + 1, rfl, ?_, ?_⟩, below_alloc (below_alloc (below_alloc (Below.refl _ _) _) _) _⟩
  · have := blk_new ((w.alloc (.cells #[.int .i64 k] 3)).alloc (.cells #[.int .i64 1, .bool false, .func (.func 73) #[] #[.pointer (some ⟨w.heap.size + 1 + 1, 0, none⟩)]] 86)) (.cells #[.func (.func 53) #[] #[.pointer (some ⟨w.heap.size, 0, none⟩)]] 96)
    simpa using this
  · exact blk_alloc (blk_alloc (blk_new w _) _) _

theorem Leads.step {W W1 : World} {k : Int} {v : Value} (h : Leads W k v) (hb : Below W.heap.size W W1) : Leads W1 k v := by
  obtain ⟨b0, b2, rfl, h2, h0⟩ := h
  exact ⟨b0, b2, rfl, blk_below h2 hb, blk_below h0 hb⟩

/-- A map's block is put anew, all else stands. -/
structure PutAt (w : World) (b : Nat) (o : Obj) (w' : World) : Prop where
  os : w'.os = w.os
  tape : w'.tape = w.tape
  output : w'.output = w.output
  size : w.heap.size = w'.heap.size
  same : w'.heap[b]? = some o
  other : ∀ i, i ≠ b → w'.heap[i]? = w.heap[i]?

theorem PutAt.low {w W W' : World} {b : Nat} {o : Obj} (h : PutAt W b o W') (hl : Below w.heap.size w W) (hb : w.heap.size ≤ b) : Below w.heap.size w W' :=
  hl.trans ⟨h.os, h.tape, h.output, Nat.le_of_eq h.size, fun k hk => h.other k (by omega)⟩

theorem Leads.put {W W' : World} {k : Int} {v : Value} {b : Nat} {o : Obj} {es : Array MapEntry} {c : Nat} (h : Leads W k v) (hm : W.heap[b]? = some (.map es c)) (hp : PutAt W b o W') : Leads W' k v := by
  obtain ⟨b0, b2, rfl, h2, h0⟩ := h
  have n2 : b2 ≠ b := by rintro rfl; rw [hm] at h2; cases h2
  have n0 : b0 ≠ b := by rintro rfl; rw [hm] at h0; cases h0
  exact ⟨b0, b2, rfl, (hp.other _ n2).trans h2, (hp.other _ n0).trans h0⟩

theorem run_put {w : World} {b : Nat} {es : Array MapEntry} {c : Nat} (hb : w.heap[b]? = some (.map es c)) (key : ByteArray) (val : Value)
    (hnew : Instr.findNow .string (.string key) es.toList 0 = some none) :
    ∃ w', (Instr.mapUpdate 88 (.map (some b)) (.string key) val).run Tryz.prog w = .ok () w' ∧ PutAt w b (.map (es.push ⟨.string key, val, c⟩) (c + 1)) w' := by
  have hlt := blk_lt hb
  refine ⟨{ w with heap := w.heap.setIfInBounds b (.map (es.push ⟨.string key, val, c⟩) (c + 1)) }, ?_, ⟨rfl, rfl, rfl, by simp, ?_, fun i hi => ?_⟩⟩
  · simp [Instr.mapUpdate, run_underlying Tryz.underlying88, MapKept.run_getObj_map hb, MapKept.run_checkKey (k := .string key) Tryz.underlying9 trivial, MapKept.run_findKey Tryz.underlying9 hnew, MapKept.run_setObj_map _ hb, Result.andThen]
  · exact (MapKept.heap_set hb).1
  · exact (MapKept.heap_set hb).2 i hi

/-- The table with these entries so far. -/
structure Tab (w : World) (r : Nat) (es : Array MapEntry) (c : Nat) (W : World) : Prop where
  heap : W.heap[r]? = some (.map es c)
  low : Below w.heap.size w W
  ge : w.heap.size ≤ r
theorem Tab.step {w W W1 : World} {r c : Nat} {es : Array MapEntry} (h : Tab w r es c W) (hb : Below W.heap.size W W1) : Tab w r es c W1 := ⟨blk_below h.heap hb, below_step h.low hb, h.ge⟩
theorem Tab.put {w W W1 : World} {r c c' : Nat} {es es' : Array MapEntry} (h : Tab w r es c W) (hp : PutAt W r (.map es' c') W1) : Tab w r es' c' W1 := ⟨hp.same, hp.low h.low h.ge, h.ge⟩
def MadeEvent (w : World) (e : Ending) (w' : World) : Prop := ∃ b : Nat, e = .returned (.func (.func 73) #[] #[.pointer (some ⟨b, 0, none⟩)]) ∧ Below w.heap.size w w'
theorem event_any (fn : Fn) (c : Array Value) (w : World) : Calls Tryz.prog 52 #[.func fn #[] c] w (MadeEvent w) :=
  (event_fn fn c w).mono fun _ _ ⟨he, hw⟩ => ⟨_, he, by subst hw; exact below_alloc (Below.refl _ _) _⟩
theorem simple_any (k : Int) (w : World) : Calls Tryz.prog 51 #[.int .i64 k] w (MadeEntry w k) := simple_fn k w

/-- What the call of requests leaves. -/
def MadeTable (w : World) (e : Ending) (w' : World) : Prop := ∃ (r : Nat) (es : Array MapEntry) (c : Nat) (v : Value), e = .returned (.map (some r)) ∧ w'.heap[r]? = some (.map es c) ∧
  Instr.findNow .string (.string ⟨#[117, 110, 100, 111]⟩) es.toList 0 = some (some (2, v)) ∧ Leads w' 3 v ∧ Below w.heap.size w w'

set_option maxHeartbeats 4000000 in
set_option maxRecDepth 100000 in
theorem requests_fn (w : World) : Calls Tryz.prog 42 #[] w (MadeTable w) := by
  have hmm := @run_makeMap Tryz.prog
  have T := Lib.hid (⟨blk_new w _, below_alloc (Below.refl w.heap.size w) _, Nat.le_refl _⟩ : Tab w w.heap.size #[] 0 (w.alloc (.map #[] 0)))
  go_enter Tryz.func42, Tryz.ntmps42
  go_wp2_with fail
  refine (event_any _ _ _).mono ?_
  rintro e w0 ⟨b0, rfl, hb⟩
  have T1 := Lib.hid (T.out.step hb)
  clear T
  have T := T1
  clear T1
  clear hb
  obtain ⟨u0, hr, hp⟩ := run_put T.out.heap ⟨#[111, 112, 101, 110]⟩ (.agg #[.int .i64 3, .bool true, .func (.func 73) #[] #[.pointer (some ⟨b0, 0, none⟩)]]) rfl
  have T1 := Lib.hid (T.out.put hp)
  clear T
  have T := T1
  clear T1 hp
  go_wp2_with fail
  clear hr
  go_wp2_with fail
  refine (event_any _ _ _).mono ?_
  rintro e w1 ⟨b1, rfl, hb⟩
  have T1 := Lib.hid (T.out.step hb)
  clear T
  have T := T1
  clear T1
  clear hb
  obtain ⟨u1, hr, hp⟩ := run_put T.out.heap ⟨#[101, 100, 105, 116]⟩ (.agg #[.int .i64 4, .bool true, .func (.func 73) #[] #[.pointer (some ⟨b1, 0, none⟩)]]) rfl
  have T1 := Lib.hid (T.out.put hp)
  clear T
  have T := T1
  clear T1 hp
  go_wp2_with fail
  clear hr
  go_wp2_with fail
  refine (simple_any 3 _).mono ?_
  rintro e w2 ⟨v2, rfl, hl, hb⟩
  have T1 := Lib.hid (T.out.step hb)
  clear T
  have T := T1
  clear T1
  have L := Lib.hid hl
  clear hl hb
  obtain ⟨u2, hr, hp⟩ := run_put T.out.heap ⟨#[117, 110, 100, 111]⟩ v2 rfl
  have T1 := Lib.hid (T.out.put hp)
  have L1 := Lib.hid (L.out.put T.out.heap hp)
  clear L
  have L := L1
  clear L1
  clear T
  have T := T1
  clear T1 hp
  go_wp2_with fail
  clear hr
  go_wp2_with fail
  refine (simple_any 4 _).mono ?_
  rintro e w3 ⟨v3, rfl, hl, hb⟩
  have T1 := Lib.hid (T.out.step hb)
  clear T
  have T := T1
  clear T1
  have L1 := Lib.hid (L.out.step hb)
  clear L
  have L := L1
  clear L1
  clear hl hb
  obtain ⟨u3, hr, hp⟩ := run_put T.out.heap ⟨#[114, 101, 100, 111]⟩ v3 rfl
  have T1 := Lib.hid (T.out.put hp)
  have L1 := Lib.hid (L.out.put T.out.heap hp)
  clear L
  have L := L1
  clear L1
  clear T
  have T := T1
  clear T1 hp
  go_wp2_with fail
  clear hr
  go_wp2_with fail
  refine (simple_any 7 _).mono ?_
  rintro e w4 ⟨v4, rfl, hl, hb⟩
  have T1 := Lib.hid (T.out.step hb)
  clear T
  have T := T1
  clear T1
  have L1 := Lib.hid (L.out.step hb)
  clear L
  have L := L1
  clear L1
  clear hl hb
  obtain ⟨u4, hr, hp⟩ := run_put T.out.heap ⟨#[99, 108, 111, 115, 101]⟩ v4 rfl
  have T1 := Lib.hid (T.out.put hp)
  have L1 := Lib.hid (L.out.put T.out.heap hp)
  clear L
  have L := L1
  clear L1
  clear T
  have T := T1
  clear T1 hp
  go_wp2_with fail
  clear hr
  go_wp2_with fail
  refine (event_any _ _ _).mono ?_
  rintro e w5 ⟨b5, rfl, hb⟩
  have T1 := Lib.hid (T.out.step hb)
  clear T
  have T := T1
  clear T1
  have L1 := Lib.hid (L.out.step hb)
  clear L
  have L := L1
  clear L1
  clear hb
  obtain ⟨u5, hr5, hp⟩ := run_put T.out.heap ⟨#[115, 119, 97, 112]⟩ (.agg #[.int .i64 2, .bool false, .func (.func 73) #[] #[.pointer (some ⟨b5, 0, none⟩)]]) rfl
  have T1 := Lib.hid (T.out.put hp)
  have L1 := Lib.hid (L.out.put T.out.heap hp)
  clear L
  have L := L1
  clear L1
  clear T
  have T := T1
  clear T1 hp
  obtain ⟨u6, hr6, hp⟩ := run_put T.out.heap ⟨#[114, 101, 112, 111, 114, 116]⟩ (.agg #[.int .i64 1, .bool false, .func (.func 57) #[] #[]]) rfl
  have T1 := Lib.hid (T.out.put hp)
  have L1 := Lib.hid (L.out.put T.out.heap hp)
  clear L
  have L := L1
  clear L1
  clear T
  have T := T1
  clear T1 hp
  obtain ⟨u7, hr7, hp⟩ := run_put T.out.heap ⟨#[100, 111, 99, 117, 109, 101, 110, 116, 115]⟩ (.agg #[.int .i64 0, .bool false, .func (.func 60) #[] #[]]) rfl
  have T1 := Lib.hid (T.out.put hp)
  have L1 := Lib.hid (L.out.put T.out.heap hp)
  clear L
  have L := L1
  clear L1
  clear T
  have T := T1
  clear T1 hp
  go_wp2_with fail
  go_ret
  exact ⟨w.heap.size, _, _, v2, rfl, T.out.heap, rfl, L.out, T.out.low⟩
end Go.Proofs.YtanpkbglfhdjfaaGreatDoor

namespace Go.Proofs.YtanpkbglfhdjfaaGreatDoor
open Go.RowKit Go.Proofs.YtanpkbglfhdjfaaGreatDoorW.PrintWords Go.Proofs.YtanpkbglfhdjfaaGreatDoorW.PrintLast Go.Proofs.YtanpkbglfhdjfaaGreatDoorW.PrintMore

set_option maxHeartbeats 1000000 in
set_option maxRecDepth 100000 in
theorem undo_event (b0 g c : Nat) (w : World) (h0 : w.cell? ⟨b0, 0, none⟩ = some (.int .i64 3)) (hg : w.cell? ⟨g, 0, none⟩ = some (.int .i64 0)) (l0 : b0 < w.heap.size) (lg : g < w.heap.size) :
    Calls Tryz.prog 53 #[.slice (some ⟨g, 0, none⟩) 1 c, .string ⟨#[]⟩, .pointer (some ⟨b0, 0, none⟩)] w fun e w' => e = .returned (.agg evCells) ∧ Below w.heap.size w w' := by
  have n0 : b0 ≠ w.heap.size := by omega
  have ng : g ≠ w.heap.size := by omega
  unfold evCells
  go_enter Tryz.func53, Tryz.ntmps53
  go_wp2
  go_region_held3 (fun w' => w'.cell? ⟨b0, 0, none⟩ = some (.int .i64 3) ∧ w'.cell? ⟨g, 0, none⟩ = some (.int .i64 0)) (go_keep) (fail)
  go_wp2
  exact bodyPost_ret (v := .agg #[.int .i64 3, .int .i64 0, .int .i64 0, .int .i64 0, .int .i64 0, .string ⟨#[]⟩, .string ⟨#[]⟩]) (by simp [results, Tryz.results53, go_sem]) rfl ⟨rfl, below_drew1 (below_alloc (Below.refl _ _) _)⟩

/-- What the entry's function leaves: some arguments, and the error. -/
def Fails15 (w : World) (e : Ending) (w' : World) : Prop := ∃ v : Value, e = .returned (.tuple #[v, .int .i64 15]) ∧ Below w.heap.size w w'

set_option maxHeartbeats 1000000 in
set_option maxRecDepth 100000 in
theorem undo_serve (b b0 b2 g c : Nat) (w : World) (hE : Env w) (hb : w.heap[b]? = some (.cells wsCells 57)) (h2 : w.heap[b2]? = some (.cells #[.func (.func 53) #[] #[.pointer (some ⟨b0, 0, none⟩)]] 96 (0, 0)))
    (h0 : w.heap[b0]? = some (.cells #[.int .i64 3] 3 (0, 0))) (hg : w.cell? ⟨g, 0, none⟩ = some (.int .i64 0)) (lg : g < w.heap.size) :
    Calls Tryz.prog 73 #[.pointer (some ⟨b, 0, none⟩), .slice (some ⟨g, 0, none⟩) 1 c, .string ⟨#[]⟩, .pointer (some ⟨b2, 0, none⟩)] w (Fails15 w) := by
  have c2 : w.cell? ⟨b2, 0, none⟩ = some (.func (.func 53) #[] #[.pointer (some ⟨b0, 0, none⟩)]) := (blk_cell h2 0).trans rfl
  have C1 := Lib.hid (undo_event b0 g c w ((blk_cell h0 0).trans rfl) hg (blk_lt h0) lg)
  have HB := Lib.hid hb
  have HE := Lib.hid hE
  clear hb h2 h0 hg hE lg
  go_enter Tryz.func73, Tryz.ntmps73
  go_wp2_with fail
  refine C1.out.mono ?_
  rintro e w1 ⟨rfl, hb1⟩
  have L1 := Lib.hid hb1
  clear hb1 C1
  go_wp2_with fail
  refine (do_undo b w1 (blk_below HB.out L1.out)).mono ?_
  rintro e w2 ⟨rfl, hb2⟩
  have L2 := Lib.hid (below_step L1.out hb2)
  clear hb2 L1
  go_wp2_with fail
  refine (report_fails _ (HE.out.of (below_alloc L2.out _))).mono ?_
  rintro e w3 ⟨v, rfl, hb3⟩
  have L3 := Lib.hid (below_step (below_alloc L2.out _) hb3)
  clear hb3 L2
  go_wp2_with fail
  go_ret2
  exact ⟨v, rfl, L3.out⟩

theorem run_look {w : World} {b : Nat} {es : Array MapEntry} {c : Nat} (hb : w.heap[b]? = some (.map es c)) {key : ByteArray} {i : Nat} {v : Value}
    (hf : Instr.findNow .string (.string key) es.toList 0 = some (some (i, v))) :
    (Instr.lookup 88 (.map (some b)) (.string key) true).run Tryz.prog w = .ok (.tuple #[v, .bool true]) w := by
  simp [Instr.lookup, run_underlying Tryz.underlying88, MapKept.run_getObj_map hb, MapKept.run_checkKey (k := .string key) Tryz.underlying9 trivial, MapKept.run_findKey Tryz.underlying9 hf, Result.andThen]

theorem dec_zero : protocol_decimal.f ⟨#[48]⟩ = some (0, true) := by decide +kernel

/-- The copy, the entry and what it leads to. -/
structure Held (w : World) (cs : Array Value) (q b0 b2 : Nat) (W : World) : Prop where
  good : Good w 24 cs W
  hq : W.heap[q]? = some (.cells #[.int .i64 1, .bool false, .func (.func 73) #[] #[.pointer (some ⟨b2, 0, none⟩)]] 86 (0, 0))
  h2 : W.heap[b2]? = some (.cells #[.func (.func 53) #[] #[.pointer (some ⟨b0, 0, none⟩)]] 96 (0, 0))
  h0 : W.heap[b0]? = some (.cells #[.int .i64 3] 3 (0, 0))
theorem Held.step {w W W1 : World} {cs : Array Value} {q b0 b2 : Nat} (h : Held w cs q b0 b2 W) (hb : Below W.heap.size W W1) : Held w cs q b0 b2 W1 :=
  ⟨h.good.step hb, blk_below h.hq hb, blk_below h.h2 hb, blk_below h.h0 hb⟩
/-- The numbers that have been read: none, or one. -/
def Nums (s i : Value) (W : World) : Prop := (i = .int .i64 0 ∧ s = .slice none 0 0) ∨
  ∃ g c : Nat, g < W.heap.size ∧ i = .int .i64 1 ∧ s = .slice (some ⟨g, 0, none⟩) 1 c ∧ W.cell? ⟨g, 0, none⟩ = some (.int .i64 0)
theorem aw_info3 : (Tryz.prog.info? 3).map (fun i => (i.zero, i.size, i.bytes)) = some (some (.int .i64 0), 1, 8) := by kernel_rfl

/-- What the entry's look-up leaves. -/
def Looked (w : World) (cs : Array Value) (s6 s7 : Value) (W : World) : Prop := ∃ q b0 b2 : Nat, s6 = .pointer (some ⟨q, 0, none⟩) ∧ s7 = .bool true ∧ Good w 24 cs W ∧
  W.heap[q]? = some (.cells #[.int .i64 1, .bool false, .func (.func 73) #[] #[.pointer (some ⟨b2, 0, none⟩)]] 86 (0, 0)) ∧
  W.heap[b2]? = some (.cells #[.func (.func 53) #[] #[.pointer (some ⟨b0, 0, none⟩)]] 96 (0, 0)) ∧ W.heap[b0]? = some (.cells #[.int .i64 3] 3 (0, 0))

theorem Looked.new {w W : World} {cs : Array Value} {b0 b2 : Nat} (g : Good w 24 cs W) (h2 : W.heap[b2]? = some (.cells #[.func (.func 53) #[] #[.pointer (some ⟨b0, 0, none⟩)]] 96 (0, 0))) (h0 : W.heap[b0]? = some (.cells #[.int .i64 3] 3 (0, 0))) :
    Looked w cs (.pointer (some ⟨W.heap.size, 0, none⟩)) (.bool true) (W.alloc (.cells #[.int .i64 1, .bool false, .func (.func 73) #[] #[.pointer (some ⟨b2, 0, none⟩)]] 86)) :=
  ⟨_, b0, b2, rfl, rfl, g.step (below_alloc (Below.refl _ _) _), blk_new _ _, blk_alloc h2 _, blk_alloc h0 _⟩

theorem Looked.old {w W : World} {cs : Array Value} {b0 b2 : Nat} (hE : Env w) (g : Good w 24 cs W) (h2 : W.heap[b2]? = some (.cells #[.func (.func 53) #[] #[.pointer (some ⟨b0, 0, none⟩)]] 96 (0, 0))) (h0 : W.heap[b0]? = some (.cells #[.int .i64 3] 3 (0, 0)))
    (hn : W.heap[w.heap.size + 1]? = some (.cells #[.int .i64 0, .bool false, .nilFunc] 86 (0, 0))) :
    Looked w cs (.pointer (some ⟨w.heap.size + 1, 0, none⟩)) (.bool true) (((W.setCell ⟨w.heap.size + 1, 0, none⟩ (.int .i64 1)).setCell ⟨w.heap.size + 1, 1, none⟩ (.bool false)).setCell ⟨w.heap.size + 1, 2, none⟩ (.func (.func 73) #[] #[.pointer (some ⟨b2, 0, none⟩)])) := by
  have n2 : b2 ≠ w.heap.size + 1 := by rintro rfl; rw [hn] at h2; cases h2
  have n0 : b0 ≠ w.heap.size + 1 := by rintro rfl; rw [hn] at h0; cases h0
  have hl := below_set (j := 2) (v := .func (.func 73) #[] #[.pointer (some ⟨b2, 0, none⟩)]) (below_set (j := 1) (v := .bool false) (below_set (j := 0) (v := .int .i64 1) g.low (g := w.heap.size + 1) (by omega)) (by omega) (g := w.heap.size + 1)) (by omega) (g := w.heap.size + 1)
  exact ⟨_, b0, b2, rfl, rfl, ⟨hE.of hl, hl, blk_far (blk_far (blk_far g.box (by show w.heap.size ≠ w.heap.size + 1; omega) _) (by show w.heap.size ≠ w.heap.size + 1; omega) _) (by show w.heap.size ≠ w.heap.size + 1; omega) _⟩,
    blk_three hn _ _ _, blk_far (blk_far (blk_far h2 n2 _) n2 _) n2 _, blk_far (blk_far (blk_far h0 n0 _) n0 _) n0 _⟩

set_option maxHeartbeats 2000000 in
set_option maxRecDepth 100000 in
theorem run_undo (b ga : Nat) (w : World) (hE : Env w) (hb : w.heap[b]? = some (.cells wsCells 57)) (ha : w.heap[ga]? = some (.cells #[.string ⟨#[48]⟩] 9 (0, 0))) :
    Calls Tryz.prog 29 #[.pointer (some ⟨b, 0, none⟩), .agg #[.int .i64 7, .string ⟨#[117, 110, 100, 111]⟩, .slice (some ⟨ga, 0, none⟩) 1 1]] w (Fails15 w) := by
  have G0 := (Good.start hE 24 #[.int .i64 7, .string ⟨#[117, 110, 100, 111]⟩, .slice (some ⟨ga, 0, none⟩) 1 1])
  have G := Lib.hid (G0.step (below_drew (Below.refl _ _)))
  have GA := Lib.hid (G0.step (below_drew (below_alloc (Below.refl _ _) (.cells #[.int .i64 0, .bool false, .nilFunc] 86))))
  have NA : Hid (((w.alloc (.cells #[.int .i64 7, .string ⟨#[117, 110, 100, 111]⟩, .slice (some ⟨ga, 0, none⟩) 1 1] 24)).alloc (.cells #[.int .i64 0, .bool false, .nilFunc] 86)).drew.heap[w.heap.size + 1]? = some (.cells #[.int .i64 0, .bool false, .nilFunc] 86 (0, 0))) := by
    have := blk_new (w.alloc (.cells #[.int .i64 7, .string ⟨#[117, 110, 100, 111]⟩, .slice (some ⟨ga, 0, none⟩) 1 1] 24)) (.cells #[.int .i64 0, .bool false, .nilFunc] 86)
    show _ = _
    refine blk_drew ?_
    simpa using this
  have HB := Lib.hid hb
  have HA := Lib.hid ha
  have HE := Lib.hid hE
  clear hb ha hE G0
  go_enter Tryz.func29, Tryz.ntmps29
  go_upto_region 3 with fail
  go_cut [6, 7] (fun s6 s7 wx => Looked w #[.int .i64 7, .string ⟨#[117, 110, 100, 111]⟩, .slice (some ⟨ga, 0, none⟩) 1 1] s6 s7 wx)
  case first =>
    go_region_held3 (fun w' => w'.cell? ⟨w.heap.size, 1, none⟩ = some (.string ⟨#[117, 110, 100, 111]⟩)) (first | go_keep | exact ((G.out.cell 1).trans rfl) | exact ((GA.out.cell 1).trans rfl) | exact ((blk_cell (blk_alloc G.out.box _) 1).trans rfl))
      (first | (go_at_call 42; refine (requests_fn _).mono ?_; rintro e w1 ⟨r, es, c, v, rfl, hm, hf, hl, hb1⟩; (first | (have G1 := Lib.hid (G.out.step hb1)) | (have G1 := Lib.hid (GA.out.step hb1); have N1 := blk_below NA.out hb1; have s0 := blk_cell N1 0; have s1 := blk_cell N1 1; have s2 := blk_cell N1 2; have s3 := blk_frozen N1; simp at s0 s1 s2; have N2 := Lib.hid N1; clear N1)); clear G GA NA; have G := G1; clear G1; obtain ⟨b0, b2, rfl, h2, h0⟩ := hl; have hlook := run_look hm hf; have hlook2 := run_look (blk_alloc hm (.cells #[.int .i64 0, .bool false, .nilFunc] 86)) hf; have H2 := Lib.hid h2; have H0 := Lib.hid h0; clear hm hf h2 h0 hb1))
    all_goals go_wp2_with fail
    all_goals go_meet
    all_goals first | exact Looked.new G.out H2.out H0.out | exact Looked.old HE.out G.out H2.out H0.out N2.out
  case rest =>
    obtain ⟨q, b0, b2, rfl, rfl, hG, hq, h2, h0⟩ := hcut
    have k1 : wc.cell? ⟨w.heap.size, 1, none⟩ = some (.string ⟨#[117, 110, 100, 111]⟩) := (hG.cell 1).trans rfl
    have k2 : wc.cell? ⟨w.heap.size, 2, none⟩ = some (.slice (some ⟨ga, 0, none⟩) 1 1) := (hG.cell 2).trans rfl
    have q0 : wc.cell? ⟨q, 0, none⟩ = some (.int .i64 1) := (blk_cell hq 0).trans rfl
    have q1 : wc.cell? ⟨q, 1, none⟩ = some (.bool false) := (blk_cell hq 1).trans rfl
    have HH := Lib.hid (⟨hG, hq, h2, h0⟩ : Held w #[.int .i64 7, .string ⟨#[117, 110, 100, 111]⟩, .slice (some ⟨ga, 0, none⟩) 1 1] q b0 b2 wc)
    clear hG hq h2 h0 G GA NA
    go_wp2
    clear k1 k2 q0 q1
    go_loopw [10, 51] (fun s i wr => Hid (Nums s i wr) ∧ Hid (Held w #[.int .i64 7, .string ⟨#[117, 110, 100, 111]⟩, .slice (some ⟨ga, 0, none⟩) 1 1] q b0 b2 wr)) (fun _ i _ => 1 - (intOf i).toNat)
    case atStart => exact ⟨.inl ⟨rfl, rfl⟩, HH⟩
    case round =>
      clear HH
      obtain ⟨hn, hh⟩ := hrel
      rcases hn.out with ⟨rfl, rfl⟩ | ⟨g, c, hlt, rfl, rfl, hgc⟩
      · have ca : wr.cell? ⟨ga, 0, none⟩ = some (.string ⟨#[48]⟩) := (blk_cell (blk_below HA.out hh.out.good.low) 0).trans rfl
        have C1 := Lib.hid (protocol_decimal.calls ⟨#[48]⟩ 0 true wr dec_zero hh.out.good.env)
        clear hn
        go_wp2_with fail
        refine C1.out.mono ?_
        rintro e w2 ⟨rfl, hb2⟩
        have hh2 := Lib.hid (hh.out.step hb2)
        clear hb2 hh C1 ca
        obtain ⟨i0, hi, hz0, hz1, hz2⟩ := info_parts aw_info3
        go_wp2_with (at_builtin; refine wpList_append_own _ rfl _ _ 90 rfl w.heap.size 3 i0 (.int .i64 0) 1 8 Tryz.underlying90 hi hz0 hz1 hz2 rfl (by decide) _ _ _ rfl ((World.ownsRow_nil w2 w.heap.size 3 1).alloc _) ⟨w2.heap.size, 0, none⟩ 1 1 [.int .i64 0] rfl rfl ?c1 ?c2 ?c3 ?c4 ?c5 ?_)
        case c1 => exact cell_one_new _ _ _
        case c2 => simp [Value.oneCell']
        case c3 => unfold maxLen; omega
        case c4 => omega
        case c5 => exact Nat.le_trans hh2.out.good.low.size (by simp)
        intro v' w3 hown hgrow _
        have hl3 : Below w2.heap.size w2 w3 := Below.grown (below_alloc (Below.refl _ _) _) hgrow (by simp) (fun k hk => by simp [Value.ownBlock] at hk)
        have hh3 := Lib.hid (hh2.out.step hl3)
        obtain ⟨g, cap, hv, hg, hgc⟩ : ∃ g cap, v' = .slice (some ⟨g, 0, none⟩) 1 cap ∧ g < w3.heap.size ∧ w3.cell? ⟨g, 0, none⟩ = some (.int .i64 0) := by
          rcases hown.2 with ⟨_, h⟩ | ⟨g, cap, cur, rfl, _, hb, _⟩
          · cases h
          · exact ⟨g, cap, rfl, blk_lt hb, (hown.cellAt 0 (by omega)).trans rfl⟩
        have hn3 := Lib.hid (show Nums v' (.int .i64 1) w3 from .inr ⟨g, cap, hg, rfl, hv, hgc⟩)
        rw [hv] at hn3 ⊢
        clear hl3 hh2 hgrow hown hgc hg hi hz0 hz1 hz2
        clear hv
        go_wp2
        go_roundw
        case rel => exact ⟨hn3, hh3⟩
        case measure => simp [intOf]
      · have q2 : wr.cell? ⟨q, 2, none⟩ = some (.func (.func 73) #[] #[.pointer (some ⟨b2, 0, none⟩)]) := (blk_cell hh.out.hq 2).trans rfl
        have C1 := Lib.hid (undo_serve b b0 b2 g c wr hh.out.good.env (blk_below HB.out hh.out.good.low) hh.out.h2 hh.out.h0 hgc hlt)
        have HL := Lib.hid hh.out.good.low
        clear hn hh hgc hlt
        go_wp2_with fail
        refine C1.out.mono ?_
        rintro e w4 ⟨v, rfl, hb4⟩
        have HL4 := Lib.hid (below_step HL.out hb4)
        clear hb4 C1 HL
        go_wp2_with fail
        go_ret2
        exact ⟨v, rfl, HL4.out⟩
end Go.Proofs.YtanpkbglfhdjfaaGreatDoor

namespace Go.Proofs.YtanpkbglfhdjfaaGreatDoor
open Go.RowKit Go.Proofs.YtanpkbglfhdjfaaGreatDoorW.PrintWords Go.Proofs.YtanpkbglfhdjfaaGreatDoorW.PrintLast Go.Proofs.YtanpkbglfhdjfaaGreatDoorW.PrintMore

theorem itoa15 : Lib.itoa 15 = [49, 53] := by decide +kernel

set_option maxRecDepth 100000 in
theorem run_none (ga : Nat) (w : World) :
    Calls Tryz.prog 29 #[.pointer none, .agg #[.int .i64 7, .string ⟨#[117, 110, 100, 111]⟩, .slice (some ⟨ga, 0, none⟩) 1 1]] w (Fails15 w) := by
  go_enter Tryz.func29, Tryz.ntmps29
  go_wp2
  go_ret2
  exact ⟨_, rfl, below_alloc (Below.refl _ _) _⟩

theorem results_one {fn : Func} {p : Tmp} (h : fn.results = #[.cell p 24]) (tmps : Array Value) (w : World) (g : Nat) (a b c : Value) (fr : Nat × Nat)
    (hp : tmps.getD p undef = .pointer (some ⟨g, 0, none⟩)) (hg : w.heap[g]? = some (.cells #[a, b, c] 24 fr)) :
    (results fn tmps).run Tryz.prog w = .ok (.agg #[a, b, c]) w := by
  have hp' : tmps[p]?.getD undef = .pointer (some ⟨g, 0, none⟩) := by simpa using hp
  simp [results, h, hp', asAddr, run_loadVar_row w g 24 24 #[a, b, c] fr _ hg Tryz.underlying24 rfl (show (Tryz.prog.info? 24).map (·.size) = some 3 by kernel_rfl)]

/-- The response: an error with one argument, 15. -/
def Answer15 (w : World) (e : Ending) (w' : World) : Prop := ∃ g : Nat, e = .returned (.agg #[.int .i64 7, .string ⟨#[101, 114, 114, 111, 114]⟩, .slice (some ⟨g, 0, none⟩) 1 1]) ∧
  w'.heap[g]? = some (.cells #[.string ⟨#[49, 53]⟩] 9 (0, 0)) ∧ Below w.heap.size w w'

set_option maxHeartbeats 1000000 in
set_option maxRecDepth 100000 in
theorem serve_any (p : Option Addr) (ga : Nat) (w : World) (hE : Env w)
    (hC : ∀ W, Below w.heap.size w W → Calls Tryz.prog 29 #[.pointer p, .agg #[.int .i64 7, .string ⟨#[117, 110, 100, 111]⟩, .slice (some ⟨ga, 0, none⟩) 1 1]] W (Fails15 W)) :
    Calls Tryz.prog 17 #[.pointer p, .agg #[.int .i64 7, .string ⟨#[117, 110, 100, 111]⟩, .slice (some ⟨ga, 0, none⟩) 1 1]] w (Answer15 w) := by
  have HC := Lib.hid hC
  have HE := Lib.hid hE
  clear hC hE
  go_enter Tryz.func17, Tryz.ntmps17
  go_wp2_with fail
  refine (HC.out _ (below_alloc (below_alloc (Below.refl _ _) _) _)).mono ?_
  rintro e w1 ⟨v, rfl, hb1⟩
  have hB0 : w1.heap[w.heap.size]? = some (.cells #[.int .i64 7, .string ⟨#[117, 110, 100, 111]⟩, .slice (some ⟨ga, 0, none⟩) 1 1] 24 (0, 0)) := blk_below (blk_alloc (blk_new w _) _) hb1
  have hB1 : w1.heap[w.heap.size + 1]? = some (.cells #[.int .i64 0, .string ⟨#[]⟩, .slice none 0 0] 24 (0, 0)) := by
    have := blk_below (blk_new (w.alloc (.cells #[.int .i64 7, .string ⟨#[117, 110, 100, 111]⟩, .slice (some ⟨ga, 0, none⟩) 1 1] 24)) (.cells #[.int .i64 0, .string ⟨#[]⟩, .slice none 0 0] 24)) hb1
    simpa using this
  have HL := Lib.hid (below_step (below_alloc (below_alloc (Below.refl w.heap.size w) _) _) hb1)
  have k0 : w1.cell? ⟨w.heap.size, 0, none⟩ = some (.int .i64 7) := (blk_cell hB0 0).trans rfl
  have HB1 := Lib.hid hB1
  have HB0 := Lib.hid hB0
  have C15 := Lib.hid (strconv_Itoa.calls 15 ⟨#[49, 53]⟩ w1.drew (by unfold strconv_Itoa.f; rw [itoa15]; rfl) (HE.out.of (below_drew1 HL.out)))
  clear hb1 hB1 HC hB0
  go_wp2_with fail
  go_region_held3 (fun w' => w'.cell? ⟨w.heap.size, 0, none⟩ = some (.int .i64 7)) (go_keep)
    (first | (go_at_call 20; refine C15.out.mono ?_; rintro e w2 ⟨rfl, hb2⟩; have N2 := blk_below (blk_drew HB1.out) hb2; have HL2 := Lib.hid (below_step (below_drew1 HL.out) hb2); have HB2 := Lib.hid N2; have m0 := blk_cell (blk_below (blk_drew HB0.out) hb2) 0; simp at m0; have r0 := (blk_cell N2 0); have r1 := (blk_cell N2 1); have r2 := blk_cell N2 2; have f0 := blk_frozen N2; have hz := blk_lt N2; have hz2 : w.heap.size + 1 ≠ w2.heap.size := (by omega); simp at r0 r1 r2; clear hb2 N2 C15 HL))
  go_wp2
  refine bodyPost_ret (results_one rfl _ _ (w.heap.size + 1) (.int .i64 7) (.string ⟨#[101, 114, 114, 111, 114]⟩) (.slice (some ⟨w2.heap.size, 0, none⟩) 1 1) (0, 0) rfl (by exact blk_alloc (blk_three HB2.out _ _ _) _)) rfl ?_
  refine ⟨w2.heap.size, rfl, ?_, below_alloc (below_set (below_set (below_set HL2.out (by omega)) (by omega)) (by omega)) _⟩
  have := blk_new (((w2.setCell ⟨w.heap.size + 1, 0, none⟩ (.int .i64 7)).setCell ⟨w.heap.size + 1, 1, none⟩ (.string ⟨#[101, 114, 114, 111, 114]⟩)).setCell ⟨w.heap.size + 1, 2, none⟩ (.slice (some ⟨w2.heap.size, 0, none⟩) 1 1)) (.cells #[.string ⟨#[49, 53]⟩] 9)
  simpa [World.setCell] using this
end Go.Proofs.YtanpkbglfhdjfaaGreatDoor
