/- A list of messages among the arguments, opened, with the sizes that the form's own reach gives. -/
import Derived.Test.YtanpkbglfhdjfaaGreatDoorRowD
import Derived.Test.YtanpkbglfhdjfaaGreatDoorQLStreamx0
import Derived.DataReads
namespace Go.Proofs.YtanpkbglfhdjfaaGreatDoor.RowA
open Go.ChangeShapes Go.WideShapes Go.ChangeAt Go.RowKit
open Go.Proofs.YtanpkbglfhdjfaaGreatDoor Go.Proofs.YtanpkbglfhdjfaaGreatDoor.QLStream Go.Proofs.YtanpkbglfhdjfaaGreatDoorW.PrintWords

def okMsg (m : S24) : Prop := (Lit.int .i64 m.f0).wf = true ∧ m.f1.size ≤ reachBytes ∧ ∀ s ∈ m.f2, s.size ≤ reachBytes

section
variable {H : Type} {enc : TypeId × Value → H} {w : World} {base : Nat} {spare : Nat → Bool} {held : Bool}

theorem each_msg {n : Nat} {cs : List Value} {x : DataW H × List MemPlace} (h : DataW.trod enc Tryz.prog w base spare held n 24 cs = some x) (wt : ∀ k ∈ x.1.weights Tryz.prog 24, k ≤ reachBytes) :
    ∃ m : S24, k24.K w m cs ∧ okMsg m := by
  obtain ⟨a, b, A, c, l, rfl, hc, hC, hw, hb, hs, _⟩ := open_msg h wt
  exact ⟨⟨a, b, l⟩, k24_mk w ⟨a, b, l⟩ hc hC, hw, hb, hs⟩

theorem open_msgs {fuel : Nat} {A : Option Addr} {len c : Nat} {x : DataW H × List MemPlace} (h : DataW.trod enc Tryz.prog w base spare held fuel 37 [.slice A len c] = some x) (wt : ∀ k ∈ x.1.weights Tryz.prog 37, k ≤ reachBytes) :
    ∃ l : List S24, len = l.length ∧ l.length ≤ c ∧ Kd.C k24 w A l.length l ∧ ∀ m ∈ l, okMsg m := by
  rcases DataW.trod_slice Tryz.underlying37 h with ⟨e, rfl⟩ | ⟨a, len', cap, elems, rest, n, _, e, rfl, _, hl, hm, hlen, hel, _, _⟩
  · simp only [List.cons.injEq, Value.slice.injEq, and_true] at e
    obtain ⟨rfl, rfl, rfl⟩ := e
    exact ⟨[], rfl, Nat.le_refl _, ⟨rfl, by decide, fun h => absurd h (by decide)⟩, by simp⟩
  · simp only [List.cons.injEq, Value.slice.injEq, and_true] at e
    obtain ⟨rfl, rfl, rfl⟩ := e
    rw [cells24] at hel
    have wtE : ∀ y ∈ elems, ∀ k ∈ y.1.weights Tryz.prog 24, k ≤ reachBytes := by
      intro y hy k hk
      refine wt k ?_
      simp only [DataW.weights, Tryz.underlying37, List.mem_cons, List.mem_append]
      exact .inr (.inl (weightsAll_mem (List.mem_map.2 ⟨y, hy, rfl⟩) k hk))
    -- each element, opened
    have each : ∀ i, i < len → ∃ (m : S24) (cs : List Value), k24.K w m cs ∧ okMsg m ∧ w.cells? base (a.add (i * 3)) 3 = some cs := by
      intro i hi
      have hy : elems[i]? = some (elems[i]'(by omega)) := List.getElem?_eq_getElem (by omega)
      have h1 := hel i hi
      rw [hy, Option.bind_eq_some_iff] at h1
      obtain ⟨cs, h2, h3⟩ := h1
      obtain ⟨m, hK, hO⟩ := each_msg h3 (wtE _ (List.getElem_mem _))
      exact ⟨m, cs, hK, hO, h2⟩
    have pick : ∃ g : Nat → S24, ∀ i, i < len → ∃ cs : List Value, k24.K w (g i) cs ∧ okMsg (g i) ∧ w.cells? base (a.add (i * 3)) 3 = some cs := by
      refine ⟨fun i => if hi : i < len then Classical.choose (each i hi) else z24, fun i hi => ?_⟩
      simp only [dif_pos hi]
      exact Classical.choose_spec (each i hi)
    obtain ⟨g, hg⟩ := pick
    refine ⟨(List.range len).map g, by simp, by simpa using hl, ⟨rfl, ?_, fun _ => ⟨a, rfl, fun j p hp => ?_⟩⟩, ?_⟩
    · have : maxLen = 9223372036854775807 := by decide
      simp
      omega
    · rw [List.getElem?_map] at hp
      have hj : j < len := by
        rcases Nat.lt_or_ge j len with h' | h'
        · exact h'
        · rw [List.getElem?_eq_none (by simpa using h')] at hp
          cases hp
      rw [List.getElem?_range hj] at hp
      simp only [Option.map_some, Option.some.injEq] at hp
      subst hp
      obtain ⟨cs, hK, _, hcs⟩ := hg j hj
      refine ⟨cs, k24.K_len hK, hK, fun i u hu => ?_⟩
      obtain ⟨_, hcl, hget⟩ := World.cells?_some hcs
      have hi : i < 3 := by
        have := (List.getElem?_eq_some_iff.1 hu).1
        omega
      have := hget i hi
      rw [hu] at this
      rw [show k24.sz = 3 from rfl, ← add_add]
      exact this
    · intro m hm
      obtain ⟨i, hi, rfl⟩ := List.mem_map.1 hm
      obtain ⟨_, _, hO, _⟩ := hg i (List.mem_range.1 hi)
      exact hO
end
end Go.Proofs.YtanpkbglfhdjfaaGreatDoor.RowA
