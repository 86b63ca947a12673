/- Slices of numbers: how the laws copy them and look whether they are as they were; up to a million numbers. -/
import Derived.Test.YtjfabhkgmelmgaaW6
import Derived.Test.YtjfabhkgmelmgaaA1
import Derived.Laws.OwnMore
import Derived.StillTailTactics
namespace Go.Proofs.Ytjfabhkgmelmgaa
open Go.RowKit
set_option linter.unusedSimpArgs false
set_option linter.unusedVariables false
set_option maxRecDepth 100000

/-- A slice whose numbers can be read. -/
def SlI (w : World) (v : Value) (zs : List Int) : Prop := ∃ a cap, v = .slice a zs.length cap ∧ zs.length ≤ cap ∧ (zs = [] ∨ ∃ b off, a = some ⟨b, off, none⟩ ∧ b < w.heap.size ∧ Rd w b off zs)
theorem SlI.below {w w' : World} {v : Value} {zs : List Int} (h : SlI w v zs) (hb : Below w.heap.size w w') : SlI w' v zs := by
  obtain ⟨a, cap, rfl, hc, h⟩ := h
  refine ⟨a, cap, rfl, hc, ?_⟩
  rcases h with h | ⟨b, off, rfl, hl, hr⟩
  · exact .inl h
  · exact .inr ⟨b, off, rfl, Nat.lt_of_lt_of_le hl hb.size, fun i x hi => keepC hb (hr i x hi)⟩
def room (n : Nat) : Nat := if n % 6 = 5 then 0 else if n % 3 = 0 then 1 else n
theorem room_le (n : Nat) : room n ≤ n + 1 := by unfold room; split; omega; split <;> omega
def magic : Int := -7000000000000000101
/-- A copy: behind its numbers there is room, filled with one number. -/
def CopyI (w : World) (base : Nat) (v : Value) (zs : List Int) : Prop :=
  ∃ g, v = .slice (some ⟨g, 0, none⟩) zs.length (zs.length + room zs.length) ∧ base ≤ g ∧ g < w.heap.size ∧ Rd w g 0 (zs ++ List.replicate (room zs.length) magic) ∧ ∀ i, w.frozen? ⟨g, i, none⟩ = false
theorem CopyI.below {w w' : World} {base : Nat} {v : Value} {zs : List Int} (h : CopyI w base v zs) (hb : Below w.heap.size w w') : CopyI w' base v zs := by
  obtain ⟨g, rfl, h1, h2, h3, h4⟩ := h
  obtain ⟨hc, hf⟩ := bcell hb
  exact ⟨g, rfl, h1, Nat.lt_of_lt_of_le h2 hb.size, fun i x hi => keepC hb (h3 i x hi), fun i => by rw [hf g i h2]; exact h4 i⟩
theorem CopyI.sl {w : World} {base : Nat} {v : Value} {zs : List Int} (h : CopyI w base v zs) : SlI w v zs := by
  obtain ⟨g, rfl, h1, h2, h3, h4⟩ := h
  refine ⟨_, _, rfl, by omega, ?_⟩
  by_cases hz : zs = []
  · exact .inl hz
  · exact .inr ⟨g, 0, rfl, h2, fun i x hi => h3 i x (by rw [List.getElem?_append_left (List.getElem?_eq_some_iff.1 hi).1]; exact hi)⟩
theorem OwnI.one {w : World} {base : Nat} {v : Value} {zs : List Int} : OwnI w base v zs ↔ OwnA 2 1 w base v (zs.map fun z => [z]) := by
  unfold OwnI OwnA
  have h1 : ∀ r ∈ zs.map (fun z => [z]), r.length = 1 := by intro r hr; rw [List.mem_map] at hr; obtain ⟨z, _, rfl⟩ := hr; rfl
  have h2 : cellsA (zs.map fun z => [z]) = zs.map (Value.int .i64) := by
    unfold cellsA
    congr 1
    induction zs with
    | nil => rfl
    | cons z zs ih => simp at ih ⊢; exact ih
  rw [h2, List.length_map]
  exact ⟨fun h => ⟨h1, h⟩, fun h => h.2⟩
theorem OwnI.set {w : World} {base g len cap : Nat} {zs : List Int} (h : OwnI w base (.slice (some ⟨g, 0, none⟩) len cap) zs) {i : Nat} (x : Int) (hi : i < zs.length) :
    OwnI (w.setCell ⟨g, i, none⟩ (.int .i64 x)) base (.slice (some ⟨g, 0, none⟩) len cap) (zs.set i x) := by
  rw [OwnI.one] at h ⊢
  have := h.set (i := i) (j := 0) x (by simpa using hi) (by omega)
  simpa [List.map_set] using this
theorem OwnI.at_ {w : World} {base g len cap : Nat} {zs : List Int} (h : OwnI w base (.slice (some ⟨g, 0, none⟩) len cap) zs) :
    base ≤ g ∧ g < w.heap.size ∧ Rd w g 0 zs ∧ (∀ j, w.frozen? ⟨g, j, none⟩ = false) ∧ zs.length = len := by
  rw [OwnI.one] at h
  obtain ⟨h1, h2, h3, h4, h5, h6⟩ := h.at_
  refine ⟨h1, h2, ?_, h4, by simpa using h6.out⟩
  intro i x hi
  have := h3 i [x] (by rw [List.getElem?_map, hi]; rfl) 0 x rfl
  simpa using this
set_option maxHeartbeats 400000 in
theorem roomBehind_any (n : Nat) (w : World) (h : n ≤ 1000000) : Calls Try.prog 59 #[.int .i64 (n : Int)] w fun e w' => e = .returned (.int .i64 ((room n : Nat) : Int)) ∧ w = w' := by
  have t6 : ((n : Int).tmod 6) = ((n % 6 : Nat) : Int) := by rw [Int.tmod_eq_emod_of_nonneg (by omega)]; omega
  have t3 : ((n : Int).tmod 3) = ((n % 3 : Nat) : Int) := by rw [Int.tmod_eq_emod_of_nonneg (by omega)]; omega
  have hE : Hid (room n = if n % 6 = 5 then 0 else if n % 3 = 0 then 1 else n) := rfl
  generalize room n = r at *
  generalize n % 6 = a at *
  generalize n % 3 = b at *
  by_cases h6 : a = 5
  · subst h6
    have hE : r = 0 := by rw [hE.out]; rfl
    subst hE
    go_enter Try.func59, Try.ntmps59
    go_wp2
    go_returns
    exact ⟨rfl, rfl⟩
  · have h6' : ((a : Int) == 5) = false := by simpa using (by omega : ¬ (a : Int) = 5)
    have h6'' : ¬ (a : Int) = 5 := by omega
    by_cases h3 : b = 0
    · subst h3
      have hE : r = 1 := by rw [hE.out, if_neg h6]; rfl
      subst hE
      go_enter Try.func59, Try.ntmps59
      go_wp2
      go_returns
      exact ⟨rfl, rfl⟩
    · have h3'' : ¬ (b : Int) = 0 := by omega
      have hE : r = n := by rw [hE.out, if_neg h6, if_neg h3]
      subst hE
      go_enter Try.func59, Try.ntmps59
      go_wp2
      go_returns
      exact ⟨rfl, rfl⟩
end Go.Proofs.Ytjfabhkgmelmgaa
