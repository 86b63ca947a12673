/- Searches and filters over plain lists; a cell that was there is kept behind a call that makes memory; no condition. -/
import Derived.Test.YtjfabhkgmelmgaaB
namespace Go.Proofs.Ytjfabhkgmelmgaa
open Go.RowKit
set_option linter.unusedSimpArgs false
set_option linter.unusedVariables false

theorem keepC2 {w wr : World} (hB : Below w.heap.size w wr) {b o : Nat} {v : Value} (h : w.cell? ⟨b, o, none⟩ = some v) : wr.cell? ⟨b, o, none⟩ = some v := by
  have := World.block_lt_of_cell? w _ h
  rw [hB.cell (p := ⟨b, o, none⟩) this]; exact h
def idxL {α : Type} (bad : α → Bool) : List α → Int → Int
  | [], _ => -1
  | e :: es, k => if bad e = true then k else idxL bad es (k + 1)
theorem idxL_iff {α : Type} (bad : α → Bool) (es : List α) : ∀ k : Int, 0 ≤ k → (0 ≤ idxL bad es k ↔ es.any bad = true) := by
  induction es with
  | nil => intro k _; simp [idxL]
  | cons e es ih =>
    intro k hk
    simp only [idxL, List.any_cons, Bool.or_eq_true]
    by_cases h : bad e = true
    · simp [h, hk]
    · simp only [h, Bool.false_eq_true, if_false, false_or]
      exact ih (k + 1) (by omega)
theorem drop_cons {α : Type} {es : List α} {k : Nat} {e : α} (h : es[k]? = some e) : es.drop k = e :: es.drop (k + 1) := by
  have hk : k < es.length := by
    rcases Nat.lt_or_ge k es.length with h' | h'
    · exact h'
    · rw [List.getElem?_eq_none h'] at h; cases h
  rw [List.getElem?_eq_getElem hk] at h
  simp at h
  rw [List.drop_eq_getElem_cons hk, h]

theorem idxL_lo {α : Type} (bad : α → Bool) (es : List α) : ∀ k : Int, 0 ≤ k → idxL bad es k = -1 ∨ (k ≤ idxL bad es k ∧ idxL bad es k < k + es.length) := by
  induction es with
  | nil => intro k _; exact .inl rfl
  | cons e es ih =>
    intro k hk
    simp only [idxL]
    split
    · right; simp; omega
    · rcases ih (k + 1) (by omega) with h | h
      · exact .inl h
      · right; simp; omega
theorem idxL_none {α : Type} (bad : α → Bool) (es : List α) : ∀ k : Int, 0 ≤ k → idxL bad es k = -1 → es.filter (fun e => !bad e) = es := by
  induction es with
  | nil => intro k _ _; rfl
  | cons e es ih =>
    intro k hk h
    simp only [idxL] at h
    split at h
    · omega
    · rename_i hb
      rw [List.filter_cons_of_pos (by simpa using hb), ih (k + 1) (by omega) h]
theorem idxL_some {α : Type} (bad : α → Bool) (es : List α) : ∀ (k : Int) (n : Nat), 0 ≤ k → idxL bad es k = k + n → (es.take n).filter (fun e => !bad e) = es.take n ∧ (es.take (n + 1)).filter (fun e => !bad e) = es.take n ∧ n < es.length := by
  induction es with
  | nil => intro k n hk h; simp [idxL] at h; omega
  | cons e es ih =>
    intro k n hk h
    simp only [idxL] at h
    split at h
    · rename_i hb
      obtain rfl : n = 0 := by omega
      exact ⟨rfl, by simp [List.filter_cons, hb], by simp⟩
    · rename_i hb
      obtain ⟨m, rfl⟩ : ∃ m, n = m + 1 := ⟨n - 1, by
        rcases idxL_lo bad es (k + 1) (by omega) with h' | h' <;> omega⟩
      obtain ⟨h1, h2, h3⟩ := ih (k + 1) m (by omega) (by rw [h]; push_cast; omega)
      refine ⟨?_, ?_, by simp; omega⟩
      · rw [List.take_succ_cons, List.filter_cons_of_pos (by simpa using hb), h1]
      · rw [List.take_succ_cons, List.filter_cons_of_pos (by simpa using hb), h2, List.take_succ_cons]
theorem filter_snoc {α : Type} {f : α → Bool} {es : List α} {k : Nat} {e : α} (h : es[k]? = some e) : (es.take (k + 1)).filter f = (es.take k).filter f ++ (if f e = true then [e] else []) := by
  rw [List.take_add_one, h, List.filter_append]
  cases hf : f e <;> simp [hf]
end Go.Proofs.Ytjfabhkgmelmgaa
