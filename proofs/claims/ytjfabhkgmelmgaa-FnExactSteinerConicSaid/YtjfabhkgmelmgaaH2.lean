/- Blocks that are known whole: an array of numbers in memory of the call's own, and what allocation, stores and calls leave of it; no condition. -/
import Derived.Test.YtjfabhkgmelmgaaH
namespace Go.Proofs.Ytjfabhkgmelmgaa
open Go.RowKit
set_option linter.unusedSimpArgs false
set_option linter.unusedVariables false

/-- Block b holds these numbers. -/
def Box (E : Nat) (w : World) (b : Nat) (vs : List Int) : Prop := w.heap[b]? = some (.cells (vs.map (Value.int .i64)).toArray E (0, 0))
theorem Box.lt {E : Nat} {w : World} {b : Nat} {vs : List Int} (h : Box E w b vs) : b < w.heap.size := by
  rcases Nat.lt_or_ge b w.heap.size with h' | h'
  · exact h'
  · unfold Box at h; rw [Array.getElem?_eq_none h'] at h; cases h
theorem Box.cell {E : Nat} {w : World} {b : Nat} {vs : List Int} (h : Box E w b vs) (i : Nat) {x : Int} (hx : vs[i]? = some x) : w.cell? ⟨b, i, none⟩ = some (.int .i64 x) := by
  unfold Box at h
  simp only [World.cell?, h]
  simpa using hx
theorem Box.frz {E : Nat} {w : World} {b : Nat} {vs : List Int} (h : Box E w b vs) (i : Nat) : w.frozen? ⟨b, i, none⟩ = false := by
  unfold Box at h
  simp [World.frozen?, h]
theorem Box.rd {E : Nat} {w : World} {b : Nat} {vs : List Int} (h : Box E w b vs) : Rd w b 0 vs := fun i x hx => by rw [Nat.zero_add]; exact h.cell i hx
theorem Box.new {E : Nat} {w : World} (vs : List Int) {b : Nat} (hb : b = w.heap.size) : Box E (w.alloc (.cells (vs.map (Value.int .i64)).toArray E)) b vs := by
  subst hb; unfold Box World.alloc; simp
theorem Box.alloc {E : Nat} {w : World} {b : Nat} {vs : List Int} (h : Box E w b vs) (o : Obj) : Box E (w.alloc o) b vs := by
  have := h.lt
  unfold Box at *
  rw [Below.heap_alloc _ _ _ this]; exact h
theorem Box.below {E : Nat} {w w1 : World} {b : Nat} {vs : List Int} (hb : Below w.heap.size w w1) (h : Box E w b vs) : Box E w1 b vs := by
  have := h.lt
  unfold Box at *
  rw [hb.block b this]; exact h
theorem Box.drew {E : Nat} {w : World} {b : Nat} {vs : List Int} (h : Box E w b vs) : Box E w.drew b vs := h
theorem Box.far {E : Nat} {w : World} {b c i : Nat} {vs : List Int} {u : Value} (h : Box E w b vs) (hne : b ≠ c) : Box E (w.setCell ⟨c, i, none⟩ u) b vs := by
  unfold Box at *
  rw [Below.heap_setCell _ _ _ _ hne]; exact h
theorem Box.set {E : Nat} {w : World} {b : Nat} {vs : List Int} (h : Box E w b vs) (i : Nat) (x : Int) : Box E (w.setCell ⟨b, i, none⟩ (.int .i64 x)) b (vs.set i x) := by
  unfold Box at *
  have := heap_setCell_same w b i _ E (.int .i64 x) h
  rw [this]
  congr 2
  apply Array.ext'
  simp [List.map_set]
theorem Box.cast {E : Nat} {w : World} {b : Nat} {vs us : List Int} (h : Box E w b vs) (e : vs = us) : Box E w b us := e ▸ h
theorem Box.fill9 {E : Nat} {w : World} {b : Nat} {u0 u1 u2 u3 u4 u5 u6 u7 u8 x0 x1 x2 x3 x4 x5 x6 x7 x8 : Int} (h : Box E w b [u0, u1, u2, u3, u4, u5, u6, u7, u8]) : Box E (((((((((w.setCell ⟨b, 0, none⟩ (.int .i64 x0)).setCell ⟨b, 1, none⟩ (.int .i64 x1)).setCell ⟨b, 2, none⟩ (.int .i64 x2)).setCell ⟨b, 3, none⟩ (.int .i64 x3)).setCell ⟨b, 4, none⟩ (.int .i64 x4)).setCell ⟨b, 5, none⟩ (.int .i64 x5)).setCell ⟨b, 6, none⟩ (.int .i64 x6)).setCell ⟨b, 7, none⟩ (.int .i64 x7)).setCell ⟨b, 8, none⟩ (.int .i64 x8)) b [x0, x1, x2, x3, x4, x5, x6, x7, x8] :=
  ((((((((((h.set 0 x0).set 1 x1).set 2 x2).set 3 x3).set 4 x4).set 5 x5).set 6 x6).set 7 x7).set 8 x8)).cast rfl
theorem Box.fill3 {E : Nat} {w : World} {b : Nat} {u0 u1 u2 x0 x1 x2 : Int} (h : Box E w b [u0, u1, u2]) : Box E (((w.setCell ⟨b, 0, none⟩ (.int .i64 x0)).setCell ⟨b, 1, none⟩ (.int .i64 x1)).setCell ⟨b, 2, none⟩ (.int .i64 x2)) b [x0, x1, x2] :=
  (((h.set 0 x0).set 1 x1).set 2 x2).cast rfl
theorem Box.far9 {E : Nat} {w : World} {b c : Nat} {vs : List Int} {x0 x1 x2 x3 x4 x5 x6 x7 x8 : Value} (h : Box E w b vs) (hn : b ≠ c) : Box E (((((((((w.setCell ⟨c, 0, none⟩ x0).setCell ⟨c, 1, none⟩ x1).setCell ⟨c, 2, none⟩ x2).setCell ⟨c, 3, none⟩ x3).setCell ⟨c, 4, none⟩ x4).setCell ⟨c, 5, none⟩ x5).setCell ⟨c, 6, none⟩ x6).setCell ⟨c, 7, none⟩ x7).setCell ⟨c, 8, none⟩ x8) b vs := ((((((((h.far hn).far hn).far hn).far hn).far hn).far hn).far hn).far hn).far hn
theorem Box.far3 {E : Nat} {w : World} {b c : Nat} {vs : List Int} {x0 x1 x2 : Value} (h : Box E w b vs) (hn : b ≠ c) : Box E (((w.setCell ⟨c, 0, none⟩ x0).setCell ⟨c, 1, none⟩ x1).setCell ⟨c, 2, none⟩ x2) b vs := ((h.far hn).far hn).far hn
end Go.Proofs.Ytjfabhkgmelmgaa
