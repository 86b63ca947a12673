/- Facts that are kept over a region whose order is open: cells, sizes, and what lies below. -/
import Derived.Test.YtjfabhkgmelmgaaB
import Derived.Deep.RegionHeld3
import Derived.Deep.DeepCutAuto
namespace Go.Proofs.Ytjfabhkgmelmgaa
open Go.RowKit
set_option linter.unusedSimpArgs false
set_option linter.unusedVariables false

theorem allocB {B : Nat} {a W : World} (h : Below B a W) (hB : B ≤ a.heap.size) (o : Obj) : Below B a (W.alloc o) := h.alloc (Nat.le_trans hB h.size) o
theorem setB {B : Nat} {a W W0 : World} {k o : Nat} {v : Value} (h : Below B a W) (h0 : Below B a W0) (hB : B ≤ a.heap.size) (hk : k = W0.heap.size) : Below B a (W.setCell ⟨k, o, none⟩ v) := h.setCell (p := ⟨k, o, none⟩) (by have := h0.size; simp only; omega) _
theorem keepA {W : World} (ob : Obj) {b o : Nat} {v : Value} (h : W.cell? ⟨b, o, none⟩ = some v) : (W.alloc ob).cell? ⟨b, o, none⟩ = some v := by
  rw [World.cell?_alloc_past _ _ _ (World.block_lt_of_cell? W _ h)]; exact h
theorem keepS {W W0 : World} {b o k o' : Nat} {v u : Value} (h : W.cell? ⟨b, o, none⟩ = some v) (h0 : W0.cell? ⟨b, o, none⟩ = some v) (hk : k = W0.heap.size) : (W.setCell ⟨k, o', none⟩ u).cell? ⟨b, o, none⟩ = some v := by
  have := World.block_lt_of_cell? W0 _ h0
  rw [World.cell?_setCell_other _ _ _ _ (by intro e; simp at e this; omega)]; exact h
theorem allocC {W w : World} {o : Obj} {n : Nat} (h : Below w.heap.size w (W.alloc o)) (hs : w.heap.size + n + 1 ≤ (W.alloc o).heap.size) (o' : Obj) : Below w.heap.size w (W.alloc o') := by
  have hs' : w.heap.size ≤ W.heap.size := by simp at hs; omega
  refine ⟨h.os, h.tape, h.output, by simp; omega, fun k hk => ?_⟩
  rw [← h.block k hk, Below.heap_alloc _ _ _ (by omega), Below.heap_alloc _ _ _ (by omega)]
theorem setB2 {B : Nat} {a W : World} {k o : Nat} {v : Value} (h : Below B a W) (hk : B ≤ k) : Below B a (W.setCell ⟨k, o, none⟩ v) := h.setCell (p := ⟨k, o, none⟩) hk _
theorem sizeC {W w1 : World} {n : Nat} (hb : Below W.heap.size W w1) (h : n ≤ W.heap.size) : n ≤ w1.heap.size := Nat.le_trans h hb.size
theorem sizeA {W : World} {n : Nat} (h : n ≤ W.heap.size) (o : Obj) : n ≤ (W.alloc o).heap.size := by simp; omega
theorem sizeA2 {W : World} {n : Nat} {o : Obj} (h : n ≤ (W.alloc o).heap.size) (o' : Obj) : n ≤ (W.alloc o').heap.size := by simp at *; omega
theorem sizeS {W : World} {n : Nat} (h : n ≤ W.heap.size) (a : Addr) (v : Value) : n ≤ (W.setCell a v).heap.size := by simpa using h
theorem keepA2 {W : World} {o o' : Obj} {b q : Nat} {v : Value} (h : (W.alloc o).cell? ⟨b, q, none⟩ = some v) (hs : b < W.heap.size) : (W.alloc o').cell? ⟨b, q, none⟩ = some v := by
  rw [World.cell?_alloc_past _ _ _ hs]; rw [World.cell?_alloc_past _ _ _ hs] at h; exact h
theorem keepS2 {W : World} {b q k j : Nat} {v u : Value} (h : W.cell? ⟨b, q, none⟩ = some v) (hk : b ≠ k) : (W.setCell ⟨k, j, none⟩ u).cell? ⟨b, q, none⟩ = some v := by
  rw [World.cell?_setCell_other _ _ _ _ (by intro e; injection e with e1; exact hk e1.symm)]; exact h
theorem keepD {W : World} {a : Addr} {v : Value} (h : W.cell? a = some v) : W.drew.cell? a = some v := h
theorem sizeD {W : World} {n : Nat} (h : n ≤ W.heap.size) : n ≤ W.drew.heap.size := h
theorem allocC3 {W w : World} {o : Obj} (h : Below w.heap.size w (W.alloc o)) (hs : w.heap.size + 1 + 1 + 1 ≤ (W.alloc o).heap.size) (o' : Obj) : Below w.heap.size w (W.alloc o') := allocC (n := 1) h (by omega) o'
theorem allocC4 {W w : World} {o : Obj} (h : Below w.heap.size w (W.alloc o)) (hs : w.heap.size + 1 + 1 + 1 + 1 ≤ (W.alloc o).heap.size) (o' : Obj) : Below w.heap.size w (W.alloc o') := allocC (n := 1) h (by omega) o'
theorem allocC5 {W w : World} {o : Obj} (h : Below w.heap.size w (W.alloc o)) (hs : w.heap.size + 1 + 1 + 1 + 1 + 1 ≤ (W.alloc o).heap.size) (o' : Obj) : Below w.heap.size w (W.alloc o') := allocC (n := 1) h (by omega) o'
theorem wp_eq {P : Program} {c : Code} {Q : Exit → Act → World → Prop} {a : Act} {W0 : World} (h : ∀ w, w = W0 → c.wp P Q a w) : c.wp P Q a W0 := h W0 rfl
theorem keepF {W w1 : World} (hb : Below W.heap.size W w1) {b o : Nat} (hlt : b < W.heap.size) (h : W.frozen? ⟨b, o, none⟩ = false) : w1.frozen? ⟨b, o, none⟩ = false := by
  rw [hb.frozen (p := ⟨b, o, none⟩) hlt]; exact h
theorem keepFA {W : World} {b o : Nat} (hlt : b < W.heap.size) (h : W.frozen? ⟨b, o, none⟩ = false) (ob : Obj) : (W.alloc ob).frozen? ⟨b, o, none⟩ = false :=
  keepF ((Below.refl _ _).alloc (Nat.le_refl _) ob) hlt h
theorem keepFD {W : World} {b o : Nat} (h : W.frozen? ⟨b, o, none⟩ = false) : W.drew.frozen? ⟨b, o, none⟩ = false := h
theorem wp_name {P : Program} {c : Code} {Q : Exit → Act → World → Prop} {a : Act} {W0 : World} (S : World → Prop) (h0 : S W0) (h : ∀ w, S w → c.wp P Q a w) : c.wp P Q a W0 := h W0 h0
end Go.Proofs.Ytjfabhkgmelmgaa
