/- What the laws' own small functions do with slices of arrays: they compare them, mark them and look at the marks. -/
import Derived.Test.YtemimkbngfbomaaA2
import Derived.Test.YtemimkbngfbomaaW2
import Derived.StillTailTactics
namespace Go.Proofs.Ytemimkbngfbomaa
open Go.RowKit
set_option linter.unusedSimpArgs false
set_option linter.unusedVariables false
set_option maxRecDepth 100000

theorem rowA {n : Nat} {r : List Int} (h : r.length = n) {w : World} {g off i : Nat} {rows : List (List Int)} (hr : RdA w g off n rows) (hi : rows[i]? = some r) : ∀ j x, r[j]? = some x → w.cell? ⟨g, off + i * n + j, none⟩ = some (.int .i64 x) := hr i r hi
theorem get_mem {rows : List (List Int)} {k : Nat} (hk : k < rows.length) : rows[k]? = some rows[k] := List.getElem?_eq_getElem hk

/-- The marks of a slice's rows. -/
def mrow (n : Nat) (k : Int) (q : Nat) : List Int := (List.range n).map fun j : Nat => k + ((q * n + j : Nat) : Int)
def Marked (n : Nat) (k : Int) (rows : List (List Int)) : Prop := ∀ q, q < rows.length → rows[q]? = some (mrow n k q)
theorem own_block {g len cap : Nat} : (Value.slice (some ⟨g, 0, none⟩) len cap).ownBlock = some g := rfl
theorem stored_grown (w : World) (g j : Nat) (u : Value) : w.grownBy (w.setCell ⟨g, j, none⟩ u) (some g) :=
  ⟨rfl, rfl, rfl, by simp, fun k _ hk => Below.heap_setCell _ _ _ _ (by intro e; exact hk (by rw [e]))⟩
theorem OwnA.apart2 {E n E' n' base base' : Nat} {w w' : World} {v v' : Value} {rows rows' : List (List Int)} (h : OwnA E n w base v rows) (h' : OwnA E' n' w' base' v' rows') (hb : w.heap.size ≤ base') : v.ownBlock = none ∨ v.ownBlock ≠ v'.ownBlock := by
  cases hv : v.ownBlock with
  | none => exact .inl rfl
  | some k =>
    right
    have h1 := h.2.lt k hv
    intro e
    have h2 := h'.2.lt k e.symm
    omega
theorem OwnA.cellFar {E n base : Nat} {w w' : World} {v : Value} {rows : List (List Int)} (h : OwnA E n w base v rows) (hgr : w.grownBy w' v.ownBlock) {b o : Nat} {x : Value} (hc : w.cell? ⟨b, o, none⟩ = some x) (hb : b < base) : w'.cell? ⟨b, o, none⟩ = some x :=
  hgr.cell hc fun e => by have := (h.2.lt b e.symm).1; omega
theorem OwnA.grownB {E n base B : Nat} {a w w' : World} {v : Value} {rows : List (List Int)} (h : OwnA E n w base v rows) (hB : Below B a w) (hgr : w.grownBy w' v.ownBlock) (hb : B ≤ base) (hs : B ≤ w.heap.size) : Below B a w' :=
  hB.grown hgr hs fun k hk => Nat.le_trans hb (h.2.lt k hk).1
