/- Moebius maps in slices, their codes; p is a prime where it says so. -/
import Derived.Test.YtjfabhkgmelmgaaW7
import Derived.Test.YtjfabhkgmelmgaaE1
import Derived.Test.YtjfabhkgmelmgaaX1
namespace Go.Proofs.Ytjfabhkgmelmgaa
open Go.RowKit
set_option linter.unusedSimpArgs false
set_option linter.unusedVariables false
set_option maxRecDepth 100000

structure M4 where
  a : Int
  b : Int
  c : Int
  d : Int
  deriving DecidableEq
def M4.l (e : M4) : List Int := [e.a, e.b, e.c, e.d]
/-- A slice of impl.Moebius. -/
def RdM4 (w : World) (b off : Nat) (es : List M4) : Prop := ∀ i e, es[i]? = some e → w.cell? ⟨b, off + i * 4, none⟩ = some (.int .i64 e.a) ∧ w.cell? ⟨b, off + i * 4 + 1, none⟩ = some (.int .i64 e.b) ∧ w.cell? ⟨b, off + i * 4 + 2, none⟩ = some (.int .i64 e.c) ∧ w.cell? ⟨b, off + i * 4 + 3, none⟩ = some (.int .i64 e.d)
theorem RdM4.below {w w' : World} {b off : Nat} {es : List M4} (h : RdM4 w b off es) (hb : Below w.heap.size w w') (hlt : b < w.heap.size) : RdM4 w' b off es := by
  intro i e he
  obtain ⟨h0, h1, h2, h3⟩ := h i e he
  exact ⟨by rw [hb.cell (p := ⟨b, _, none⟩) hlt]; exact h0, by rw [hb.cell (p := ⟨b, _, none⟩) hlt]; exact h1, by rw [hb.cell (p := ⟨b, _, none⟩) hlt]; exact h2, by rw [hb.cell (p := ⟨b, _, none⟩) hlt]; exact h3⟩
theorem RdM4.alloc {w : World} {b off : Nat} {es : List M4} (h : RdM4 w b off es) (hlt : b < w.heap.size) (o : Obj) : RdM4 (w.alloc o) b off es :=
  h.below ((Below.refl _ _).alloc (Nat.le_refl _) _) hlt
theorem RdM4.get {w : World} {b off : Nat} {es : List M4} (h : RdM4 w b off es) {k : Nat} (hk : k < es.length) :
    ∃ x0 x1 x2 x3, w.cell? ⟨b, off + k * 4, none⟩ = some (.int .i64 x0) ∧ w.cell? ⟨b, off + k * 4 + 1, none⟩ = some (.int .i64 x1) ∧ w.cell? ⟨b, off + k * 4 + 2, none⟩ = some (.int .i64 x2) ∧ w.cell? ⟨b, off + k * 4 + 3, none⟩ = some (.int .i64 x3) ∧ Hid (es[k]? = some ⟨x0, x1, x2, x3⟩) :=
  let ⟨h0, h1, h2, h3⟩ := h k es[k] (List.getElem?_eq_getElem hk)
  ⟨_, _, _, _, h0, h1, h2, h3, Lib.hid (List.getElem?_eq_getElem hk)⟩
theorem rdM4_1 {w : World} {b off : Nat} {x0_0 x0_1 x0_2 x0_3 : Int} (h0_0 : w.cell? ⟨b, off + 0 * 4, none⟩ = some (.int .i64 x0_0)) (h0_1 : w.cell? ⟨b, off + 0 * 4 + 1, none⟩ = some (.int .i64 x0_1)) (h0_2 : w.cell? ⟨b, off + 0 * 4 + 2, none⟩ = some (.int .i64 x0_2)) (h0_3 : w.cell? ⟨b, off + 0 * 4 + 3, none⟩ = some (.int .i64 x0_3)) : RdM4 w b off [⟨x0_0, x0_1, x0_2, x0_3⟩] := by
  intro i e he
  match i, he with
  | 0, he => simp at he; subst he; exact ⟨h0_0, h0_1, h0_2, h0_3⟩
  | i + 1, he => simp at he
theorem rdM4_2 {w : World} {b off : Nat} {x0_0 x0_1 x0_2 x0_3 x1_0 x1_1 x1_2 x1_3 : Int} (h0_0 : w.cell? ⟨b, off + 0 * 4, none⟩ = some (.int .i64 x0_0)) (h0_1 : w.cell? ⟨b, off + 0 * 4 + 1, none⟩ = some (.int .i64 x0_1)) (h0_2 : w.cell? ⟨b, off + 0 * 4 + 2, none⟩ = some (.int .i64 x0_2)) (h0_3 : w.cell? ⟨b, off + 0 * 4 + 3, none⟩ = some (.int .i64 x0_3)) (h1_0 : w.cell? ⟨b, off + 1 * 4, none⟩ = some (.int .i64 x1_0)) (h1_1 : w.cell? ⟨b, off + 1 * 4 + 1, none⟩ = some (.int .i64 x1_1)) (h1_2 : w.cell? ⟨b, off + 1 * 4 + 2, none⟩ = some (.int .i64 x1_2)) (h1_3 : w.cell? ⟨b, off + 1 * 4 + 3, none⟩ = some (.int .i64 x1_3)) : RdM4 w b off [⟨x0_0, x0_1, x0_2, x0_3⟩, ⟨x1_0, x1_1, x1_2, x1_3⟩] := by
  intro i e he
  match i, he with
  | 0, he => simp at he; subst he; exact ⟨h0_0, h0_1, h0_2, h0_3⟩
  | 1, he => simp at he; subst he; exact ⟨h1_0, h1_1, h1_2, h1_3⟩
  | i + 2, he => simp at he
theorem rdM4_4 {w : World} {b off : Nat} {x0_0 x0_1 x0_2 x0_3 x1_0 x1_1 x1_2 x1_3 x2_0 x2_1 x2_2 x2_3 x3_0 x3_1 x3_2 x3_3 : Int} (h0_0 : w.cell? ⟨b, off + 0 * 4, none⟩ = some (.int .i64 x0_0)) (h0_1 : w.cell? ⟨b, off + 0 * 4 + 1, none⟩ = some (.int .i64 x0_1)) (h0_2 : w.cell? ⟨b, off + 0 * 4 + 2, none⟩ = some (.int .i64 x0_2)) (h0_3 : w.cell? ⟨b, off + 0 * 4 + 3, none⟩ = some (.int .i64 x0_3)) (h1_0 : w.cell? ⟨b, off + 1 * 4, none⟩ = some (.int .i64 x1_0)) (h1_1 : w.cell? ⟨b, off + 1 * 4 + 1, none⟩ = some (.int .i64 x1_1)) (h1_2 : w.cell? ⟨b, off + 1 * 4 + 2, none⟩ = some (.int .i64 x1_2)) (h1_3 : w.cell? ⟨b, off + 1 * 4 + 3, none⟩ = some (.int .i64 x1_3)) (h2_0 : w.cell? ⟨b, off + 2 * 4, none⟩ = some (.int .i64 x2_0)) (h2_1 : w.cell? ⟨b, off + 2 * 4 + 1, none⟩ = some (.int .i64 x2_1)) (h2_2 : w.cell? ⟨b, off + 2 * 4 + 2, none⟩ = some (.int .i64 x2_2)) (h2_3 : w.cell? ⟨b, off + 2 * 4 + 3, none⟩ = some (.int .i64 x2_3)) (h3_0 : w.cell? ⟨b, off + 3 * 4, none⟩ = some (.int .i64 x3_0)) (h3_1 : w.cell? ⟨b, off + 3 * 4 + 1, none⟩ = some (.int .i64 x3_1)) (h3_2 : w.cell? ⟨b, off + 3 * 4 + 2, none⟩ = some (.int .i64 x3_2)) (h3_3 : w.cell? ⟨b, off + 3 * 4 + 3, none⟩ = some (.int .i64 x3_3)) : RdM4 w b off [⟨x0_0, x0_1, x0_2, x0_3⟩, ⟨x1_0, x1_1, x1_2, x1_3⟩, ⟨x2_0, x2_1, x2_2, x2_3⟩, ⟨x3_0, x3_1, x3_2, x3_3⟩] := by
  intro i e he
  match i, he with
  | 0, he => simp at he; subst he; exact ⟨h0_0, h0_1, h0_2, h0_3⟩
  | 1, he => simp at he; subst he; exact ⟨h1_0, h1_1, h1_2, h1_3⟩
  | 2, he => simp at he; subst he; exact ⟨h2_0, h2_1, h2_2, h2_3⟩
  | 3, he => simp at he; subst he; exact ⟨h3_0, h3_1, h3_2, h3_3⟩
  | i + 4, he => simp at he
def isMoE (p : Int) (e : M4) : Bool := isMo p e.a e.b e.c e.d