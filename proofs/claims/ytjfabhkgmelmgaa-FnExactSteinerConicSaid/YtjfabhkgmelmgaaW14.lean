/- slices.IndexFunc and slices.DeleteFunc at points, and the points and lines for which something is so; what is asked of them is asked by a closure that makes memory of its own alone. -/
import Derived.Test.YtjfabhkgmelmgaaW12
import Derived.Test.YtjfabhkgmelmgaaX1
namespace Go.Proofs.Ytjfabhkgmelmgaa
open Go.RowKit
set_option linter.unusedSimpArgs false
set_option linter.unusedVariables false
set_option maxRecDepth 100000

theorem RdP.at_ {w : World} {b off : Nat} {ps : List P3} (h : RdP w b off ps) {k : Nat} (hk : k < ps.length) : w.cell? ⟨b, off + k * 3, none⟩ = some (.int .i64 ps[k].x) ∧ w.cell? ⟨b, off + k * 3 + 1, none⟩ = some (.int .i64 ps[k].y) ∧ w.cell? ⟨b, off + k * 3 + 2, none⟩ = some (.int .i64 ps[k].z) :=
  h k _ (List.getElem?_eq_getElem hk)
theorem OwnA.pts {E : Nat} {w : World} {base g len cap : Nat} {ps : List P3} (h : OwnA E 3 w base (.slice (some ⟨g, 0, none⟩) len cap) (rowsP ps)) : len = ps.length := by
  rcases h.2.2 with ⟨h2, _⟩ | ⟨g', cap', cur, hv, _⟩
  · cases h2
  · injection hv with _ hv2; rw [hv2, rowsP_len]
/-- What a closure with one captured value answers of each point. -/
def Asks (K : Nat) (c : Value) (d : P3 → Bool) (ps : List P3) (w : World) (row : Option Nat) : Prop :=
  ∀ a, a ∈ ps → ∀ w', w.grownBy w' row → Calls Try.prog K #[.agg #[.int .i64 (P3.x a), .int .i64 a.y, .int .i64 a.z], c] w' fun e w'' => e = .returned (.bool (d a)) ∧ Below w'.heap.size w' w''
theorem Asks.later {K : Nat} {c : Value} {d : P3 → Bool} {ps : List P3} {w w1 : World} {row : Option Nat} (h : Asks K c d ps w row) (hg : w.grownBy w1 row) : Asks K c d ps w1 row :=
  fun a ha w' h' => h a ha w' (grown_trans hg h')
theorem OwnA.keptBelow {E n : Nat} {w w' : World} {base : Nat} {v : Value} {rows : List (List Int)} (h : OwnA E n w base v rows) (hb : Below w.heap.size w w') : OwnA E n w' base v rows := h.below hb
