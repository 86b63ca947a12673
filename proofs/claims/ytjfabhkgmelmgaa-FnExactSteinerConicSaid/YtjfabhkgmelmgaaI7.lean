/- Slices of slices of numbers that a call makes itself: their rows, append of a row, what is kept; no condition but on sizes. -/
import Derived.Test.YtjfabhkgmelmgaaI4
import Derived.Test.YtjfabhkgmelmgaaA4
import Derived.Lib.OwnKind
import Derived.Test.YtjfabhkgmelmgaaW5
namespace Go.Proofs.Ytjfabhkgmelmgaa
open Go.RowKit
set_option linter.unusedSimpArgs false
set_option linter.unusedVariables false
set_option maxRecDepth 100000

theorem info_row : (Try.prog.info? 80).map (fun i => (i.zero, i.size, i.bytes)) = some (some (.slice none 0 0), 1, 24) := by kernel_rfl
/-- A slice of slices of the call's own, with these row values. -/
def OwnV (w : World) (base : Nat) (v : Value) (us : List Value) : Prop := w.ownsRow base 80 1 v us.length us
/-- A row of the call's own, or an empty one. -/
def RowO (w : World) (base : Nat) (u : Value) (r : List Int) : Prop := (r = [] ∧ ∃ a c, u = .slice a 0 c) ∨ OwnI w base u r
theorem OwnV.base_le {w : World} {base base' : Nat} {v : Value} {us : List Value} (h : OwnV w base v us) (hb : base' ≤ base) : OwnV w base' v us := by
  obtain ⟨h1, h2⟩ := h
  refine ⟨h1, ?_⟩
  rcases h2 with h2 | ⟨g, cap, cur, hv, hg, r⟩
  · exact .inl h2
  · exact .inr ⟨g, cap, cur, hv, Nat.le_trans hb hg, r⟩
theorem OwnV.below {w w' : World} {base : Nat} {v : Value} {us : List Value} (h : OwnV w base v us) (hb : Below w.heap.size w w') : OwnV w' base v us := by
  have hs := h
  obtain ⟨h1, h2⟩ := h
  refine ⟨h1, ?_⟩
  rcases h2 with h2 | ⟨g, cap, cur, rfl, hg, hh, r⟩
  · exact .inl h2
  · exact .inr ⟨g, cap, cur, rfl, hg, by rw [hb.block g (hs.lt g rfl).2]; exact hh, r⟩
theorem OwnV.drew {w : World} {base : Nat} {v : Value} {us : List Value} (h : OwnV w base v us) : OwnV w.drew base v us := h
theorem OwnI.drew {w : World} {base : Nat} {v : Value} {zs : List Int} (h : OwnI w base v zs) : OwnI w.drew base v zs := h
theorem OwnV.alloc {w : World} {base : Nat} {v : Value} {us : List Value} (h : OwnV w base v us) (o : Obj) : OwnV (w.alloc o) base v us := World.ownsRow.alloc h o
theorem OwnV.made (w : World) (base : Nat) (hb : base ≤ w.heap.size) : OwnV (w.alloc (.cells #[] 80)) base (.slice (some ⟨w.heap.size, 0, none⟩) 0 0) [] := World.ownsRow_made w #[] 0 hb (by unfold maxLen; omega) rfl
/-- Its block. -/
theorem OwnV.form {w : World} {base : Nat} {v : Value} {us : List Value} (h : OwnV w base v us) (hne : 0 < us.length) :
    ∃ g cap vs, v = .slice (some ⟨g, 0, none⟩) us.length cap ∧ base ≤ g ∧ g < w.heap.size ∧ BoxV 80 w g vs ∧ vs.length = cap ∧ us.length ≤ cap ∧ vs.take us.length = us := by
  have hs := h
  rcases h.2 with ⟨_, h0⟩ | ⟨g, cap, cur, rfl, hb, hh, hn, hcm, hcs, htake⟩
  · omega
  · refine ⟨g, cap, cur.toList, rfl, hb, (hs.lt g rfl).2, by unfold BoxV; simpa using hh, by simp [hcs], hn, ?_⟩
    simpa using htake
theorem take_at {vs us : List Value} (h : vs.take us.length = us) {k : Nat} {u : Value} (hk : us[k]? = some u) : vs[k]? = some u := by
  have hl := (List.getElem?_eq_some_iff.1 hk).1
  rw [← h] at hk
  rwa [List.getElem?_take_of_lt (by rw [h] at *; exact hl)] at hk
theorem OwnI.kind {w : World} {base : Nat} {u : Value} {r : List Int} (h : OwnI w base u r) : ∀ g, u.ownBlock = some g → ∃ c fz, w.heap[g]? = some (.cells c 2 fz) := Lib.ownsRow_kind h
theorem OwnV.kind {w : World} {base : Nat} {v : Value} {us : List Value} (h : OwnV w base v us) : ∀ g, v.ownBlock = some g → ∃ c fz, w.heap[g]? = some (.cells c 80 fz) := Lib.ownsRow_kind h
theorem OwnI.apart {w : World} {base base' : Nat} {u v : Value} {r : List Int} {us : List Value} (h : OwnI w base u r) (hv : OwnV w base' v us) : u.ownBlock = none ∨ u.ownBlock ≠ v.ownBlock := by
  cases hu : u.ownBlock with
  | none => exact .inl rfl
  | some g =>
    right
    intro e
    obtain ⟨c, fz, h1⟩ := h.kind g hu
    obtain ⟨c', fz', h2⟩ := hv.kind g e.symm
    rw [h1] at h2
    injection h2 with h2
    injection h2 with _ h2
    exact absurd h2 (by decide)
theorem RowO.grown {w w' : World} {base base' : Nat} {u v : Value} {r : List Int} {us : List Value} (h : RowO w base u r) (hv : OwnV w base' v us) (hg : w.grownBy w' v.ownBlock) : RowO w' base u r := by
  rcases h with h | h
  · exact .inl h
  · exact .inr (World.ownsRow.kept h hg (h.apart hv))
theorem RowO.below {w w' : World} {base : Nat} {u : Value} {r : List Int} (h : RowO w base u r) (hb : Below w.heap.size w w') : RowO w' base u r := h.imp id fun h => h.below hb
theorem RowO.base_le {w : World} {base base' : Nat} {u : Value} {r : List Int} (h : RowO w base u r) (hb : base' ≤ base) : RowO w base' u r := h.imp id fun h => h.base_le hb
theorem RowO.drew {w : World} {base : Nat} {u : Value} {r : List Int} (h : RowO w base u r) : RowO w.drew base u r := h
/-- append of one row value, just laid, to a slice of slices of the call's own. -/
theorem append_row {ops : Array Oper} {rest : List Oper} {o : Oper} {a : Act} {Q : Exit → Act → World → Prop} {w : World} {u : Value} {t0 : Nat} (base : Nat) (v : Value) (us : List Value) (hown : OwnV w base v us) (hu : u.oneCell' = true) (hgd : o.guard = none) (s x : Operand)
    (ho : o.op = .call { callee := .builtin .append, args := #[s, x], argTypes := #[22, 22] })
    (hs : a.eval s = v) (hx : a.eval x = .slice (some ⟨w.heap.size, 0, none⟩) 1 1)
    (hlen : us.length ≤ 1000000) (hbase : base ≤ w.heap.size)
    (h : ∀ g cap w', OwnV w' base (.slice (some ⟨g, 0, none⟩) (us.length + 1) cap) (us ++ [u]) → (∀ b0 a0, Below b0 a0 w → b0 ≤ base → Below b0 a0 w') → w.heap.size < w'.heap.size → w.grownBy w' v.ownBlock → (v.ownBlock = some g ∨ w.heap.size ≤ g) → wpList Try.prog ops Q rest (a.put o.dst (.slice (some ⟨g, 0, none⟩) (us.length + 1) cap)) w') :
    wpList Try.prog ops Q (o :: rest) a (w.alloc (.cells #[u] t0)) := by
  obtain ⟨i0, hi, hz0, hz1, hz2⟩ := info_parts info_row
  refine wpList_append_lies _ hgd s x 22 ho base 80 i0 (.slice none 0 0) 1 24 Try.underlying22 hi hz0 hz1 hz2 rfl (by decide) v us.length us hs (hown.alloc _)
    ⟨w.heap.size, 0, none⟩ 1 1 [u] hx rfl ?_ ?_ (by decide) ?_ ?_ (by simp; omega) _ rfl ?_
  · intro j u' hj
    match j, hj with
    | 0, hj => simp at hj; subst hj; simp [Addr.add]
  · intro u' hu'; simp at hu'; subst hu'; exact hu
  · unfold maxLen; omega
  · omega
  · intro g cap w' h1 h2 h4 _
    have hsz := h2.size
    refine h g cap w' ?_ ?_ (by simp at hsz; omega) (grown_trans (World.grownBy_alloc _ _ _) h2) (h4.imp id fun e => by rw [e]; simp)
    · unfold OwnV; simpa using h1
    · intro b0 a0 hb hle
      exact (hb.alloc (by omega) _).grown h2 (by simp; omega) (fun k hk => by have := (hown.lt k hk).1; omega)
/-- A slice of slices with these rows, of the call's own. -/
def OwnSS (w : World) (base : Nat) (v : Value) (rows : List (List Int)) : Prop := ∃ us, us.length = rows.length ∧ OwnV w base v us ∧ ∀ (k : Nat) (r : List Int), rows[k]? = some r → ∃ u, us[k]? = some u ∧ OwnI w base u r
theorem OwnSS.below {w w' : World} {base : Nat} {v : Value} {rows : List (List Int)} (h : OwnSS w base v rows) (hb : Below w.heap.size w w') : OwnSS w' base v rows := by
  obtain ⟨us, h1, h2, h3⟩ := h
  exact ⟨us, h1, h2.below hb, fun k r hk => let ⟨u, e1, e2⟩ := h3 k r hk; ⟨u, e1, e2.below hb⟩⟩
theorem OwnSS.drew {w : World} {base : Nat} {v : Value} {rows : List (List Int)} (h : OwnSS w base v rows) : OwnSS w.drew base v rows := h
theorem OwnSS.base_le {w : World} {base base' : Nat} {v : Value} {rows : List (List Int)} (h : OwnSS w base v rows) (hb : base' ≤ base) : OwnSS w base' v rows := by
  obtain ⟨us, h1, h2, h3⟩ := h
  exact ⟨us, h1, h2.base_le hb, fun k r hk => let ⟨u, e1, e2⟩ := h3 k r hk; ⟨u, e1, e2.base_le hb⟩⟩
theorem OwnSS.made (w : World) (base : Nat) (hb : base ≤ w.heap.size) : OwnSS (w.alloc (.cells #[] 80)) base (.slice (some ⟨w.heap.size, 0, none⟩) 0 0) [] := ⟨[], rfl, OwnV.made w base hb, by simp⟩
/-- A row of it can be read. -/
theorem OwnSS.row {w : World} {base : Nat} {v : Value} {rows : List (List Int)} (h : OwnSS w base v rows) {k : Nat} {r : List Int} (hk : rows[k]? = some r) (hne : r ≠ []) :
    ∃ g cap b c, v = .slice (some ⟨g, 0, none⟩) rows.length cap ∧ w.cell? ⟨g, k, none⟩ = some (.slice (some ⟨b, 0, none⟩) r.length c) ∧ base ≤ g ∧ g < w.heap.size ∧ base ≤ b ∧ b < w.heap.size ∧ Rd w b 0 r := by
  obtain ⟨us, h1, h2, h3⟩ := h
  have hl : k < rows.length := (List.getElem?_eq_some_iff.1 hk).1
  obtain ⟨g, cap, vs, rfl, hg, hgl, hbox, hvl, hcap, htk⟩ := h2.form (by omega)
  obtain ⟨u, e1, e2⟩ := h3 k r hk
  obtain ⟨b, c, rfl, hb, hbl, hrd, _⟩ := e2.shape hne
  exact ⟨g, cap, b, c, by rw [h1], hbox.cell k (take_at htk e1), hg, hgl, hb, hbl, hrd⟩
theorem OwnSS.shape {w : World} {base : Nat} {v : Value} {rows : List (List Int)} (h : OwnSS w base v rows) : ∃ a c, v = .slice a rows.length c := by
  obtain ⟨us, h1, h2, h3⟩ := h
  rcases h2.2 with ⟨rfl, h0⟩ | ⟨g, cap, cur, rfl, _⟩
  · exact ⟨none, 0, by rw [← h1, h0]⟩
  · exact ⟨_, _, by rw [h1]⟩
/-- One row more. -/
theorem OwnSS.more {w w' : World} {base : Nat} {v v' u : Value} {rows : List (List Int)} {us : List Value} {r : List Int} (h1 : us.length = rows.length) (h2 : OwnV w base v us) (h3 : ∀ (k : Nat) (r : List Int), rows[k]? = some r → ∃ u, us[k]? = some u ∧ OwnI w base u r) (hu : OwnI w base u r) (hg : w.grownBy w' v.ownBlock) (hn : OwnV w' base v' (us ++ [u])) : OwnSS w' base v' (rows ++ [r]) := by
  refine ⟨us ++ [u], by simp [h1], hn, fun k s hk => ?_⟩
  by_cases hlt : k < rows.length
  · rw [List.getElem?_append_left hlt] at hk
    obtain ⟨x, e1, e2⟩ := h3 k s hk
    exact ⟨x, by rw [List.getElem?_append_left (by omega)]; exact e1, World.ownsRow.kept e2 hg (e2.apart h2)⟩
  · rw [List.getElem?_append_right (by omega)] at hk
    have hk0 : k - rows.length = 0 := by
      have := (List.getElem?_eq_some_iff.1 hk).1
      simp at this; omega
    rw [hk0] at hk
    simp at hk
    subst hk
    refine ⟨u, ?_, World.ownsRow.kept hu hg (hu.apart h2)⟩
    have : k = us.length := by omega
    rw [this, List.getElem?_append_right (Nat.le_refl _)]
    simp
theorem OwnI.slice {w : World} {base : Nat} {u : Value} {r : List Int} (h : OwnI w base u r) : ∃ a c, u = .slice a r.length c := by
  rcases h.2 with ⟨rfl, h0⟩ | ⟨g, cap, cur, rfl, _⟩
  · exact ⟨none, 0, by rw [h0]⟩
  · exact ⟨_, _, rfl⟩
theorem OwnI.one' {w : World} {base : Nat} {u : Value} {r : List Int} (h : OwnI w base u r) : u.oneCell' = true := by
  obtain ⟨a, c, rfl⟩ := h.slice; rfl
/-- Its block lies at B or behind. -/
def NB (B : Nat) (v : Value) : Prop := ∀ g, v.ownBlock = some g → B ≤ g
theorem NB.apart {B : Nat} {v v2 : Value} (h : NB B v) (h2 : ∀ g, v2.ownBlock = some g → g < B) : v2.ownBlock = none ∨ v2.ownBlock ≠ v.ownBlock := by
  cases hv : v2.ownBlock with
  | none => exact .inl rfl
  | some g =>
    right
    intro e
    have h3 := h2 g hv
    have h4 := h g e.symm
    omega
theorem NB.new {B g n c : Nat} (h : B ≤ g) : NB B (.slice (some ⟨g, 0, none⟩) n c) := fun g' e => by simp [Value.ownBlock] at e; omega
/-- append of a row of the call's own. -/
theorem append_own {ops : Array Oper} {rest : List Oper} {o : Oper} {a : Act} {Q : Exit → Act → World → Prop} {w : World} {u : Value} {t0 : Nat} (base : Nat) (v : Value) (rows : List (List Int)) (r : List Int) (hown : OwnSS w base v rows) (hu : OwnI w base u r) (hgd : o.guard = none) (s x : Operand)
    (ho : o.op = .call { callee := .builtin .append, args := #[s, x], argTypes := #[22, 22] })
    (hs : a.eval s = v) (hx : a.eval x = .slice (some ⟨w.heap.size, 0, none⟩) 1 1)
    (hlen : rows.length ≤ 1000000) (hbase : base ≤ w.heap.size)
    (h : ∀ g cap w', OwnSS w' base (.slice (some ⟨g, 0, none⟩) (rows.length + 1) cap) (rows ++ [r]) → (∀ b0 a0, Below b0 a0 w → b0 ≤ base → Below b0 a0 w') → w.heap.size < w'.heap.size → (∀ b s, OwnI w b u s → OwnI w' b u s) → (∀ b v2 rows2, OwnSS w b v2 rows2 → (v2.ownBlock = none ∨ v2.ownBlock ≠ v.ownBlock) → OwnSS w' b v2 rows2) → (∀ B, B ≤ w.heap.size → NB B v → B ≤ g) → wpList Try.prog ops Q rest (a.put o.dst (.slice (some ⟨g, 0, none⟩) (rows.length + 1) cap)) w') :
    wpList Try.prog ops Q (o :: rest) a (w.alloc (.cells #[u] t0)) := by
  obtain ⟨us, h1, h2, h3⟩ := hown
  refine append_row base v us h2 hu.one' hgd s x ho hs hx (by omega) hbase ?_
  intro g cap w' g1 g2 g3 g4 g5
  rw [h1] at g1 ⊢
  refine h g cap w' (OwnSS.more h1 h2 h3 hu g4 g1) g2 g3 (fun b s hs => World.ownsRow.kept hs g4 (hs.apart h2)) (fun b v2 rows2 ⟨us2, k1, k2, k3⟩ hne => ⟨us2, k1, World.ownsRow.kept k2 g4 hne, fun k s hk => ?_⟩) (fun B hB hv => g5.elim (fun e => hv g e) (fun e => Nat.le_trans hB e))
  obtain ⟨x, e1, e2⟩ := k3 k s hk
  exact ⟨x, e1, World.ownsRow.kept e2 g4 (e2.apart h2)⟩
theorem OwnSS.alloc {w : World} {base : Nat} {v : Value} {rows : List (List Int)} (h : OwnSS w base v rows) (o : Obj) : OwnSS (w.alloc o) base v rows := by
  obtain ⟨us, h1, h2, h3⟩ := h
  exact ⟨us, h1, h2.alloc o, fun k r hk => let ⟨u, e1, e2⟩ := h3 k r hk; ⟨u, e1, e2.alloc o⟩⟩
theorem OwnSS.lt {w : World} {base : Nat} {v : Value} {rows : List (List Int)} (h : OwnSS w base v rows) : ∀ g, v.ownBlock = some g → base ≤ g ∧ g < w.heap.size := by
  obtain ⟨us, h1, h2, h3⟩ := h
  exact h2.lt
theorem OwnSS.apart {w : World} {B : Nat} {v v2 : Value} {rows : List (List Int)} (h : OwnSS w B v rows) (h2 : ∀ g, v2.ownBlock = some g → g < B) : v2.ownBlock = none ∨ v2.ownBlock ≠ v.ownBlock := by
  cases hv : v2.ownBlock with
  | none => exact .inl rfl
  | some g =>
    right
    intro e
    have h3 := h2 g hv
    have h4 := h.lt g e.symm
    omega
theorem OwnSS.row2 {w : World} {base : Nat} {v : Value} {rows : List (List Int)} (h : OwnSS w base v rows) {k : Nat} {r : List Int} (hk : rows[k]? = some r) (hne : r ≠ []) :
    ∃ g cap b c, v = .slice (some ⟨g, 0, none⟩) rows.length cap ∧ w.cell? ⟨g, k, none⟩ = some (.slice (some ⟨b, 0, none⟩) r.length c) ∧ base ≤ g ∧ g < w.heap.size ∧ base ≤ b ∧ b < w.heap.size ∧ Rd w b 0 r ∧ OwnI w base (.slice (some ⟨b, 0, none⟩) r.length c) r := by
  obtain ⟨us, h1, h2, h3⟩ := h
  have hl : k < rows.length := (List.getElem?_eq_some_iff.1 hk).1
  obtain ⟨g, cap, vs, rfl, hg, hgl, hbox, hvl, hcap, htk⟩ := h2.form (by omega)
  obtain ⟨u, e1, e2⟩ := h3 k r hk
  obtain ⟨b, c, rfl, hb, hbl, hrd, _⟩ := e2.shape hne
  exact ⟨g, cap, b, c, by rw [h1], hbox.cell k (take_at htk e1), hg, hgl, hb, hbl, hrd, e2⟩
theorem OwnI.apartSS {w : World} {base base' : Nat} {u v : Value} {r : List Int} {rows : List (List Int)} (h : OwnI w base u r) (hv : OwnSS w base' v rows) : u.ownBlock = none ∨ u.ownBlock ≠ v.ownBlock := by
  obtain ⟨us, h1, h2, h3⟩ := hv
  exact h.apart h2
theorem BoxV.new {E : Nat} {w : World} {u : Value} : BoxV E (w.alloc (.cells #[u] E)) w.heap.size [u] := by
  unfold BoxV World.alloc
  simp only [Array.getElem?_push_size]
/-- append of a row of the call's own as a step of a drawn region. -/
theorem append_own_step {ops : Array Oper} {o : Oper} {a : Act} {K : Act → World → Prop} {Q : Exit → Act → World → Prop} {E0 : Prop} {w : World} {u : Value} (base : Nat) (v : Value) (rows : List (List Int)) (r : List Int) (hgd : o.guard = none) (s x : Operand)
    (ho : o.op = .call { callee := .builtin .append, args := #[s, x], argTypes := #[22, 22] })
    (hs : a.eval s = v) (hown : OwnSS w base v rows) {B bu T : Nat} (hx : a.eval x = .slice (some ⟨B, 0, none⟩) 1 1) (hB : BoxV T w B [u]) (hu : OwnI w bu u r) (hbu : base ≤ bu)
    (hlen : rows.length ≤ 1000000) (hbase : base ≤ w.heap.size)
    (h : ∀ g cap w', OwnSS w' base (.slice (some ⟨g, 0, none⟩) (rows.length + 1) cap) (rows ++ [r]) → w.grownBy w' v.ownBlock → (∀ b0 a0, Below b0 a0 w → b0 ≤ base → Below b0 a0 w') → (∀ b u s, OwnI w b u s → OwnI w' b u s) → (∀ b v2 rows2, OwnSS w b v2 rows2 → (v2.ownBlock = none ∨ v2.ownBlock ≠ v.ownBlock) → OwnSS w' b v2 rows2) → (∀ B, B ≤ w.heap.size → NB B v → B ≤ g) → K (a.put o.dst (.slice (some ⟨g, 0, none⟩) (rows.length + 1) cap)) w') :
    if Region.wanted o (yielded ops a.tmps) = true then Oper.wp Try.prog o a w K Q else E0 := by
  obtain ⟨us, h1, h2, h3⟩ := hown
  obtain ⟨i0, hi, hz0, hz1, hz2⟩ := info_parts info_row
  refine step_append_lies w hgd s x 22 ho base 80 i0 (.slice none 0 0) 1 24 Try.underlying22 hi hz0 hz1 hz2 rfl (by decide) v us.length us hs h2
    ⟨B, 0, none⟩ 1 1 [u] hx rfl ?_ ?_ (by decide) ?_ ?_ hbase _ rfl ?_
  · intro j u' hj
    exact World.news_of_block hB j u' (by simpa using hj)
  · intro u' hu'; simp at hu'; subst hu'; exact hu.one'
  · unfold maxLen; omega
  · omega
  · intro g cap w' k1 k2 k4 _
    rw [h1] at k1 ⊢
    refine h g cap w' (OwnSS.more h1 h2 h3 (hu.base_le hbu) k2 ?_) k2 ?_ (fun b u s hs => World.ownsRow.kept hs k2 (hs.apart h2)) (fun b v2 rows2 ⟨us2, q1, q2, q3⟩ hne => ⟨us2, q1, World.ownsRow.kept q2 k2 hne, fun k s hk => ?_⟩) (fun B hB hv => k4.elim (fun e => hv g e) (fun e => by omega))
    · unfold OwnV; rw [List.length_append, h1]; exact k1
    · intro b0 a0 hb hle
      exact hb.grown k2 (by omega) (fun k hk => by have := (h2.lt k hk).1; omega)
    · obtain ⟨x, e1, e2⟩ := q3 k s hk
      exact ⟨x, e1, World.ownsRow.kept e2 k2 (e2.apart h2)⟩
/-- A slice of slices of the call's own whose rows lie apart. -/
def OwnT (w : World) (base : Nat) (v : Value) (rows : List (List Int)) : Prop := ∃ us, us.length = rows.length ∧ OwnV w base v us ∧ (∀ (k : Nat) (r : List Int), rows[k]? = some r → ∃ u, us[k]? = some u ∧ OwnI w base u r) ∧ ∀ (k l : Nat) (u u' : Value), k ≠ l → us[k]? = some u → us[l]? = some u' → u.ownBlock = none ∨ u.ownBlock ≠ u'.ownBlock
theorem OwnT.made (w : World) (base : Nat) (hb : base ≤ w.heap.size) : OwnT (w.alloc (.cells #[] 80)) base (.slice (some ⟨w.heap.size, 0, none⟩) 0 0) [] := ⟨[], rfl, OwnV.made w base hb, by simp, by simp⟩
theorem OwnT.below {w w' : World} {base : Nat} {v : Value} {rows : List (List Int)} (h : OwnT w base v rows) (hb : Below w.heap.size w w') : OwnT w' base v rows := by
  obtain ⟨us, h1, h2, h3, h4⟩ := h
  exact ⟨us, h1, h2.below hb, fun k r hk => let ⟨u, e1, e2⟩ := h3 k r hk; ⟨u, e1, e2.below hb⟩, h4⟩
theorem OwnT.base_le {w : World} {base base' : Nat} {v : Value} {rows : List (List Int)} (h : OwnT w base v rows) (hb : base' ≤ base) : OwnT w base' v rows := by
  obtain ⟨us, h1, h2, h3, h4⟩ := h
  exact ⟨us, h1, h2.base_le hb, fun k r hk => let ⟨u, e1, e2⟩ := h3 k r hk; ⟨u, e1, e2.base_le hb⟩, h4⟩
theorem OwnT.ss {w : World} {base : Nat} {v : Value} {rows : List (List Int)} (h : OwnT w base v rows) : OwnSS w base v rows := by
  obtain ⟨us, h1, h2, h3, h4⟩ := h
  exact ⟨us, h1, h2, h3⟩
/-- append of a row that lies behind all other ones. -/
theorem append_apart {ops : Array Oper} {rest : List Oper} {o : Oper} {a : Act} {Q : Exit → Act → World → Prop} {w w0 : World} {u : Value} {t0 : Nat} (base : Nat) (v : Value) (rows : List (List Int)) (r : List Int) (hown : OwnT w0 base v rows) (hb0 : Below w0.heap.size w0 w) (hu : OwnI w w0.heap.size u r) (hgd : o.guard = none) (s x : Operand)
    (ho : o.op = .call { callee := .builtin .append, args := #[s, x], argTypes := #[22, 22] })
    (hs : a.eval s = v) (hx : a.eval x = .slice (some ⟨w.heap.size, 0, none⟩) 1 1)
    (hlen : rows.length ≤ 1000000) (hbase : base ≤ w0.heap.size)
    (h : ∀ g cap w', OwnT w' base (.slice (some ⟨g, 0, none⟩) (rows.length + 1) cap) (rows ++ [r]) → (∀ b0 a0, Below b0 a0 w → b0 ≤ base → Below b0 a0 w') → w.heap.size < w'.heap.size → wpList Try.prog ops Q rest (a.put o.dst (.slice (some ⟨g, 0, none⟩) (rows.length + 1) cap)) w') :
    wpList Try.prog ops Q (o :: rest) a (w.alloc (.cells #[u] t0)) := by
  obtain ⟨us, h1, h2, h3, h4⟩ := hown
  have hz := hb0.size
  have h2w := h2.below hb0
  have h3w : ∀ (k : Nat) (r : List Int), rows[k]? = some r → ∃ u, us[k]? = some u ∧ OwnI w base u r := fun k r hk => let ⟨u, e1, e2⟩ := h3 k r hk; ⟨u, e1, e2.below hb0⟩
  have huw : OwnI w base u r := hu.base_le hbase
  have hold : ∀ (k : Nat) (x : Value), us[k]? = some x → ∀ g, x.ownBlock = some g → g < w0.heap.size := fun k x hk g hg => by
    have hl : k < rows.length := by rw [← h1]; exact (List.getElem?_eq_some_iff.1 hk).1
    obtain ⟨y, e1, e2⟩ := h3 k _ (List.getElem?_eq_getElem hl)
    rw [hk] at e1; injection e1 with e1; subst e1
    exact (World.ownsRow.lt e2 g hg).2
  have hnew : ∀ g, u.ownBlock = some g → w0.heap.size ≤ g := fun g hg => (World.ownsRow.lt hu g hg).1
  refine append_row base v us h2w huw.one' hgd s x ho hs hx (by omega) (by omega) ?_
  intro g cap w' g1 g2 g3 g4 _
  rw [h1] at g1 ⊢
  obtain ⟨us2, k1, k2, k3⟩ := OwnSS.more h1 h2w h3w huw g4 g1
  refine h g cap w' ⟨us ++ [u], by simp [h1], g1, fun k s hk => ?_, fun k l x y hkl hx hy => ?_⟩ g2 g3
  · by_cases hlt : k < rows.length
    · rw [List.getElem?_append_left hlt] at hk
      obtain ⟨x, e1, e2⟩ := h3w k s hk
      exact ⟨x, by rw [List.getElem?_append_left (by omega)]; exact e1, World.ownsRow.kept e2 g4 (e2.apart h2w)⟩
    · rw [List.getElem?_append_right (by omega)] at hk
      have hk0 : k - rows.length = 0 := by
        have := (List.getElem?_eq_some_iff.1 hk).1
        simp at this; omega
      rw [hk0] at hk
      simp at hk
      subst hk
      refine ⟨u, ?_, World.ownsRow.kept huw g4 (huw.apart h2w)⟩
      have : k = us.length := by omega
      rw [this, List.getElem?_append_right (Nat.le_refl _)]
      simp
  · have hcase : ∀ (k : Nat) (x : Value), (us ++ [u])[k]? = some x → us[k]? = some x ∨ (k = us.length ∧ x = u) := fun k x hk => by
      by_cases hlt : k < us.length
      · rw [List.getElem?_append_left hlt] at hk; exact .inl hk
      · rw [List.getElem?_append_right (by omega)] at hk
        have hk0 : k - us.length = 0 := by
          have := (List.getElem?_eq_some_iff.1 hk).1
          simp at this; omega
        rw [hk0] at hk
        simp at hk
        exact .inr ⟨by omega, hk.symm⟩
    rcases hcase k x hx with hx' | ⟨hx1, hx2⟩
    · rcases hcase l y hy with hy' | ⟨hy1, hy2⟩
      · exact h4 k l x y hkl hx' hy'
      · cases hxb : x.ownBlock with
        | none => exact .inl rfl
        | some gx =>
          right
          intro e
          have := hold k x hx' gx hxb
          have := hnew gx (by rw [← hy2]; exact e.symm)
          omega
    · rcases hcase l y hy with hy' | ⟨hy1, hy2⟩
      · cases hxb : x.ownBlock with
        | none => exact .inl rfl
        | some gx =>
          right
          intro e
          have := hold l y hy' gx e.symm
          have := hnew gx (by rw [← hx2]; exact hxb)
          omega
      · omega
/-- The same, its blocks in sight: block g holds the rows' headers, block bs k row k. -/
structure OutB (w : World) (base g n : Nat) (vs : List Value) (bs cs : Nat → Nat) (M : List (List Int)) : Prop where
  hg : base ≤ g
  box : BoxV 80 w g vs
  len : M.length ≤ vs.length
  hd : ∀ k, k < M.length → vs[k]? = some (.slice (some ⟨bs k, 0, none⟩) n (cs k))
  row : ∀ (k : Nat) (r : List Int), M[k]? = some r → OwnI w base (.slice (some ⟨bs k, 0, none⟩) n (cs k)) r ∧ r.length = n
  inj : ∀ k l, k < M.length → l < M.length → k ≠ l → bs k ≠ bs l
theorem OwnT.out {w : World} {base n : Nat} {v : Value} {M : List (List Int)} (h : OwnT w base v M) (hne : 0 < M.length) (hn : 0 < n) (hr : ∀ r ∈ M, r.length = n) : ∃ g cap vs bs cs, v = .slice (some ⟨g, 0, none⟩) M.length cap ∧ vs.length = cap ∧ OutB w base g n vs bs cs M := by
  obtain ⟨us, h1, h2, h3, h4⟩ := h
  obtain ⟨g, cap, vs, rfl, hg, hgl, hbox, hvl, hcap, htk⟩ := h2.form (by omega)
  have hex : ∀ k, ∃ bc : Nat × Nat, k < M.length → us[k]? = some (.slice (some ⟨bc.1, 0, none⟩) n bc.2) := fun k => by
    by_cases hk : k < M.length
    · have hk' := List.getElem?_eq_getElem hk
      obtain ⟨u, e1, e2⟩ := h3 k _ hk'
      have hl := hr _ (List.getElem_mem hk)
      obtain ⟨b, c, rfl, _⟩ := e2.shape (by intro e; rw [e] at hl; simp at hl; omega)
      exact ⟨(b, c), fun _ => by rw [e1, hl]⟩
    · exact ⟨(0, 0), fun h => absurd h hk⟩
  let f : Nat → Nat × Nat := fun k => Classical.choose (hex k)
  have hf : ∀ k, k < M.length → us[k]? = some (.slice (some ⟨(f k).1, 0, none⟩) n (f k).2) := fun k => Classical.choose_spec (hex k)
  refine ⟨g, cap, vs, fun k => (f k).1, fun k => (f k).2, by rw [h1], hvl, hg, hbox, by omega, fun k hk => take_at htk (hf k hk), fun k r hk => ?_, fun k l hk hl hkl e => ?_⟩
  · have hk' : k < M.length := (List.getElem?_eq_some_iff.1 hk).1
    obtain ⟨u, e1, e2⟩ := h3 k r hk
    rw [hf k hk'] at e1; injection e1 with e1; subst e1
    exact ⟨e2, hr r (List.mem_of_getElem? hk)⟩
  · rcases h4 k l _ _ hkl (hf k hk) (hf l hl) with h | h
    · simp [Value.ownBlock] at h
    · exact h (by simp only [Value.ownBlock]; exact congrArg some e)
theorem OutB.below {w w' : World} {base g n : Nat} {vs : List Value} {bs cs : Nat → Nat} {M : List (List Int)} (h : OutB w base g n vs bs cs M) (hb : Below w.heap.size w w') : OutB w' base g n vs bs cs M :=
  ⟨h.hg, h.box.below hb, h.len, h.hd, fun k r hk => ⟨(h.row k r hk).1.below hb, (h.row k r hk).2⟩, h.inj⟩
theorem OutB.drew {w : World} {base g n : Nat} {vs : List Value} {bs cs : Nat → Nat} {M : List (List Int)} (h : OutB w base g n vs bs cs M) : OutB w.drew base g n vs bs cs M := ⟨h.hg, h.box, h.len, h.hd, h.row, h.inj⟩
/-- What is read of a row. -/
theorem OutB.get {w : World} {base g n : Nat} {vs : List Value} {bs cs : Nat → Nat} {M : List (List Int)} (h : OutB w base g n vs bs cs M) {k : Nat} {r : List Int} (hk : M[k]? = some r) (hn : 0 < n) :
    w.cell? ⟨g, k, none⟩ = some (.slice (some ⟨bs k, 0, none⟩) n (cs k)) ∧ Rd w (bs k) 0 r ∧ (∀ j, w.frozen? ⟨bs k, j, none⟩ = false) ∧ base ≤ bs k ∧ bs k < w.heap.size ∧ r.length = n ∧ n ≤ cs k := by
  have hl : k < M.length := (List.getElem?_eq_some_iff.1 hk).1
  obtain ⟨h1, h2⟩ := h.row k r hk
  obtain ⟨b, c, hv, e1, e2, e3, e4, e5⟩ := h1.shape (by intro e; rw [e] at h2; simp at h2; omega)
  injection hv with hv1 _ hv2
  injection hv1 with hv1
  injection hv1 with hv1
  rw [← hv1] at e1 e2 e3 e4
  exact ⟨h.box.cell k (h.hd k hl), e3, e4, e1, e2, h2, by omega⟩
theorem OutB.frz {w : World} {base g n : Nat} {vs : List Value} {bs cs : Nat → Nat} {M : List (List Int)} (h : OutB w base g n vs bs cs M) (k : Nat) : w.frozen? ⟨g, k, none⟩ = false := h.box.frz k
theorem OwnI.ne_box {w : World} {base b n c g : Nat} {r : List Int} {vs : List Value} (h : OwnI w base (.slice (some ⟨b, 0, none⟩) n c) r) (hb : BoxV 80 w g vs) : b ≠ g := by
  intro e
  obtain ⟨cc, fz, h1⟩ := h.kind b rfl
  unfold BoxV at hb
  rw [← e, h1] at hb
  injection hb with hb
  injection hb with _ hb
  exact absurd hb (by decide)
/-- A row is written. -/
theorem OutB.set {w : World} {base g n : Nat} {vs : List Value} {bs cs : Nat → Nat} {M : List (List Int)} (h : OutB w base g n vs bs cs M) {k j : Nat} {r : List Int} (x : Int) (hk : M[k]? = some r) (hj : j < n) :
    OutB (w.setCell ⟨bs k, j, none⟩ (.int .i64 x)) base g n vs bs cs (M.set k (r.set j x)) := by
  have hl : k < M.length := (List.getElem?_eq_some_iff.1 hk).1
  obtain ⟨h1, h2⟩ := h.row k r hk
  have hne := h1.ne_box h.box
  refine ⟨h.hg, h.box.far (fun e => hne e.symm), by rw [List.length_set]; exact h.len, fun l hl' => h.hd l (by rw [List.length_set] at hl'; exact hl'), fun l s hs => ?_, fun l l' hl1 hl2 => h.inj l l' (by rw [List.length_set] at hl1; exact hl1) (by rw [List.length_set] at hl2; exact hl2)⟩
  rw [List.getElem?_set] at hs
  by_cases e : k = l
  · subst e
    rw [if_pos rfl, if_pos hl] at hs
    injection hs with hs
    subst hs
    exact ⟨h1.set x (by omega), by rw [List.length_set]; exact h2⟩
  · rw [if_neg e] at hs
    have hl' : l < M.length := (List.getElem?_eq_some_iff.1 hs).1
    obtain ⟨g1, g2⟩ := h.row l s hs
    exact ⟨ownsRow_setCell_other g1 (by simp only [Value.ownBlock]; intro e'; injection e' with e'; exact h.inj k l hl hl' e e'.symm) _, g2⟩
theorem set_mid {pre ys : List Int} {x y : Int} : (pre ++ x :: ys).set pre.length y = pre ++ y :: ys := by
  rw [List.set_append_right _ _ (Nat.le_refl _)]; simp
/-- A row is written whole. -/
theorem OutB.setRow' {base g n : Nat} {vs : List Value} {bs cs : Nat → Nat} {k : Nat} : ∀ (ys : List Int) {w : World} {M : List (List Int)} {pre old : List Int}, OutB w base g n vs bs cs M → M[k]? = some (pre ++ old) → old.length = ys.length → pre.length + ys.length = n →
    OutB (setRow w (bs k) pre.length ys) base g n vs bs cs (M.set k (pre ++ ys))
  | [], w, M, pre, old, h, hk, hl, hn => by
    have : old = [] := List.length_eq_zero_iff.1 hl
    subst this
    have hM : M.set k (pre ++ []) = M := by
      apply List.ext_getElem?
      intro i
      rw [List.getElem?_set]
      by_cases e : k = i
      · subst e; rw [if_pos rfl, if_pos (List.getElem?_eq_some_iff.1 hk).1, hk]
      · rw [if_neg e]
    rw [hM]
    exact h
  | y :: ys, w, M, pre, x :: old, h, hk, hl, hn => by
    have hl' : k < M.length := (List.getElem?_eq_some_iff.1 hk).1
    have h1 := h.set (j := pre.length) y hk (by simp at hn; omega)
    rw [set_mid] at h1
    have h2 := OutB.setRow' ys (pre := pre ++ [y]) (old := old) h1 (by rw [List.getElem?_set, if_pos rfl, if_pos hl']; simp) (by simpa using hl) (by simp at hn ⊢; omega)
    rw [List.set_set, List.length_append] at h2
    simpa [setRow] using h2
theorem OutB.setRow {w : World} {base g n : Nat} {vs : List Value} {bs cs : Nat → Nat} {M : List (List Int)} (h : OutB w base g n vs bs cs M) {k : Nat} {r : List Int} (ys : List Int) (hk : M[k]? = some r) (hl : ys.length = n) : OutB (setRow w (bs k) 0 ys) base g n vs bs cs (M.set k ys) := by
  have := OutB.setRow' (k := k) ys (pre := []) (old := r) h (by simpa using hk) (by rw [(h.row k r hk).2, hl]) (by simpa using hl)
  simpa using this
/-- Two places of a function changed. -/
def swp (f : Nat → Nat) (t i : Nat) (k : Nat) : Nat := if k = t then f i else if k = i then f t else f k
/-- Two rows change places. -/
theorem OutB.swap {w : World} {base g n : Nat} {vs : List Value} {bs cs : Nat → Nat} {M : List (List Int)} (h : OutB w base g n vs bs cs M) {t i : Nat} {r s : List Int} (hr : M[t]? = some r) (hs : M[i]? = some s) :
    OutB ((w.setCell ⟨g, t, none⟩ (.slice (some ⟨bs i, 0, none⟩) n (cs i))).setCell ⟨g, i, none⟩ (.slice (some ⟨bs t, 0, none⟩) n (cs t))) base g n ((vs.set t (.slice (some ⟨bs i, 0, none⟩) n (cs i))).set i (.slice (some ⟨bs t, 0, none⟩) n (cs t))) (swp bs t i) (swp cs t i) ((M.set t s).set i r) := by
  have ht : t < M.length := (List.getElem?_eq_some_iff.1 hr).1
  have hi : i < M.length := (List.getElem?_eq_some_iff.1 hs).1
  have hlen : ((M.set t s).set i r).length = M.length := by simp
  have hvl := h.len
  have keep : ∀ {b c : Nat} {x : List Int} {u u' : Value}, OwnI w base (.slice (some ⟨b, 0, none⟩) n c) x → OwnI ((w.setCell ⟨g, t, none⟩ u).setCell ⟨g, i, none⟩ u') base (.slice (some ⟨b, 0, none⟩) n c) x := fun hx => by
    have hne := hx.ne_box h.box
    exact ownsRow_setCell_other (ownsRow_setCell_other hx (by simp only [Value.ownBlock]; intro e; injection e with e; exact hne e) _) (by simp only [Value.ownBlock]; intro e; injection e with e; exact hne e) _
  refine ⟨h.hg, (h.box.set t _).set i _, by simp; exact hvl, fun k hk => ?_, fun k x hx => ?_, fun k l hk hl hkl => ?_⟩
  · rw [hlen] at hk
    unfold swp
    rw [List.getElem?_set, List.length_set]
    by_cases e : i = k
    · subst e
      rw [if_pos rfl, if_pos (by omega)]
      by_cases e2 : i = t
      · subst e2; rw [if_pos rfl, if_pos rfl]
      · rw [if_neg e2, if_pos rfl, if_neg e2, if_pos rfl]
    · rw [if_neg e, List.getElem?_set]
      by_cases e2 : t = k
      · subst e2; rw [if_pos rfl, if_pos (by omega), if_pos rfl, if_pos rfl]
      · rw [if_neg e2, if_neg (Ne.symm e2), if_neg (Ne.symm e), if_neg (Ne.symm e2), if_neg (Ne.symm e)]
        exact h.hd k hk
  · rw [List.getElem?_set, List.length_set] at hx
    unfold swp
    by_cases e : i = k
    · subst e
      rw [if_pos rfl, if_pos hi] at hx
      injection hx with hx
      subst hx
      by_cases e2 : i = t
      · subst e2
        rw [if_pos rfl, if_pos rfl]
        exact ⟨keep (h.row i _ hr).1, (h.row i _ hr).2⟩
      · rw [if_neg e2, if_pos rfl, if_neg e2, if_pos rfl]
        exact ⟨keep (h.row t _ hr).1, (h.row t _ hr).2⟩
    · rw [if_neg e, List.getElem?_set] at hx
      by_cases e2 : t = k
      · subst e2
        rw [if_pos rfl, if_pos ht] at hx
        injection hx with hx
        subst hx
        rw [if_pos rfl, if_pos rfl]
        exact ⟨keep (h.row i _ hs).1, (h.row i _ hs).2⟩
      · rw [if_neg e2] at hx
        rw [if_neg (Ne.symm e2), if_neg (Ne.symm e), if_neg (Ne.symm e2), if_neg (Ne.symm e)]
        exact ⟨keep (h.row k _ hx).1, (h.row k _ hx).2⟩
  · rw [hlen] at hk hl
    have hinj : ∀ a b, a < M.length → b < M.length → bs a = bs b → a = b := fun a b ha hb e => by
      by_cases hab : a = b
      · exact hab
      · exact absurd e (h.inj a b ha hb hab)
    unfold swp
    intro e
    split at e <;> split at e <;> (try split at e) <;> (try split at e) <;> (have e' := hinj _ _ (by assumption) (by assumption) e; omega)
theorem OutB.take {w : World} {base g n : Nat} {vs : List Value} {bs cs : Nat → Nat} {M : List (List Int)} (h : OutB w base g n vs bs cs M) (t : Nat) : OutB w base g n vs bs cs (M.take t) := by
  have hl : (M.take t).length ≤ M.length := by rw [List.length_take]; omega
  have hg : ∀ (k : Nat) (r : List Int), (M.take t)[k]? = some r → M[k]? = some r := fun k r hk => by
    have hk' := (List.getElem?_eq_some_iff.1 hk).1
    rw [List.length_take] at hk'
    rwa [List.getElem?_take_of_lt (by omega)] at hk
  exact ⟨h.hg, h.box, by have := h.len; omega, fun k hk => h.hd k (by omega), fun k r hk => h.row k r (hg k r hk), fun k l hk hl' => h.inj k l (by omega) (by omega)⟩
end Go.Proofs.Ytjfabhkgmelmgaa
