/- Slices of slices of numbers that a call makes itself: their rows, append of a row, what is kept; no condition but on sizes. -/
import Derived.Test.YtjfabhkgmelmgaaI4
import Derived.Test.YtjfabhkgmelmgaaA4
import Derived.Lib.OwnKind
namespace Go.Proofs.Ytjfabhkgmelmgaa
open Go.RowKit
set_option linter.unusedSimpArgs false
set_option linter.unusedVariables false
set_option maxRecDepth 100000

theorem info_row : (Try.prog.info? 80).map (fun i => (i.zero, i.size, i.bytes)) = some (some (.slice none 0 0), 1, 24) := by kernel_rfl
/-- A slice of slices of the call's own, with these row values. -/
def OwnV (w : World) (base : Nat) (v : Value) (us : List Value) : Prop := w.ownsRow base 80 1 v us.length us
/-- A row of the call's own, or an empty one. -/
def RowO (w : World) (base : Nat) (u : Value) (r : List Int) : Prop := (r = [] ∧ ∃ a c, u = .slice a 0 c) ∨ OwnI w base u r
theorem OwnV.base_le {w : World} {base base' : Nat} {v : Value} {us : List Value} (h : OwnV w base v us) (hb : base' ≤ base) : OwnV w base' v us := by
  obtain ⟨h1, h2⟩ := h
  refine ⟨h1, ?_⟩
  rcases h2 with h2 | ⟨g, cap, cur, hv, hg, r⟩
  · exact .inl h2
  · exact .inr ⟨g, cap, cur, hv, Nat.le_trans hb hg, r⟩
theorem OwnV.below {w w' : World} {base : Nat} {v : Value} {us : List Value} (h : OwnV w base v us) (hb : Below w.heap.size w w') : OwnV w' base v us := by
  have hs := h
  obtain ⟨h1, h2⟩ := h
  refine ⟨h1, ?_⟩
  rcases h2 with h2 | ⟨g, cap, cur, rfl, hg, hh, r⟩
  · exact .inl h2
  · exact .inr ⟨g, cap, cur, rfl, hg, by rw [hb.block g (hs.lt g rfl).2]; exact hh, r⟩
theorem OwnV.drew {w : World} {base : Nat} {v : Value} {us : List Value} (h : OwnV w base v us) : OwnV w.drew base v us := h
theorem OwnI.drew {w : World} {base : Nat} {v : Value} {zs : List Int} (h : OwnI w base v zs) : OwnI w.drew base v zs := h
theorem OwnV.alloc {w : World} {base : Nat} {v : Value} {us : List Value} (h : OwnV w base v us) (o : Obj) : OwnV (w.alloc o) base v us := World.ownsRow.alloc h o
theorem OwnV.made (w : World) (base : Nat) (hb : base ≤ w.heap.size) : OwnV (w.alloc (.cells #[] 80)) base (.slice (some ⟨w.heap.size, 0, none⟩) 0 0) [] := World.ownsRow_made w #[] 0 hb (by unfold maxLen; omega) rfl
/-- Its block. -/
theorem OwnV.form {w : World} {base : Nat} {v : Value} {us : List Value} (h : OwnV w base v us) (hne : 0 < us.length) :
    ∃ g cap vs, v = .slice (some ⟨g, 0, none⟩) us.length cap ∧ base ≤ g ∧ g < w.heap.size ∧ BoxV 80 w g vs ∧ vs.length = cap ∧ us.length ≤ cap ∧ vs.take us.length = us := by
  have hs := h
  rcases h.2 with ⟨_, h0⟩ | ⟨g, cap, cur, rfl, hb, hh, hn, hcm, hcs, htake⟩
  · omega
  · refine ⟨g, cap, cur.toList, rfl, hb, (hs.lt g rfl).2, by unfold BoxV; simpa using hh, by simp [hcs], hn, ?_⟩
    simpa using htake
theorem take_at {vs us : List Value} (h : vs.take us.length = us) {k : Nat} {u : Value} (hk : us[k]? = some u) : vs[k]? = some u := by
  have hl := (List.getElem?_eq_some_iff.1 hk).1
  rw [← h] at hk
  rwa [List.getElem?_take_of_lt (by rw [h] at *; exact hl)] at hk
theorem OwnI.kind {w : World} {base : Nat} {u : Value} {r : List Int} (h : OwnI w base u r) : ∀ g, u.ownBlock = some g → ∃ c fz, w.heap[g]? = some (.cells c 2 fz) := Lib.ownsRow_kind h
theorem OwnV.kind {w : World} {base : Nat} {v : Value} {us : List Value} (h : OwnV w base v us) : ∀ g, v.ownBlock = some g → ∃ c fz, w.heap[g]? = some (.cells c 80 fz) := Lib.ownsRow_kind h
theorem OwnI.apart {w : World} {base base' : Nat} {u v : Value} {r : List Int} {us : List Value} (h : OwnI w base u r) (hv : OwnV w base' v us) : u.ownBlock = none ∨ u.ownBlock ≠ v.ownBlock := by
  cases hu : u.ownBlock with
  | none => exact .inl rfl
  | some g =>
    right
    intro e
    obtain ⟨c, fz, h1⟩ := h.kind g hu
    obtain ⟨c', fz', h2⟩ := hv.kind g e.symm
    rw [h1] at h2
    injection h2 with h2
    injection h2 with _ h2
    exact absurd h2 (by decide)
theorem RowO.grown {w w' : World} {base base' : Nat} {u v : Value} {r : List Int} {us : List Value} (h : RowO w base u r) (hv : OwnV w base' v us) (hg : w.grownBy w' v.ownBlock) : RowO w' base u r := by
  rcases h with h | h
  · exact .inl h
  · exact .inr (World.ownsRow.kept h hg (h.apart hv))
theorem RowO.below {w w' : World} {base : Nat} {u : Value} {r : List Int} (h : RowO w base u r) (hb : Below w.heap.size w w') : RowO w' base u r := h.imp id fun h => h.below hb
theorem RowO.base_le {w : World} {base base' : Nat} {u : Value} {r : List Int} (h : RowO w base u r) (hb : base' ≤ base) : RowO w base' u r := h.imp id fun h => h.base_le hb
theorem RowO.drew {w : World} {base : Nat} {u : Value} {r : List Int} (h : RowO w base u r) : RowO w.drew base u r := h
/-- append of one row value, just laid, to a slice of slices of the call's own. -/
theorem append_row {ops : Array Oper} {rest : List Oper} {o : Oper} {a : Act} {Q : Exit → Act → World → Prop} {w : World} {u : Value} {t0 : Nat} (base : Nat) (v : Value) (us : List Value) (hown : OwnV w base v us) (hu : u.oneCell' = true) (hgd : o.guard = none) (s x : Operand)
    (ho : o.op = .call { callee := .builtin .append, args := #[s, x], argTypes := #[22, 22] })
    (hs : a.eval s = v) (hx : a.eval x = .slice (some ⟨w.heap.size, 0, none⟩) 1 1)
    (hlen : us.length ≤ 1000000) (hbase : base ≤ w.heap.size)
    (h : ∀ g cap w', OwnV w' base (.slice (some ⟨g, 0, none⟩) (us.length + 1) cap) (us ++ [u]) → (∀ b0 a0, Below b0 a0 w → b0 ≤ base → Below b0 a0 w') → w.heap.size < w'.heap.size → w.grownBy w' v.ownBlock → (v.ownBlock = some g ∨ w.heap.size ≤ g) → wpList Try.prog ops Q rest (a.put o.dst (.slice (some ⟨g, 0, none⟩) (us.length + 1) cap)) w') :
    wpList Try.prog ops Q (o :: rest) a (w.alloc (.cells #[u] t0)) := by
  obtain ⟨i0, hi, hz0, hz1, hz2⟩ := info_parts info_row
  refine wpList_append_lies _ hgd s x 22 ho base 80 i0 (.slice none 0 0) 1 24 Try.underlying22 hi hz0 hz1 hz2 rfl (by decide) v us.length us hs (hown.alloc _)
    ⟨w.heap.size, 0, none⟩ 1 1 [u] hx rfl ?_ ?_ (by decide) ?_ ?_ (by simp; omega) _ rfl ?_
  · intro j u' hj
    match j, hj with
    | 0, hj => simp at hj; subst hj; simp [Addr.add]
  · intro u' hu'; simp at hu'; subst hu'; exact hu
  · unfold maxLen; omega
  · omega
  · intro g cap w' h1 h2 h4 _
    have hsz := h2.size
    refine h g cap w' ?_ ?_ (by simp at hsz; omega) (grown_trans (World.grownBy_alloc _ _ _) h2) (h4.imp id fun e => by rw [e]; simp)
    · unfold OwnV; simpa using h1
    · intro b0 a0 hb hle
      exact (hb.alloc (by omega) _).grown h2 (by simp; omega) (fun k hk => by have := (hown.lt k hk).1; omega)
/-- A slice of slices with these rows, of the call's own. -/
def OwnSS (w : World) (base : Nat) (v : Value) (rows : List (List Int)) : Prop := ∃ us, us.length = rows.length ∧ OwnV w base v us ∧ ∀ (k : Nat) (r : List Int), rows[k]? = some r → ∃ u, us[k]? = some u ∧ OwnI w base u r
theorem OwnSS.below {w w' : World} {base : Nat} {v : Value} {rows : List (List Int)} (h : OwnSS w base v rows) (hb : Below w.heap.size w w') : OwnSS w' base v rows := by
  obtain ⟨us, h1, h2, h3⟩ := h
  exact ⟨us, h1, h2.below hb, fun k r hk => let ⟨u, e1, e2⟩ := h3 k r hk; ⟨u, e1, e2.below hb⟩⟩
theorem OwnSS.drew {w : World} {base : Nat} {v : Value} {rows : List (List Int)} (h : OwnSS w base v rows) : OwnSS w.drew base v rows := h
theorem OwnSS.base_le {w : World} {base base' : Nat} {v : Value} {rows : List (List Int)} (h : OwnSS w base v rows) (hb : base' ≤ base) : OwnSS w base' v rows := by
  obtain ⟨us, h1, h2, h3⟩ := h
  exact ⟨us, h1, h2.base_le hb, fun k r hk => let ⟨u, e1, e2⟩ := h3 k r hk; ⟨u, e1, e2.base_le hb⟩⟩
theorem OwnSS.made (w : World) (base : Nat) (hb : base ≤ w.heap.size) : OwnSS (w.alloc (.cells #[] 80)) base (.slice (some ⟨w.heap.size, 0, none⟩) 0 0) [] := ⟨[], rfl, OwnV.made w base hb, by simp⟩
/-- A row of it can be read. -/
theorem OwnSS.row {w : World} {base : Nat} {v : Value} {rows : List (List Int)} (h : OwnSS w base v rows) {k : Nat} {r : List Int} (hk : rows[k]? = some r) (hne : r ≠ []) :
    ∃ g cap b c, v = .slice (some ⟨g, 0, none⟩) rows.length cap ∧ w.cell? ⟨g, k, none⟩ = some (.slice (some ⟨b, 0, none⟩) r.length c) ∧ base ≤ g ∧ g < w.heap.size ∧ base ≤ b ∧ b < w.heap.size ∧ Rd w b 0 r := by
  obtain ⟨us, h1, h2, h3⟩ := h
  have hl : k < rows.length := (List.getElem?_eq_some_iff.1 hk).1
  obtain ⟨g, cap, vs, rfl, hg, hgl, hbox, hvl, hcap, htk⟩ := h2.form (by omega)
  obtain ⟨u, e1, e2⟩ := h3 k r hk
  obtain ⟨b, c, rfl, hb, hbl, hrd, _⟩ := e2.shape hne
  exact ⟨g, cap, b, c, by rw [h1], hbox.cell k (take_at htk e1), hg, hgl, hb, hbl, hrd⟩
theorem OwnSS.shape {w : World} {base : Nat} {v : Value} {rows : List (List Int)} (h : OwnSS w base v rows) : ∃ a c, v = .slice a rows.length c := by
  obtain ⟨us, h1, h2, h3⟩ := h
  rcases h2.2 with ⟨rfl, h0⟩ | ⟨g, cap, cur, rfl, _⟩
  · exact ⟨none, 0, by rw [← h1, h0]⟩
  · exact ⟨_, _, by rw [h1]⟩
/-- One row more. -/
theorem OwnSS.more {w w' : World} {base : Nat} {v v' u : Value} {rows : List (List Int)} {us : List Value} {r : List Int} (h1 : us.length = rows.length) (h2 : OwnV w base v us) (h3 : ∀ (k : Nat) (r : List Int), rows[k]? = some r → ∃ u, us[k]? = some u ∧ OwnI w base u r) (hu : OwnI w base u r) (hg : w.grownBy w' v.ownBlock) (hn : OwnV w' base v' (us ++ [u])) : OwnSS w' base v' (rows ++ [r]) := by
  refine ⟨us ++ [u], by simp [h1], hn, fun k s hk => ?_⟩
  by_cases hlt : k < rows.length
  · rw [List.getElem?_append_left hlt] at hk
    obtain ⟨x, e1, e2⟩ := h3 k s hk
    exact ⟨x, by rw [List.getElem?_append_left (by omega)]; exact e1, World.ownsRow.kept e2 hg (e2.apart h2)⟩
  · rw [List.getElem?_append_right (by omega)] at hk
    have hk0 : k - rows.length = 0 := by
      have := (List.getElem?_eq_some_iff.1 hk).1
      simp at this; omega
    rw [hk0] at hk
    simp at hk
    subst hk
    refine ⟨u, ?_, World.ownsRow.kept hu hg (hu.apart h2)⟩
    have : k = us.length := by omega
    rw [this, List.getElem?_append_right (Nat.le_refl _)]
    simp
theorem OwnI.slice {w : World} {base : Nat} {u : Value} {r : List Int} (h : OwnI w base u r) : ∃ a c, u = .slice a r.length c := by
  rcases h.2 with ⟨rfl, h0⟩ | ⟨g, cap, cur, rfl, _⟩
  · exact ⟨none, 0, by rw [h0]⟩
  · exact ⟨_, _, rfl⟩
theorem OwnI.one' {w : World} {base : Nat} {u : Value} {r : List Int} (h : OwnI w base u r) : u.oneCell' = true := by
  obtain ⟨a, c, rfl⟩ := h.slice; rfl
/-- Its block lies at B or behind. -/
def NB (B : Nat) (v : Value) : Prop := ∀ g, v.ownBlock = some g → B ≤ g
theorem NB.apart {B : Nat} {v v2 : Value} (h : NB B v) (h2 : ∀ g, v2.ownBlock = some g → g < B) : v2.ownBlock = none ∨ v2.ownBlock ≠ v.ownBlock := by
  cases hv : v2.ownBlock with
  | none => exact .inl rfl
  | some g =>
    right
    intro e
    have h3 := h2 g hv
    have h4 := h g e.symm
    omega
theorem NB.new {B g n c : Nat} (h : B ≤ g) : NB B (.slice (some ⟨g, 0, none⟩) n c) := fun g' e => by simp [Value.ownBlock] at e; omega
/-- append of a row of the call's own. -/
theorem append_own {ops : Array Oper} {rest : List Oper} {o : Oper} {a : Act} {Q : Exit → Act → World → Prop} {w : World} {u : Value} {t0 : Nat} (base : Nat) (v : Value) (rows : List (List Int)) (r : List Int) (hown : OwnSS w base v rows) (hu : OwnI w base u r) (hgd : o.guard = none) (s x : Operand)
    (ho : o.op = .call { callee := .builtin .append, args := #[s, x], argTypes := #[22, 22] })
    (hs : a.eval s = v) (hx : a.eval x = .slice (some ⟨w.heap.size, 0, none⟩) 1 1)
    (hlen : rows.length ≤ 1000000) (hbase : base ≤ w.heap.size)
    (h : ∀ g cap w', OwnSS w' base (.slice (some ⟨g, 0, none⟩) (rows.length + 1) cap) (rows ++ [r]) → (∀ b0 a0, Below b0 a0 w → b0 ≤ base → Below b0 a0 w') → w.heap.size < w'.heap.size → (∀ b s, OwnI w b u s → OwnI w' b u s) → (∀ b v2 rows2, OwnSS w b v2 rows2 → (v2.ownBlock = none ∨ v2.ownBlock ≠ v.ownBlock) → OwnSS w' b v2 rows2) → (∀ B, B ≤ w.heap.size → NB B v → B ≤ g) → wpList Try.prog ops Q rest (a.put o.dst (.slice (some ⟨g, 0, none⟩) (rows.length + 1) cap)) w') :
    wpList Try.prog ops Q (o :: rest) a (w.alloc (.cells #[u] t0)) := by
  obtain ⟨us, h1, h2, h3⟩ := hown
  refine append_row base v us h2 hu.one' hgd s x ho hs hx (by omega) hbase ?_
  intro g cap w' g1 g2 g3 g4 g5
  rw [h1] at g1 ⊢
  refine h g cap w' (OwnSS.more h1 h2 h3 hu g4 g1) g2 g3 (fun b s hs => World.ownsRow.kept hs g4 (hs.apart h2)) (fun b v2 rows2 ⟨us2, k1, k2, k3⟩ hne => ⟨us2, k1, World.ownsRow.kept k2 g4 hne, fun k s hk => ?_⟩) (fun B hB hv => g5.elim (fun e => hv g e) (fun e => Nat.le_trans hB e))
  obtain ⟨x, e1, e2⟩ := k3 k s hk
  exact ⟨x, e1, World.ownsRow.kept e2 g4 (e2.apart h2)⟩
theorem OwnSS.alloc {w : World} {base : Nat} {v : Value} {rows : List (List Int)} (h : OwnSS w base v rows) (o : Obj) : OwnSS (w.alloc o) base v rows := by
  obtain ⟨us, h1, h2, h3⟩ := h
  exact ⟨us, h1, h2.alloc o, fun k r hk => let ⟨u, e1, e2⟩ := h3 k r hk; ⟨u, e1, e2.alloc o⟩⟩
theorem OwnSS.lt {w : World} {base : Nat} {v : Value} {rows : List (List Int)} (h : OwnSS w base v rows) : ∀ g, v.ownBlock = some g → base ≤ g ∧ g < w.heap.size := by
  obtain ⟨us, h1, h2, h3⟩ := h
  exact h2.lt
theorem OwnSS.apart {w : World} {B : Nat} {v v2 : Value} {rows : List (List Int)} (h : OwnSS w B v rows) (h2 : ∀ g, v2.ownBlock = some g → g < B) : v2.ownBlock = none ∨ v2.ownBlock ≠ v.ownBlock := by
  cases hv : v2.ownBlock with
  | none => exact .inl rfl
  | some g =>
    right
    intro e
    have h3 := h2 g hv
    have h4 := h.lt g e.symm
    omega
theorem OwnSS.row2 {w : World} {base : Nat} {v : Value} {rows : List (List Int)} (h : OwnSS w base v rows) {k : Nat} {r : List Int} (hk : rows[k]? = some r) (hne : r ≠ []) :
    ∃ g cap b c, v = .slice (some ⟨g, 0, none⟩) rows.length cap ∧ w.cell? ⟨g, k, none⟩ = some (.slice (some ⟨b, 0, none⟩) r.length c) ∧ base ≤ g ∧ g < w.heap.size ∧ base ≤ b ∧ b < w.heap.size ∧ Rd w b 0 r ∧ OwnI w base (.slice (some ⟨b, 0, none⟩) r.length c) r := by
  obtain ⟨us, h1, h2, h3⟩ := h
  have hl : k < rows.length := (List.getElem?_eq_some_iff.1 hk).1
  obtain ⟨g, cap, vs, rfl, hg, hgl, hbox, hvl, hcap, htk⟩ := h2.form (by omega)
  obtain ⟨u, e1, e2⟩ := h3 k r hk
  obtain ⟨b, c, rfl, hb, hbl, hrd, _⟩ := e2.shape hne
  exact ⟨g, cap, b, c, by rw [h1], hbox.cell k (take_at htk e1), hg, hgl, hb, hbl, hrd, e2⟩
theorem OwnI.apartSS {w : World} {base base' : Nat} {u v : Value} {r : List Int} {rows : List (List Int)} (h : OwnI w base u r) (hv : OwnSS w base' v rows) : u.ownBlock = none ∨ u.ownBlock ≠ v.ownBlock := by
  obtain ⟨us, h1, h2, h3⟩ := hv
  exact h.apart h2
theorem BoxV.new {E : Nat} {w : World} {u : Value} : BoxV E (w.alloc (.cells #[u] E)) w.heap.size [u] := by
  unfold BoxV World.alloc
  simp only [Array.getElem?_push_size]
/-- append of a row of the call's own as a step of a drawn region. -/
theorem append_own_step {ops : Array Oper} {o : Oper} {a : Act} {K : Act → World → Prop} {Q : Exit → Act → World → Prop} {E0 : Prop} {w : World} {u : Value} (base : Nat) (v : Value) (rows : List (List Int)) (r : List Int) (hgd : o.guard = none) (s x : Operand)
    (ho : o.op = .call { callee := .builtin .append, args := #[s, x], argTypes := #[22, 22] })
    (hs : a.eval s = v) (hown : OwnSS w base v rows) {B bu T : Nat} (hx : a.eval x = .slice (some ⟨B, 0, none⟩) 1 1) (hB : BoxV T w B [u]) (hu : OwnI w bu u r) (hbu : base ≤ bu)
    (hlen : rows.length ≤ 1000000) (hbase : base ≤ w.heap.size)
    (h : ∀ g cap w', OwnSS w' base (.slice (some ⟨g, 0, none⟩) (rows.length + 1) cap) (rows ++ [r]) → w.grownBy w' v.ownBlock → (∀ b0 a0, Below b0 a0 w → b0 ≤ base → Below b0 a0 w') → (∀ b u s, OwnI w b u s → OwnI w' b u s) → (∀ b v2 rows2, OwnSS w b v2 rows2 → (v2.ownBlock = none ∨ v2.ownBlock ≠ v.ownBlock) → OwnSS w' b v2 rows2) → (∀ B, B ≤ w.heap.size → NB B v → B ≤ g) → K (a.put o.dst (.slice (some ⟨g, 0, none⟩) (rows.length + 1) cap)) w') :
    if Region.wanted o (yielded ops a.tmps) = true then Oper.wp Try.prog o a w K Q else E0 := by
  obtain ⟨us, h1, h2, h3⟩ := hown
  obtain ⟨i0, hi, hz0, hz1, hz2⟩ := info_parts info_row
  refine step_append_lies w hgd s x 22 ho base 80 i0 (.slice none 0 0) 1 24 Try.underlying22 hi hz0 hz1 hz2 rfl (by decide) v us.length us hs h2
    ⟨B, 0, none⟩ 1 1 [u] hx rfl ?_ ?_ (by decide) ?_ ?_ hbase _ rfl ?_
  · intro j u' hj
    exact World.news_of_block hB j u' (by simpa using hj)
  · intro u' hu'; simp at hu'; subst hu'; exact hu.one'
  · unfold maxLen; omega
  · omega
  · intro g cap w' k1 k2 k4 _
    rw [h1] at k1 ⊢
    refine h g cap w' (OwnSS.more h1 h2 h3 (hu.base_le hbu) k2 ?_) k2 ?_ (fun b u s hs => World.ownsRow.kept hs k2 (hs.apart h2)) (fun b v2 rows2 ⟨us2, q1, q2, q3⟩ hne => ⟨us2, q1, World.ownsRow.kept q2 k2 hne, fun k s hk => ?_⟩) (fun B hB hv => k4.elim (fun e => hv g e) (fun e => by omega))
    · unfold OwnV; rw [List.length_append, h1]; exact k1
    · intro b0 a0 hb hle
      exact hb.grown k2 (by omega) (fun k hk => by have := (h2.lt k hk).1; omega)
    · obtain ⟨x, e1, e2⟩ := q3 k s hk
      exact ⟨x, e1, World.ownsRow.kept e2 k2 (e2.apart h2)⟩
end Go.Proofs.Ytjfabhkgmelmgaa
