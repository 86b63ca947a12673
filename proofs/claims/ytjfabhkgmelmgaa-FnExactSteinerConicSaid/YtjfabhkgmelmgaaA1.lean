/- Slices of arrays of numbers that a call makes and owns: what they hold, how they are read, and what append does to them; no condition. -/
import Derived.Test.YtjfabhkgmelmgaaW6
import Derived.Laws.IdiomCopy
import Derived.Deep.AppendLies
namespace Go.Proofs.Ytjfabhkgmelmgaa
open Go.RowKit
set_option linter.unusedSimpArgs false
set_option linter.unusedVariables false
set_option maxRecDepth 100000

def cellsA (rows : List (List Int)) : List Value := rows.flatten.map (Value.int .i64)
/-- A slice value with these rows of n numbers, in memory of the call's own from block base on. -/
def OwnA (E n : Nat) (w : World) (base : Nat) (v : Value) (rows : List (List Int)) : Prop :=
  (∀ r ∈ rows, r.length = n) ∧ w.ownsRow base E n v rows.length (cellsA rows)
/-- The cells from off on hold these rows. -/
def RdA (w : World) (b off n : Nat) (rows : List (List Int)) : Prop :=
  ∀ i r, rows[i]? = some r → ∀ j x, r[j]? = some x → w.cell? ⟨b, off + i * n + j, none⟩ = some (.int .i64 x)
/-- A slice value that reads as these rows. -/
def SlA (w : World) (v : Value) (n : Nat) (rows : List (List Int)) : Prop :=
  ∃ a cap, v = .slice a rows.length cap ∧ (rows = [] ∨ ∃ g off, a = some ⟨g, off, none⟩ ∧ g < w.heap.size ∧ RdA w g off n rows)

theorem flat_len {n : Nat} : ∀ {rows : List (List Int)}, (∀ r ∈ rows, r.length = n) → rows.flatten.length = rows.length * n
  | [], _ => by simp
  | r :: rows, h => by
    have h1 := h r (by simp)
    have h2 := flat_len (n := n) (rows := rows) (fun r hr => h r (by simp [hr]))
    simp only [List.flatten_cons, List.length_append, h1, h2, List.length_cons]
    rw [Nat.add_mul]; omega
theorem flat_get {n : Nat} : ∀ {rows : List (List Int)}, (∀ r ∈ rows, r.length = n) → ∀ {i j : Nat} {r : List Int} {x : Int}, rows[i]? = some r → r[j]? = some x → rows.flatten[i * n + j]? = some x
  | [], _, i, j, r, x, hi, _ => by simp at hi
  | r0 :: rows, h, 0, j, r, x, hi, hj => by
    simp at hi; subst hi
    have hl : j < r0.length := by
      rcases Nat.lt_or_ge j r0.length with h' | h'
      · exact h'
      · rw [List.getElem?_eq_none h'] at hj; cases hj
    rw [Nat.zero_mul, Nat.zero_add, List.flatten_cons, List.getElem?_append_left hl]; exact hj
  | r0 :: rows, h, i + 1, j, r, x, hi, hj => by
    have h1 := h r0 (by simp)
    have h2 := flat_get (n := n) (rows := rows) (fun r hr => h r (by simp [hr])) (i := i) (j := j) (r := r) (x := x) (by simpa using hi) hj
    rw [List.flatten_cons, List.getElem?_append_right (by rw [h1, Nat.add_mul]; omega), h1, show (i + 1) * n + j - n = i * n + j by rw [Nat.add_mul]; omega]
    exact h2
theorem cellsA_append (a b : List (List Int)) : cellsA (a ++ b) = cellsA a ++ cellsA b := by simp [cellsA]
theorem cellsA_one (r : List Int) : cellsA [r] = r.map (Value.int .i64) := by simp [cellsA]
theorem cellsA_len {n : Nat} {rows : List (List Int)} (h : ∀ r ∈ rows, r.length = n) : (cellsA rows).length = rows.length * n := by simp only [cellsA, List.length_map, flat_len h]

theorem RdA.below {w w' : World} {b off n : Nat} {rows : List (List Int)} (h : RdA w b off n rows) (hb : Below w.heap.size w w') (hlt : b < w.heap.size) : RdA w' b off n rows :=
  fun i r hi j x hj => by rw [hb.cell (p := ⟨b, _, none⟩) hlt]; exact h i r hi j x hj
theorem SlA.below {w w' : World} {v : Value} {n : Nat} {rows : List (List Int)} (h : SlA w v n rows) (hb : Below w.heap.size w w') : SlA w' v n rows := by
  obtain ⟨a, cap, hv, h⟩ := h
  refine ⟨a, cap, hv, ?_⟩
  rcases h with h | ⟨g, off, ha, hg, hr⟩
  · exact .inl h
  · exact .inr ⟨g, off, ha, Nat.lt_of_lt_of_le hg hb.size, hr.below hb hg⟩
theorem OwnA.lens {E n : Nat} {w : World} {base : Nat} {v : Value} {rows : List (List Int)} (h : OwnA E n w base v rows) : ∀ r ∈ rows, r.length = n := h.1
theorem OwnA.shape {E n : Nat} {w : World} {base : Nat} {v : Value} {rows : List (List Int)} (h : OwnA E n w base v rows) (hne : rows ≠ []) :
    ∃ g cap, v = .slice (some ⟨g, 0, none⟩) rows.length cap ∧ base ≤ g ∧ g < w.heap.size ∧ RdA w g 0 n rows ∧ (∀ j, w.frozen? ⟨g, j, none⟩ = false) ∧ rows.length ≤ cap := by
  obtain ⟨hl, hs⟩ := h
  have hs0 := hs
  rcases hs.2 with ⟨_, h0⟩ | ⟨g, cap, cur, rfl, hb, hh, hn, hcm, hcs, htake⟩
  · exact absurd (List.length_eq_zero_iff.1 h0) hne
  · have hlt : g < w.heap.size := (hs0.lt g rfl).2
    refine ⟨g, cap, rfl, hb, hlt, ?_, fun j => hs0.frozenAt j, hn⟩
    intro i r hi j x hj
    have h1 := flat_get hl hi hj
    have h2 := hs0.cells (g := g) rfl (i * n + j) (.int .i64 x) (by simp only [cellsA, List.getElem?_map, h1, Option.map_some])
    rw [Addr.add_lit] at h2
    simpa using h2
theorem OwnA.at_ {E n : Nat} {w : World} {base g len cap : Nat} {rows : List (List Int)} (h : OwnA E n w base (.slice (some ⟨g, 0, none⟩) len cap) rows) :
    base ≤ g ∧ g < w.heap.size ∧ RdA w g 0 n rows ∧ (∀ j, w.frozen? ⟨g, j, none⟩ = false) ∧ len ≤ cap ∧ Hid (rows.length = len) := by
  by_cases hne : rows = []
  · subst hne
    rcases h.2.2 with ⟨h1, _⟩ | ⟨g', cap', cur, hv, hb, hh, hn, hm, hs, ht⟩
    · cases h1
    · injection hv with hv1 hv2 hv3; injection hv1 with hv1; injection hv1 with hv1; subst hv1 hv2 hv3
      exact ⟨hb, (h.2.lt g rfl).2, fun i r hi => by simp at hi, fun j => frozen_of_row w g j cur E hh, hn, rfl⟩
  · obtain ⟨g', cap', hv, h1, h2, h3, h4, h5⟩ := h.shape hne
    injection hv with hv1 hv2 hv3; injection hv1 with hv1; injection hv1 with hv1; subst hv1 hv2 hv3
    exact ⟨h1, h2, h3, h4, h5, rfl⟩
theorem OwnA.sl {E n : Nat} {w : World} {base : Nat} {v : Value} {rows : List (List Int)} (h : OwnA E n w base v rows) : SlA w v n rows := by
  by_cases hne : rows = []
  · subst hne
    rcases h.2.2 with ⟨rfl, _⟩ | ⟨g, cap, cur, rfl, _⟩
    · exact ⟨none, 0, rfl, .inl rfl⟩
    · exact ⟨_, cap, rfl, .inl rfl⟩
  · obtain ⟨g, cap, hv, _, hg, hr, _, _⟩ := h.shape hne
    exact ⟨_, cap, hv, .inr ⟨g, 0, rfl, hg, hr⟩⟩
theorem OwnA.base_le {E n : Nat} {w : World} {base base' : Nat} {v : Value} {rows : List (List Int)} (h : OwnA E n w base v rows) (hb : base' ≤ base) : OwnA E n w base' v rows := by
  obtain ⟨h0, h1, h2⟩ := h
  refine ⟨h0, h1, ?_⟩
  rcases h2 with h2 | ⟨g, cap, cur, hv, hg, r⟩
  · exact .inl h2
  · exact .inr ⟨g, cap, cur, hv, Nat.le_trans hb hg, r⟩
theorem OwnA.below {E n : Nat} {w w' : World} {base : Nat} {v : Value} {rows : List (List Int)} (h : OwnA E n w base v rows) (hb : Below w.heap.size w w') : OwnA E n w' base v rows := by
  obtain ⟨h0, h1, h2⟩ := h
  have hs : w.ownsRow base E n v rows.length (cellsA rows) := ⟨h1, h2⟩
  refine ⟨h0, h1, ?_⟩
  rcases h2 with h2 | ⟨g, cap, cur, rfl, hg, hh, r⟩
  · exact .inl h2
  · exact .inr ⟨g, cap, cur, rfl, hg, by rw [hb.block g (hs.lt g rfl).2]; exact hh, r⟩
theorem OwnA.alloc {E n : Nat} {w : World} {base : Nat} {v : Value} {rows : List (List Int)} (h : OwnA E n w base v rows) (o : Obj) : OwnA E n (w.alloc o) base v rows := ⟨h.1, World.ownsRow.alloc h.2 o⟩
theorem OwnA.nil (E n : Nat) (w : World) (base : Nat) : OwnA E n w base (.slice none 0 0) [] := ⟨by simp, World.ownsRow_nil w base E n⟩
theorem OwnA.made {n : Nat} (E : Nat) (w : World) (cur : Array Value) (cap base : Nat) (hb : base ≤ w.heap.size) (hm : cap ≤ maxLen) (hs : cur.size = cap * n) :
    OwnA E n (w.alloc (.cells cur E)) base (.slice (some ⟨w.heap.size, 0, none⟩) 0 cap) [] := ⟨by simp, World.ownsRow_made w cur cap hb hm hs⟩
theorem OwnA.lit {n : Nat} (E : Nat) (w : World) (rows : List (List Int)) (base : Nat) (h : ∀ r ∈ rows, r.length = n) (hb : base ≤ w.heap.size) (hm : rows.length ≤ maxLen) :
    OwnA E n (w.alloc (.cells (cellsA rows).toArray E)) base (.slice (some ⟨w.heap.size, 0, none⟩) rows.length rows.length) rows :=
  ⟨h, cellsA_len h, .inr ⟨w.heap.size, rows.length, (cellsA rows).toArray, rfl, hb, by unfold World.alloc; simp, Nat.le_refl _, hm, by simp [cellsA_len h], by
    simp only
    rw [← cellsA_len h, List.take_length]⟩⟩
theorem flat_set {n : Nat} : ∀ {rows : List (List Int)}, (∀ r ∈ rows, r.length = n) → ∀ {i j : Nat} {x : Int} (hi : i < rows.length), j < n → (rows.set i (rows[i].set j x)).flatten = rows.flatten.set (i * n + j) x
  | [], _, i, j, x, hi, _ => by simp at hi
  | r0 :: rows, h, 0, j, x, hi, hj => by
    have h0 := h r0 (by simp)
    simp only [List.set_cons_zero, List.getElem_cons_zero, List.flatten_cons, Nat.zero_mul, Nat.zero_add]
    rw [List.set_append_left _ _ (by omega)]
  | r0 :: rows, h, i + 1, j, x, hi, hj => by
    have h0 := h r0 (by simp)
    have h2 := flat_set (n := n) (rows := rows) (fun r hr => h r (by simp [hr])) (i := i) (j := j) (x := x) (by simpa using hi) hj
    simp only [List.set_cons_succ, List.getElem_cons_succ, List.flatten_cons, h2]
    rw [List.set_append_right _ _ (by rw [h0, Nat.add_mul]; omega), h0, show (i + 1) * n + j - n = i * n + j by rw [Nat.add_mul]; omega]
theorem OwnA.set {E n : Nat} {w : World} {base g len cap : Nat} {rows : List (List Int)} (h : OwnA E n w base (.slice (some ⟨g, 0, none⟩) len cap) rows) {i j : Nat} (x : Int) (hi : i < rows.length) (hj : j < n) :
    OwnA E n (w.setCell ⟨g, i * n + j, none⟩ (.int .i64 x)) base (.slice (some ⟨g, 0, none⟩) len cap) (rows.set i (rows[i].set j x)) := by
  have hlen : len = rows.length := by
    rcases h.2.2 with ⟨h1, _⟩ | ⟨g', cap', cur, h1, _⟩
    · cases h1
    · injection h1
  subst hlen
  refine ⟨?_, ?_⟩
  · intro r hr
    rcases List.mem_or_eq_of_mem_set hr with h' | h'
    · exact h.1 r h'
    · rw [h', List.length_set]; exact h.1 _ (List.getElem_mem hi)
  · have h1 := (h.2.stored (i * n + j) (.int .i64 x)).1
    have e : cellsA (rows.set i (rows[i].set j x)) = (cellsA rows).set (i * n + j) (.int .i64 x) := by
      unfold cellsA
      rw [flat_set h.1 hi hj, List.map_set]
    rw [e, List.length_set]
    exact h1
theorem OwnA.take {E n : Nat} {w : World} {base g len cap : Nat} {rows : List (List Int)} (h : OwnA E n w base (.slice (some ⟨g, 0, none⟩) len cap) rows) {i : Nat} (hi : i ≤ len) :
    OwnA E n w base (.slice (some ⟨g, 0, none⟩) i cap) (rows.take i) := by
  obtain ⟨hl, h1, h2⟩ := h
  have hl' : ∀ r ∈ rows.take i, r.length = n := fun r hr => hl r (List.mem_of_mem_take hr)
  rcases h2 with ⟨h2, _⟩ | ⟨g', cap', cur, hv, hb, hh, hn, hm, hs, ht⟩
  · cases h2
  · injection hv with hv1 hv2 hv3
    injection hv1 with hv1
    injection hv1 with hv1
    subst hv1 hv2 hv3
    have hlen : (rows.take i).length = i := by rw [List.length_take]; omega
    refine ⟨hl', cellsA_len hl', .inr ⟨g, cap, cur, by rw [hlen], hb, hh, by omega, hm, hs, ?_⟩⟩
    have e : cellsA rows = cellsA (rows.take i) ++ cellsA (rows.drop i) := by rw [← cellsA_append, List.take_append_drop]
    have hle : (cellsA (rows.take i)).length = i * n := by rw [cellsA_len hl', hlen]
    rw [hlen]
    have h3 : cur.toList.take (i * n) = (cur.toList.take (rows.length * n)).take (i * n) := by
      rw [List.take_take, Nat.min_eq_left (Nat.mul_le_mul_right n hi)]
    rw [h3, ht, e, ← hle, List.take_left']
    rfl
theorem OwnA.past {E n : Nat} {w : World} {base g len cap : Nat} {rows : List (List Int)} (h : OwnA E n w base (.slice (some ⟨g, 0, none⟩) len cap) rows) {j : Nat} (hj : len * n ≤ j) (u : Value) :
    OwnA E n (w.setCell ⟨g, j, none⟩ u) base (.slice (some ⟨g, 0, none⟩) len cap) rows := by
  obtain ⟨hl, h1, h2⟩ := h
  have h0 : w.ownsRow base E n (.slice (some ⟨g, 0, none⟩) len cap) rows.length (cellsA rows) := ⟨h1, h2⟩
  have hlen : len = rows.length := by
    rcases h2 with ⟨h2, _⟩ | ⟨g', cap', cur, hv, _⟩
    · cases h2
    · injection hv
  subst hlen
  have h3 := (h0.stored j u).1
  rw [List.set_eq_of_length_le (by rw [h1]; exact hj)] at h3
  exact ⟨hl, h3⟩
theorem OwnA.pasts {E n : Nat} {base g len cap : Nat} {rows : List (List Int)} (vs : List Value) : ∀ {w : World} (j : Nat), OwnA E n w base (.slice (some ⟨g, 0, none⟩) len cap) rows → len * n ≤ j → OwnA E n (w.setCells g j vs) base (.slice (some ⟨g, 0, none⟩) len cap) rows := by
  induction vs with
  | nil => intro w j h _; exact h
  | cons v vs ih => intro w j h hj; exact ih _ (h.past hj v) (by omega)
theorem setCells_grown (g : Nat) (vs : List Value) : ∀ (w : World) (j : Nat), w.grownBy (w.setCells g j vs) (some g) := by
  induction vs with
  | nil => intro w j; exact ⟨rfl, rfl, rfl, Nat.le_refl _, fun _ _ _ => rfl⟩
  | cons v vs ih =>
    intro w j
    have h1 : w.grownBy (w.setCell ⟨g, j, none⟩ v) (some g) := ⟨rfl, rfl, rfl, by simp, fun k _ hk => Below.heap_setCell _ _ _ _ (by intro e; exact hk (by rw [e]))⟩
    have h2 := ih (w.setCell ⟨g, j, none⟩ v) (j + 1)
    exact ⟨h2.os.trans h1.os, h2.tape.trans h1.tape, h2.output.trans h1.output, Nat.le_trans h1.size h2.size, fun k hk hne => (h2.block k (by have := h1.size; omega) hne).trans (h1.block k hk hne)⟩
/-- clear(s[i:]) at a slice of the call's own. -/
theorem clear_own {E n t ty : Nat} {z : Value} {zs : List Value} (ht : Try.prog.underlying t = some (.slice E)) (hz : ∀ w, (zeroValue E).run Try.prog w = .ok z w) (hzc : z.cells = zs.toArray) (hzn : zs.length = n) (h1 : ∀ u ∈ zs, u.oneCell' = true)
    {w : World} {base g len cap i : Nat} {rows : List (List Int)} (h : OwnA E n w base (.slice (some ⟨g, 0, none⟩) len cap) rows) (hi : i < len) :
    ∃ w', (Builtin.clear_ #[t] ty #[.slice (some ⟨g, i * n, none⟩) (len - i) (cap - i)]).run Try.prog w = .ok (.tuple #[]) w' ∧ OwnA E n w' base (.slice (some ⟨g, 0, none⟩) i cap) (rows.take i) ∧ w.grownBy w' (some g) := by
  obtain ⟨m, hm⟩ : ∃ m, len - i = m + 1 := ⟨len - i - 1, by omega⟩
  have hlen : len = rows.length := by
    rcases h.2.2 with ⟨h2, _⟩ | ⟨g', cap', cur, hv, _⟩
    · cases h2
    · injection hv
  have hone : ∀ v ∈ (Builtin.zeroCells z.cells (m + 1)).toList, v.oneCell' = true := by
    intro v hv
    simp only [Builtin.zeroCells, hzc, Array.toList_map, List.mem_map] at hv
    obtain ⟨q, hq, rfl⟩ := hv
    have hq' : q < (m + 1) * zs.length := by simpa using hq
    have hpos : 0 < zs.length := by
      rcases Nat.eq_zero_or_pos zs.length with h0 | h0
      · rw [h0] at hq'; omega
      · exact h0
    have hr : q % zs.length < zs.length := Nat.mod_lt _ hpos
    simp only [List.size_toArray]
    rw [getElem!_pos zs.toArray (q % zs.length) (by simpa using hr)]
    exact h1 _ (by simp)
  have hsz : (Builtin.zeroCells z.cells (m + 1)).toList.length = (m + 1) * n := by simp [Builtin.zeroCells, hzc, hzn]
  have hcell : ∀ j, j < len * n → (w.cell? ⟨g, j, none⟩).isSome = true := by
    intro j hj
    have := h.2.cells (g := g) rfl j
    have hcl : j < (cellsA rows).length := by rw [cellsA_len h.1, ← hlen]; exact hj
    have h3 := this _ (List.getElem?_eq_getElem hcl)
    rw [Addr.add_lit, Nat.zero_add] at h3
    rw [h3]; rfl
  have hfz : ∀ j, w.frozen? ⟨g, j, none⟩ = false := by
    intro j
    have h0 := h.2
    rw [hlen] at h0
    exact h0.frozenAt j
  have hmul : i * n + (m + 1) * n = len * n := by rw [← Nat.add_mul]; congr 1; omega
  have hst := run_storeCells_cells (P := Try.prog) g (i * n) (Builtin.zeroCells z.cells (m + 1)).toList 0 w (fun j hj => hcell _ (by rw [hsz] at hj; omega)) (fun j _ => hfz _) hone
  refine ⟨w.setCells g (i * n) (Builtin.zeroCells z.cells (m + 1)).toList, ?_, (h.take (Nat.le_of_lt hi)).pasts _ _ (Nat.le_refl _), setCells_grown _ _ _ _⟩
  rw [hm]
  simp only [Nat.add_zero] at hst
  simp [Builtin.clear_, run_underlying ht, hz, hst]
theorem grown_trans {a b c : World} {row : Option Nat} (h : a.grownBy b row) (k : b.grownBy c row) : a.grownBy c row :=
  ⟨k.os.trans h.os, k.tape.trans h.tape, k.output.trans h.output, Nat.le_trans h.size k.size, fun i hi hne => (k.block i (Nat.lt_of_lt_of_le hi h.size) hne).trans (h.block i hi hne)⟩
theorem grown_below {w w1 : World} (hb : Below w.heap.size w w1) (row : Option Nat) : w.grownBy w1 row := ⟨hb.os, hb.tape, hb.output, hb.size, fun k hk _ => hb.block k hk⟩
/-- What append leaves of where things lie: it writes into the old row alone, and the new row is the old one or a new block. -/
def Lies (w w' : World) (v v' : Value) : Prop := w.grownBy w' v.ownBlock ∧ (v'.ownBlock = v.ownBlock ∨ ∃ g, v'.ownBlock = some g ∧ w.heap.size ≤ g)
theorem Lies.apart {w w' : World} {v v' : Value} (h : Lies w w' v v') {g : Nat} (hg : g < w.heap.size) (hne : v.ownBlock ≠ some g) : v'.ownBlock ≠ some g := by
  rcases h.2 with h1 | ⟨g', h1, h2⟩
  · rw [h1]; exact hne
  · rw [h1]; intro e; injection e with e; omega
theorem RdA.grown {w w' : World} {b off n : Nat} {rows : List (List Int)} {row : Option Nat} (h : RdA w b off n rows) (hg : w.grownBy w' row) (hne : row ≠ some b) : RdA w' b off n rows :=
  fun i r hi j x hj => hg.cell (h i r hi j x hj) (fun e => hne e.symm)
theorem OwnA.grown {E n : Nat} {w w' : World} {base : Nat} {v : Value} {rows : List (List Int)} {row : Option Nat} (h : OwnA E n w base v rows) (hg : w.grownBy w' row) (hne : v.ownBlock = none ∨ v.ownBlock ≠ row) : OwnA E n w' base v rows :=
  ⟨h.1, h.2.kept hg hne⟩
/-- append of one row, just made, to a slice of the call's own. -/
theorem append_arr2 {ops : Array Oper} {rest : List Oper} {o : Oper} {a : Act} {Q : Exit → Act → World → Prop} {w : World} {t0 : Nat} {E n t : Nat} {z : Value} (ht : Try.prog.underlying t = some (.slice E)) (hinfo : (Try.prog.info? E).map (fun i => (i.zero, i.size, i.bytes)) = some (some z, n, 8 * n)) (hzs : z.cells.size = n) (hn : 0 < n) (hn2 : n ≤ 9)
    (r : List Int) (hr : r.length = n) (base : Nat) (v : Value) (rows : List (List Int)) (hown : OwnA E n w base v rows) (hgd : o.guard = none) (s x : Operand)
    (ho : o.op = .call { callee := .builtin .append, args := #[s, x], argTypes := #[t, t] })
    (hs : a.eval s = v) (hx : a.eval x = .slice (some ⟨w.heap.size, 0, none⟩) 1 1)
    (hlen : rows.length ≤ 10000000) (hbase : base ≤ w.heap.size)
    (h : ∀ v' w', OwnA E n w' base v' (rows ++ [r]) → (∀ b0 a0, Below b0 a0 w → b0 ≤ base → Below b0 a0 w') → w.heap.size < w'.heap.size → Lies w w' v v' → wpList Try.prog ops Q rest (a.put o.dst v') w') :
    wpList Try.prog ops Q (o :: rest) a (w.alloc (.cells (r.map (Value.int .i64)).toArray t0)) := by
  obtain ⟨i0, hi, hz0, hz1, hz2⟩ := info_parts hinfo
  have hlt : (rows.length + 1) * (8 * n) ≤ 140737488355328 := by
    have : (rows.length + 1) * (8 * n) ≤ (10000000 + 1) * (8 * 9) := Nat.mul_le_mul (by omega) (by omega)
    omega
  refine wpList_append_lies _ hgd s x t ho base E i0 z n (8 * n) ht hi hz0 hz1 hz2 hzs hn v rows.length (cellsA rows) hs (hown.2.alloc _)
    ⟨w.heap.size, 0, none⟩ 1 1 (r.map (Value.int .i64)) hx (by simp [hr]) ?_ ?_ (by omega) ?_ hlt (by simp; omega) _ rfl ?_
  · intro j u hj
    have hjl : j < (r.map (Value.int .i64)).length := by
      rcases Nat.lt_or_ge j (r.map (Value.int .i64)).length with h' | h'
      · exact h'
      · rw [List.getElem?_eq_none h'] at hj; cases hj
    rw [Addr.add_lit, World.cell?_alloc_new]
    simpa using hj
  · intro u hu
    simp only [List.mem_map] at hu
    obtain ⟨y, _, rfl⟩ := hu
    rfl
  · unfold maxLen; omega
  · intro g cap w' h1 h2 h3 h4
    have hsz := h2.size
    refine h (.slice (some ⟨g, 0, none⟩) (rows.length + 1) cap) w' ⟨?_, ?_⟩ ?_ (by simp at hsz; omega) ⟨grown_trans (World.grownBy_alloc _ _ _) h2, ?_⟩
    · intro r' hr'
      rw [List.mem_append] at hr'
      rcases hr' with h' | h'
      · exact hown.1 _ h'
      · simp at h'; rw [h']; exact hr
    · rw [cellsA_append, cellsA_one, List.length_append]; exact h1
    · intro b0 a0 hb hle
      exact (hb.alloc (by omega) _).grown h2 (by simp; omega) (fun k hk => by have := (hown.2.lt k hk).1; omega)
    · rcases h3 with h3 | h3
      · exact .inl h3.symm
      · exact .inr ⟨g, rfl, by rw [h3]; simp⟩
theorem append_arr {ops : Array Oper} {rest : List Oper} {o : Oper} {a : Act} {Q : Exit → Act → World → Prop} {w : World} {t0 : Nat} {E n t : Nat} {z : Value} (ht : Try.prog.underlying t = some (.slice E)) (hinfo : (Try.prog.info? E).map (fun i => (i.zero, i.size, i.bytes)) = some (some z, n, 8 * n)) (hzs : z.cells.size = n) (hn : 0 < n) (hn2 : n ≤ 9)
    (r : List Int) (hr : r.length = n) (base : Nat) (v : Value) (rows : List (List Int)) (hown : OwnA E n w base v rows) (hgd : o.guard = none) (s x : Operand)
    (ho : o.op = .call { callee := .builtin .append, args := #[s, x], argTypes := #[t, t] })
    (hs : a.eval s = v) (hx : a.eval x = .slice (some ⟨w.heap.size, 0, none⟩) 1 1)
    (hlen : rows.length ≤ 10000000) (hbase : base ≤ w.heap.size)
    (h : ∀ v' w', OwnA E n w' base v' (rows ++ [r]) → (∀ b0 a0, Below b0 a0 w → b0 ≤ base → Below b0 a0 w') → w.heap.size < w'.heap.size → wpList Try.prog ops Q rest (a.put o.dst v') w') :
    wpList Try.prog ops Q (o :: rest) a (w.alloc (.cells (r.map (Value.int .i64)).toArray t0)) :=
  append_arr2 ht hinfo hzs hn hn2 r hr base v rows hown hgd s x ho hs hx hlen hbase fun v' w' h1 h2 h3 _ => h v' w' h1 h2 h3
end Go.Proofs.Ytjfabhkgmelmgaa
