/- What the laws' own small functions do with slices of arrays: they compare them, mark them and look at the marks. -/
import Derived.Test.YthlmodofgoelbaaA2
import Derived.Test.YthlmodofgoelbaaW2
import Derived.StillTailTactics
namespace Go.Proofs.Ythlmodofgoelbaa
open Go.RowKit
set_option linter.unusedSimpArgs false
set_option linter.unusedVariables false
set_option maxRecDepth 100000

theorem rowA {n : Nat} {r : List Int} (h : r.length = n) {w : World} {g off i : Nat} {rows : List (List Int)} (hr : RdA w g off n rows) (hi : rows[i]? = some r) : ∀ j x, r[j]? = some x → w.cell? ⟨g, off + i * n + j, none⟩ = some (.int .i64 x) := hr i r hi
theorem get_mem {rows : List (List Int)} {k : Nat} (hk : k < rows.length) : rows[k]? = some rows[k] := List.getElem?_eq_getElem hk

/-- The marks of a slice's rows. -/
def mrow (n : Nat) (k : Int) (q : Nat) : List Int := (List.range n).map fun j : Nat => k + ((q * n + j : Nat) : Int)
def Marked (n : Nat) (k : Int) (rows : List (List Int)) : Prop := ∀ q, q < rows.length → rows[q]? = some (mrow n k q)
theorem own_block {g len cap : Nat} : (Value.slice (some ⟨g, 0, none⟩) len cap).ownBlock = some g := rfl
theorem stored_grown (w : World) (g j : Nat) (u : Value) : w.grownBy (w.setCell ⟨g, j, none⟩ u) (some g) :=
  ⟨rfl, rfl, rfl, by simp, fun k _ hk => Below.heap_setCell _ _ _ _ (by intro e; exact hk (by rw [e]))⟩
theorem OwnA.apart2 {E n E' n' base base' : Nat} {w w' : World} {v v' : Value} {rows rows' : List (List Int)} (h : OwnA E n w base v rows) (h' : OwnA E' n' w' base' v' rows') (hb : w.heap.size ≤ base') : v.ownBlock = none ∨ v.ownBlock ≠ v'.ownBlock := by
  cases hv : v.ownBlock with
  | none => exact .inl rfl
  | some k =>
    right
    have h1 := h.2.lt k hv
    intro e
    have h2 := h'.2.lt k e.symm
    omega
theorem OwnA.cellFar {E n base : Nat} {w w' : World} {v : Value} {rows : List (List Int)} (h : OwnA E n w base v rows) (hgr : w.grownBy w' v.ownBlock) {b o : Nat} {x : Value} (hc : w.cell? ⟨b, o, none⟩ = some x) (hb : b < base) : w'.cell? ⟨b, o, none⟩ = some x :=
  hgr.cell hc fun e => by have := (h.2.lt b e.symm).1; omega
theorem OwnA.grownB {E n base B : Nat} {a w w' : World} {v : Value} {rows : List (List Int)} (h : OwnA E n w base v rows) (hB : Below B a w) (hgr : w.grownBy w' v.ownBlock) (hb : B ≤ base) (hs : B ≤ w.heap.size) : Below B a w' :=
  hB.grown hgr hs fun k hk => Nat.le_trans hb (h.2.lt k hk).1

theorem RdA.getPoint {w : World} {g off : Nat} {rows : List (List Int)} (h : RdA w g off 3 rows) (hl : ∀ r ∈ rows, r.length = 3) {k : Nat} (hk : k < rows.length) :
    ∃ x0 x1 x2, w.cell? ⟨g, off + k * 3, none⟩ = some (.int .i64 x0) ∧ w.cell? ⟨g, off + k * 3 + 1, none⟩ = some (.int .i64 x1) ∧ w.cell? ⟨g, off + k * 3 + 2, none⟩ = some (.int .i64 x2) := by
  have h0 := hl rows[k] (List.getElem_mem hk)
  obtain ⟨x0, x1, x2, he⟩ := len3 h0
  have h1 := h k _ (get_mem hk)
  rw [he] at h1
  exact ⟨x0, x1, x2, h1 0 _ rfl, h1 1 _ rfl, h1 2 _ rfl⟩
set_option maxHeartbeats 1000000 in
theorem eqPointS_same (va vb : Value) (rows : List (List Int)) (w : World) (ha : SlA w va 3 rows) (hb : SlA w vb 3 rows) (hl : ∀ r ∈ rows, r.length = 3) (hm : rows.length ≤ 1000000) :
    Calls Try.prog 28 #[va, vb] w fun e w' => e = .returned (.bool true) ∧ Below w.heap.size w w' := by
  obtain ⟨aa, capa, rfl, ha⟩ := ha
  obtain ⟨ab, capb, rfl, hb⟩ := hb
  rcases ha with rfl | ⟨ga, oa, rfl, hga, hra⟩
  · go_enter Try.func28, Try.ntmps28
    go_wp2
    go_rounds 1
    go_ret
    exact ⟨rfl, by (repeat' (first | (with_reducible exact Below.refl _ _) | (with_reducible assumption) | (with_reducible refine Below.alloc ?_ ?_ _) | (with_reducible refine Below.drew ?_) | (with_reducible refine below_drewN ?_ _) | (with_reducible refine Below.setCell ?_ ?_ _) | (refine Below.step ?_ (by with_reducible assumption) ?_) | go_size))⟩
  · rcases hb with rfl | ⟨gb, ob, rfl, hgb, hrb⟩
    · go_enter Try.func28, Try.ntmps28
      go_wp2
      go_rounds 1
      go_ret
      exact ⟨rfl, by (repeat' (first | (with_reducible exact Below.refl _ _) | (with_reducible assumption) | (with_reducible refine Below.alloc ?_ ?_ _) | (with_reducible refine Below.drew ?_) | (with_reducible refine below_drewN ?_ _) | (with_reducible refine Below.setCell ?_ ?_ _) | (refine Below.step ?_ (by with_reducible assumption) ?_) | go_size))⟩
    · go_enter Try.func28, Try.ntmps28
      go_wp2
      go_loopw [5] (fun i wr => ∃ k : Nat, k ≤ rows.length ∧ i = .int .i64 k ∧ Below w.heap.size w wr) (fun i _ => rows.length - (intOf i).toNat)
      case atStart => exact ⟨0, Nat.zero_le _, rfl, by (repeat' (first | (with_reducible exact Below.refl _ _) | (with_reducible assumption) | (with_reducible refine Below.alloc ?_ ?_ _) | (with_reducible refine Below.drew ?_) | (with_reducible refine below_drewN ?_ _) | (with_reducible refine Below.setCell ?_ ?_ _) | (refine Below.step ?_ (by with_reducible assumption) ?_) | go_size))⟩
      case round =>
        obtain ⟨k, hk, rfl, hB⟩ := hrel
        have hBz := hB.size
        by_cases hlt : k < rows.length
        · obtain ⟨x0, x1, x2, p0, p1, p2⟩ := (hra.below hB hga).getPoint hl hlt
          have hra' := hra k _ (get_mem hlt)
          obtain ⟨q0, q1, q2⟩ : wr.cell? ⟨gb, ob + k * 3, none⟩ = some (.int .i64 x0) ∧ wr.cell? ⟨gb, ob + k * 3 + 1, none⟩ = some (.int .i64 x1) ∧ wr.cell? ⟨gb, ob + k * 3 + 2, none⟩ = some (.int .i64 x2) := by
            have h2 := (hrb.below hB hgb) k _ (get_mem hlt)
            have h1 := (hra.below hB hga) k _ (get_mem hlt)
            have h0 := hl rows[k] (List.getElem_mem hlt)
            obtain ⟨y0, y1, y2, he⟩ := len3 h0
            rw [he] at h1 h2
            have e : ∀ {u v : Int} {o : Nat}, wr.cell? ⟨ga, o, none⟩ = some (.int .i64 u) → wr.cell? ⟨ga, o, none⟩ = some (.int .i64 v) → u = v := by
              intro u v o h h'; rw [h] at h'; simpa using h'
            have e0 := e p0 (h1 0 _ rfl); have e1 := e p1 (h1 1 _ rfl); have e2 := e p2 (h1 2 _ rfl)
            exact ⟨by rw [e0]; exact h2 0 _ rfl, by rw [e1]; exact h2 1 _ rfl, by rw [e2]; exact h2 2 _ rfl⟩
          clear hra hrb hra'
          go_wp2
          go_still_tail 8, (by kernel_rfl)
          change wpList _ _ _ _ _ wr.drew
          generalize hwd : wr.drew = wd
          have HB : Below w.heap.size w wd := hwd ▸ hB.drew
          have HZ : w.heap.size ≤ wd.heap.size := HB.size
          clear hwd
          go_wp2_with ((go_at_call 41; refine (eqPoint_same _ _ _ _).mono ?_; rintro e w1 ⟨rfl, hb1⟩; obtain ⟨hc1, hf1⟩ := bcell hb1; have hz1 := hb1.size; (try simp only [World.size_alloc, World.size_setCell, World.size_drew] at hz1); (try (have hy1w0 : w.heap.size < w1.heap.size := by omega)); (try (have hy1w1 : w.heap.size + 1 < w1.heap.size := by omega)); (try (have hy1w2 : w.heap.size + 1 + 1 < w1.heap.size := by omega)); (try (have hy1w3 : w.heap.size + 1 + 1 + 1 < w1.heap.size := by omega)); (try (have hy1w4 : w.heap.size + 1 + 1 + 1 + 1 < w1.heap.size := by omega))))
          go_roundw
          case rel => exact ⟨k + 1, by omega, by go_num, by (repeat' (first | (with_reducible exact Below.refl _ _) | (with_reducible assumption) | (with_reducible refine Below.alloc ?_ ?_ _) | (with_reducible refine Below.drew ?_) | (with_reducible refine below_drewN ?_ _) | (with_reducible refine Below.setCell ?_ ?_ _) | (refine Below.step ?_ (by with_reducible assumption) ?_) | go_size))⟩
          case measure => simp [intOf]; omega
        · go_wp2
          go_ret
          exact ⟨rfl, hB⟩

theorem OwnA.markPoint {E : Nat} {wr : World} {base g len cap : Nat} {rows : List (List Int)} {k : Nat} {v0 v1 v2 : Int} (hown : OwnA E 3 wr base (.slice (some ⟨g, 0, none⟩) len cap) rows) (hk : k < rows.length) :
    OwnA E 3 (((wr.setCell ⟨g, k * 3, none⟩ (.int .i64 v0)).setCell ⟨g, k * 3 + 1, none⟩ (.int .i64 v1)).setCell ⟨g, k * 3 + 2, none⟩ (.int .i64 v2)) base (.slice (some ⟨g, 0, none⟩) len cap) (rows.set k [v0, v1, v2]) := by
  have h := (((hown.set v0 (i := k) (j := 0) (by (try simp only [List.length_set]); exact hk) (by omega)).set v1 (i := k) (j := 1) (by (try simp only [List.length_set]); exact hk) (by omega)).set v2 (i := k) (j := 2) (by (try simp only [List.length_set]); exact hk) (by omega))
  have hl := hown.1 rows[k] (List.getElem_mem hk)
  obtain ⟨x0, x1, x2, he⟩ := len3 hl
  simp only [List.getElem_set_self, he, List.set_set] at h
  simpa using h
set_option maxHeartbeats 1000000 in
theorem markPointS_any (E : Nat) (v : Value) (k0 : Int) (rows : List (List Int)) (base : Nat) (w : World) (h : OwnA E 3 w base v rows) (hm : rows.length ≤ 1000000) (hk0 : 0 ≤ k0) (hk1 : k0 ≤ 1000000) :
    Calls Try.prog 29 #[v, .int .i64 k0] w fun e w' => ∃ rows', e = .returned (.int .i64 (k0 + ((rows.length * 3 : Nat) : Int))) ∧ rows'.length = rows.length ∧ Marked 3 k0 rows' ∧ OwnA E 3 w' base v rows' ∧ w.grownBy w' v.ownBlock := by
  by_cases hne : rows = []
  · subst hne
    obtain ⟨a, cap, rfl, _⟩ := h.sl
    go_enter Try.func29, Try.ntmps29
    go_wp2
    go_rounds 1
    go_ret
    exact ⟨[], by simp, rfl, by intro q hq; simp at hq, h, World.grownBy.refl _ _⟩
  · obtain ⟨g, cap, rfl, hb, hg, hR, hfr, hcap⟩ := h.shape hne
    rw [own_block]
    have HL : Hid (rows.length = rows.length) := rfl
    generalize hlen : rows.length = len at *
    have HLEN := Lib.hid hlen
    go_enter Try.func29, Try.ntmps29
    go_wp2
    go_loopw [1, 5] (fun c i wr => ∃ (k : Nat) (rs : List (List Int)), k ≤ len ∧ i = .int .i64 k ∧ c = .int .i64 (k0 + ((k * 3 : Nat) : Int)) ∧ Hid (rs.length = len) ∧ Hid (∀ q, q < k → rs[q]? = some (mrow 3 k0 q)) ∧ OwnA E 3 wr base (.slice (some ⟨g, 0, none⟩) len cap) rs ∧ w.grownBy wr (some g)) (fun _ i _ => len - (intOf i).toNat)
    case atStart => exact ⟨0, rows, Nat.zero_le _, rfl, by go_num, HLEN, Lib.hid (fun q hq => by omega), h, World.grownBy.refl _ _⟩
    case round =>
      obtain ⟨k, rs, hk, rfl, rfl, hrl, hrs, hown, hgr⟩ := hrel
      by_cases hlt : k < len
      · have hkr : Hid (k < rs.length) := by show _ < _; rw [hrl.out]; exact hlt
        obtain ⟨x0, x1, x2, p0, p1, p2⟩ : ∃ x0 x1 x2, wr.cell? ⟨g, k * 3, none⟩ = some (.int .i64 x0) ∧ wr.cell? ⟨g, k * 3 + 1, none⟩ = some (.int .i64 x1) ∧ wr.cell? ⟨g, k * 3 + 2, none⟩ = some (.int .i64 x2) := by
          obtain ⟨g', cap', hv, _, _, hR', _, _⟩ := hown.shape (by intro e; rw [e] at hkr; exact absurd hkr.out (by simp))
          injection hv with hv1; injection hv1 with hv1; injection hv1 with hv2; subst hv2
          obtain ⟨x0, x1, x2, p0, p1, p2⟩ := hR'.getPoint hown.1 hkr.out
          exact ⟨x0, x1, x2, by simpa using p0, by simpa using p1, by simpa using p2⟩
        have hfz : ∀ j, wr.frozen? ⟨g, j, none⟩ = false := by
          obtain ⟨g', cap', hv, _, _, _, hf, _⟩ := hown.shape (by intro e; rw [e] at hkr; exact absurd hkr.out (by simp))
          injection hv with hv1; injection hv1 with hv1; injection hv1 with hv2; subst hv2
          exact hf
        have f0 := hfz (k * 3)
        have f1 := hfz (k * 3 + 1); have f2 := hfz (k * 3 + 2)
        clear hfz hR hfr h
        go_wp2
        go_rounds 4
        go_roundw
        case rel =>
          refine ⟨k + 1, rs.set k (mrow 3 k0 k), by omega, by go_num, by go_num, by show _ = _; rw [List.length_set]; exact hrl.out, ?_, ?_, ?_⟩
          · show ∀ q, _
            intro q hq
            rcases Nat.lt_or_ge q k with h' | h'
            · rw [List.getElem?_set_ne (by omega)]; exact hrs.out q h'
            · obtain rfl : q = k := by omega
              rw [List.getElem?_set_self hkr.out]
          · have h1 := hown.markPoint hkr.out (v0 := k0 + ((k * 3 : Nat) : Int)) (v1 := k0 + ((k * 3 : Nat) : Int) + 1) (v2 := k0 + ((k * 3 : Nat) : Int) + 1 + 1)
            rw [show mrow 3 k0 k = [k0 + ((k * 3 : Nat) : Int), k0 + ((k * 3 : Nat) : Int) + 1, k0 + ((k * 3 : Nat) : Int) + 1 + 1] by simp [mrow, List.range_succ]; omega]
            exact h1
          · exact (((hgr.trans (stored_grown _ _ _ _)).trans (stored_grown _ _ _ _)).trans (stored_grown _ _ _ _))
        case measure => simp [intOf]; omega
      · obtain rfl : len = k := by omega
        go_wp2
        go_ret
        refine ⟨rs, rfl, hrl.out, ?_, hown, hgr⟩
        intro q hq
        exact hrs.out q (by rw [hrl.out] at hq; exact hq)

set_option maxHeartbeats 1000000 in
theorem heldPointS_any (v : Value) (k0 : Int) (rows : List (List Int)) (w : World) (h : SlA w v 3 rows) (hM : Marked 3 k0 rows) (hm : rows.length ≤ 1000000) (hk0 : 0 ≤ k0) (hk1 : k0 ≤ 1000000) :
    Calls Try.prog 30 #[v, .int .i64 k0] w fun e w' => e = .returned (.int .i64 (k0 + ((rows.length * 3 : Nat) : Int))) ∧ w = w' := by
  obtain ⟨a, cap, rfl, h⟩ := h
  rcases h with rfl | ⟨g, off, rfl, hg, hR⟩
  · go_enter Try.func30, Try.ntmps30
    go_wp2
    go_rounds 1
    go_ret
    exact ⟨by simp, rfl⟩
  · have HM := Lib.hid hM; clear hM
    go_enter Try.func30, Try.ntmps30
    go_wp2
    go_loop [1, 5] (fun c i => ∃ k : Nat, k ≤ rows.length ∧ i = .int .i64 k ∧ c = .int .i64 (k0 + ((k * 3 : Nat) : Int))) (fun _ i => rows.length - (intOf i).toNat)
    case atStart => exact ⟨0, Nat.zero_le _, rfl, by go_num⟩
    case round =>
      obtain ⟨k, hk, rfl, rfl⟩ := hrel
      by_cases hlt : k < rows.length
      · have h1 := hR k _ (HM.out k hlt)
        simp only [mrow, List.range_succ, List.range_zero, List.map_append, List.map_cons, List.map_nil, List.nil_append, List.cons_append] at h1
        have p0 := h1 0 (k0 + ((k * 3 : Nat) : Int)) (by simp <;> omega); have p1 := h1 1 (k0 + ((k * 3 : Nat) : Int) + 1) (by simp <;> omega); have p2 := h1 2 (k0 + ((k * 3 : Nat) : Int) + 1 + 1) (by simp <;> omega)
        clear h1 hR
        (try simp only [Nat.add_zero] at p0)
        go_wp2
        go_rounds 4
        go_round
        case rel => exact ⟨k + 1, by omega, by go_num, by go_num⟩
        case measure => simp [intOf]; omega
      · obtain rfl : rows.length = k := by omega
        go_wp2
        go_ret
        exact ⟨rfl, rfl⟩

theorem markPointS_m (E : Nat) (v : Value) (k0 m : Int) (rows : List (List Int)) (base : Nat) (w : World) (h : OwnA E 3 w base v rows) (hm : rows.length ≤ 1000000) (hk0 : 0 ≤ k0) (hk1 : k0 ≤ 1000000) (hmm : Hid (m = k0 + ((rows.length * 3 : Nat) : Int))) :
    Calls Try.prog 29 #[v, .int .i64 k0] w fun e w' => ∃ rows', e = .returned (.int .i64 m) ∧ Hid (rows'.length = rows.length) ∧ Marked 3 k0 rows' ∧ OwnA E 3 w' base v rows' ∧ w.grownBy w' v.ownBlock :=
  (markPointS_any E v k0 rows base w h hm hk0 hk1).mono fun e w' ⟨rows', h1, h2, h3, h4, h5⟩ => ⟨rows', by rw [h1, hmm.out], h2, h3, h4, h5⟩
theorem heldPointS_m (v : Value) (k0 m : Int) (rows : List (List Int)) (w : World) (h : SlA w v 3 rows) (hM : Marked 3 k0 rows) (hm : rows.length ≤ 1000000) (hk0 : 0 ≤ k0) (hk1 : k0 ≤ 1000000) (hmm : Hid (m = k0 + ((rows.length * 3 : Nat) : Int))) :
    Calls Try.prog 30 #[v, .int .i64 k0] w fun e w' => e = .returned (.int .i64 m) ∧ w = w' :=
  (heldPointS_any v k0 rows w h hM hm hk0 hk1).mono fun e w' ⟨h1, h2⟩ => ⟨by rw [h1, hmm.out], h2⟩

theorem RdA.getLine {w : World} {g off : Nat} {rows : List (List Int)} (h : RdA w g off 3 rows) (hl : ∀ r ∈ rows, r.length = 3) {k : Nat} (hk : k < rows.length) :
    ∃ x0 x1 x2, w.cell? ⟨g, off + k * 3, none⟩ = some (.int .i64 x0) ∧ w.cell? ⟨g, off + k * 3 + 1, none⟩ = some (.int .i64 x1) ∧ w.cell? ⟨g, off + k * 3 + 2, none⟩ = some (.int .i64 x2) := by
  have h0 := hl rows[k] (List.getElem_mem hk)
  obtain ⟨x0, x1, x2, he⟩ := len3 h0
  have h1 := h k _ (get_mem hk)
  rw [he] at h1
  exact ⟨x0, x1, x2, h1 0 _ rfl, h1 1 _ rfl, h1 2 _ rfl⟩
set_option maxHeartbeats 1000000 in
theorem eqLineS_same (va vb : Value) (rows : List (List Int)) (w : World) (ha : SlA w va 3 rows) (hb : SlA w vb 3 rows) (hl : ∀ r ∈ rows, r.length = 3) (hm : rows.length ≤ 1000000) :
    Calls Try.prog 35 #[va, vb] w fun e w' => e = .returned (.bool true) ∧ Below w.heap.size w w' := by
  obtain ⟨aa, capa, rfl, ha⟩ := ha
  obtain ⟨ab, capb, rfl, hb⟩ := hb
  rcases ha with rfl | ⟨ga, oa, rfl, hga, hra⟩
  · go_enter Try.func35, Try.ntmps35
    go_wp2
    go_rounds 1
    go_ret
    exact ⟨rfl, by (repeat' (first | (with_reducible exact Below.refl _ _) | (with_reducible assumption) | (with_reducible refine Below.alloc ?_ ?_ _) | (with_reducible refine Below.drew ?_) | (with_reducible refine below_drewN ?_ _) | (with_reducible refine Below.setCell ?_ ?_ _) | (refine Below.step ?_ (by with_reducible assumption) ?_) | go_size))⟩
  · rcases hb with rfl | ⟨gb, ob, rfl, hgb, hrb⟩
    · go_enter Try.func35, Try.ntmps35
      go_wp2
      go_rounds 1
      go_ret
      exact ⟨rfl, by (repeat' (first | (with_reducible exact Below.refl _ _) | (with_reducible assumption) | (with_reducible refine Below.alloc ?_ ?_ _) | (with_reducible refine Below.drew ?_) | (with_reducible refine below_drewN ?_ _) | (with_reducible refine Below.setCell ?_ ?_ _) | (refine Below.step ?_ (by with_reducible assumption) ?_) | go_size))⟩
    · go_enter Try.func35, Try.ntmps35
      go_wp2
      go_loopw [5] (fun i wr => ∃ k : Nat, k ≤ rows.length ∧ i = .int .i64 k ∧ Below w.heap.size w wr) (fun i _ => rows.length - (intOf i).toNat)
      case atStart => exact ⟨0, Nat.zero_le _, rfl, by (repeat' (first | (with_reducible exact Below.refl _ _) | (with_reducible assumption) | (with_reducible refine Below.alloc ?_ ?_ _) | (with_reducible refine Below.drew ?_) | (with_reducible refine below_drewN ?_ _) | (with_reducible refine Below.setCell ?_ ?_ _) | (refine Below.step ?_ (by with_reducible assumption) ?_) | go_size))⟩
      case round =>
        obtain ⟨k, hk, rfl, hB⟩ := hrel
        have hBz := hB.size
        by_cases hlt : k < rows.length
        · obtain ⟨x0, x1, x2, p0, p1, p2⟩ := (hra.below hB hga).getLine hl hlt
          have hra' := hra k _ (get_mem hlt)
          obtain ⟨q0, q1, q2⟩ : wr.cell? ⟨gb, ob + k * 3, none⟩ = some (.int .i64 x0) ∧ wr.cell? ⟨gb, ob + k * 3 + 1, none⟩ = some (.int .i64 x1) ∧ wr.cell? ⟨gb, ob + k * 3 + 2, none⟩ = some (.int .i64 x2) := by
            have h2 := (hrb.below hB hgb) k _ (get_mem hlt)
            have h1 := (hra.below hB hga) k _ (get_mem hlt)
            have h0 := hl rows[k] (List.getElem_mem hlt)
            obtain ⟨y0, y1, y2, he⟩ := len3 h0
            rw [he] at h1 h2
            have e : ∀ {u v : Int} {o : Nat}, wr.cell? ⟨ga, o, none⟩ = some (.int .i64 u) → wr.cell? ⟨ga, o, none⟩ = some (.int .i64 v) → u = v := by
              intro u v o h h'; rw [h] at h'; simpa using h'
            have e0 := e p0 (h1 0 _ rfl); have e1 := e p1 (h1 1 _ rfl); have e2 := e p2 (h1 2 _ rfl)
            exact ⟨by rw [e0]; exact h2 0 _ rfl, by rw [e1]; exact h2 1 _ rfl, by rw [e2]; exact h2 2 _ rfl⟩
          clear hra hrb hra'
          go_wp2
          go_still_tail 8, (by kernel_rfl)
          change wpList _ _ _ _ _ wr.drew
          generalize hwd : wr.drew = wd
          have HB : Below w.heap.size w wd := hwd ▸ hB.drew
          have HZ : w.heap.size ≤ wd.heap.size := HB.size
          clear hwd
          go_wp2_with ((go_at_call 22; refine (eqLine_same _ _ _ _).mono ?_; rintro e w1 ⟨rfl, hb1⟩; obtain ⟨hc1, hf1⟩ := bcell hb1; have hz1 := hb1.size; (try simp only [World.size_alloc, World.size_setCell, World.size_drew] at hz1); (try (have hy1w0 : w.heap.size < w1.heap.size := by omega)); (try (have hy1w1 : w.heap.size + 1 < w1.heap.size := by omega)); (try (have hy1w2 : w.heap.size + 1 + 1 < w1.heap.size := by omega)); (try (have hy1w3 : w.heap.size + 1 + 1 + 1 < w1.heap.size := by omega)); (try (have hy1w4 : w.heap.size + 1 + 1 + 1 + 1 < w1.heap.size := by omega))))
          go_roundw
          case rel => exact ⟨k + 1, by omega, by go_num, by (repeat' (first | (with_reducible exact Below.refl _ _) | (with_reducible assumption) | (with_reducible refine Below.alloc ?_ ?_ _) | (with_reducible refine Below.drew ?_) | (with_reducible refine below_drewN ?_ _) | (with_reducible refine Below.setCell ?_ ?_ _) | (refine Below.step ?_ (by with_reducible assumption) ?_) | go_size))⟩
          case measure => simp [intOf]; omega
        · go_wp2
          go_ret
          exact ⟨rfl, hB⟩

theorem OwnA.markLine {E : Nat} {wr : World} {base g len cap : Nat} {rows : List (List Int)} {k : Nat} {v0 v1 v2 : Int} (hown : OwnA E 3 wr base (.slice (some ⟨g, 0, none⟩) len cap) rows) (hk : k < rows.length) :
    OwnA E 3 (((wr.setCell ⟨g, k * 3, none⟩ (.int .i64 v0)).setCell ⟨g, k * 3 + 1, none⟩ (.int .i64 v1)).setCell ⟨g, k * 3 + 2, none⟩ (.int .i64 v2)) base (.slice (some ⟨g, 0, none⟩) len cap) (rows.set k [v0, v1, v2]) := by
  have h := (((hown.set v0 (i := k) (j := 0) (by (try simp only [List.length_set]); exact hk) (by omega)).set v1 (i := k) (j := 1) (by (try simp only [List.length_set]); exact hk) (by omega)).set v2 (i := k) (j := 2) (by (try simp only [List.length_set]); exact hk) (by omega))
  have hl := hown.1 rows[k] (List.getElem_mem hk)
  obtain ⟨x0, x1, x2, he⟩ := len3 hl
  simp only [List.getElem_set_self, he, List.set_set] at h
  simpa using h
set_option maxHeartbeats 1000000 in
theorem markLineS_any (E : Nat) (v : Value) (k0 : Int) (rows : List (List Int)) (base : Nat) (w : World) (h : OwnA E 3 w base v rows) (hm : rows.length ≤ 1000000) (hk0 : 0 ≤ k0) (hk1 : k0 ≤ 1000000) :
    Calls Try.prog 36 #[v, .int .i64 k0] w fun e w' => ∃ rows', e = .returned (.int .i64 (k0 + ((rows.length * 3 : Nat) : Int))) ∧ rows'.length = rows.length ∧ Marked 3 k0 rows' ∧ OwnA E 3 w' base v rows' ∧ w.grownBy w' v.ownBlock := by
  by_cases hne : rows = []
  · subst hne
    obtain ⟨a, cap, rfl, _⟩ := h.sl
    go_enter Try.func36, Try.ntmps36
    go_wp2
    go_rounds 1
    go_ret
    exact ⟨[], by simp, rfl, by intro q hq; simp at hq, h, World.grownBy.refl _ _⟩
  · obtain ⟨g, cap, rfl, hb, hg, hR, hfr, hcap⟩ := h.shape hne
    rw [own_block]
    have HL : Hid (rows.length = rows.length) := rfl
    generalize hlen : rows.length = len at *
    have HLEN := Lib.hid hlen
    go_enter Try.func36, Try.ntmps36
    go_wp2
    go_loopw [1, 5] (fun c i wr => ∃ (k : Nat) (rs : List (List Int)), k ≤ len ∧ i = .int .i64 k ∧ c = .int .i64 (k0 + ((k * 3 : Nat) : Int)) ∧ Hid (rs.length = len) ∧ Hid (∀ q, q < k → rs[q]? = some (mrow 3 k0 q)) ∧ OwnA E 3 wr base (.slice (some ⟨g, 0, none⟩) len cap) rs ∧ w.grownBy wr (some g)) (fun _ i _ => len - (intOf i).toNat)
    case atStart => exact ⟨0, rows, Nat.zero_le _, rfl, by go_num, HLEN, Lib.hid (fun q hq => by omega), h, World.grownBy.refl _ _⟩
    case round =>
      obtain ⟨k, rs, hk, rfl, rfl, hrl, hrs, hown, hgr⟩ := hrel
      by_cases hlt : k < len
      · have hkr : Hid (k < rs.length) := by show _ < _; rw [hrl.out]; exact hlt
        obtain ⟨x0, x1, x2, p0, p1, p2⟩ : ∃ x0 x1 x2, wr.cell? ⟨g, k * 3, none⟩ = some (.int .i64 x0) ∧ wr.cell? ⟨g, k * 3 + 1, none⟩ = some (.int .i64 x1) ∧ wr.cell? ⟨g, k * 3 + 2, none⟩ = some (.int .i64 x2) := by
          obtain ⟨g', cap', hv, _, _, hR', _, _⟩ := hown.shape (by intro e; rw [e] at hkr; exact absurd hkr.out (by simp))
          injection hv with hv1; injection hv1 with hv1; injection hv1 with hv2; subst hv2
          obtain ⟨x0, x1, x2, p0, p1, p2⟩ := hR'.getLine hown.1 hkr.out
          exact ⟨x0, x1, x2, by simpa using p0, by simpa using p1, by simpa using p2⟩
        have hfz : ∀ j, wr.frozen? ⟨g, j, none⟩ = false := by
          obtain ⟨g', cap', hv, _, _, _, hf, _⟩ := hown.shape (by intro e; rw [e] at hkr; exact absurd hkr.out (by simp))
          injection hv with hv1; injection hv1 with hv1; injection hv1 with hv2; subst hv2
          exact hf
        have f0 := hfz (k * 3)
        have f1 := hfz (k * 3 + 1); have f2 := hfz (k * 3 + 2)
        clear hfz hR hfr h
        go_wp2
        go_rounds 4
        go_roundw
        case rel =>
          refine ⟨k + 1, rs.set k (mrow 3 k0 k), by omega, by go_num, by go_num, by show _ = _; rw [List.length_set]; exact hrl.out, ?_, ?_, ?_⟩
          · show ∀ q, _
            intro q hq
            rcases Nat.lt_or_ge q k with h' | h'
            · rw [List.getElem?_set_ne (by omega)]; exact hrs.out q h'
            · obtain rfl : q = k := by omega
              rw [List.getElem?_set_self hkr.out]
          · have h1 := hown.markLine hkr.out (v0 := k0 + ((k * 3 : Nat) : Int)) (v1 := k0 + ((k * 3 : Nat) : Int) + 1) (v2 := k0 + ((k * 3 : Nat) : Int) + 1 + 1)
            rw [show mrow 3 k0 k = [k0 + ((k * 3 : Nat) : Int), k0 + ((k * 3 : Nat) : Int) + 1, k0 + ((k * 3 : Nat) : Int) + 1 + 1] by simp [mrow, List.range_succ]; omega]
            exact h1
          · exact (((hgr.trans (stored_grown _ _ _ _)).trans (stored_grown _ _ _ _)).trans (stored_grown _ _ _ _))
        case measure => simp [intOf]; omega
      · obtain rfl : len = k := by omega
        go_wp2
        go_ret
        refine ⟨rs, rfl, hrl.out, ?_, hown, hgr⟩
        intro q hq
        exact hrs.out q (by rw [hrl.out] at hq; exact hq)

set_option maxHeartbeats 1000000 in
theorem heldLineS_any (v : Value) (k0 : Int) (rows : List (List Int)) (w : World) (h : SlA w v 3 rows) (hM : Marked 3 k0 rows) (hm : rows.length ≤ 1000000) (hk0 : 0 ≤ k0) (hk1 : k0 ≤ 1000000) :
    Calls Try.prog 37 #[v, .int .i64 k0] w fun e w' => e = .returned (.int .i64 (k0 + ((rows.length * 3 : Nat) : Int))) ∧ w = w' := by
  obtain ⟨a, cap, rfl, h⟩ := h
  rcases h with rfl | ⟨g, off, rfl, hg, hR⟩
  · go_enter Try.func37, Try.ntmps37
    go_wp2
    go_rounds 1
    go_ret
    exact ⟨by simp, rfl⟩
  · have HM := Lib.hid hM; clear hM
    go_enter Try.func37, Try.ntmps37
    go_wp2
    go_loop [1, 5] (fun c i => ∃ k : Nat, k ≤ rows.length ∧ i = .int .i64 k ∧ c = .int .i64 (k0 + ((k * 3 : Nat) : Int))) (fun _ i => rows.length - (intOf i).toNat)
    case atStart => exact ⟨0, Nat.zero_le _, rfl, by go_num⟩
    case round =>
      obtain ⟨k, hk, rfl, rfl⟩ := hrel
      by_cases hlt : k < rows.length
      · have h1 := hR k _ (HM.out k hlt)
        simp only [mrow, List.range_succ, List.range_zero, List.map_append, List.map_cons, List.map_nil, List.nil_append, List.cons_append] at h1
        have p0 := h1 0 (k0 + ((k * 3 : Nat) : Int)) (by simp <;> omega); have p1 := h1 1 (k0 + ((k * 3 : Nat) : Int) + 1) (by simp <;> omega); have p2 := h1 2 (k0 + ((k * 3 : Nat) : Int) + 1 + 1) (by simp <;> omega)
        clear h1 hR
        (try simp only [Nat.add_zero] at p0)
        go_wp2
        go_rounds 4
        go_round
        case rel => exact ⟨k + 1, by omega, by go_num, by go_num⟩
        case measure => simp [intOf]; omega
      · obtain rfl : rows.length = k := by omega
        go_wp2
        go_ret
        exact ⟨rfl, rfl⟩

theorem markLineS_m (E : Nat) (v : Value) (k0 m : Int) (rows : List (List Int)) (base : Nat) (w : World) (h : OwnA E 3 w base v rows) (hm : rows.length ≤ 1000000) (hk0 : 0 ≤ k0) (hk1 : k0 ≤ 1000000) (hmm : Hid (m = k0 + ((rows.length * 3 : Nat) : Int))) :
    Calls Try.prog 36 #[v, .int .i64 k0] w fun e w' => ∃ rows', e = .returned (.int .i64 m) ∧ Hid (rows'.length = rows.length) ∧ Marked 3 k0 rows' ∧ OwnA E 3 w' base v rows' ∧ w.grownBy w' v.ownBlock :=
  (markLineS_any E v k0 rows base w h hm hk0 hk1).mono fun e w' ⟨rows', h1, h2, h3, h4, h5⟩ => ⟨rows', by rw [h1, hmm.out], h2, h3, h4, h5⟩
theorem heldLineS_m (v : Value) (k0 m : Int) (rows : List (List Int)) (w : World) (h : SlA w v 3 rows) (hM : Marked 3 k0 rows) (hm : rows.length ≤ 1000000) (hk0 : 0 ≤ k0) (hk1 : k0 ≤ 1000000) (hmm : Hid (m = k0 + ((rows.length * 3 : Nat) : Int))) :
    Calls Try.prog 37 #[v, .int .i64 k0] w fun e w' => e = .returned (.int .i64 m) ∧ w = w' :=
  (heldLineS_any v k0 rows w h hM hm hk0 hk1).mono fun e w' ⟨h1, h2⟩ => ⟨by rw [h1, hmm.out], h2⟩
