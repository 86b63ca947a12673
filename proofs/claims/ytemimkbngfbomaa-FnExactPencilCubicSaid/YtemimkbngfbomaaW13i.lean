/- Slices of numbers as an answer: compared, marked, looked at again (rows of one number); no condition but on sizes. -/
import Derived.Test.YtemimkbngfbomaaW13
namespace Go.Proofs.Ytemimkbngfbomaa
open Go.RowKit
set_option linter.unusedSimpArgs false
set_option linter.unusedVariables false
set_option maxRecDepth 100000

theorem len1 {xs : List Int} (h : xs.length = 1) : ∃ x : Int, xs = [x] := by
  match xs, h with
  | [x], _ => exact ⟨x, rfl⟩
theorem RdA.getOne {w : World} {g off : Nat} {rows : List (List Int)} (h : RdA w g off 1 rows) (hl : ∀ r ∈ rows, r.length = 1) {k : Nat} (hk : k < rows.length) :
    ∃ x, w.cell? ⟨g, off + k, none⟩ = some (.int .i64 x) ∧ Hid (rows[k]? = some [x]) := by
  have h0 := hl rows[k] (List.getElem_mem hk)
  obtain ⟨x, he⟩ := len1 h0
  have h1 := h k _ (get_mem hk)
  rw [he] at h1
  exact ⟨x, by simpa using h1 0 _ rfl, Lib.hid (by rw [get_mem hk, he])⟩
set_option maxHeartbeats 1000000 in
theorem eqInt64S_same (va vb : Value) (rows : List (List Int)) (w : World) (ha : SlA w va 1 rows) (hb : SlA w vb 1 rows) (hl : ∀ r ∈ rows, r.length = 1) (hm : rows.length ≤ 1000000) :
    Calls Try.prog 29 #[va, vb] w fun e w' => e = .returned (.bool true) ∧ Below w.heap.size w w' := by
  obtain ⟨aa, capa, rfl, ha⟩ := ha
  obtain ⟨ab, capb, rfl, hb⟩ := hb
  rcases ha with rfl | ⟨ga, oa, rfl, hga, hra⟩
  · go_enter Try.func29, Try.ntmps29
    go_wp2
    go_rounds 1
    go_ret
    exact ⟨rfl, by (repeat' (first | (with_reducible exact Below.refl _ _) | (with_reducible assumption) | (with_reducible refine Below.alloc ?_ ?_ _) | (with_reducible refine Below.drew ?_) | (with_reducible refine below_drewN ?_ _) | (with_reducible refine Below.setCell ?_ ?_ _) | (refine Below.step ?_ (by with_reducible assumption) ?_) | go_size))⟩
  · rcases hb with rfl | ⟨gb, ob, rfl, hgb, hrb⟩
    · go_enter Try.func29, Try.ntmps29
      go_wp2
      go_rounds 1
      go_ret
      exact ⟨rfl, by (repeat' (first | (with_reducible exact Below.refl _ _) | (with_reducible assumption) | (with_reducible refine Below.alloc ?_ ?_ _) | (with_reducible refine Below.drew ?_) | (with_reducible refine below_drewN ?_ _) | (with_reducible refine Below.setCell ?_ ?_ _) | (refine Below.step ?_ (by with_reducible assumption) ?_) | go_size))⟩
    · go_enter Try.func29, Try.ntmps29
      go_wp2
      go_loopw [5] (fun i wr => ∃ k : Nat, k ≤ rows.length ∧ i = .int .i64 k ∧ Below w.heap.size w wr) (fun i _ => rows.length - (intOf i).toNat)
      case atStart => exact ⟨0, Nat.zero_le _, rfl, Below.refl _ _⟩
      case round =>
        obtain ⟨k, hk, rfl, hB⟩ := hrel
        have hBz := hB.size
        by_cases hlt : k < rows.length
        · obtain ⟨x, p0, hx⟩ := hra.getOne hl hlt
          obtain ⟨y, q0, hy⟩ := hrb.getOne hl hlt
          have hxy : x = y := by have := hx.out.symm.trans hy.out; simpa using this
          subst hxy
          have p1 : wr.cell? ⟨ga, oa + k, none⟩ = some (.int .i64 x) := by rw [hB.cell (p := ⟨ga, _, none⟩) hga]; exact p0
          have q1 : wr.cell? ⟨gb, ob + k, none⟩ = some (.int .i64 x) := by rw [hB.cell (p := ⟨gb, _, none⟩) hgb]; exact q0
          have hi0 : (0 : Int) ≤ (k : Int) := by omega
          have hi1 : (k : Int) < (rows.length : Int) := by omega
          clear hra hrb p0 q0
          go_wp2
          refine wp_region_still_tail 8 (by kernel_rfl) (by kernel_rfl) ?_
          simp only [List.take_succ_cons, List.take_zero, List.drop_succ_cons, List.drop_zero]
          repeat still_step
          try refine wpStill_nil ?_
          change wpList _ _ _ _ _ wr.drew
          go_wp2
          go_roundw
          case rel => exact ⟨k + 1, by omega, by go_num, by (repeat' (first | (with_reducible exact Below.refl _ _) | (with_reducible assumption) | (with_reducible refine Below.alloc ?_ ?_ _) | (with_reducible refine Below.drew ?_) | (with_reducible refine below_drewN ?_ _) | (with_reducible refine Below.setCell ?_ ?_ _) | (refine Below.step ?_ (by with_reducible assumption) ?_) | go_size))⟩
          case measure => simp [intOf]; omega
        · obtain rfl : rows.length = k := by omega
          go_wp2
          go_ret
          exact ⟨rfl, hB⟩
theorem OwnA.markOne {E : Nat} {wr : World} {base g len cap : Nat} {rows : List (List Int)} {k : Nat} {v0 : Int} (hown : OwnA E 1 wr base (.slice (some ⟨g, 0, none⟩) len cap) rows) (hk : k < rows.length) :
    OwnA E 1 (wr.setCell ⟨g, k, none⟩ (.int .i64 v0)) base (.slice (some ⟨g, 0, none⟩) len cap) (rows.set k [v0]) := by
  have h := hown.set v0 (i := k) (j := 0) hk (by omega)
  have hl := hown.1 rows[k] (List.getElem_mem hk)
  obtain ⟨x, he⟩ := len1 hl
  rw [he] at h
  simpa using h
set_option maxHeartbeats 1000000 in
theorem markInt64S_any (E : Nat) (v : Value) (k0 : Int) (rows : List (List Int)) (base : Nat) (w : World) (h : OwnA E 1 w base v rows) (hm : rows.length ≤ 1000000) (hk0 : 0 ≤ k0) (hk1 : k0 ≤ 1000000) :
    Calls Try.prog 30 #[v, .int .i64 k0] w fun e w' => ∃ rows', e = .returned (.int .i64 (k0 + ((rows.length * 1 : Nat) : Int))) ∧ rows'.length = rows.length ∧ Marked 1 k0 rows' ∧ OwnA E 1 w' base v rows' ∧ w.grownBy w' v.ownBlock := by
  by_cases hne : rows = []
  · subst hne
    obtain ⟨a, cap, rfl, _⟩ := h.sl
    go_enter Try.func30, Try.ntmps30
    go_wp2
    go_rounds 1
    go_ret
    exact ⟨[], by simp, rfl, by intro q hq; simp at hq, h, World.grownBy.refl _ _⟩
  · obtain ⟨g, cap, rfl, hb, hg, hR, hfr, hcap⟩ := h.shape hne
    rw [own_block]
    have HL : Hid (rows.length = rows.length) := rfl
    generalize hlen : rows.length = len at *
    have HLEN := Lib.hid hlen
    go_enter Try.func30, Try.ntmps30
    go_wp2
    go_loopw [1, 5] (fun c i wr => ∃ (k : Nat) (rs : List (List Int)), k ≤ len ∧ i = .int .i64 k ∧ c = .int .i64 (k0 + (k : Int)) ∧ Hid (rs.length = len) ∧ Hid (∀ q, q < k → rs[q]? = some (mrow 1 k0 q)) ∧ OwnA E 1 wr base (.slice (some ⟨g, 0, none⟩) len cap) rs ∧ w.grownBy wr (some g)) (fun _ i _ => len - (intOf i).toNat)
    case atStart => exact ⟨0, rows, Nat.zero_le _, rfl, by go_num, HLEN, Lib.hid (fun q hq => by omega), h, World.grownBy.refl _ _⟩
    case round =>
      obtain ⟨k, rs, hk, rfl, rfl, hrl, hrs, hown, hgr⟩ := hrel
      by_cases hlt : k < len
      · have hkr : Hid (k < rs.length) := by show _ < _; rw [hrl.out]; exact hlt
        obtain ⟨x0, p0⟩ : ∃ x0, wr.cell? ⟨g, k, none⟩ = some (.int .i64 x0) := by
          obtain ⟨g', cap', hv, _, _, hR', _, _⟩ := hown.shape (by intro e; rw [e] at hkr; exact absurd hkr.out (by simp))
          injection hv with hv1; injection hv1 with hv1; injection hv1 with hv2; subst hv2
          obtain ⟨x0, p0, _⟩ := hR'.getOne hown.1 hkr.out
          exact ⟨x0, by simpa using p0⟩
        have f0 : wr.frozen? ⟨g, k, none⟩ = false := by
          obtain ⟨g', cap', hv, _, _, _, hf, _⟩ := hown.shape (by intro e; rw [e] at hkr; exact absurd hkr.out (by simp))
          injection hv with hv1; injection hv1 with hv1; injection hv1 with hv2; subst hv2
          exact hf k
        clear hR hfr h
        go_wp2
        go_roundw
        case rel =>
          refine ⟨k + 1, rs.set k (mrow 1 k0 k), by omega, by go_num, by go_num, by show _ = _; rw [List.length_set]; exact hrl.out, ?_, ?_, ?_⟩
          · show ∀ q, _
            intro q hq
            rcases Nat.lt_or_ge q k with h' | h'
            · rw [List.getElem?_set_ne (by omega)]; exact hrs.out q h'
            · obtain rfl : q = k := by omega
              rw [List.getElem?_set_self hkr.out]
          · have h1 := hown.markOne hkr.out (v0 := k0 + (k : Int))
            rw [show mrow 1 k0 k = [k0 + (k : Int)] by simp [mrow, List.range_succ]]
            exact h1
          · exact hgr.trans (stored_grown _ _ _ _)
        case measure => simp [intOf]; omega
      · obtain rfl : len = k := by omega
        go_wp2
        go_ret
        refine ⟨rs, by simp, hrl.out, ?_, hown, hgr⟩
        intro q hq
        exact hrs.out q (by rw [hrl.out] at hq; exact hq)
set_option maxHeartbeats 1000000 in
theorem heldInt64S_any (v : Value) (k0 : Int) (rows : List (List Int)) (w : World) (h : SlA w v 1 rows) (hM : Marked 1 k0 rows) (hm : rows.length ≤ 1000000) (hk0 : 0 ≤ k0) (hk1 : k0 ≤ 1000000) :
    Calls Try.prog 31 #[v, .int .i64 k0] w fun e w' => e = .returned (.int .i64 (k0 + ((rows.length * 1 : Nat) : Int))) ∧ w = w' := by
  obtain ⟨a, cap, rfl, h⟩ := h
  rcases h with rfl | ⟨g, off, rfl, hg, hR⟩
  · go_enter Try.func31, Try.ntmps31
    go_wp2
    go_rounds 1
    go_ret
    exact ⟨by simp, rfl⟩
  · have HM := Lib.hid hM; clear hM
    go_enter Try.func31, Try.ntmps31
    go_wp2
    go_loop [1, 5] (fun c i => ∃ k : Nat, k ≤ rows.length ∧ i = .int .i64 k ∧ c = .int .i64 (k0 + (k : Int))) (fun _ i => rows.length - (intOf i).toNat)
    case atStart => exact ⟨0, Nat.zero_le _, rfl, by go_num⟩
    case round =>
      obtain ⟨k, hk, rfl, rfl⟩ := hrel
      by_cases hlt : k < rows.length
      · have h1 := hR k _ (HM.out k hlt)
        simp only [mrow, List.range_succ, List.range_zero, List.map_append, List.map_cons, List.map_nil, List.nil_append, List.cons_append] at h1
        have p0 := h1 0 (k0 + (k : Int)) (by simp)
        have p1 : w.cell? ⟨g, off + k, none⟩ = some (.int .i64 (k0 + (k : Int))) := by simpa using p0
        clear h1 hR p0
        go_wp2
        go_round
        case rel => exact ⟨k + 1, by omega, by go_num, by go_num⟩
        case measure => simp [intOf]; omega
      · obtain rfl : rows.length = k := by omega
        go_wp2
        go_ret
        exact ⟨by simp, rfl⟩
theorem markInt64S_m (E : Nat) (v : Value) (k0 m : Int) (rows : List (List Int)) (base : Nat) (w : World) (h : OwnA E 1 w base v rows) (hm : rows.length ≤ 1000000) (hk0 : 0 ≤ k0) (hk1 : k0 ≤ 1000000) (hmm : Hid (m = k0 + ((rows.length * 1 : Nat) : Int))) :
    Calls Try.prog 30 #[v, .int .i64 k0] w fun e w' => ∃ rows', e = .returned (.int .i64 m) ∧ Hid (rows'.length = rows.length) ∧ Marked 1 k0 rows' ∧ OwnA E 1 w' base v rows' ∧ w.grownBy w' v.ownBlock :=
  (markInt64S_any E v k0 rows base w h hm hk0 hk1).mono fun e w' ⟨rows', h1, h2, h3, h4, h5⟩ => ⟨rows', by rw [h1, hmm.out], h2, h3, h4, h5⟩
theorem heldInt64S_m (v : Value) (k0 m : Int) (rows : List (List Int)) (w : World) (h : SlA w v 1 rows) (hM : Marked 1 k0 rows) (hm : rows.length ≤ 1000000) (hk0 : 0 ≤ k0) (hk1 : k0 ≤ 1000000) (hmm : Hid (m = k0 + ((rows.length * 1 : Nat) : Int))) :
    Calls Try.prog 31 #[v, .int .i64 k0] w fun e w' => e = .returned (.int .i64 m) ∧ w = w' :=
  (heldInt64S_any v k0 rows w h hM hm hk0 hk1).mono fun e w' ⟨h1, h2⟩ => ⟨by rw [h1, hmm.out], h2⟩
end Go.Proofs.Ytemimkbngfbomaa
