/- Slices of slices of numbers: how the laws copy them; up to a million numbers. -/
import Derived.Test.YtjfabhkgmelmgaaI4
namespace Go.Proofs.Ytjfabhkgmelmgaa
open Go.RowKit
set_option linter.unusedSimpArgs false
set_option linter.unusedVariables false
set_option maxRecDepth 100000

theorem Below.one (w : World) (o : Obj) : Below w.heap.size w (w.alloc o) := Below.alloc (Below.refl _ _) (Nat.le_refl _) o
/-- A copy: its rows lie in blocks behind its own; behind its rows there is room, filled with rows of one number. -/
def MadeSS (bare : Bool) (w : World) (base : Nat) (v : Value) (rows : List (List Int)) : Prop :=
  ∃ (g : Nat) (vs : List Value), v = .slice (some ⟨g, 0, none⟩) rows.length (rows.length + room rows.length) ∧ base ≤ g ∧ BoxV 80 w g vs ∧ vs.length = rows.length + room rows.length ∧
    (∀ (k : Nat) (row : List Int), rows[k]? = some row → ∃ u, vs[k]? = some u ∧ RowC bare w (g + 1) u row) ∧
    (∀ k, rows.length ≤ k → k < rows.length + room rows.length → ∃ h, vs[k]? = some (.slice (some ⟨h, 0, none⟩) 1 1) ∧ g < h ∧ Box 2 w h [magic])
theorem MadeSS.below {bare : Bool} {w w' : World} {base : Nat} {v : Value} {rows : List (List Int)} (h : MadeSS bare w base v rows) (hb : Below w.heap.size w w') : MadeSS bare w' base v rows := by
  obtain ⟨g, vs, hv, hg, hbox, hl, h1, h2⟩ := h
  refine ⟨g, vs, hv, hg, BoxV.below hb hbox, hl, fun k row hk => ?_, fun k hk hk2 => ?_⟩
  · obtain ⟨u, e1, e2⟩ := h1 k row hk
    exact ⟨u, e1, e2.below hb⟩
  · obtain ⟨h, e1, e2, e3⟩ := h2 k hk hk2
    exact ⟨h, e1, e2, Box.below hb e3⟩
theorem MadeSS.sl {bare : Bool} {w : World} {base : Nat} {v : Value} {rows : List (List Int)} (h : MadeSS bare w base v rows) : SlSS w v rows := by
  obtain ⟨g, vs, hv, hg, hbox, hl, h1, h2⟩ := h
  refine ⟨_, _, hv, by omega, .inr ⟨g, 0, rfl, hbox.lt, fun k row hk => ?_⟩⟩
  obtain ⟨u, e1, e2⟩ := h1 k row hk
  exact ⟨u, by rw [Nat.zero_add]; exact hbox.cell k e1, e2.sl⟩
theorem RowC.shape {bare : Bool} {w : World} {base : Nat} {v : Value} {zs : List Int} (h : RowC bare w base v zs) : ∃ a n c, v = .slice a n c := let ⟨a, c, h⟩ := h.sl.shape; ⟨a, _, c, h⟩
/-- The block's values after k rows: the first k are copies. -/
def Part1 (bare : Bool) (w : World) (base : Nat) (vs : List Value) (rows : List (List Int)) (k : Nat) : Prop :=
  ∀ (j : Nat) (row : List Int), j < k → rows[j]? = some row → ∃ u, vs[j]? = some u ∧ RowC bare w base u row
def Part2 (w : World) (g : Nat) (vs : List Value) (n k : Nat) : Prop :=
  ∀ j, n ≤ j → j < k → ∃ h, vs[j]? = some (.slice (some ⟨h, 0, none⟩) 1 1) ∧ g < h ∧ Box 2 w h [magic]
theorem Part1.next {bare : Bool} {w w1 : World} {g k : Nat} {vs : List Value} {rows : List (List Int)} {row : List Int} {u : Value} {b1 : Nat} (h : Part1 bare w (g + 1) vs rows k) (hb : Below w.heap.size w w1) (hg : g < b1) (hk : rows[k]? = some row) (hl : k < vs.length) (hu : RowC bare w1 b1 u row) :
    Part1 bare (w1.setCell ⟨g, k, none⟩ u) (g + 1) (vs.set k u) rows (k + 1) := by
  intro j r hj hr
  by_cases hjk : k = j
  · subst hjk
    rw [hk] at hr
    injection hr with hr
    subst hr
    exact ⟨u, by simp [hl], (hu.mono (by omega)).far (by omega)⟩
  · obtain ⟨u', e1, e2⟩ := h j r (by omega) hr
    exact ⟨u', by rw [List.getElem?_set, if_neg hjk]; exact e1, (e2.below hb).far (by omega)⟩
theorem Part1.next2 {bare : Bool} {w w1 : World} {g k n : Nat} {vs : List Value} {rows : List (List Int)} {u : Value} (h : Part1 bare w (g + 1) vs rows n) (hb : Below w.heap.size w w1) (hk : n ≤ k) :
    Part1 bare (w1.setCell ⟨g, k, none⟩ u) (g + 1) (vs.set k u) rows n := by
  intro j r hj hr
  obtain ⟨u', e1, e2⟩ := h j r (by omega) hr
  exact ⟨u', by rw [List.getElem?_set, if_neg (by omega)]; exact e1, (e2.below hb).far (by omega)⟩
theorem Part1.below {bare : Bool} {w w1 : World} {base k : Nat} {vs : List Value} {rows : List (List Int)} (h : Part1 bare w base vs rows k) (hb : Below w.heap.size w w1) : Part1 bare w1 base vs rows k := fun j r hj hr => let ⟨u, e1, e2⟩ := h j r hj hr; ⟨u, e1, e2.below hb⟩
theorem Part2.next {w : World} {g n k : Nat} {vs : List Value} (hp : Part2 w g vs n k) (hh : g < w.heap.size) (hl : k < vs.length) :
    Part2 ((w.setCell ⟨g, k, none⟩ (.slice (some ⟨w.heap.size, 0, none⟩) 1 1)).alloc (.cells #[.int .i64 (-7000000000000000101)] 2)) g (vs.set k (.slice (some ⟨w.heap.size, 0, none⟩) 1 1)) n (k + 1) := by
  intro j hj hjk
  by_cases e : k = j
  · subst e
    exact ⟨w.heap.size, by simp [hl], hh, Box.new [magic] (by simp)⟩
  · obtain ⟨h', e1, e2, e3⟩ := hp j hj (by omega)
    exact ⟨h', by rw [List.getElem?_set, if_neg e]; exact e1, e2, (e3.far (by omega)).alloc _⟩
set_option maxHeartbeats 2000000 in
theorem toInt64SS_copy (v : Value) (rows : List (List Int)) (bare : Bool) (w : World) (h : SlSS w v rows) (hm : rows.length ≤ 1000000) (hr : ∀ r ∈ rows, r.length ≤ 1000000) (hb : bare = true → rows ≠ []) :
    Calls Try.prog 15 #[v, .bool bare] w fun e w' => ∃ v', e = .returned v' ∧ MadeSS bare w' w.heap.size v' rows ∧ Below w.heap.size w w' := by
  obtain ⟨a, cap, rfl, hcap, hrd⟩ := h.at_
  have HR := Lib.hid hrd; clear hrd h
  have HM : Hid (∀ (k : Nat) (row : List Int), rows[k]? = some row → row.length ≤ 1000000) := fun k row hk => hr row (List.mem_of_getElem? hk)
  have hz : bare = true → ¬ (rows.length : Int) = 0 := by
    intro h; have := hb h; intro e
    apply this
    apply List.length_eq_zero_iff.1
    omega
  have HC : Hid (∀ (w' : World) (vs : List Value) (n : Nat), n = rows.length → BoxV 80 w' w.heap.size vs → vs.length = n + room n → Part1 bare w' (w.heap.size + 1) vs rows n → Part2 w' w.heap.size vs n (n + room n) → MadeSS bare w' w.heap.size (.slice (some ⟨w.heap.size, 0, none⟩) n (n + room n)) rows) := by
    intro w' vs n hn h1 h2 h3 h4
    subst hn
    exact ⟨_, vs, rfl, Nat.le_refl _, h1, h2, fun k row hk => h3 k row (List.getElem?_eq_some_iff.1 hk).1 hk, h4⟩
  clear hr hb
  generalize hn : rows.length = n at *
  have HN := Lib.hid hn
  clear hn
  have hrl := room_le n
  have hrb := fun w' => roomBehind_any n w' hm
  generalize hrr : room n = r at *
  have HRR := Lib.hid hrr; clear hrr
  have hw : IntKind.i64.wrap ((n : Int) + (r : Int)) = ((n + r : Nat) : Int) := by
    have : ((n + r : Nat) : Int) = (n : Int) + (r : Int) := by omega
    rw [this]; go_arith
  obtain ⟨w2, hmk, hown, hgr⟩ := run_make_full (P := Try.prog) (w := w) w.heap.size 22 80 _ (.slice none 0 0) 1 Try.underlying22 rfl rfl rfl .i64 .i64 (n + r) (by show 24 * _ ≤ _; omega) (by unfold maxLen; omega) (Nat.le_refl _)
  have hB2 : Below w.heap.size w w2 := ⟨hgr.os, hgr.tape, hgr.output, hgr.size, fun k hk => hgr.block k hk (by simp)⟩
  obtain ⟨hO2, hlen2⟩ := BoxV.of_owns hown
  have hcast : ((n + r : Nat) : Int) = (n : Int) + (r : Int) := by omega
  rw [hcast] at hmk
  generalize (madeCells (Value.slice none 0 0).cells ((n + r) * 1)).toList = vs0 at *
  clear hown hgr
  cases bare
  · clear hz
    go_enter Try.func15, Try.ntmps15
    go_wp2_with (go_at_call 59; refine (hrb _).mono ?_; rintro e w' ⟨rfl, rfl⟩)
    go_loopw [6] (fun i wr => ∃ (k : Nat) (vs : List Value), k ≤ n ∧ i = .int .i64 k ∧ BoxV 80 wr w.heap.size vs ∧ Hid (vs.length = n + r) ∧ Hid (Part1 false wr (w.heap.size + 1) vs rows k) ∧ Below w.heap.size w wr) (fun i _ => n - (intOf i).toNat)
    case atStart => exact ⟨0, _, Nat.zero_le _, rfl, hO2, hlen2, Lib.hid (fun j row hj _ => by omega), hB2⟩
    case round =>
      obtain ⟨k, vs, hk, rfl, hbox, hvl, hp1, hC⟩ := hrel
      have hgl := hbox.lt
      by_cases hlt : k < n
      · obtain ⟨row, hrow⟩ : ∃ row, Hid (rows[k]? = some row) := ⟨_, List.getElem?_eq_getElem (by have := HN.out; omega)⟩
        obtain ⟨b, off, u, rfl, hbl, hcell, hsl⟩ := HR.out k row hrow.out
        have hld := keepC hC hcell
        have hto := Lib.hid (toInt64S_row false u row wr (hsl.below hC) (HM.out k row hrow.out))
        have hkl : Hid (k < vs.length) := by show _ < _; rw [hvl.out]; omega
        obtain ⟨x, hx⟩ : ∃ x, Hid (vs[k]? = some x) := ⟨_, List.getElem?_eq_getElem hkl.out⟩
        clear hsl
        go_wp2_with (go_at_call 60; refine hto.out.mono ?_; rintro e w1 ⟨u', rfl, hrc, hb1⟩; obtain ⟨ua, un, uc, rfl⟩ := hrc.shape; have hbox1 := BoxV.below hb1 hbox; have hst := hbox1.cell k hx.out; have hfz := hbox1.frz k; have hgl1 := hbox1.lt)
        go_roundw
        case rel => exact ⟨k + 1, vs.set k (.slice ua un uc), by omega, by go_num, hbox1.set k _, Lib.hid (by rw [List.length_set]; exact hvl.out), Lib.hid (hp1.out.next hb1 hgl hrow.out hkl.out hrc), Below.setCell (p := ⟨w.heap.size, k, none⟩) (keepB hb1 hC (by omega)) (Nat.le_refl _) _⟩
        case measure => simp [intOf]; omega
      · have hkn : k = n := by omega
        subst hkn
        clear hlt
        go_wp2
        go_loopw [7] (fun i wq => ∃ (j : Nat) (us : List Value), k ≤ j ∧ j ≤ k + r ∧ i = .int .i64 j ∧ BoxV 80 wq w.heap.size us ∧ Hid (us.length = k + r) ∧ Hid (Part1 false wq (w.heap.size + 1) us rows k) ∧ Hid (Part2 wq w.heap.size us k j) ∧ Below w.heap.size w wq) (fun i _ => k + r - (intOf i).toNat)
        case atStart => exact ⟨k, vs, Nat.le_refl _, by omega, rfl, hbox, hvl, hp1, Lib.hid (fun q h1 h2 => by omega), hC⟩
        case round =>
          obtain ⟨j, us, hj0, hj, rfl, hbj, hul, hq1, hq2, hD⟩ := hrel
          have hgj := hbj.lt
          by_cases hjt : j < k + r
          · have hjl : Hid (j < us.length) := by show _ < _; rw [hul.out]; exact hjt
            obtain ⟨x, hx⟩ : ∃ x, Hid (us[j]? = some x) := ⟨_, List.getElem?_eq_getElem hjl.out⟩
            have hst := hbj.cell j hx.out
            have hfz := hbj.frz j
            have hn1 := (hq1.out.next2 (u := .slice (some ⟨wr.heap.size, 0, none⟩) 1 1) (Below.refl wr.heap.size wr) hj0).below (Below.one _ (.cells #[.int .i64 (-7000000000000000101)] 2))
            have hn2 := hq2.out.next hgj hjl.out
            have hset := (hbj.set j (.slice (some ⟨wr.heap.size, 0, none⟩) 1 1)).alloc (.cells #[.int .i64 (-7000000000000000101)] 2)
            have hN1 := Lib.hid hn1; have hN2 := Lib.hid hn2; have hSet := Lib.hid hset
            clear hn1 hn2 hset
            go_wp2
            go_roundw
            case rel => exact ⟨j + 1, _, by omega, by omega, by go_num, hSet.out, Lib.hid (by rw [List.length_set]; exact hul.out), Lib.hid hN1.out, Lib.hid hN2.out, by (repeat' (first | (with_reducible exact Below.refl _ _) | (with_reducible assumption) | (with_reducible refine Below.alloc ?_ ?_ _) | (with_reducible refine Below.drew ?_) | (with_reducible refine below_drewN ?_ _) | (with_reducible refine Below.setCell ?_ ?_ _) | (refine Below.step ?_ (by with_reducible assumption) ?_) | go_size))⟩
            case measure => simp [intOf]; omega
          · have hjk : j = k + r := by omega
            subst hjk
            have hfin : MadeSS false wr w.heap.size (.slice (some ⟨w.heap.size, 0, none⟩) k (k + r)) rows := by
              have := HC.out wr us k rfl hbj (by rw [HRR.out]; exact hul.out) hq1.out (by rw [HRR.out]; exact hq2.out)
              rw [HRR.out] at this
              exact this
            go_wp2
            go_ret
            exact ⟨_, rfl, hfin, hD⟩
  · have hz := hz rfl
    have hz' : ((n : Int) == 0) = false := by simpa using hz
    go_enter Try.func15, Try.ntmps15
    go_wp2_with (go_at_call 59; refine (hrb _).mono ?_; rintro e w' ⟨rfl, rfl⟩)
    go_loopw [6] (fun i wr => ∃ (k : Nat) (vs : List Value), k ≤ n ∧ i = .int .i64 k ∧ BoxV 80 wr w.heap.size vs ∧ Hid (vs.length = n + r) ∧ Hid (Part1 true wr (w.heap.size + 1) vs rows k) ∧ Below w.heap.size w wr) (fun i _ => n - (intOf i).toNat)
    case atStart => exact ⟨0, _, Nat.zero_le _, rfl, hO2, hlen2, Lib.hid (fun j row hj _ => by omega), hB2⟩
    case round =>
      obtain ⟨k, vs, hk, rfl, hbox, hvl, hp1, hC⟩ := hrel
      have hgl := hbox.lt
      by_cases hlt : k < n
      · obtain ⟨row, hrow⟩ : ∃ row, Hid (rows[k]? = some row) := ⟨_, List.getElem?_eq_getElem (by have := HN.out; omega)⟩
        obtain ⟨b, off, u, rfl, hbl, hcell, hsl⟩ := HR.out k row hrow.out
        have hld := keepC hC hcell
        have hto := Lib.hid (toInt64S_row true u row wr (hsl.below hC) (HM.out k row hrow.out))
        have hkl : Hid (k < vs.length) := by show _ < _; rw [hvl.out]; omega
        obtain ⟨x, hx⟩ : ∃ x, Hid (vs[k]? = some x) := ⟨_, List.getElem?_eq_getElem hkl.out⟩
        clear hsl
        go_wp2_with (go_at_call 60; refine hto.out.mono ?_; rintro e w1 ⟨u', rfl, hrc, hb1⟩; obtain ⟨ua, un, uc, rfl⟩ := hrc.shape; have hbox1 := BoxV.below hb1 hbox; have hst := hbox1.cell k hx.out; have hfz := hbox1.frz k; have hgl1 := hbox1.lt)
        go_roundw
        case rel => exact ⟨k + 1, vs.set k (.slice ua un uc), by omega, by go_num, hbox1.set k _, Lib.hid (by rw [List.length_set]; exact hvl.out), Lib.hid (hp1.out.next hb1 hgl hrow.out hkl.out hrc), Below.setCell (p := ⟨w.heap.size, k, none⟩) (keepB hb1 hC (by omega)) (Nat.le_refl _) _⟩
        case measure => simp [intOf]; omega
      · have hkn : k = n := by omega
        subst hkn
        clear hlt
        go_wp2
        go_loopw [7] (fun i wq => ∃ (j : Nat) (us : List Value), k ≤ j ∧ j ≤ k + r ∧ i = .int .i64 j ∧ BoxV 80 wq w.heap.size us ∧ Hid (us.length = k + r) ∧ Hid (Part1 true wq (w.heap.size + 1) us rows k) ∧ Hid (Part2 wq w.heap.size us k j) ∧ Below w.heap.size w wq) (fun i _ => k + r - (intOf i).toNat)
        case atStart => exact ⟨k, vs, Nat.le_refl _, by omega, rfl, hbox, hvl, hp1, Lib.hid (fun q h1 h2 => by omega), hC⟩
        case round =>
          obtain ⟨j, us, hj0, hj, rfl, hbj, hul, hq1, hq2, hD⟩ := hrel
          have hgj := hbj.lt
          by_cases hjt : j < k + r
          · have hjl : Hid (j < us.length) := by show _ < _; rw [hul.out]; exact hjt
            obtain ⟨x, hx⟩ : ∃ x, Hid (us[j]? = some x) := ⟨_, List.getElem?_eq_getElem hjl.out⟩
            have hst := hbj.cell j hx.out
            have hfz := hbj.frz j
            have hn1 := (hq1.out.next2 (u := .slice (some ⟨wr.heap.size, 0, none⟩) 1 1) (Below.refl wr.heap.size wr) hj0).below (Below.one _ (.cells #[.int .i64 (-7000000000000000101)] 2))
            have hn2 := hq2.out.next hgj hjl.out
            have hset := (hbj.set j (.slice (some ⟨wr.heap.size, 0, none⟩) 1 1)).alloc (.cells #[.int .i64 (-7000000000000000101)] 2)
            have hN1 := Lib.hid hn1; have hN2 := Lib.hid hn2; have hSet := Lib.hid hset
            clear hn1 hn2 hset
            go_wp2
            go_roundw
            case rel => exact ⟨j + 1, _, by omega, by omega, by go_num, hSet.out, Lib.hid (by rw [List.length_set]; exact hul.out), Lib.hid hN1.out, Lib.hid hN2.out, by (repeat' (first | (with_reducible exact Below.refl _ _) | (with_reducible assumption) | (with_reducible refine Below.alloc ?_ ?_ _) | (with_reducible refine Below.drew ?_) | (with_reducible refine below_drewN ?_ _) | (with_reducible refine Below.setCell ?_ ?_ _) | (refine Below.step ?_ (by with_reducible assumption) ?_) | go_size))⟩
            case measure => simp [intOf]; omega
          · have hjk : j = k + r := by omega
            subst hjk
            have hfin : MadeSS true wr w.heap.size (.slice (some ⟨w.heap.size, 0, none⟩) k (k + r)) rows := by
              have := HC.out wr us k rfl hbj (by rw [HRR.out]; exact hul.out) hq1.out (by rw [HRR.out]; exact hq2.out)
              rw [HRR.out] at this
              exact this
            go_wp2
            go_ret
            exact ⟨_, rfl, hfin, hD⟩
theorem toInt64SS_row (bare : Bool) (v : Value) (rows : List (List Int)) (w : World) (h : SlSS w v rows) (hm : rows.length ≤ 1000000) (hr : ∀ r ∈ rows, r.length ≤ 1000000) :
    Calls Try.prog 15 #[v, .bool bare] w fun e w' => ∃ v', e = .returned v' ∧ (bare = false → MadeSS bare w' w.heap.size v' rows) ∧ SlSS w' v' rows ∧ Below w.heap.size w w' := by
  by_cases hz : bare = true ∧ rows = []
  · obtain ⟨rfl, rfl⟩ := hz
    obtain ⟨a, cap, rfl, hcap, hrd⟩ := h.at_
    go_enter Try.func15, Try.ntmps15
    go_wp2
    go_returns
    exact ⟨_, rfl, (fun h => by cases h), SlSS.nil _, Below.refl _ _⟩
  · exact (toInt64SS_copy v rows bare w h hm hr (fun hb he => hz ⟨hb, he⟩)).mono fun e w' ⟨v', he, hc, hb⟩ => ⟨v', he, (fun _ => hc), hc.sl, hb⟩
end Go.Proofs.Ytjfabhkgmelmgaa
