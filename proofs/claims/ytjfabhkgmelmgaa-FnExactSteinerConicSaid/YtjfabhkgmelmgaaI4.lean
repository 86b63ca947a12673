/- Slices of slices of numbers: how the laws measure them, copy them and look whether they are as they were; up to a million numbers. -/
import Derived.Test.YtjfabhkgmelmgaaI3
import Derived.Test.YtjfabhkgmelmgaaB3
import Derived.Test.YtjfabhkgmelmgaaH2
namespace Go.Proofs.Ytjfabhkgmelmgaa
open Go.RowKit
set_option linter.unusedSimpArgs false
set_option linter.unusedVariables false
set_option maxRecDepth 100000

/-- Block b holds these values. -/
def BoxV (E : Nat) (w : World) (b : Nat) (vs : List Value) : Prop := w.heap[b]? = some (.cells vs.toArray E (0, 0))
theorem BoxV.lt {E : Nat} {w : World} {b : Nat} {vs : List Value} (h : BoxV E w b vs) : b < w.heap.size := by
  rcases Nat.lt_or_ge b w.heap.size with h' | h'
  · exact h'
  · unfold BoxV at h; rw [Array.getElem?_eq_none h'] at h; cases h
theorem BoxV.cell {E : Nat} {w : World} {b : Nat} {vs : List Value} (h : BoxV E w b vs) (i : Nat) {x : Value} (hx : vs[i]? = some x) : w.cell? ⟨b, i, none⟩ = some x := by
  unfold BoxV at h
  simp only [World.cell?, h]
  simpa using hx
theorem BoxV.frz {E : Nat} {w : World} {b : Nat} {vs : List Value} (h : BoxV E w b vs) (i : Nat) : w.frozen? ⟨b, i, none⟩ = false := by
  unfold BoxV at h
  simp [World.frozen?, h]
theorem BoxV.alloc {E : Nat} {w : World} {b : Nat} {vs : List Value} (h : BoxV E w b vs) (o : Obj) : BoxV E (w.alloc o) b vs := by
  have := h.lt
  unfold BoxV at *
  rw [Below.heap_alloc _ _ _ this]; exact h
theorem BoxV.below {E : Nat} {w w1 : World} {b : Nat} {vs : List Value} (hb : Below w.heap.size w w1) (h : BoxV E w b vs) : BoxV E w1 b vs := by
  have := h.lt
  unfold BoxV at *
  rw [hb.block b this]; exact h
theorem BoxV.drew {E : Nat} {w : World} {b : Nat} {vs : List Value} (h : BoxV E w b vs) : BoxV E w.drew b vs := h
theorem BoxV.far {E : Nat} {w : World} {b c i : Nat} {vs : List Value} {u : Value} (h : BoxV E w b vs) (hne : b ≠ c) : BoxV E (w.setCell ⟨c, i, none⟩ u) b vs := by
  unfold BoxV at *
  rw [Below.heap_setCell _ _ _ _ hne]; exact h
theorem BoxV.set {E : Nat} {w : World} {b : Nat} {vs : List Value} (h : BoxV E w b vs) (i : Nat) (x : Value) : BoxV E (w.setCell ⟨b, i, none⟩ x) b (vs.set i x) := by
  unfold BoxV at *
  rw [heap_setCell_same w b i _ E x h]
  congr 2
  apply Array.ext'
  simp
theorem BoxV.of_owns {E : Nat} {w : World} {base g n : Nat} {xs : List Value} (h : w.ownsRow base E 1 (.slice (some ⟨g, 0, none⟩) n n) n xs) : BoxV E w g xs ∧ xs.length = n := by
  obtain ⟨hl, h⟩ := h
  rcases h with ⟨h, _⟩ | ⟨g', cap, cur, hv, hb, hh, hn, hm, hs, ht⟩
  · cases h
  · injection hv with hv1 hv2 hv3; injection hv1 with hv1; injection hv1 with hv1; subst hv1 hv3
    refine ⟨?_, by omega⟩
    unfold BoxV
    rw [hh, ← ht, List.take_of_length_le (by simp [hs])]
theorem SlI.far {w : World} {v : Value} {zs : List Int} {g i : Nat} {u : Value} (h : SlI w v zs) (hne : v.ownBlock ≠ some g) : SlI (w.setCell ⟨g, i, none⟩ u) v zs := by
  obtain ⟨a, cap, rfl, hc, h⟩ := h
  refine ⟨a, cap, rfl, hc, ?_⟩
  rcases h with h | ⟨b, off, rfl, hl, hr⟩
  · exact .inl h
  · refine .inr ⟨b, off, rfl, by simpa using hl, fun j x hj => ?_⟩
    have hbg : b ≠ g := fun e => hne (by rw [e]; rfl)
    have := hr j x hj
    simp only [World.cell?] at this ⊢
    rw [Below.heap_setCell _ _ _ _ hbg]; exact this
theorem CopyI.far {w : World} {base : Nat} {v : Value} {zs : List Int} {g i : Nat} {u : Value} (h : CopyI w base v zs) (hg : g < base) : CopyI (w.setCell ⟨g, i, none⟩ u) base v zs := by
  obtain ⟨b, rfl, h1, h2, h3, h4⟩ := h
  have hbg : b ≠ g := by omega
  refine ⟨b, rfl, h1, by simpa using h2, fun j x hj => ?_, fun j => ?_⟩
  · have := h3 j x hj
    simp only [World.cell?] at this ⊢
    rw [Below.heap_setCell _ _ _ _ hbg]; exact this
  · have := h4 j
    simp only [World.frozen?] at this ⊢
    rw [Below.heap_setCell _ _ _ _ hbg]; exact this
theorem CopyI.mono {w : World} {base base' : Nat} {v : Value} {zs : List Int} (h : CopyI w base v zs) (hb : base' ≤ base) : CopyI w base' v zs := by
  obtain ⟨b, rfl, h1, h2, h3, h4⟩ := h
  exact ⟨b, rfl, by omega, h2, h3, h4⟩
/-- What the copy of one row is: whole, or nil where an empty one is asked for bare. -/
def RowC (bare : Bool) (w : World) (base : Nat) (v : Value) (zs : List Int) : Prop := (bare = true ∧ zs = [] ∧ v = .slice none 0 0) ∨ CopyI w base v zs
theorem RowC.below {bare : Bool} {w w' : World} {base : Nat} {v : Value} {zs : List Int} (h : RowC bare w base v zs) (hb : Below w.heap.size w w') : RowC bare w' base v zs := h.imp id fun h => h.below hb
theorem RowC.far {bare : Bool} {w : World} {base : Nat} {v : Value} {zs : List Int} {g i : Nat} {u : Value} (h : RowC bare w base v zs) (hg : g < base) : RowC bare (w.setCell ⟨g, i, none⟩ u) base v zs := h.imp id fun h => h.far hg
theorem RowC.mono {bare : Bool} {w : World} {base base' : Nat} {v : Value} {zs : List Int} (h : RowC bare w base v zs) (hb : base' ≤ base) : RowC bare w base' v zs := h.imp id fun h => h.mono hb
theorem RowC.sl {bare : Bool} {w : World} {base : Nat} {v : Value} {zs : List Int} (h : RowC bare w base v zs) : SlI w v zs := by
  rcases h with ⟨_, rfl, rfl⟩ | h
  · exact SlI.nil w
  · exact h.sl
theorem RowC.copy {w : World} {base : Nat} {v : Value} {zs : List Int} (h : RowC false w base v zs) : CopyI w base v zs := by
  rcases h with ⟨h, _⟩ | h
  · cases h
  · exact h
theorem toInt64S_row (bare : Bool) (v : Value) (zs : List Int) (w : World) (h : SlI w v zs) (hm : zs.length ≤ 1000000) :
    Calls Try.prog 60 #[v, .bool bare] w fun e w' => ∃ v', e = .returned v' ∧ RowC bare w' w.heap.size v' zs ∧ Below w.heap.size w w' := by
  cases bare
  · exact (toInt64S_copy v zs false w h hm (by simp)).mono fun e w' ⟨v', he, hc, hb⟩ => ⟨v', he, .inr hc, hb⟩
  · by_cases hz : zs = []
    · subst hz
      exact (toInt64S_nil v w h).mono fun e w' ⟨he, hw⟩ => ⟨_, he, .inl ⟨rfl, rfl, rfl⟩, by subst hw; exact Below.refl _ _⟩
    · exact (toInt64S_copy v zs true w h hm (fun _ => hz)).mono fun e w' ⟨v', he, hc, hb⟩ => ⟨v', he, .inr hc, hb⟩
set_option maxHeartbeats 1000000 in
theorem szInt64S_any (v : Value) (n : Nat) (l : Int) (w : World) (h : ∃ a c, v = .slice a n c) (hl : n ≤ maxLen) (h0 : 0 ≤ l) (h1 : l ≤ 1000000) :
    Calls Try.prog 55 #[v, .int .i64 l] w fun e w' => e = .returned (.int .i64 (if l - (n : Int) < 0 then -1 else l - (n : Int))) ∧ w = w' := by
  obtain ⟨a, c, rfl⟩ := h
  unfold maxLen at hl
  have hw : IntKind.i64.wrap (l - (n : Int)) = l - (n : Int) := by go_arith
  by_cases hlt : l - (n : Int) < 0
  · rw [if_pos hlt]
    have hlt2 : l < (n : Int) := by omega
    go_enter Try.func55, Try.ntmps55
    go_wp2
    go_returns
    exact ⟨rfl, rfl⟩
  · rw [if_neg hlt]
    have hlt2 : ¬ l < (n : Int) := by omega
    have hlt3 : (n : Int) ≤ l := by omega
    go_enter Try.func55, Try.ntmps55
    go_wp2
    go_returns
    exact ⟨rfl, rfl⟩
def szR : Int → List (List Int) → Int
  | l, [] => l
  | l, r :: rs => if l - (r.length : Int) < 0 then -1 else szR (l - (r.length : Int)) rs
def szSS (rows : List (List Int)) : Int := if 1000000 - (rows.length : Int) < 0 then -1 else szR (1000000 - (rows.length : Int)) rows
theorem szR_ok : ∀ {rows : List (List Int)} {l : Int}, l ≤ 1000000 → 0 ≤ szR l rows → ∀ r ∈ rows, r.length ≤ 1000000
  | [], _, _, _ => by simp
  | r :: rs, l, hl, h => by
    unfold szR at h
    by_cases hlt : l - (r.length : Int) < 0
    · rw [if_pos hlt] at h; omega
    · rw [if_neg hlt] at h
      intro x hx
      rcases List.mem_cons.1 hx with rfl | hx
      · omega
      · exact szR_ok (by omega) h x hx
theorem szSS_ok {rows : List (List Int)} (h : 0 ≤ szSS rows) : rows.length ≤ 1000000 ∧ ∀ r ∈ rows, r.length ≤ 1000000 := by
  unfold szSS at h
  by_cases hlt : 1000000 - (rows.length : Int) < 0
  · rw [if_pos hlt] at h; omega
  · rw [if_neg hlt] at h; exact ⟨by omega, szR_ok (by omega) h⟩
/-- A row of a slice of slices, as its cell holds it. -/
def RowsAt (w : World) (a : Option Addr) (rows : List (List Int)) : Prop := ∀ k row, rows[k]? = some row → ∃ b off u, a = some ⟨b, off, none⟩ ∧ b < w.heap.size ∧ w.cell? ⟨b, off + k, none⟩ = some u ∧ SlI w u row
theorem SlSS.at_ {w : World} {v : Value} {rows : List (List Int)} (h : SlSS w v rows) : ∃ a cap, v = .slice a rows.length cap ∧ rows.length ≤ cap ∧ RowsAt w a rows := by
  obtain ⟨a, cap, rfl, hc, h⟩ := h
  refine ⟨a, cap, rfl, hc, fun k row hk => ?_⟩
  rcases h with h | ⟨b, off, ha, hl, h⟩
  · rw [h] at hk; simp at hk
  · obtain ⟨u, h1, h2⟩ := h k row hk
    exact ⟨b, off, u, ha, hl, h1, h2⟩
theorem SlI.shape {w : World} {v : Value} {zs : List Int} (h : SlI w v zs) : ∃ a c, v = .slice a zs.length c := let ⟨a, c, h, _⟩ := h; ⟨a, c, h⟩
set_option maxHeartbeats 1000000 in
theorem szInt64SS_any (v : Value) (rows : List (List Int)) (w : World) (h : SlSS w v rows) (hl : rows.length ≤ maxLen) (hr : ∀ r ∈ rows, r.length ≤ maxLen) :
    Calls Try.prog 13 #[v, .int .i64 1000000] w fun e w' => e = .returned (.int .i64 (szSS rows)) ∧ w = w' := by
  obtain ⟨a, cap, rfl, hcap, hrd⟩ := h.at_
  have HR := Lib.hid hrd; clear hrd h
  have HM : Hid (∀ (k : Nat) (row : List Int), rows[k]? = some row → row.length ≤ maxLen) := fun k row hk => hr row (List.mem_of_getElem? hk)
  have hl' := hl
  unfold maxLen at hl'
  have hE : szSS rows = if 1000000 - (rows.length : Int) < 0 then -1 else szR (1000000 - (rows.length : Int)) rows := rfl
  generalize hn : rows.length = n at *
  have HN := Lib.hid hn
  clear hn hr hl
  have hw : IntKind.i64.wrap (1000000 - (n : Int)) = 1000000 - (n : Int) := by go_arith
  by_cases h0 : 1000000 - (n : Int) < 0
  · rw [if_pos h0] at hE
    have HE := Lib.hid hE; clear hE
    have h1 : (1000000 : Int) < (n : Int) := by omega
    go_enter Try.func13, Try.ntmps13
    go_wp2
    go_returns
    exact ⟨by rw [HE.out]; rfl, rfl⟩
  · rw [if_neg h0] at hE
    have HE := Lib.hid hE; clear hE
    have h1 : ¬ (1000000 : Int) < (n : Int) := by omega
    have h2 : (n : Int) ≤ 1000000 := by omega
    go_enter Try.func13, Try.ntmps13
    go_wp2
    go_loop [1, 5] (fun q i => ∃ (k : Nat) (l : Int), k ≤ n ∧ 0 ≤ l ∧ l ≤ 1000000 ∧ q = .int .i64 l ∧ i = .int .i64 k ∧ Hid (szSS rows = szR l (rows.drop k))) (fun _ i => n - (intOf i).toNat)
    case atStart => exact ⟨0, 1000000 - (n : Int), Nat.zero_le _, by omega, by omega, rfl, rfl, HE⟩
    case round =>
      obtain ⟨k, l, hk, hl0, hl1, rfl, rfl, hrel⟩ := hrel
      by_cases hlt : k < n
      · have hkr : Hid (k < rows.length) := by show _ < _; rw [HN.out]; exact hlt
        obtain ⟨b, off, u, rfl, hbl, hcell, hsl⟩ := HR.out k _ (List.getElem?_eq_getElem hkr.out)
        have hm := HM.out k _ (List.getElem?_eq_getElem hkr.out)
        have hnx : Hid (szSS rows = if l - ((rows[k]'(hkr.out)).length : Int) < 0 then -1 else szR (l - ((rows[k]'(hkr.out)).length : Int)) (rows.drop (k + 1))) := by
          show _ = _
          rw [hrel.out, List.drop_eq_getElem_cons hkr.out]; rfl
        have hct := Lib.hid (szInt64S_any u _ l w hsl.shape hm hl0 hl1)
        clear hsl hm hrel
        generalize (rows[k]'(hkr.out)).length = m at *
        by_cases hlm : l - (m : Int) < 0
        · rw [if_pos hlm] at hct hnx
          go_wp2_with (go_at_call 55; refine hct.out.mono ?_; rintro e w' ⟨rfl, rfl⟩)
          go_ret
          exact ⟨by rw [hnx.out]; rfl, rfl⟩
        · rw [if_neg hlm] at hct hnx
          have hl2 : ¬ l - (m : Int) < 0 := hlm
          have hl3 : l - (m : Int) ≤ 1000000 := by omega
          generalize l - (m : Int) = l2 at *
          go_wp2_with (go_at_call 55; refine hct.out.mono ?_; rintro e w' ⟨rfl, rfl⟩)
          go_round
          case rel => exact ⟨k + 1, l2, by omega, by omega, by omega, rfl, by go_num, hnx⟩
          case measure => simp [intOf]; omega
      · have hd : Hid (szSS rows = l) := by show _ = _; rw [hrel.out, List.drop_eq_nil_of_le (by rw [HN.out]; omega)]; rfl
        go_wp2
        go_ret
        exact ⟨by rw [hd.out]; rfl, rfl⟩
end Go.Proofs.Ytjfabhkgmelmgaa
