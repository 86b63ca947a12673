/- Slices of slices of numbers: how the laws look whether they are as they were; up to a million numbers. -/
import Derived.Test.YtjfabhkgmelmgaaI5
import Derived.Deep.RegionHeld3
namespace Go.Proofs.Ytjfabhkgmelmgaa
open Go.RowKit
set_option linter.unusedSimpArgs false
set_option linter.unusedVariables false
set_option maxRecDepth 100000

/-- From off on lie r slices of the one number that stands in spare room. -/
def SpareAt (w : World) (g off r : Nat) : Prop := ∀ k, k < r → ∃ h, w.cell? ⟨g, off + k, none⟩ = some (.slice (some ⟨h, 0, none⟩) 1 1) ∧ Rd w h 0 [magic]
theorem SpareAt.below {w w' : World} {g off r : Nat} (h : SpareAt w g off r) (hb : Below w.heap.size w w') : SpareAt w' g off r := fun k hk =>
  let ⟨b, h1, h2⟩ := h k hk; ⟨b, keepC hb h1, fun i x hi => keepC hb (h2 i x hi)⟩
set_option maxHeartbeats 1000000 in
theorem eqInt64SS_spare (g g' off r c1 c2 : Nat) (w : World) (h1 : SpareAt w g off r) (h2 : SpareAt w g' off r) (hm : r ≤ 3000000) :
    Calls Try.prog 17 #[.slice (some ⟨g, off, none⟩) r c1, .slice (some ⟨g', off, none⟩) r c2] w fun e w' => e = .returned (.bool true) ∧ Below w.heap.size w w' := by
  have H1 := Lib.hid h1
  have H2 := Lib.hid h2
  clear h1 h2
  go_enter Try.func17, Try.ntmps17
  go_wp2
  go_loopw [5] (fun i wr => ∃ k : Nat, k ≤ r ∧ i = .int .i64 k ∧ Below w.heap.size w wr) (fun i _ => r - (intOf i).toNat)
  case atStart => exact ⟨0, Nat.zero_le _, rfl, Below.refl _ _⟩
  case round =>
    obtain ⟨k, hk, rfl, hC⟩ := hrel
    by_cases hlt : k < r
    · obtain ⟨b, hc1, hr1⟩ := H1.out k hlt
      obtain ⟨b', hc2, hr2⟩ := H2.out k hlt
      have q1 := keepC hC hc1
      have q2 := keepC hC hc2
      have HE : Hid (∀ w' : World, Below w.heap.size w w' → Calls Try.prog 65 #[.slice (some ⟨b, 0, none⟩) 1 1, .slice (some ⟨b', 0, none⟩) 1 1] w' fun e w'' => e = .returned (.bool true) ∧ Below w'.heap.size w' w'') :=
        fun w' hB => eqInt64S_same b b' 1 1 [magic] 1 w' (fun i z hi => keepC hB (hr1 i z hi)) (fun i z hi => keepC hB (hr2 i z hi)) rfl (by omega)
      clear hr1 hr2 hc1 hc2
      have hz := hC.size
      go_wp2_with fail
      go_region_held3 (fun w' => w'.cell? ⟨g, off + k, none⟩ = some (.slice (some ⟨b, 0, none⟩) 1 1) ∧ w'.cell? ⟨g', off + k, none⟩ = some (.slice (some ⟨b', 0, none⟩) 1 1) ∧ Below w.heap.size w w') ((go_split_ands; (repeat (any_goals (with_reducible apply And.intro))) <;> (first | (with_reducible assumption) | (with_reducible exact keepD (by with_reducible assumption)) | (with_reducible exact keepC (by with_reducible assumption) (by with_reducible assumption)) | (with_reducible exact Below.drew (by with_reducible assumption)) | (with_reducible exact keepB (by with_reducible assumption) (by with_reducible assumption) (Nat.le_refl _))))) ((go_at_call 65; refine (HE.out _ (by first | assumption | exact Below.drew (by assumption) | (go_split_ands; assumption))).mono ?_; rintro e w1 ⟨rfl, hb1⟩))
      all_goals (go_wp2_with fail; go_split_ands; go_roundw; rotate_left; (simp [intOf]; omega); exact ⟨k + 1, by omega, by go_num, by assumption⟩)
    · go_wp2
      go_ret
      exact ⟨rfl, hC⟩
set_option maxHeartbeats 2000000 in
theorem intactInt64SS_same (x y : Value) (bx bY : Nat) (rows : List (List Int)) (w : World) (hx : MadeSS false w bx x rows) (hy : MadeSS false w bY y rows) (hm : rows.length ≤ 1000000) (hr : ∀ r ∈ rows, r.length ≤ 1000000) :
    Calls Try.prog 18 #[x, y] w fun e w' => e = .returned (.bool true) ∧ Below w.heap.size w w' := by
  obtain ⟨g, vs, rfl, _, hbox, hl, h1, h2⟩ := hx
  obtain ⟨g', vs', rfl, _, hbox', hl', h1', h2'⟩ := hy
  have hrm := room_le rows.length
  have HM : Hid (∀ (k : Nat) (row : List Int), rows[k]? = some row → row.length ≤ 1000000) := fun k row hk => hr row (List.mem_of_getElem? hk)
  have HA : Hid (∀ (k : Nat) (row : List Int), rows[k]? = some row → ∃ u u', w.cell? ⟨g, k, none⟩ = some u ∧ w.cell? ⟨g', k, none⟩ = some u' ∧ CopyI w (g + 1) u row ∧ CopyI w (g' + 1) u' row) := by
    intro k row hk
    obtain ⟨u, e1, e2⟩ := h1 k row hk
    obtain ⟨u', e1', e2'⟩ := h1' k row hk
    exact ⟨u, u', hbox.cell k e1, hbox'.cell k e1', e2.copy, e2'.copy⟩
  have HS : Hid (SpareAt w g rows.length (room rows.length)) := by
    intro k hk
    obtain ⟨h, e1, _, e3⟩ := h2 (rows.length + k) (by omega) (by omega)
    exact ⟨h, hbox.cell _ e1, e3.rd⟩
  have HS' : Hid (SpareAt w g' rows.length (room rows.length)) := by
    intro k hk
    obtain ⟨h, e1, _, e3⟩ := h2' (rows.length + k) (by omega) (by omega)
    exact ⟨h, hbox'.cell _ e1, e3.rd⟩
  clear h1 h2 h1' h2' hbox hbox' hl hl' hr
  have hrb := fun w' => roomBehind_any rows.length w' hm
  generalize room rows.length = r at *
  generalize hn : rows.length = n at *
  have HN := Lib.hid hn
  clear hn
  have hw : IntKind.i64.wrap ((n : Int) + (r : Int)) = (n : Int) + (r : Int) := by go_arith
  have HE : Hid (∀ w' : World, Below w.heap.size w w' → Calls Try.prog 17 #[.slice (if r = 0 then some ⟨g, 0, none⟩ else some ⟨g, n, none⟩) r r, .slice (if r = 0 then some ⟨g', 0, none⟩ else some ⟨g', n, none⟩) r r] w' fun e w'' => e = .returned (.bool true) ∧ Below w'.heap.size w' w'') := by
    intro w' hB
    by_cases h0 : r = 0
    · rw [if_pos h0, if_pos h0]
      exact eqInt64SS_spare g g' 0 r r r w' (fun k hk => by omega) (fun k hk => by omega) (by omega)
    · rw [if_neg h0, if_neg h0]
      exact eqInt64SS_spare g g' n r r r w' (HS.out.below hB) (HS'.out.below hB) (by omega)
  clear HS HS'
  have hs1 : (0 : Int) ≤ (n : Int) := by omega
  have hs2 : (n : Int) ≤ (n : Int) + (r : Int) := by omega
  have hs3 : ((n : Int) + (r : Int)).toNat = n + r := by omega
  have hs4 : n + r - n = r := by omega
  go_enter Try.func18, Try.ntmps18
  go_wp2_with (go_at_call 59; refine (hrb _).mono ?_; rintro e w' ⟨rfl, rfl⟩)
  go_loopw [6] (fun i wr => ∃ k : Nat, k ≤ n ∧ i = .int .i64 k ∧ Below w.heap.size w wr) (fun i _ => n - (intOf i).toNat)
  case atStart => exact ⟨0, Nat.zero_le _, rfl, Below.refl _ _⟩
  case round =>
    obtain ⟨k, hk, rfl, hC⟩ := hrel
    by_cases hlt : k < n
    · obtain ⟨row, hrow⟩ : ∃ row, Hid (rows[k]? = some row) := ⟨_, List.getElem?_eq_getElem (by have := HN.out; omega)⟩
      obtain ⟨u, u', hc1, hc2, hr1, hr2⟩ := HA.out k row hrow.out
      have q1 := keepC hC hc1
      have q2 := keepC hC hc2
      have HI : Hid (∀ w' : World, Below w.heap.size w w' → Calls Try.prog 66 #[u, u'] w' fun e w'' => e = .returned (.bool true) ∧ Below w'.heap.size w' w'') :=
        fun w' hB => intactInt64S_same u u' _ _ row w' (hr1.below hB) (hr2.below hB) (HM.out k row hrow.out)
      obtain ⟨ub, rfl, -⟩ := id hr1
      obtain ⟨ub', rfl, -⟩ := id hr2
      clear hr1 hr2 hc1 hc2
      have hz := hC.size
      go_wp2_with fail
      generalize (row.length + room row.length) = rc at *
      generalize row.length = rl at *
      go_region_held3 (fun w' => w'.cell? ⟨g, k, none⟩ = some (.slice (some ⟨ub, 0, none⟩) rl rc) ∧ w'.cell? ⟨g', k, none⟩ = some (.slice (some ⟨ub', 0, none⟩) rl rc) ∧ Below w.heap.size w w') ((go_split_ands; (repeat (any_goals (with_reducible apply And.intro))) <;> (first | (with_reducible assumption) | (with_reducible exact keepD (by with_reducible assumption)) | (with_reducible exact keepC (by with_reducible assumption) (by with_reducible assumption)) | (with_reducible exact Below.drew (by with_reducible assumption)) | (with_reducible exact keepB (by with_reducible assumption) (by with_reducible assumption) (Nat.le_refl _))))) ((go_at_call 66; refine (HI.out _ (by first | assumption | exact Below.drew (by assumption) | (go_split_ands; assumption))).mono ?_; rintro e w1 ⟨rfl, hb1⟩))
      all_goals (go_wp2_with fail; go_split_ands; go_roundw; rotate_left; (simp [intOf]; omega); exact ⟨k + 1, by omega, by go_num, by assumption⟩)
    · have hkn : k = n := by omega
      subst hkn
      by_cases h0 : r = 0
      · simp only [h0, if_true] at HE
        subst h0
        have hs5 : (k : Int) + ((0 : Nat) : Int) = (k : Int) := by omega
        go_wp2_with fail
        go_region_held3 (fun w' => Below w.heap.size w w') ((first | (with_reducible assumption) | (with_reducible exact Below.drew (by with_reducible assumption)) | (with_reducible exact keepB (by with_reducible assumption) (by with_reducible assumption) (Nat.le_refl _)))) ((go_at_call 17; refine (HE.out _ (by first | assumption | exact Below.drew (by assumption))).mono ?_; rintro e w1 ⟨rfl, hb1⟩))
        all_goals (go_wp2_with fail; go_returns; exact ⟨rfl, by assumption⟩)
      · simp only [h0, if_false] at HE
        go_wp2_with fail
        go_region_held3 (fun w' => Below w.heap.size w w') ((first | (with_reducible assumption) | (with_reducible exact Below.drew (by with_reducible assumption)) | (with_reducible exact keepB (by with_reducible assumption) (by with_reducible assumption) (Nat.le_refl _)))) ((go_at_call 17; refine (HE.out _ (by first | assumption | exact Below.drew (by assumption))).mono ?_; rintro e w1 ⟨rfl, hb1⟩))
        all_goals (go_wp2_with fail; go_returns; exact ⟨rfl, by assumption⟩)
end Go.Proofs.Ytjfabhkgmelmgaa
