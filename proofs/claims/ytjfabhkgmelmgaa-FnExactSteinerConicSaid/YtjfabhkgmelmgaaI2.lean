/- Slices of numbers copied: what the laws' helper makes of one; up to a million numbers. -/
import Derived.Test.YtjfabhkgmelmgaaI1
namespace Go.Proofs.Ytjfabhkgmelmgaa
open Go.RowKit
set_option linter.unusedSimpArgs false
set_option linter.unusedVariables false
set_option maxRecDepth 100000

theorem magic_eq : (-7000000000000000101 : Int) = magic := rfl
set_option maxHeartbeats 1000000 in
theorem toInt64S_copy (v : Value) (zs : List Int) (bare : Bool) (w : World) (h : SlI w v zs) (hm : zs.length ≤ 1000000) (hb : bare = true → zs ≠ []) :
    Calls Try.prog 60 #[v, .bool bare] w fun e w' => ∃ v', e = .returned v' ∧ CopyI w' w.heap.size v' zs ∧ Below w.heap.size w w' := by
  obtain ⟨a, cap, rfl, hcap, hr⟩ := h
  have HR := Lib.hid hr; clear hr
  have hz : bare = true → ¬ (zs.length : Int) = 0 := by
    intro h; have := hb h; intro e
    apply this
    apply List.length_eq_zero_iff.1
    omega
  have HL : Hid (zs.length = zs.length) := rfl
  have HC : Hid (∀ (w' : World) (v' : Value) (g : Nat) (cs : List Int) (n : Nat), n = zs.length → OwnI w' w.heap.size (.slice (some ⟨g, 0, none⟩) (n + room n) (n + room n)) cs → (∀ j, j < n → cs[j]? = zs[j]?) → (∀ j, n ≤ j → j < n + room n → cs[j]? = some magic) → CopyI w' w.heap.size (.slice (some ⟨g, 0, none⟩) n (n + room n)) zs) := by
    intro w' v' g cs n hn hown h1 h2
    obtain ⟨e1, e2, e3, e4, e5⟩ := hown.at_
    subst hn
    refine ⟨g, rfl, e1, e2, ?_, e4⟩
    intro i x hi
    apply e3
    rw [← hi]
    by_cases hlt : i < zs.length
    · rw [h1 i hlt, List.getElem?_append_left hlt]
    · have hil := (List.getElem?_eq_some_iff.1 hi).1
      simp at hil
      rw [h2 i (by omega) hil, List.getElem?_append_right (by omega), List.getElem?_replicate, if_pos (by omega)]
  generalize hn : zs.length = n at *
  have HN := Lib.hid hn
  clear hn HL hb
  have hrl := room_le n
  have hrb := fun w' => roomBehind_any n w' hm
  generalize hrr : room n = r at *
  have HRR := Lib.hid hrr; clear hrr
  have hw : IntKind.i64.wrap ((n : Int) + (r : Int)) = ((n + r : Nat) : Int) := by
    have : ((n + r : Nat) : Int) = (n : Int) + (r : Int) := by omega
    rw [this]; go_arith
  obtain ⟨i0, hi0, hz0, hs0, hb0⟩ := info_parts info_int
  obtain ⟨w2, hmk, hown, hgr⟩ := run_make_full (P := Try.prog) (w := w) w.heap.size 80 2 i0 (.int .i64 0) 1 Try.underlying80 hi0 hz0 hs0 .i64 .i64 (n + r) (by rw [hb0]; omega) (by unfold maxLen; omega) (Nat.le_refl _)
  have hB2 : Below w.heap.size w w2 := ⟨hgr.os, hgr.tape, hgr.output, hgr.size, fun k hk => hgr.block k hk (by simp)⟩
  have hcast : ((n + r : Nat) : Int) = (n : Int) + (r : Int) := by omega
  have hO2 : OwnI w2 w.heap.size (.slice (some ⟨w.heap.size, 0, none⟩) (n + r) (n + r)) (List.replicate (n + r) 0) := by
    unfold OwnI
    have e : (madeCells (Value.int .i64 0).cells ((n + r) * 1)).toList = (List.replicate (n + r) (0 : Int)).map (Value.int .i64) := by
      rw [Nat.mul_one, List.map_replicate]; exact toList_madeCells_one _ _
    rw [← e, List.length_replicate]
    exact hown
  rw [hcast] at hmk
  clear hown hgr hi0 hz0 hs0 hb0
  cases bare
  · go_enter Try.func60, Try.ntmps60
    go_wp2_with (go_at_call 59; refine (hrb _).mono ?_; rintro e w' ⟨rfl, rfl⟩)
    go_loopw [6] (fun i wr => ∃ (k : Nat) (cs : List Int), k ≤ n ∧ i = .int .i64 k ∧ OwnI wr w.heap.size (.slice (some ⟨w.heap.size, 0, none⟩) (n + r) (n + r)) cs ∧ Hid (∀ j, j < k → cs[j]? = zs[j]?) ∧ Below w.heap.size w wr) (fun i _ => n - (intOf i).toNat)
    case atStart => exact ⟨0, _, Nat.zero_le _, rfl, hO2, Lib.hid (fun j hj => by omega), hB2⟩
    case round =>
      obtain ⟨k, cs, hk, rfl, hown, hcs, hC⟩ := hrel
      obtain ⟨h1, h2, h3, h4, h5⟩ := hown.at_
      by_cases hlt : k < n
      · have hkn : k < zs.length := by rw [HN.out]; exact hlt
        rcases HR.out with he | ⟨b, off, rfl, hbl, hrd⟩
        · exfalso; rw [he] at hkn; simp at hkn
        have hld := keepC hC (hrd k _ (List.getElem?_eq_getElem hkn))
        have hst := h3 k _ (List.getElem?_eq_getElem (by omega : k < cs.length))
        simp only [Nat.zero_add] at hst
        have hfz := h4 k
        have hset := hown.set (i := k) (zs[k]'hkn) (by omega)
        have hnx : Hid (∀ j, j < k + 1 → (cs.set k (zs[k]'hkn))[j]? = zs[j]?) := by
          intro j hj
          rw [List.getElem?_set]
          by_cases hjk : k = j
          · subst hjk
            rw [if_pos rfl, if_pos (by omega), List.getElem?_eq_getElem hkn]
          · rw [if_neg hjk]; exact hcs.out j (by omega)
        generalize zs[k]'hkn = z at *
        have hB := Below.setCell (p := ⟨w.heap.size, k, none⟩) hC (by simp only []; omega) (.int .i64 z)
        generalize hcs2 : cs.set k z = cs2 at *
        clear hcs2 h3 h4 hcs
        go_wp2
        go_roundw
        case rel => exact ⟨k + 1, cs2, by omega, by go_num, hset, hnx, hB⟩
        case measure => simp [intOf]; omega
      · have hkn : k = n := by omega
        subst hkn
        clear h3 h4 hlt
        go_wp2
        go_loopw [7] (fun i wq => ∃ (j : Nat) (ds : List Int), k ≤ j ∧ j ≤ k + r ∧ i = .int .i64 j ∧ OwnI wq w.heap.size (.slice (some ⟨w.heap.size, 0, none⟩) (k + r) (k + r)) ds ∧ Hid (∀ q, q < k → ds[q]? = zs[q]?) ∧ Hid (∀ q, k ≤ q → q < j → ds[q]? = some magic) ∧ Below w.heap.size w wq) (fun i _ => k + r - (intOf i).toNat)
        case atStart => exact ⟨k, cs, Nat.le_refl _, by omega, rfl, hown, hcs, Lib.hid (fun q h1 h2 => by omega), hC⟩
        case round =>
          obtain ⟨j, ds, hj0, hj, rfl, hod, hd1, hd2, hD⟩ := hrel
          obtain ⟨g1, g2, g3, g4, g5⟩ := hod.at_
          by_cases hjt : j < k + r
          · have hst := g3 j _ (List.getElem?_eq_getElem (by omega : j < ds.length))
            simp only [Nat.zero_add] at hst
            have hfz := g4 j
            have hset := hod.set (i := j) magic (by omega)
            have hn1 : Hid (∀ q, q < k → (ds.set j magic)[q]? = zs[q]?) := by
              intro q hq
              rw [List.getElem?_set, if_neg (by omega)]
              exact hd1.out q hq
            have hn2 : Hid (∀ q, k ≤ q → q < j + 1 → (ds.set j magic)[q]? = some magic) := by
              intro q hq0 hq
              rw [List.getElem?_set]
              by_cases hjq : j = q
              · subst hjq; rw [if_pos rfl, if_pos (by omega)]
              · rw [if_neg hjq]; exact hd2.out q hq0 (by omega)
            have hB := Below.setCell (p := ⟨w.heap.size, j, none⟩) hD (by simp only []; omega) (.int .i64 magic)
            generalize hds2 : ds.set j magic = ds2 at *
            clear hds2 g3 g4 hd1 hd2
            go_wp2
            go_roundw
            case rel => exact ⟨j + 1, ds2, by omega, by omega, by go_num, hset, hn1, hn2, hB⟩
            case measure => simp [intOf]; omega
          · have hjk : j = k + r := by omega
            subst hjk
            have hfin : CopyI wr w.heap.size (.slice (some ⟨w.heap.size, 0, none⟩) k (k + r)) zs := by
              have := HC.out wr (.slice none 0 0) w.heap.size ds k rfl (by rw [HRR.out]; exact hod) hd1.out (by rw [HRR.out]; exact hd2.out)
              rw [HRR.out] at this
              exact this
            clear g3 g4
            go_wp2
            go_ret
            exact ⟨_, rfl, hfin, hD⟩
  · have hz := hz rfl
    have hz' : ((n : Int) == 0) = false := by simpa using hz
    go_enter Try.func60, Try.ntmps60
    go_wp2_with (go_at_call 59; refine (hrb _).mono ?_; rintro e w' ⟨rfl, rfl⟩)
    go_loopw [6] (fun i wr => ∃ (k : Nat) (cs : List Int), k ≤ n ∧ i = .int .i64 k ∧ OwnI wr w.heap.size (.slice (some ⟨w.heap.size, 0, none⟩) (n + r) (n + r)) cs ∧ Hid (∀ j, j < k → cs[j]? = zs[j]?) ∧ Below w.heap.size w wr) (fun i _ => n - (intOf i).toNat)
    case atStart => exact ⟨0, _, Nat.zero_le _, rfl, hO2, Lib.hid (fun j hj => by omega), hB2⟩
    case round =>
      obtain ⟨k, cs, hk, rfl, hown, hcs, hC⟩ := hrel
      obtain ⟨h1, h2, h3, h4, h5⟩ := hown.at_
      by_cases hlt : k < n
      · have hkn : k < zs.length := by rw [HN.out]; exact hlt
        rcases HR.out with he | ⟨b, off, rfl, hbl, hrd⟩
        · exfalso; rw [he] at hkn; simp at hkn
        have hld := keepC hC (hrd k _ (List.getElem?_eq_getElem hkn))
        have hst := h3 k _ (List.getElem?_eq_getElem (by omega : k < cs.length))
        simp only [Nat.zero_add] at hst
        have hfz := h4 k
        have hset := hown.set (i := k) (zs[k]'hkn) (by omega)
        have hnx : Hid (∀ j, j < k + 1 → (cs.set k (zs[k]'hkn))[j]? = zs[j]?) := by
          intro j hj
          rw [List.getElem?_set]
          by_cases hjk : k = j
          · subst hjk
            rw [if_pos rfl, if_pos (by omega), List.getElem?_eq_getElem hkn]
          · rw [if_neg hjk]; exact hcs.out j (by omega)
        generalize zs[k]'hkn = z at *
        have hB := Below.setCell (p := ⟨w.heap.size, k, none⟩) hC (by simp only []; omega) (.int .i64 z)
        generalize hcs2 : cs.set k z = cs2 at *
        clear hcs2 h3 h4 hcs
        go_wp2
        go_roundw
        case rel => exact ⟨k + 1, cs2, by omega, by go_num, hset, hnx, hB⟩
        case measure => simp [intOf]; omega
      · have hkn : k = n := by omega
        subst hkn
        clear h3 h4 hlt
        go_wp2
        go_loopw [7] (fun i wq => ∃ (j : Nat) (ds : List Int), k ≤ j ∧ j ≤ k + r ∧ i = .int .i64 j ∧ OwnI wq w.heap.size (.slice (some ⟨w.heap.size, 0, none⟩) (k + r) (k + r)) ds ∧ Hid (∀ q, q < k → ds[q]? = zs[q]?) ∧ Hid (∀ q, k ≤ q → q < j → ds[q]? = some magic) ∧ Below w.heap.size w wq) (fun i _ => k + r - (intOf i).toNat)
        case atStart => exact ⟨k, cs, Nat.le_refl _, by omega, rfl, hown, hcs, Lib.hid (fun q h1 h2 => by omega), hC⟩
        case round =>
          obtain ⟨j, ds, hj0, hj, rfl, hod, hd1, hd2, hD⟩ := hrel
          obtain ⟨g1, g2, g3, g4, g5⟩ := hod.at_
          by_cases hjt : j < k + r
          · have hst := g3 j _ (List.getElem?_eq_getElem (by omega : j < ds.length))
            simp only [Nat.zero_add] at hst
            have hfz := g4 j
            have hset := hod.set (i := j) magic (by omega)
            have hn1 : Hid (∀ q, q < k → (ds.set j magic)[q]? = zs[q]?) := by
              intro q hq
              rw [List.getElem?_set, if_neg (by omega)]
              exact hd1.out q hq
            have hn2 : Hid (∀ q, k ≤ q → q < j + 1 → (ds.set j magic)[q]? = some magic) := by
              intro q hq0 hq
              rw [List.getElem?_set]
              by_cases hjq : j = q
              · subst hjq; rw [if_pos rfl, if_pos (by omega)]
              · rw [if_neg hjq]; exact hd2.out q hq0 (by omega)
            have hB := Below.setCell (p := ⟨w.heap.size, j, none⟩) hD (by simp only []; omega) (.int .i64 magic)
            generalize hds2 : ds.set j magic = ds2 at *
            clear hds2 g3 g4 hd1 hd2
            go_wp2
            go_roundw
            case rel => exact ⟨j + 1, ds2, by omega, by omega, by go_num, hset, hn1, hn2, hB⟩
            case measure => simp [intOf]; omega
          · have hjk : j = k + r := by omega
            subst hjk
            have hfin : CopyI wr w.heap.size (.slice (some ⟨w.heap.size, 0, none⟩) k (k + r)) zs := by
              have := HC.out wr (.slice none 0 0) w.heap.size ds k rfl (by rw [HRR.out]; exact hod) hd1.out (by rw [HRR.out]; exact hd2.out)
              rw [HRR.out] at this
              exact this
            clear g3 g4
            go_wp2
            go_ret
            exact ⟨_, rfl, hfin, hD⟩
end Go.Proofs.Ytjfabhkgmelmgaa
