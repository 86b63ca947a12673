/- The points on a line and the lines through a point, in the program and in the reference. -/
import Derived.Test.YtjfabhkgmelmgaaW15

import Derived.StillTailTactics
namespace Go.Proofs.Ytjfabhkgmelmgaa
open Go.RowKit
set_option linter.unusedSimpArgs false
set_option linter.unusedVariables false
set_option maxRecDepth 100000

def PtsPost2 (E : Nat) (R : List P3 × Int) (w : World) (e : Ending) (w' : World) : Prop :=
  ∃ v, e = .returned (.tuple #[v, .int .i64 R.2]) ∧ OwnA E 3 w' w.heap.size v (rowsP R.1) ∧ Below w.heap.size w w'
theorem onR_len (p : Int) (l : P3) : Hid ((rowsP (onR p l).1).length ≤ 1000000) := by
  show _ ≤ _
  rw [rowsP_len]
  unfold onR
  cases hp : isP p
  · simp [codeOf, hp]
  · have := onP_len hp l
    split <;> simp; omega

set_option maxHeartbeats 1000000 in
theorem l01PointsOn_any (p l0 l1 l2 : Int) (w : World) (hp : isP p = true) (sl0 : sm l0) (sl1 : sm l1) (sl2 : sm l2) :
    Calls Try.prog 112 #[.int .i64 p, .agg #[.int .i64 l0, .int .i64 l1, .int .i64 l2]] w (PtsPost 58 (onP p ⟨l0, l1, l2⟩) w) := by
  have k1 := isP_lo hp
  have k2 := isP_hi hp
  have hlen := Lib.hid (allP_len hp)
  have hsm := Lib.hid (fun a (ha : a ∈ allP p) => allP_sm hp ha)
  have HP := Lib.hid hp; clear hp
  go_enter Try.func112, Try.ntmps112
  go_wp2_with (fail)
  refine (l01Points_any p _ HP.out).mono ?_
  rintro e w1 ⟨v, rfl, hown, hb1⟩
  obtain ⟨hc1, hf1⟩ := bcell hb1; have hz1 := hb1.size; (try simp only [World.size_alloc, World.size_setCell, World.size_drew] at hz1); (try (have hy1w0 : w.heap.size < w1.heap.size := by omega)); (try (have hy1w1 : w.heap.size + 1 < w1.heap.size := by omega)); (try (have hy1w2 : w.heap.size + 1 + 1 < w1.heap.size := by omega)); (try (have hy1w3 : w.heap.size + 1 + 1 + 1 < w1.heap.size := by omega)); (try (have hy1w4 : w.heap.size + 1 + 1 + 1 + 1 < w1.heap.size := by omega))
  
  have b0 : w1.cell? ⟨w.heap.size, 0, none⟩ = some (.int .i64 l0) := keepC hb1 (by go_cell)
  have b1 : w1.cell? ⟨w.heap.size, 1, none⟩ = some (.int .i64 l1) := keepC hb1 (by go_cell)
  have b2 : w1.cell? ⟨w.heap.size, 2, none⟩ = some (.int .i64 l2) := keepC hb1 (by go_cell)
  obtain ⟨g, cap, rfl, hbg, hg, hR, hfz, hcap⟩ := hown.shape (by intro h; have := congrArg List.length h; rw [rowsP_len] at this; exact allP_ne p (List.length_eq_zero_iff.1 this))
  simp only [World.size_alloc] at hbg
  have hB1 : Below w.heap.size w w1 := by (repeat' (first | (with_reducible exact Below.refl _ _) | (with_reducible assumption) | (with_reducible refine Below.alloc ?_ ?_ _) | (with_reducible refine Below.drew ?_) | (with_reducible refine below_drewN ?_ _) | (with_reducible refine Below.setCell ?_ ?_ _) | (refine Below.step ?_ (by with_reducible assumption) ?_) | go_size))
  clear hfz hcap hown
  simp only [rowsP_len]
  have hon : Hid (onP p ⟨l0, l1, l2⟩ = (allP p).filter (onB p ⟨l0, l1, l2⟩)) := rfl
  generalize hps : allP p = ps at *
  clear hps HP
  generalize hn : ps.length = n at *
  have HN := Lib.hid hn; clear hn
  have hn1 : n ≤ 1000000 := by have := HN.out; have := hlen.out; omega
  go_wp2
  go_loopw [6, 7] (fun v i wr => ∃ k : Nat, k ≤ n ∧ i = .int .i64 k ∧ OwnA 58 3 wr w1.heap.size v (rowsP ((ps.take k).filter (onB p ⟨l0, l1, l2⟩))) ∧ Below w1.heap.size w1 wr) (fun _ i _ => n - (intOf i).toNat)
  case atStart => exact ⟨0, Nat.zero_le _, rfl, OwnA.made 58 w1 #[] 0 _ (Nat.le_refl _) (by unfold maxLen; omega) rfl, by (repeat' (first | (with_reducible exact Below.refl _ _) | (with_reducible assumption) | (with_reducible refine Below.alloc ?_ ?_ _) | (with_reducible refine Below.drew ?_) | (with_reducible refine below_drewN ?_ _) | (with_reducible refine Below.setCell ?_ ?_ _) | (refine Below.step ?_ (by with_reducible assumption) ?_) | go_size))⟩
  case round =>
    obtain ⟨k, hk, rfl, hown, hC⟩ := hrel
    have hCz := hC.size
    by_cases hlt : k < n
    · have hkp : Hid (k < ps.length) := by show _ < _; rw [HN.out]; exact hlt
      obtain ⟨p0, p1, p2⟩ := (hR.rdp.below hC hg).at_ hkp.out
      have hfs := Lib.hid (filter_snoc (f := onB p ⟨l0, l1, l2⟩) (List.getElem?_eq_getElem hkp.out))
      obtain ⟨s0, s1, s2⟩ := hsm.out (ps[k]'(hkp.out)) (List.getElem_mem _)
      have hlk : Hid ((rowsP ((ps.take k).filter (onB p ⟨l0, l1, l2⟩))).length ≤ 10000000) := by
        show _ ≤ _
        have h1 := List.length_filter_le (onB p ⟨l0, l1, l2⟩) (ps.take k)
        have h2 := hlen.out
        rw [rowsP_len]
        rw [List.length_take] at h1
        omega
      have c0 : wr.cell? ⟨w.heap.size, 0, none⟩ = some (.int .i64 l0) := keepC hC b0
      have c1 : wr.cell? ⟨w.heap.size, 1, none⟩ = some (.int .i64 l1) := keepC hC b1
      have c2 : wr.cell? ⟨w.heap.size, 2, none⟩ = some (.int .i64 l2) := keepC hC b2
      generalize ps[k]'(hkp.out) = a at *
      simp only [Nat.zero_add] at p0 p1 p2
      have hB : Below w.heap.size w wr := hB1.trans (hC.mono hB1.size)
      cases hd : onB p ⟨l0, l1, l2⟩ a
      · have hn' : Hid ((ps.take (k + 1)).filter (onB p ⟨l0, l1, l2⟩) = (ps.take k).filter (onB p ⟨l0, l1, l2⟩)) := by show _ = _; rw [hfs.out, hd]; simp
        have hd' : Hid ((dot3 p a.x a.y a.z l0 l1 l2 == 0) = false) := hd
        clear hd hfs b0 b1 b2
        go_wp2
        go_still_tail 6, (by kernel_rfl)
        change wpList _ _ _ _ _ wr.drew
        generalize hwd : wr.drew = wd
        have HC : Below w1.heap.size w1 wd := hwd ▸ hC.drew
        have HO : OwnA 58 3 wd w1.heap.size u6 (rowsP ((ps.take k).filter (onB p ⟨l0, l1, l2⟩))) := hwd ▸ hown
        clear hwd
        have HCz := HC.size
        go_wp2_with ((go_at_call 107; refine (l01On_any _ _ _ _ _ _ _ _ k1 k2 s0 s1 s2 sl0 sl1 sl2).mono ?_; rintro e w2 ⟨rfl, hb2⟩; obtain ⟨hc2, hf2⟩ := bcell hb2; have hz2 := hb2.size; (try simp only [World.size_alloc, World.size_setCell, World.size_drew] at hz2); (try (have hy2w0 : w.heap.size < w2.heap.size := by omega)); (try (have hy2w1 : w.heap.size + 1 < w2.heap.size := by omega)); (try (have hy2w2 : w.heap.size + 1 + 1 < w2.heap.size := by omega)); (try (have hy2w3 : w.heap.size + 1 + 1 + 1 < w2.heap.size := by omega)); (try (have hy2w4 : w.heap.size + 1 + 1 + 1 + 1 < w2.heap.size := by omega)); (try (have hy2w10 : w1.heap.size < w2.heap.size := by omega)); (try (have hy2w11 : w1.heap.size + 1 < w2.heap.size := by omega)); (try (have hy2w12 : w1.heap.size + 1 + 1 < w2.heap.size := by omega)); (try (have hy2w13 : w1.heap.size + 1 + 1 + 1 < w2.heap.size := by omega)); (try (have hy2w14 : w1.heap.size + 1 + 1 + 1 + 1 < w2.heap.size := by omega))); rw [hd'.out])
        go_roundw
        case rel => exact ⟨k + 1, by omega, by go_num, by rw [hn'.out]; exact HO.below hb2, by (repeat' (first | (with_reducible exact Below.refl _ _) | (with_reducible assumption) | (with_reducible refine Below.alloc ?_ ?_ _) | (with_reducible refine Below.drew ?_) | (with_reducible refine below_drewN ?_ _) | (with_reducible refine Below.setCell ?_ ?_ _) | (refine Below.step ?_ (by with_reducible assumption) ?_) | go_size))⟩
        case measure => simp [intOf]; omega
      · have hn' : Hid ((ps.take (k + 1)).filter (onB p ⟨l0, l1, l2⟩) = (ps.take k).filter (onB p ⟨l0, l1, l2⟩) ++ [⟨a.x, a.y, a.z⟩]) := by show _ = _; rw [hfs.out, hd]; rfl
        have hd' : Hid ((dot3 p a.x a.y a.z l0 l1 l2 == 0) = true) := hd
        clear hd hfs b0 b1 b2
        go_wp2
        go_still_tail 6, (by kernel_rfl)
        change wpList _ _ _ _ _ wr.drew
        generalize hwd : wr.drew = wd
        have HC : Below w1.heap.size w1 wd := hwd ▸ hC.drew
        have HO : OwnA 58 3 wd w1.heap.size u6 (rowsP ((ps.take k).filter (onB p ⟨l0, l1, l2⟩))) := hwd ▸ hown
        have q0 : wd.cell? ⟨g, k * 3, none⟩ = some (.int .i64 a.x) := hwd ▸ p0
        have q1 : wd.cell? ⟨g, k * 3 + 1, none⟩ = some (.int .i64 a.y) := hwd ▸ p1
        have q2 : wd.cell? ⟨g, k * 3 + 2, none⟩ = some (.int .i64 a.z) := hwd ▸ p2
        clear hwd p0 p1 p2 c0 c1 c2 hC hCz hB hown
        have HCz := HC.size
        have hgd : g < wd.heap.size := by omega
        go_wp2_with (first | ((go_at_call 107; refine (l01On_any _ _ _ _ _ _ _ _ k1 k2 s0 s1 s2 sl0 sl1 sl2).mono ?_; rintro e w2 ⟨rfl, hb2⟩; obtain ⟨hc2, hf2⟩ := bcell hb2; have hz2 := hb2.size; (try simp only [World.size_alloc, World.size_setCell, World.size_drew] at hz2); (try (have hy2w0 : w.heap.size < w2.heap.size := by omega)); (try (have hy2w1 : w.heap.size + 1 < w2.heap.size := by omega)); (try (have hy2w2 : w.heap.size + 1 + 1 < w2.heap.size := by omega)); (try (have hy2w3 : w.heap.size + 1 + 1 + 1 < w2.heap.size := by omega)); (try (have hy2w4 : w.heap.size + 1 + 1 + 1 + 1 < w2.heap.size := by omega)); (try (have hy2w10 : w1.heap.size < w2.heap.size := by omega)); (try (have hy2w11 : w1.heap.size + 1 < w2.heap.size := by omega)); (try (have hy2w12 : w1.heap.size + 1 + 1 < w2.heap.size := by omega)); (try (have hy2w13 : w1.heap.size + 1 + 1 + 1 < w2.heap.size := by omega)); (try (have hy2w14 : w1.heap.size + 1 + 1 + 1 + 1 < w2.heap.size := by omega))); rw [hd'.out]; have HO2 := HO.below hb2; have r0 := keepC hb2 q0; have r1 := keepC hb2 q1; have r2 := keepC hb2 q2) | (at_builtin; refine append3 Try.underlying39 info_Point w1.heap.size _ _ HO2 rfl _ _ rfl rfl rfl hlk.out (by omega) ?_; intro v' w3 hown3 hB3 hz3))
        go_roundw
        case rel => exact ⟨k + 1, by omega, by go_num, by rw [rowsP_snoc, ← hn'.out] at hown3; exact hown3, hB3 _ _ (by (repeat' (first | (with_reducible exact Below.refl _ _) | (with_reducible assumption) | (with_reducible refine Below.alloc ?_ ?_ _) | (with_reducible refine Below.drew ?_) | (with_reducible refine below_drewN ?_ _) | (with_reducible refine Below.setCell ?_ ?_ _) | (refine Below.step ?_ (by with_reducible assumption) ?_) | go_size))) (Nat.le_refl _)⟩
        case measure => simp [intOf]; omega
    · have hkn : Hid (ps.take k = ps) := List.take_of_length_le (by rw [HN.out]; omega)
      rw [hkn.out, ← hon.out] at hown
      go_wp2
      go_ret
      exact ⟨_, rfl, hown.base_le hB1.size, hB1.trans (hC.mono hB1.size)⟩
end Go.Proofs.Ytjfabhkgmelmgaa
