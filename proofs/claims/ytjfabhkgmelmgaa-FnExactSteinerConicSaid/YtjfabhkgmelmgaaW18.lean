/- Sums of multiples of two points and cross ratios, in the program and in the reference; p is a prime. -/
import Derived.Test.YtjfabhkgmelmgaaW7
import Derived.Test.YtjfabhkgmelmgaaE1
import Derived.Test.YtjfabhkgmelmgaaP4
import Derived.Test.YtjfabhkgmelmgaaH
import Derived.StillTailTactics
namespace Go.Proofs.Ytjfabhkgmelmgaa
open Go.RowKit
set_option linter.unusedSimpArgs false
set_option linter.unusedVariables false
set_option maxRecDepth 100000


def combP (p : Int) (a b c : P3) (w : World) (e : Ending) (w' : World) : Prop := e = .returned (.tuple #[.int .i64 (cmb p a b c).1, .int .i64 (cmb p a b c).2]) ∧ Below w.heap.size w w'
set_option maxHeartbeats 2000000 in
theorem combined_any (p a0 a1 a2 b0 b1 b2 c0 c1 c2 : Int) (w : World) (hp : isP p = true) (sa0 : sm a0) (sa1 : sm a1) (sa2 : sm a2) (sb0 : sm b0) (sb1 : sm b1) (sb2 : sm b2) (sc0 : sm c0) (sc1 : sm c1) (sc2 : sm c2) :
    Calls Try.prog 118 #[.int .i64 p, .agg #[.int .i64 a0, .int .i64 a1, .int .i64 a2], .agg #[.int .i64 b0, .int .i64 b1, .int .i64 b2], .agg #[.int .i64 c0, .int .i64 c1, .int .i64 c2]] w (combP p ⟨a0, a1, a2⟩ ⟨b0, b1, b2⟩ ⟨c0, c1, c2⟩ w) := by
  have k1 := isP_lo hp
  have k2 := isP_hi hp
  have ⟨la0, ua0⟩ := sa0; have ⟨la1, ua1⟩ := sa1; have ⟨la2, ua2⟩ := sa2; have ⟨lb0, ub0⟩ := sb0; have ⟨lb1, ub1⟩ := sb1; have ⟨lb2, ub2⟩ := sb2; have ⟨lc0, uc0⟩ := sc0; have ⟨lc1, uc1⟩ := sc1; have ⟨lc2, uc2⟩ := sc2
  clear hp sa0 sa1 sa2 sb0 sb1 sb2 sc0 sc1 sc2
  obtain ⟨n, rfl⟩ := Int.eq_ofNat_of_zero_le (show 0 ≤ p by omega)
  have hE : Hid (cmb (n : Int) ⟨a0, a1, a2⟩ ⟨b0, b1, b2⟩ ⟨c0, c1, c2⟩ = (find2 n (sumB (n : Int) ⟨a0, a1, a2⟩ ⟨b0, b1, b2⟩ ⟨c0, c1, c2⟩)).getD (0, 0)) := rfl
  go_enter Try.func118, Try.ntmps118
  go_wp2
  go_loop [13] (fun i => ∃ k : Nat, k ≤ n ∧ i = .int .i64 k ∧ Hid (∀ s' t' : Nat, s' < k → t' < n → sumB (n : Int) ⟨a0, a1, a2⟩ ⟨b0, b1, b2⟩ ⟨c0, c1, c2⟩ s' t' = false)) (fun i => n - (intOf i).toNat)
  case atStart => exact ⟨0, Nat.zero_le _, rfl, Lib.hid (fun s' t' h => by omega)⟩
  case round =>
    obtain ⟨k, hk, rfl, hN⟩ := hrel
    by_cases hlt : k < n
    · go_wp2
      go_loop [17] (fun i => ∃ j : Nat, j ≤ n ∧ i = .int .i64 j ∧ Hid (∀ t' : Nat, t' < j → sumB (n : Int) ⟨a0, a1, a2⟩ ⟨b0, b1, b2⟩ ⟨c0, c1, c2⟩ k t' = false)) (fun i => n - (intOf i).toNat)
      case atStart => exact ⟨0, Nat.zero_le _, rfl, Lib.hid (fun t' h => by omega)⟩
      case round =>
        obtain ⟨j, hj, rfl, hM⟩ := hrel
        by_cases hlj : j < n
        · have kk : 0 ≤ (k : Int) := by omega
          have jj : 0 ≤ (j : Int) := by omega
          have ⟨g0, h0⟩ := mul_bd (a := (k : Int)) (b := a0) (A := 12) (B := 12) kk (by omega) (by omega) (by omega); have ⟨g1, h1⟩ := mul_bd (a := (k : Int)) (b := a1) (A := 12) (B := 12) kk (by omega) (by omega) (by omega); have ⟨g2, h2⟩ := mul_bd (a := (k : Int)) (b := a2) (A := 12) (B := 12) kk (by omega) (by omega) (by omega)
          have ⟨f0, d0⟩ := mul_bd (a := (j : Int)) (b := b0) (A := 12) (B := 12) jj (by omega) (by omega) (by omega); have ⟨f1, d1⟩ := mul_bd (a := (j : Int)) (b := b1) (A := 12) (B := 12) jj (by omega) (by omega) (by omega); have ⟨f2, d2⟩ := mul_bd (a := (j : Int)) (b := b2) (A := 12) (B := 12) jj (by omega) (by omega) (by omega)
          have hS : Hid (sumB (n : Int) ⟨a0, a1, a2⟩ ⟨b0, b1, b2⟩ ⟨c0, c1, c2⟩ k j = (((k : Int) * a0 + (j : Int) * b0 - c0) % n == 0 && (((k : Int) * a1 + (j : Int) * b1 - c1) % n == 0 && ((k : Int) * a2 + (j : Int) * b2 - c2) % n == 0))) := rfl
          cases e0 : (((k : Int) * a0 + (j : Int) * b0 - c0) % (n : Int) == 0)
          ·
            have hn : Hid (sumB (n : Int) ⟨a0, a1, a2⟩ ⟨b0, b1, b2⟩ ⟨c0, c1, c2⟩ k j = false) := by show _ = _; rw [hS.out, e0]; rfl
            clear hS
            go_wp2_with (go_at_call 73; refine (mod_any _ _ _ k1 k2).mono ?_; rintro e w' ⟨rfl, rfl⟩)
            go_round
            case rel => exact ⟨j + 1, by omega, by go_num, Lib.hid (fun t' h => by
              rcases Nat.lt_or_ge t' j with h' | h'
              · exact hM.out t' h'
              · obtain rfl : t' = j := by omega
                exact hn.out)⟩
            case measure => simp [intOf]; omega
          · cases e1 : (((k : Int) * a1 + (j : Int) * b1 - c1) % (n : Int) == 0)
            ·
              have hn : Hid (sumB (n : Int) ⟨a0, a1, a2⟩ ⟨b0, b1, b2⟩ ⟨c0, c1, c2⟩ k j = false) := by show _ = _; rw [hS.out, e0, e1]; simp
              clear hS
              go_wp2_with (go_at_call 73; refine (mod_any _ _ _ k1 k2).mono ?_; rintro e w' ⟨rfl, rfl⟩)
              go_round
              case rel => exact ⟨j + 1, by omega, by go_num, Lib.hid (fun t' h => by
                rcases Nat.lt_or_ge t' j with h' | h'
                · exact hM.out t' h'
                · obtain rfl : t' = j := by omega
                  exact hn.out)⟩
              case measure => simp [intOf]; omega
            · cases e2 : (((k : Int) * a2 + (j : Int) * b2 - c2) % (n : Int) == 0)
              ·
                have hn : Hid (sumB (n : Int) ⟨a0, a1, a2⟩ ⟨b0, b1, b2⟩ ⟨c0, c1, c2⟩ k j = false) := by show _ = _; rw [hS.out, e0, e1, e2]; simp
                clear hS
                go_wp2_with (go_at_call 73; refine (mod_any _ _ _ k1 k2).mono ?_; rintro e w' ⟨rfl, rfl⟩)
                go_round
                case rel => exact ⟨j + 1, by omega, by go_num, Lib.hid (fun t' h => by
                  rcases Nat.lt_or_ge t' j with h' | h'
                  · exact hM.out t' h'
                  · obtain rfl : t' = j := by omega
                    exact hn.out)⟩
                case measure => simp [intOf]; omega
              · have hy : Hid (sumB (n : Int) ⟨a0, a1, a2⟩ ⟨b0, b1, b2⟩ ⟨c0, c1, c2⟩ k j = true) := by show _ = _; rw [hS.out, e0, e1, e2]; rfl
                have hF : Hid (cmb (n : Int) ⟨a0, a1, a2⟩ ⟨b0, b1, b2⟩ ⟨c0, c1, c2⟩ = ((k : Int), (j : Int))) := by
                  show _ = _
                  rw [hE.out, find2_some hlt hlj hy.out hN.out hM.out]; rfl
                clear hS
                go_wp2_with (go_at_call 73; refine (mod_any _ _ _ k1 k2).mono ?_; rintro e w' ⟨rfl, rfl⟩)
                go_ret2
                exact ⟨by rw [hF.out]; try rfl, by (repeat' (first | (with_reducible exact Below.refl _ _) | (with_reducible assumption) | (with_reducible refine Below.alloc ?_ ?_ _) | (with_reducible refine Below.drew ?_) | (with_reducible refine below_drewN ?_ _) | (with_reducible refine Below.setCell ?_ ?_ _) | (refine Below.step ?_ (by with_reducible assumption) ?_) | go_size))⟩
        · obtain rfl : n = j := by omega
          go_wp2
          go_round
          case rel => exact ⟨k + 1, by omega, by go_num, Lib.hid (fun s' t' h h2 => by
            rcases Nat.lt_or_ge s' k with h' | h'
            · exact hN.out s' t' h' h2
            · obtain rfl : s' = k := by omega
              exact hM.out t' h2)⟩
          case measure => simp [intOf]; omega
    · obtain rfl : n = k := by omega
      have hF : Hid (cmb (n : Int) ⟨a0, a1, a2⟩ ⟨b0, b1, b2⟩ ⟨c0, c1, c2⟩ = (0, 0)) := by
        show _ = _
        rw [hE.out, find2_none hN.out]; rfl
      go_wp2
      go_ret2
      exact ⟨by rw [hF.out]; try rfl, by (repeat' (first | (with_reducible exact Below.refl _ _) | (with_reducible assumption) | (with_reducible refine Below.alloc ?_ ?_ _) | (with_reducible refine Below.drew ?_) | (with_reducible refine below_drewN ?_ _) | (with_reducible refine Below.setCell ?_ ?_ _) | (refine Below.step ?_ (by with_reducible assumption) ?_) | go_size))⟩

set_option maxHeartbeats 2000000 in
theorem l01Sum_any (p a0 a1 a2 b0 b1 b2 s t : Int) (w : World) (k1 : 3 ≤ p) (k2 : p ≤ 13) (sa0 : sm a0) (sa1 : sm a1) (sa2 : sm a2) (sb0 : sm b0) (sb1 : sm b1) (sb2 : sm b2) (ss : sm s) (st : sm t) :
    Calls Try.prog 147 #[.int .i64 p, .agg #[.int .i64 a0, .int .i64 a1, .int .i64 a2], .agg #[.int .i64 b0, .int .i64 b1, .int .i64 b2], .int .i64 s, .int .i64 t] w fun e w' => e = .returned (.agg #[.int .i64 ((s * a0 + t * b0) % p), .int .i64 ((s * a1 + t * b1) % p), .int .i64 ((s * a2 + t * b2) % p)]) ∧ Below w.heap.size w w' := by
  have ⟨la0, ua0⟩ := sa0; have ⟨la1, ua1⟩ := sa1; have ⟨la2, ua2⟩ := sa2; have ⟨lb0, ub0⟩ := sb0; have ⟨lb1, ub1⟩ := sb1; have ⟨lb2, ub2⟩ := sb2; have ⟨ls, us⟩ := ss; have ⟨lt, ut⟩ := st
  have ⟨g0, h0⟩ := mul_bd (a := s) (b := a0) (A := 12) (B := 12) (by omega) (by omega) (by omega) (by omega); have ⟨g1, h1⟩ := mul_bd (a := s) (b := a1) (A := 12) (B := 12) (by omega) (by omega) (by omega) (by omega); have ⟨g2, h2⟩ := mul_bd (a := s) (b := a2) (A := 12) (B := 12) (by omega) (by omega) (by omega) (by omega)
  have ⟨f0, d0⟩ := mul_bd (a := t) (b := b0) (A := 12) (B := 12) (by omega) (by omega) (by omega) (by omega); have ⟨f1, d1⟩ := mul_bd (a := t) (b := b1) (A := 12) (B := 12) (by omega) (by omega) (by omega) (by omega); have ⟨f2, d2⟩ := mul_bd (a := t) (b := b2) (A := 12) (B := 12) (by omega) (by omega) (by omega) (by omega)
  go_enter Try.func147, Try.ntmps147
  go_wp2
  refine wp_loop_rounds 4 ?_
  rw [rounds_succ]
  go_wp2
  refine wp_name (fun wq => wq.cell? ⟨w.heap.size, 0, none⟩ = some (.int .i64 a0) ∧ wq.cell? ⟨w.heap.size, 1, none⟩ = some (.int .i64 a1) ∧ wq.cell? ⟨w.heap.size, 2, none⟩ = some (.int .i64 a2) ∧ wq.cell? ⟨w.heap.size + 1, 0, none⟩ = some (.int .i64 b0) ∧ wq.cell? ⟨w.heap.size + 1, 1, none⟩ = some (.int .i64 b1) ∧ wq.cell? ⟨w.heap.size + 1, 2, none⟩ = some (.int .i64 b2) ∧ wq.cell? ⟨w.heap.size + 1 + 1 + 1, 0, none⟩ = some (.int .i64 (0)) ∧ wq.cell? ⟨w.heap.size + 1 + 1 + 1, 1, none⟩ = some (.int .i64 (0)) ∧ wq.cell? ⟨w.heap.size + 1 + 1 + 1, 2, none⟩ = some (.int .i64 (0)) ∧ wq.cell? ⟨w.heap.size + 1 + 1, 0, none⟩ = some (.int .i64 0) ∧ wq.cell? ⟨w.heap.size + 1 + 1, 1, none⟩ = some (.int .i64 0) ∧ wq.cell? ⟨w.heap.size + 1 + 1, 2, none⟩ = some (.int .i64 0) ∧ wq.frozen? ⟨w.heap.size + 1 + 1 + 1, 0, none⟩ = false ∧ wq.frozen? ⟨w.heap.size + 1 + 1 + 1, 1, none⟩ = false ∧ wq.frozen? ⟨w.heap.size + 1 + 1 + 1, 2, none⟩ = false ∧ wq.frozen? ⟨w.heap.size + 1 + 1, 0, none⟩ = false ∧ wq.frozen? ⟨w.heap.size + 1 + 1, 1, none⟩ = false ∧ wq.frozen? ⟨w.heap.size + 1 + 1, 2, none⟩ = false ∧ w.heap.size + 1 + 1 + 1 + 1 ≤ wq.heap.size ∧ Below w.heap.size w wq) ⟨by go_cell, by go_cell, by go_cell, by go_cell, by go_cell, by go_cell, by go_cell, by go_cell, by go_cell, by go_cell, by go_cell, by go_cell, by go_cell, by go_cell, by go_cell, by go_cell, by go_cell, by go_cell, by go_size, by (repeat' (first | (with_reducible exact Below.refl _ _) | (with_reducible assumption) | (with_reducible refine Below.alloc ?_ ?_ _) | (with_reducible refine Below.drew ?_) | (with_reducible refine below_drewN ?_ _) | (with_reducible refine Below.setCell ?_ ?_ _) | (refine Below.step ?_ (by with_reducible assumption) ?_) | go_size))⟩ ?_; rintro wq0 ⟨xa0, xa1, xa2, xb0, xb1, xb2, xo0, xo1, xo2, xr0, xr1, xr2, fo0, fo1, fo2, fr0, fr1, fr2, hzwq0, hBwq0⟩
  go_still_tail 14, (by kernel_rfl)
  repeat (first | still_call ((l01Mod_any _ _ _ k1 k2).mono (fun _ _ h => ⟨h.1, h.2.symm⟩)) | still_step)
  try refine wpStill_nil ?_
  change wpList _ _ _ _ _ wq0.drew
  go_wp2
  rw [rounds_succ]
  go_wp2
  refine wp_name (fun wq => wq.cell? ⟨w.heap.size, 0, none⟩ = some (.int .i64 a0) ∧ wq.cell? ⟨w.heap.size, 1, none⟩ = some (.int .i64 a1) ∧ wq.cell? ⟨w.heap.size, 2, none⟩ = some (.int .i64 a2) ∧ wq.cell? ⟨w.heap.size + 1, 0, none⟩ = some (.int .i64 b0) ∧ wq.cell? ⟨w.heap.size + 1, 1, none⟩ = some (.int .i64 b1) ∧ wq.cell? ⟨w.heap.size + 1, 2, none⟩ = some (.int .i64 b2) ∧ wq.cell? ⟨w.heap.size + 1 + 1 + 1, 0, none⟩ = some (.int .i64 ((s * a0 + t * b0) % p)) ∧ wq.cell? ⟨w.heap.size + 1 + 1 + 1, 1, none⟩ = some (.int .i64 (0)) ∧ wq.cell? ⟨w.heap.size + 1 + 1 + 1, 2, none⟩ = some (.int .i64 (0)) ∧ wq.cell? ⟨w.heap.size + 1 + 1, 0, none⟩ = some (.int .i64 0) ∧ wq.cell? ⟨w.heap.size + 1 + 1, 1, none⟩ = some (.int .i64 0) ∧ wq.cell? ⟨w.heap.size + 1 + 1, 2, none⟩ = some (.int .i64 0) ∧ wq.frozen? ⟨w.heap.size + 1 + 1 + 1, 0, none⟩ = false ∧ wq.frozen? ⟨w.heap.size + 1 + 1 + 1, 1, none⟩ = false ∧ wq.frozen? ⟨w.heap.size + 1 + 1 + 1, 2, none⟩ = false ∧ wq.frozen? ⟨w.heap.size + 1 + 1, 0, none⟩ = false ∧ wq.frozen? ⟨w.heap.size + 1 + 1, 1, none⟩ = false ∧ wq.frozen? ⟨w.heap.size + 1 + 1, 2, none⟩ = false ∧ w.heap.size + 1 + 1 + 1 + 1 ≤ wq.heap.size ∧ Below w.heap.size w wq) ⟨by go_cell, by go_cell, by go_cell, by go_cell, by go_cell, by go_cell, by go_cell, by go_cell, by go_cell, by go_cell, by go_cell, by go_cell, by go_cell, by go_cell, by go_cell, by go_cell, by go_cell, by go_cell, by go_size, by (repeat' (first | (with_reducible exact Below.refl _ _) | (with_reducible assumption) | (with_reducible refine Below.alloc ?_ ?_ _) | (with_reducible refine Below.drew ?_) | (with_reducible refine below_drewN ?_ _) | (with_reducible refine Below.setCell ?_ ?_ _) | (refine Below.step ?_ (by with_reducible assumption) ?_) | go_size))⟩ ?_; rintro wq1 ⟨xa0, xa1, xa2, xb0, xb1, xb2, xo0, xo1, xo2, xr0, xr1, xr2, fo0, fo1, fo2, fr0, fr1, fr2, hzwq1, hBwq1⟩
  go_still_tail 14, (by kernel_rfl)
  repeat (first | still_call ((l01Mod_any _ _ _ k1 k2).mono (fun _ _ h => ⟨h.1, h.2.symm⟩)) | still_step)
  try refine wpStill_nil ?_
  change wpList _ _ _ _ _ wq1.drew
  go_wp2
  rw [rounds_succ]
  go_wp2
  refine wp_name (fun wq => wq.cell? ⟨w.heap.size, 0, none⟩ = some (.int .i64 a0) ∧ wq.cell? ⟨w.heap.size, 1, none⟩ = some (.int .i64 a1) ∧ wq.cell? ⟨w.heap.size, 2, none⟩ = some (.int .i64 a2) ∧ wq.cell? ⟨w.heap.size + 1, 0, none⟩ = some (.int .i64 b0) ∧ wq.cell? ⟨w.heap.size + 1, 1, none⟩ = some (.int .i64 b1) ∧ wq.cell? ⟨w.heap.size + 1, 2, none⟩ = some (.int .i64 b2) ∧ wq.cell? ⟨w.heap.size + 1 + 1 + 1, 0, none⟩ = some (.int .i64 ((s * a0 + t * b0) % p)) ∧ wq.cell? ⟨w.heap.size + 1 + 1 + 1, 1, none⟩ = some (.int .i64 ((s * a1 + t * b1) % p)) ∧ wq.cell? ⟨w.heap.size + 1 + 1 + 1, 2, none⟩ = some (.int .i64 (0)) ∧ wq.cell? ⟨w.heap.size + 1 + 1, 0, none⟩ = some (.int .i64 0) ∧ wq.cell? ⟨w.heap.size + 1 + 1, 1, none⟩ = some (.int .i64 0) ∧ wq.cell? ⟨w.heap.size + 1 + 1, 2, none⟩ = some (.int .i64 0) ∧ wq.frozen? ⟨w.heap.size + 1 + 1 + 1, 0, none⟩ = false ∧ wq.frozen? ⟨w.heap.size + 1 + 1 + 1, 1, none⟩ = false ∧ wq.frozen? ⟨w.heap.size + 1 + 1 + 1, 2, none⟩ = false ∧ wq.frozen? ⟨w.heap.size + 1 + 1, 0, none⟩ = false ∧ wq.frozen? ⟨w.heap.size + 1 + 1, 1, none⟩ = false ∧ wq.frozen? ⟨w.heap.size + 1 + 1, 2, none⟩ = false ∧ w.heap.size + 1 + 1 + 1 + 1 ≤ wq.heap.size ∧ Below w.heap.size w wq) ⟨by go_cell, by go_cell, by go_cell, by go_cell, by go_cell, by go_cell, by go_cell, by go_cell, by go_cell, by go_cell, by go_cell, by go_cell, by go_cell, by go_cell, by go_cell, by go_cell, by go_cell, by go_cell, by go_size, by (repeat' (first | (with_reducible exact Below.refl _ _) | (with_reducible assumption) | (with_reducible refine Below.alloc ?_ ?_ _) | (with_reducible refine Below.drew ?_) | (with_reducible refine below_drewN ?_ _) | (with_reducible refine Below.setCell ?_ ?_ _) | (refine Below.step ?_ (by with_reducible assumption) ?_) | go_size))⟩ ?_; rintro wq2 ⟨xa0, xa1, xa2, xb0, xb1, xb2, xo0, xo1, xo2, xr0, xr1, xr2, fo0, fo1, fo2, fr0, fr1, fr2, hzwq2, hBwq2⟩
  go_still_tail 14, (by kernel_rfl)
  repeat (first | still_call ((l01Mod_any _ _ _ k1 k2).mono (fun _ _ h => ⟨h.1, h.2.symm⟩)) | still_step)
  try refine wpStill_nil ?_
  change wpList _ _ _ _ _ wq2.drew
  go_wp2
  rw [rounds_succ]
  go_wp2
  (try simp only [Exit.inBlock, Exit.then]); refine bodyPost_ret (by simp [results, Try.results147, go_sem, *]; try rfl) rfl ?_
  exact ⟨rfl, by (repeat' (first | (with_reducible exact Below.refl _ _) | (with_reducible assumption) | (with_reducible refine Below.alloc ?_ ?_ _) | (with_reducible refine Below.drew ?_) | (with_reducible refine below_drewN ?_ _) | (with_reducible refine Below.setCell ?_ ?_ _) | (refine Below.step ?_ (by with_reducible assumption) ?_) | go_size))⟩

def partP (p : Int) (a b c : P3) (w : World) (e : Ending) (w' : World) : Prop := ∃ ok, e = .returned (.tuple #[.int .i64 (prt p a b c).1, .int .i64 (prt p a b c).2, .bool ok]) ∧ Below w.heap.size w w'