/- All points of a plane, in order, in the program and in the reference; p is a prime. -/
import Derived.Test.YtjfabhkgmelmgaaA2
namespace Go.Proofs.Ytjfabhkgmelmgaa
open Go.RowKit
set_option linter.unusedSimpArgs false
set_option linter.unusedVariables false
set_option maxRecDepth 100000

/-- What is answered: a slice of the call's own with these points. -/
def PtsPost (E : Nat) (ps : List P3) (w : World) (e : Ending) (w' : World) : Prop :=
  ∃ v, e = .returned v ∧ OwnA E 3 w' w.heap.size v (rowsP ps) ∧ Below w.heap.size w w'

set_option maxHeartbeats 1000000 in
theorem l01Points_any (p : Int) (w : World) (hp : isP p = true) :
    Calls Try.prog 154 #[.int .i64 p] w (PtsPost 58 (allP p) w) := by
  have k1 := isP_lo hp
  have k2 := isP_hi hp
  clear hp
  obtain ⟨n, rfl⟩ := Int.eq_ofNat_of_zero_le (show 0 ≤ p by omega)
  have hall : Hid (allP (n : Int) = [⟨0, 0, 1⟩] ++ colP n ++ gridP n n) := rfl
  have hn : n ≤ 13 := by omega
  go_enter Try.func154, Try.ntmps154
  go_wp2
  go_loopw [3, 4] (fun v i wr => ∃ k : Nat, k ≤ n ∧ i = .int .i64 k ∧ OwnA 58 3 wr w.heap.size v (rowsP ([⟨0, 0, 1⟩] ++ colP k)) ∧ Below w.heap.size w wr) (fun _ i _ => n - (intOf i).toNat)
  case atStart => exact ⟨0, Nat.zero_le _, rfl, OwnA.lit 58 w [[0, 0, 1]] _ (by simp) (Nat.le_refl _) (by simp [maxLen]), by (repeat' (first | (with_reducible exact Below.refl _ _) | (with_reducible assumption) | (with_reducible refine Below.alloc ?_ ?_ _) | (with_reducible refine Below.drew ?_) | (with_reducible refine below_drewN ?_ _) | (with_reducible refine Below.setCell ?_ ?_ _) | (refine Below.step ?_ (by with_reducible assumption) ?_) | go_size))⟩
  case round =>
    obtain ⟨k, hk, rfl, hown, hB⟩ := hrel
    have hBz := hB.size
    by_cases hlt : k < n
    · have hlen : Hid ((rowsP ([⟨0, 0, 1⟩] ++ colP k)).length ≤ 10000000) := by show _ ≤ _; simp [rowsP_len, colP_len]; omega
      go_wp2_with (at_builtin; refine append3 Try.underlying39 info_Point w.heap.size _ _ hown rfl _ _ rfl rfl rfl hlen.out (by omega) ?_; intro v' w1 hown1 hB1 hz1)
      go_roundw
      case rel => exact ⟨k + 1, by omega, by go_num, by rw [rowsP_snoc, List.append_assoc, ← colP_succ] at hown1; exact hown1, hB1 _ _ hB (Nat.le_refl _)⟩
      case measure => simp [intOf]; omega
    · obtain rfl : n = k := by omega
      go_wp2
      go_loopw [3, 5] (fun v i wr => ∃ k : Nat, k ≤ n ∧ i = .int .i64 k ∧ OwnA 58 3 wr w.heap.size v (rowsP ([⟨0, 0, 1⟩] ++ colP n ++ gridP n k)) ∧ Below w.heap.size w wr) (fun _ i _ => n - (intOf i).toNat)
      case atStart => exact ⟨0, Nat.zero_le _, rfl, by simpa [gridP] using hown, hB⟩
      case round =>
        clear hown hB hBz
        obtain ⟨k, hk, rfl, hown, hB⟩ := hrel
        have hBz := hB.size
        by_cases hlt : k < n
        · go_wp2
          obtain ⟨wo, rfl⟩ : ∃ wo : World, wo = wr := ⟨_, rfl⟩
          go_loopw [3, 6] (fun v i wr => ∃ j : Nat, j ≤ n ∧ i = .int .i64 j ∧ OwnA 58 3 wr w.heap.size v (rowsP ([⟨0, 0, 1⟩] ++ colP n ++ gridP n k ++ rowP (k : Int) j)) ∧ Below w.heap.size w wr) (fun _ i _ => n - (intOf i).toNat)
          case atStart => exact ⟨0, Nat.zero_le _, rfl, by simpa [rowP] using hown, hB⟩
          case round =>
            clear hown hB hBz
            obtain ⟨j, hj, rfl, hown, hB⟩ := hrel
            have hBz := hB.size
            by_cases hlj : j < n
            · have hlen : Hid ((rowsP ([⟨0, 0, 1⟩] ++ colP n ++ gridP n k ++ rowP (k : Int) j)).length ≤ 10000000) := by
                show _ ≤ _
                have : k * n ≤ 13 * 13 := Nat.mul_le_mul (by omega) (by omega)
                simp [rowsP_len, colP_len, gridP_len, rowP_len]; omega
              go_wp2_with (at_builtin; refine append3 Try.underlying39 info_Point w.heap.size _ _ hown rfl _ _ rfl rfl rfl hlen.out (by omega) ?_; intro v' w1 hown1 hB1 hz1)
              go_roundw
              case rel => exact ⟨j + 1, by omega, by go_num, by rw [rowsP_snoc, List.append_assoc, ← rowP_succ] at hown1; exact hown1, hB1 _ _ hB (Nat.le_refl _)⟩
              case measure => simp [intOf]; omega
            · obtain rfl : n = j := by omega
              have hown' : OwnA 58 3 wr w.heap.size u3 (rowsP ([⟨0, 0, 1⟩] ++ colP n ++ gridP n (k + 1))) := by rw [gridP_succ, ← List.append_assoc]; exact hown
              clear hown
              go_wp2
              go_roundw
              case rel => exact ⟨k + 1, by omega, by go_num, hown', hB⟩
              case measure => simp [intOf]; omega
        · obtain rfl : n = k := by omega
          go_wp2
          go_ret
          exact ⟨_, rfl, by rw [hall.out]; exact hown, hB⟩