/- The exported functions of chapter 1 that answer with a bool or a number: what each returns, by its plain definition. -/
import Derived.Test.YtjfabhkgmelmgaaW3
namespace Go.Proofs.Ytjfabhkgmelmgaa
open Go.RowKit
set_option linter.unusedSimpArgs false
set_option linter.unusedVariables false

set_option maxHeartbeats 400000 in
theorem l01Code_any (p : Int) (b off cap : Nat) (ps : List P3) (w : World) (hc : RdP w b off ps) (hbl : b < w.heap.size) (hm : ps.length ≤ 1000000) :
    Calls Try.prog 76 #[.int .i64 p, .slice (some ⟨b, off, none⟩) ps.length cap] w fun e w' => e = .returned (.int .i64 (codeOf p (allPt p ps))) ∧ Below w.heap.size w w' := by
  cases hp : isP p
  · have hE : Hid (codeOf p (allPt p ps) = 2) := by show _ = _; unfold codeOf; rw [hp]; rfl
    go_enter Try.func76, Try.ntmps76
    go_wp2_with (go_at_call 56; refine (l01Prime_any _ _).mono ?_; rintro e w' ⟨rfl, rfl⟩)
    go_returns
    exact ⟨ret_int hE.out.symm, by (repeat' (first | (with_reducible exact Below.refl _ _) | (with_reducible assumption) | (with_reducible refine Below.alloc ?_ ?_ _) | (with_reducible refine Below.drew ?_) | (with_reducible refine below_drewN ?_ _) | (with_reducible refine Below.setCell ?_ ?_ _) | (refine Below.step ?_ (by with_reducible assumption) ?_) | go_size))⟩
  · go_enter Try.func76, Try.ntmps76
    go_wp2_with (go_at_call 56; refine (l01Prime_any _ _).mono ?_; rintro e w' ⟨rfl, rfl⟩)
    go_loopw [5] (fun i wr => ∃ k : Nat, k ≤ ps.length ∧ i = .int .i64 k ∧ Below w.heap.size w wr ∧ (ps.take k).all (isPt p) = true) (fun i _ => ps.length - (intOf i).toNat)
    case atStart => exact ⟨0, Nat.zero_le _, rfl, Below.refl _ _, rfl⟩
    case round =>
      obtain ⟨k, hk, rfl, hB, hrel⟩ := hrel
      have H := Lib.hid hrel; clear hrel
      have hBz := hB.size
      by_cases hlt : k < ps.length
      · obtain ⟨x, y, z, hx, hy, hz, hg⟩ := (hc.below hB hbl).get hlt
        cases hi : isPt p ⟨x, y, z⟩
        · have hn : Hid (codeOf p (allPt p ps) = 1) := by
            have h1 : ps.all (isPt p) = false := all_take (k := k + 1) (by rw [all_snoc hg.out, hi, Bool.and_false])
            show _ = _; unfold codeOf allPt; rw [hp, h1]; rfl
          go_wp2_with (go_at_call 135; refine (l01Point_is _ _ _ _ _).mono ?_; rintro e w1 ⟨rfl, hb1⟩; obtain ⟨hc1, hf1⟩ := bcell hb1; have hz1 := hb1.size; (try simp only [World.size_alloc, World.size_setCell, World.size_drew] at hz1); (try (have hy1w0 : w.heap.size < w1.heap.size := by omega)); (try (have hy1w1 : w.heap.size + 1 < w1.heap.size := by omega)); (try (have hy1w2 : w.heap.size + 1 + 1 < w1.heap.size := by omega)); (try (have hy1w3 : w.heap.size + 1 + 1 + 1 < w1.heap.size := by omega)); (try (have hy1w4 : w.heap.size + 1 + 1 + 1 + 1 < w1.heap.size := by omega)))
          go_ret
          exact ⟨ret_int hn.out.symm, by (repeat' (first | (with_reducible exact Below.refl _ _) | (with_reducible assumption) | (with_reducible refine Below.alloc ?_ ?_ _) | (with_reducible refine Below.drew ?_) | (with_reducible refine below_drewN ?_ _) | (with_reducible refine Below.setCell ?_ ?_ _) | (refine Below.step ?_ (by with_reducible assumption) ?_) | go_size))⟩
        · have hn : Hid ((ps.take (k + 1)).all (isPt p) = true) := by show _ = _; rw [all_snoc hg.out, hi, H.out]; rfl
          go_wp2_with (go_at_call 135; refine (l01Point_is _ _ _ _ _).mono ?_; rintro e w1 ⟨rfl, hb1⟩; obtain ⟨hc1, hf1⟩ := bcell hb1; have hz1 := hb1.size; (try simp only [World.size_alloc, World.size_setCell, World.size_drew] at hz1); (try (have hy1w0 : w.heap.size < w1.heap.size := by omega)); (try (have hy1w1 : w.heap.size + 1 < w1.heap.size := by omega)); (try (have hy1w2 : w.heap.size + 1 + 1 < w1.heap.size := by omega)); (try (have hy1w3 : w.heap.size + 1 + 1 + 1 < w1.heap.size := by omega)); (try (have hy1w4 : w.heap.size + 1 + 1 + 1 + 1 < w1.heap.size := by omega)))
          go_roundw
          case rel => exact ⟨k + 1, by omega, by go_num, by (repeat' (first | (with_reducible exact Below.refl _ _) | (with_reducible assumption) | (with_reducible refine Below.alloc ?_ ?_ _) | (with_reducible refine Below.drew ?_) | (with_reducible refine below_drewN ?_ _) | (with_reducible refine Below.setCell ?_ ?_ _) | (refine Below.step ?_ (by with_reducible assumption) ?_) | go_size)), hn.out⟩
          case measure => simp [intOf]; omega
      · have hn : Hid (codeOf p (allPt p ps) = 0) := by
          show _ = _; have := H.out; rw [List.take_of_length_le (by omega)] at this; unfold codeOf allPt; rw [hp, this]; rfl
        go_wp2
        go_ret
        exact ⟨ret_int hn.out.symm, hB⟩
