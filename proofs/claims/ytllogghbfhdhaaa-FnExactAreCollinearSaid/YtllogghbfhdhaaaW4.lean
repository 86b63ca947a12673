/- The exported functions of chapter 1 that answer with a bool or a number: what each returns, by its plain definition. -/
import Derived.Test.YtllogghbfhdhaaaW3
namespace Go.Proofs.Ytllogghbfhdhaaa
open Go.RowKit
set_option linter.unusedSimpArgs false
set_option linter.unusedVariables false

set_option maxHeartbeats 400000 in
theorem l01Code_any (p : Int) (b off cap : Nat) (ps : List P3) (w : World) (hc : RdP w b off ps) (hbl : b < w.heap.size) (hm : ps.length ≤ 1000000) :
    Calls Try.prog 59 #[.int .i64 p, .slice (some ⟨b, off, none⟩) ps.length cap] w fun e w' => e = .returned (.int .i64 (codeOf p (allPt p ps))) ∧ Below w.heap.size w w' := by
  cases hp : isP p
  · have hE : Hid (codeOf p (allPt p ps) = 2) := by show _ = _; unfold codeOf; rw [hp]; rfl
    go_enter Try.func59, Try.ntmps59
    go_wp2_with (go_at_call 45; refine (l01Prime_any _ _).mono ?_; rintro e w' ⟨rfl, rfl⟩)
    go_returns
    exact ⟨ret_int hE.out.symm, by (repeat' (first | (with_reducible exact Below.refl _ _) | (with_reducible assumption) | (with_reducible refine Below.alloc ?_ ?_ _) | (with_reducible refine Below.drew ?_) | (with_reducible refine below_drewN ?_ _) | (with_reducible refine Below.setCell ?_ ?_ _) | (refine Below.step ?_ (by with_reducible assumption) ?_) | go_size))⟩
  · go_enter Try.func59, Try.ntmps59
    go_wp2_with (go_at_call 45; refine (l01Prime_any _ _).mono ?_; rintro e w' ⟨rfl, rfl⟩)
    go_loopw [5] (fun i wr => ∃ k : Nat, k ≤ ps.length ∧ i = .int .i64 k ∧ Below w.heap.size w wr ∧ (ps.take k).all (isPt p) = true) (fun i _ => ps.length - (intOf i).toNat)
    case atStart => exact ⟨0, Nat.zero_le _, rfl, Below.refl _ _, rfl⟩
    case round =>
      obtain ⟨k, hk, rfl, hB, hrel⟩ := hrel
      have H := Lib.hid hrel; clear hrel
      have hBz := hB.size
      by_cases hlt : k < ps.length
      · obtain ⟨x, y, z, hx, hy, hz, hg⟩ := (hc.below hB hbl).get hlt
        cases hi : isPt p ⟨x, y, z⟩
        · have hn : Hid (codeOf p (allPt p ps) = 1) := by
            have h1 : ps.all (isPt p) = false := all_take (k := k + 1) (by rw [all_snoc hg.out, hi, Bool.and_false])
            show _ = _; unfold codeOf allPt; rw [hp, h1]; rfl
          go_wp2_with (go_at_call 51; refine (l01Point_is _ _ _ _ _).mono ?_; rintro e w1 ⟨rfl, hb1⟩; obtain ⟨hc1, hf1⟩ := bcell hb1; have hz1 := hb1.size; (try simp only [World.size_alloc, World.size_setCell, World.size_drew] at hz1); (try (have hy1w0 : w.heap.size < w1.heap.size := by omega)); (try (have hy1w1 : w.heap.size + 1 < w1.heap.size := by omega)); (try (have hy1w2 : w.heap.size + 1 + 1 < w1.heap.size := by omega)); (try (have hy1w3 : w.heap.size + 1 + 1 + 1 < w1.heap.size := by omega)); (try (have hy1w4 : w.heap.size + 1 + 1 + 1 + 1 < w1.heap.size := by omega)))
          go_ret
          exact ⟨ret_int hn.out.symm, by (repeat' (first | (with_reducible exact Below.refl _ _) | (with_reducible assumption) | (with_reducible refine Below.alloc ?_ ?_ _) | (with_reducible refine Below.drew ?_) | (with_reducible refine below_drewN ?_ _) | (with_reducible refine Below.setCell ?_ ?_ _) | (refine Below.step ?_ (by with_reducible assumption) ?_) | go_size))⟩
        · have hn : Hid ((ps.take (k + 1)).all (isPt p) = true) := by show _ = _; rw [all_snoc hg.out, hi, H.out]; rfl
          go_wp2_with (go_at_call 51; refine (l01Point_is _ _ _ _ _).mono ?_; rintro e w1 ⟨rfl, hb1⟩; obtain ⟨hc1, hf1⟩ := bcell hb1; have hz1 := hb1.size; (try simp only [World.size_alloc, World.size_setCell, World.size_drew] at hz1); (try (have hy1w0 : w.heap.size < w1.heap.size := by omega)); (try (have hy1w1 : w.heap.size + 1 < w1.heap.size := by omega)); (try (have hy1w2 : w.heap.size + 1 + 1 < w1.heap.size := by omega)); (try (have hy1w3 : w.heap.size + 1 + 1 + 1 < w1.heap.size := by omega)); (try (have hy1w4 : w.heap.size + 1 + 1 + 1 + 1 < w1.heap.size := by omega)))
          go_roundw
          case rel => exact ⟨k + 1, by omega, by go_num, by (repeat' (first | (with_reducible exact Below.refl _ _) | (with_reducible assumption) | (with_reducible refine Below.alloc ?_ ?_ _) | (with_reducible refine Below.drew ?_) | (with_reducible refine below_drewN ?_ _) | (with_reducible refine Below.setCell ?_ ?_ _) | (refine Below.step ?_ (by with_reducible assumption) ?_) | go_size)), hn.out⟩
          case measure => simp [intOf]; omega
      · have hn : Hid (codeOf p (allPt p ps) = 0) := by
          show _ = _; have := H.out; rw [List.take_of_length_le (by omega)] at this; unfold codeOf allPt; rw [hp, this]; rfl
        go_wp2
        go_ret
        exact ⟨ret_int hn.out.symm, hB⟩

set_option maxHeartbeats 400000 in
theorem AreCollinear_any (p a0 a1 a2 b0 b1 b2 c0 c1 c2 : Int) (w : World) :
    Calls Try.prog 34 #[.int .i64 p, .agg #[.int .i64 a0, .int .i64 a1, .int .i64 a2], .agg #[.int .i64 b0, .int .i64 b1, .int .i64 b2], .agg #[.int .i64 c0, .int .i64 c1, .int .i64 c2]] w fun e w' => e = .returned (.tuple #[.bool (areCol p ⟨a0, a1, a2⟩ ⟨b0, b1, b2⟩ ⟨c0, c1, c2⟩).1, .int .i64 (areCol p ⟨a0, a1, a2⟩ ⟨b0, b1, b2⟩ ⟨c0, c1, c2⟩).2]) ∧ Below w.heap.size w w' := by
  rcases code3 p (allPt p [⟨a0, a1, a2⟩, ⟨b0, b1, b2⟩, ⟨c0, c1, c2⟩]) with hk | hk | ⟨hp, hok, hk⟩
  · have hE : Hid (areCol p ⟨a0, a1, a2⟩ ⟨b0, b1, b2⟩ ⟨c0, c1, c2⟩ = (false, 2)) := by show _ = _; unfold areCol; rw [hk]; rfl
    go_enter Try.func34, Try.ntmps34
    go_wp2_with (first | (go_at_call 61; refine (pointsCode_any _ _ _ [⟨a0, a1, a2⟩, ⟨b0, b1, b2⟩, ⟨c0, c1, c2⟩] _ (rdp3 (by go_cell) (by go_cell) (by go_cell) (by go_cell) (by go_cell) (by go_cell) (by go_cell) (by go_cell) (by go_cell)) (by go_size) (by simp)).mono ?_; rintro e w1 ⟨rfl, hb1⟩; obtain ⟨hc1, hf1⟩ := bcell hb1; have hz1 := hb1.size; (try simp only [World.size_alloc, World.size_setCell, World.size_drew] at hz1); (try (have hy1w0 : w.heap.size < w1.heap.size := by omega)); (try (have hy1w1 : w.heap.size + 1 < w1.heap.size := by omega)); (try (have hy1w2 : w.heap.size + 1 + 1 < w1.heap.size := by omega)); (try (have hy1w3 : w.heap.size + 1 + 1 + 1 < w1.heap.size := by omega)); (try (have hy1w4 : w.heap.size + 1 + 1 + 1 + 1 < w1.heap.size := by omega))) | go_in)
    go_returns
    exact ⟨by rw [hE.out]; rfl, by (repeat' (first | (with_reducible exact Below.refl _ _) | (with_reducible assumption) | (with_reducible refine Below.alloc ?_ ?_ _) | (with_reducible refine Below.drew ?_) | (with_reducible refine below_drewN ?_ _) | (with_reducible refine Below.setCell ?_ ?_ _) | (refine Below.step ?_ (by with_reducible assumption) ?_) | go_size))⟩
  · have hE : Hid (areCol p ⟨a0, a1, a2⟩ ⟨b0, b1, b2⟩ ⟨c0, c1, c2⟩ = (false, 1)) := by show _ = _; unfold areCol; rw [hk]; rfl
    go_enter Try.func34, Try.ntmps34
    go_wp2_with (first | (go_at_call 61; refine (pointsCode_any _ _ _ [⟨a0, a1, a2⟩, ⟨b0, b1, b2⟩, ⟨c0, c1, c2⟩] _ (rdp3 (by go_cell) (by go_cell) (by go_cell) (by go_cell) (by go_cell) (by go_cell) (by go_cell) (by go_cell) (by go_cell)) (by go_size) (by simp)).mono ?_; rintro e w1 ⟨rfl, hb1⟩; obtain ⟨hc1, hf1⟩ := bcell hb1; have hz1 := hb1.size; (try simp only [World.size_alloc, World.size_setCell, World.size_drew] at hz1); (try (have hy1w0 : w.heap.size < w1.heap.size := by omega)); (try (have hy1w1 : w.heap.size + 1 < w1.heap.size := by omega)); (try (have hy1w2 : w.heap.size + 1 + 1 < w1.heap.size := by omega)); (try (have hy1w3 : w.heap.size + 1 + 1 + 1 < w1.heap.size := by omega)); (try (have hy1w4 : w.heap.size + 1 + 1 + 1 + 1 < w1.heap.size := by omega))) | go_in)
    go_returns
    exact ⟨by rw [hE.out]; rfl, by (repeat' (first | (with_reducible exact Below.refl _ _) | (with_reducible assumption) | (with_reducible refine Below.alloc ?_ ?_ _) | (with_reducible refine Below.drew ?_) | (with_reducible refine below_drewN ?_ _) | (with_reducible refine Below.setCell ?_ ?_ _) | (refine Below.step ?_ (by with_reducible assumption) ?_) | go_size))⟩
  · have hE : Hid (areCol p ⟨a0, a1, a2⟩ ⟨b0, b1, b2⟩ ⟨c0, c1, c2⟩ = ((det3 p a0 a1 a2 b0 b1 b2 c0 c1 c2 == 0), 0)) := by show _ = _; unfold areCol; rw [hk]; rfl
    have k1 := isP_lo hp
    have k2 := isP_hi hp
    obtain ⟨⟨sa0, sa1, sa2⟩, ⟨sb0, sb1, sb2⟩, ⟨sc0, sc1, sc2⟩⟩ := pts3 hok
    clear hok hp
    go_enter Try.func34, Try.ntmps34
    go_wp2_with (first | (go_at_call 61; refine (pointsCode_any _ _ _ [⟨a0, a1, a2⟩, ⟨b0, b1, b2⟩, ⟨c0, c1, c2⟩] _ (rdp3 (by go_cell) (by go_cell) (by go_cell) (by go_cell) (by go_cell) (by go_cell) (by go_cell) (by go_cell) (by go_cell)) (by go_size) (by simp)).mono ?_; rintro e w1 ⟨rfl, hb1⟩; obtain ⟨hc1, hf1⟩ := bcell hb1; have hz1 := hb1.size; (try simp only [World.size_alloc, World.size_setCell, World.size_drew] at hz1); (try (have hy1w0 : w.heap.size < w1.heap.size := by omega)); (try (have hy1w1 : w.heap.size + 1 < w1.heap.size := by omega)); (try (have hy1w2 : w.heap.size + 1 + 1 < w1.heap.size := by omega)); (try (have hy1w3 : w.heap.size + 1 + 1 + 1 < w1.heap.size := by omega)); (try (have hy1w4 : w.heap.size + 1 + 1 + 1 + 1 < w1.heap.size := by omega))) | (go_at_call 62; refine (collinear_any _ _ _ _ _ _ _ _ _ _ _ k1 k2 sa0 sa1 sa2 sb0 sb1 sb2 sc0 sc1 sc2).mono ?_; rintro e w2 ⟨rfl, hb2⟩; obtain ⟨hc2, hf2⟩ := bcell hb2; have hz2 := hb2.size; (try simp only [World.size_alloc, World.size_setCell, World.size_drew] at hz2); (try (have hy2w0 : w.heap.size < w2.heap.size := by omega)); (try (have hy2w1 : w.heap.size + 1 < w2.heap.size := by omega)); (try (have hy2w2 : w.heap.size + 1 + 1 < w2.heap.size := by omega)); (try (have hy2w3 : w.heap.size + 1 + 1 + 1 < w2.heap.size := by omega)); (try (have hy2w4 : w.heap.size + 1 + 1 + 1 + 1 < w2.heap.size := by omega)); (try (have hy2w10 : w1.heap.size < w2.heap.size := by omega)); (try (have hy2w11 : w1.heap.size + 1 < w2.heap.size := by omega)); (try (have hy2w12 : w1.heap.size + 1 + 1 < w2.heap.size := by omega)); (try (have hy2w13 : w1.heap.size + 1 + 1 + 1 < w2.heap.size := by omega)); (try (have hy2w14 : w1.heap.size + 1 + 1 + 1 + 1 < w2.heap.size := by omega))) | go_in)
    go_returns
    exact ⟨by rw [hE.out]; rfl, by (repeat' (first | (with_reducible exact Below.refl _ _) | (with_reducible assumption) | (with_reducible refine Below.alloc ?_ ?_ _) | (with_reducible refine Below.drew ?_) | (with_reducible refine below_drewN ?_ _) | (with_reducible refine Below.setCell ?_ ?_ _) | (refine Below.step ?_ (by with_reducible assumption) ?_) | go_size))⟩

set_option maxHeartbeats 400000 in
theorem AreCollinear_spec (p a0 a1 a2 b0 b1 b2 c0 c1 c2 : Int) (w : World) :
    Calls Try.prog 33 #[.int .i64 p, .agg #[.int .i64 a0, .int .i64 a1, .int .i64 a2], .agg #[.int .i64 b0, .int .i64 b1, .int .i64 b2], .agg #[.int .i64 c0, .int .i64 c1, .int .i64 c2]] w fun e w' => e = .returned (.tuple #[.bool (areCol p ⟨a0, a1, a2⟩ ⟨b0, b1, b2⟩ ⟨c0, c1, c2⟩).1, .int .i64 (areCol p ⟨a0, a1, a2⟩ ⟨b0, b1, b2⟩ ⟨c0, c1, c2⟩).2]) ∧ Below w.heap.size w w' := by
  rcases code3 p (allPt p [⟨a0, a1, a2⟩, ⟨b0, b1, b2⟩, ⟨c0, c1, c2⟩]) with hk | hk | ⟨hp, hok, hk⟩
  · have hE : Hid (areCol p ⟨a0, a1, a2⟩ ⟨b0, b1, b2⟩ ⟨c0, c1, c2⟩ = (false, 2)) := by show _ = _; unfold areCol; rw [hk]; rfl
    go_enter Try.func33, Try.ntmps33
    go_wp2_with (first | (go_at_call 59; refine (l01Code_any _ _ _ _ [⟨a0, a1, a2⟩, ⟨b0, b1, b2⟩, ⟨c0, c1, c2⟩] _ (rdp3 (by go_cell) (by go_cell) (by go_cell) (by go_cell) (by go_cell) (by go_cell) (by go_cell) (by go_cell) (by go_cell)) (by go_size) (by simp)).mono ?_; rintro e w1 ⟨rfl, hb1⟩; obtain ⟨hc1, hf1⟩ := bcell hb1; have hz1 := hb1.size; (try simp only [World.size_alloc, World.size_setCell, World.size_drew] at hz1); (try (have hy1w0 : w.heap.size < w1.heap.size := by omega)); (try (have hy1w1 : w.heap.size + 1 < w1.heap.size := by omega)); (try (have hy1w2 : w.heap.size + 1 + 1 < w1.heap.size := by omega)); (try (have hy1w3 : w.heap.size + 1 + 1 + 1 < w1.heap.size := by omega)); (try (have hy1w4 : w.heap.size + 1 + 1 + 1 + 1 < w1.heap.size := by omega))) | go_in)
    go_returns
    exact ⟨by rw [hE.out]; rfl, by (repeat' (first | (with_reducible exact Below.refl _ _) | (with_reducible assumption) | (with_reducible refine Below.alloc ?_ ?_ _) | (with_reducible refine Below.drew ?_) | (with_reducible refine below_drewN ?_ _) | (with_reducible refine Below.setCell ?_ ?_ _) | (refine Below.step ?_ (by with_reducible assumption) ?_) | go_size))⟩
  · have hE : Hid (areCol p ⟨a0, a1, a2⟩ ⟨b0, b1, b2⟩ ⟨c0, c1, c2⟩ = (false, 1)) := by show _ = _; unfold areCol; rw [hk]; rfl
    go_enter Try.func33, Try.ntmps33
    go_wp2_with (first | (go_at_call 59; refine (l01Code_any _ _ _ _ [⟨a0, a1, a2⟩, ⟨b0, b1, b2⟩, ⟨c0, c1, c2⟩] _ (rdp3 (by go_cell) (by go_cell) (by go_cell) (by go_cell) (by go_cell) (by go_cell) (by go_cell) (by go_cell) (by go_cell)) (by go_size) (by simp)).mono ?_; rintro e w1 ⟨rfl, hb1⟩; obtain ⟨hc1, hf1⟩ := bcell hb1; have hz1 := hb1.size; (try simp only [World.size_alloc, World.size_setCell, World.size_drew] at hz1); (try (have hy1w0 : w.heap.size < w1.heap.size := by omega)); (try (have hy1w1 : w.heap.size + 1 < w1.heap.size := by omega)); (try (have hy1w2 : w.heap.size + 1 + 1 < w1.heap.size := by omega)); (try (have hy1w3 : w.heap.size + 1 + 1 + 1 < w1.heap.size := by omega)); (try (have hy1w4 : w.heap.size + 1 + 1 + 1 + 1 < w1.heap.size := by omega))) | go_in)
    go_returns
    exact ⟨by rw [hE.out]; rfl, by (repeat' (first | (with_reducible exact Below.refl _ _) | (with_reducible assumption) | (with_reducible refine Below.alloc ?_ ?_ _) | (with_reducible refine Below.drew ?_) | (with_reducible refine below_drewN ?_ _) | (with_reducible refine Below.setCell ?_ ?_ _) | (refine Below.step ?_ (by with_reducible assumption) ?_) | go_size))⟩
  · have hE : Hid (areCol p ⟨a0, a1, a2⟩ ⟨b0, b1, b2⟩ ⟨c0, c1, c2⟩ = ((det3 p a0 a1 a2 b0 b1 b2 c0 c1 c2 == 0), 0)) := by show _ = _; unfold areCol; rw [hk]; rfl
    have k1 := isP_lo hp
    have k2 := isP_hi hp
    obtain ⟨⟨sa0, sa1, sa2⟩, ⟨sb0, sb1, sb2⟩, ⟨sc0, sc1, sc2⟩⟩ := pts3 hok
    clear hok hp
    go_enter Try.func33, Try.ntmps33
    go_wp2_with (first | (go_at_call 59; refine (l01Code_any _ _ _ _ [⟨a0, a1, a2⟩, ⟨b0, b1, b2⟩, ⟨c0, c1, c2⟩] _ (rdp3 (by go_cell) (by go_cell) (by go_cell) (by go_cell) (by go_cell) (by go_cell) (by go_cell) (by go_cell) (by go_cell)) (by go_size) (by simp)).mono ?_; rintro e w1 ⟨rfl, hb1⟩; obtain ⟨hc1, hf1⟩ := bcell hb1; have hz1 := hb1.size; (try simp only [World.size_alloc, World.size_setCell, World.size_drew] at hz1); (try (have hy1w0 : w.heap.size < w1.heap.size := by omega)); (try (have hy1w1 : w.heap.size + 1 < w1.heap.size := by omega)); (try (have hy1w2 : w.heap.size + 1 + 1 < w1.heap.size := by omega)); (try (have hy1w3 : w.heap.size + 1 + 1 + 1 < w1.heap.size := by omega)); (try (have hy1w4 : w.heap.size + 1 + 1 + 1 + 1 < w1.heap.size := by omega))) | (go_at_call 60; refine (l01Det_any _ _ _ _ _ _ _ _ _ _ _ k1 k2 sa0 sa1 sa2 sb0 sb1 sb2 sc0 sc1 sc2).mono ?_; rintro e w2 ⟨rfl, hb2⟩; obtain ⟨hc2, hf2⟩ := bcell hb2; have hz2 := hb2.size; (try simp only [World.size_alloc, World.size_setCell, World.size_drew] at hz2); (try (have hy2w0 : w.heap.size < w2.heap.size := by omega)); (try (have hy2w1 : w.heap.size + 1 < w2.heap.size := by omega)); (try (have hy2w2 : w.heap.size + 1 + 1 < w2.heap.size := by omega)); (try (have hy2w3 : w.heap.size + 1 + 1 + 1 < w2.heap.size := by omega)); (try (have hy2w4 : w.heap.size + 1 + 1 + 1 + 1 < w2.heap.size := by omega)); (try (have hy2w10 : w1.heap.size < w2.heap.size := by omega)); (try (have hy2w11 : w1.heap.size + 1 < w2.heap.size := by omega)); (try (have hy2w12 : w1.heap.size + 1 + 1 < w2.heap.size := by omega)); (try (have hy2w13 : w1.heap.size + 1 + 1 + 1 < w2.heap.size := by omega)); (try (have hy2w14 : w1.heap.size + 1 + 1 + 1 + 1 < w2.heap.size := by omega))) | go_in)
    go_returns
    exact ⟨by rw [hE.out]; rfl, by (repeat' (first | (with_reducible exact Below.refl _ _) | (with_reducible assumption) | (with_reducible refine Below.alloc ?_ ?_ _) | (with_reducible refine Below.drew ?_) | (with_reducible refine below_drewN ?_ _) | (with_reducible refine Below.setCell ?_ ?_ _) | (refine Below.step ?_ (by with_reducible assumption) ?_) | go_size))⟩

set_option maxHeartbeats 400000 in
theorem IsOn_spec (p a0 a1 a2 b0 b1 b2 : Int) (w : World) :
    Calls Try.prog 35 #[.int .i64 p, .agg #[.int .i64 a0, .int .i64 a1, .int .i64 a2], .agg #[.int .i64 b0, .int .i64 b1, .int .i64 b2]] w fun e w' => e = .returned (.tuple #[.bool (isOnR p ⟨a0, a1, a2⟩ ⟨b0, b1, b2⟩).1, .int .i64 (isOnR p ⟨a0, a1, a2⟩ ⟨b0, b1, b2⟩).2]) ∧ Below w.heap.size w w' := by
  rcases code3 p (allPt p [⟨a0, a1, a2⟩, ⟨b0, b1, b2⟩]) with hk | hk | ⟨hp, hok, hk⟩
  · have hE : Hid (isOnR p ⟨a0, a1, a2⟩ ⟨b0, b1, b2⟩ = (false, 2)) := by show _ = _; unfold isOnR; rw [hk]; rfl
    go_enter Try.func35, Try.ntmps35
    go_wp2_with (first | (go_at_call 59; refine (l01Code_any _ _ _ _ [⟨a0, a1, a2⟩, ⟨b0, b1, b2⟩] _ (rdp2 (by go_cell) (by go_cell) (by go_cell) (by go_cell) (by go_cell) (by go_cell)) (by go_size) (by simp)).mono ?_; rintro e w1 ⟨rfl, hb1⟩; obtain ⟨hc1, hf1⟩ := bcell hb1; have hz1 := hb1.size; (try simp only [World.size_alloc, World.size_setCell, World.size_drew] at hz1); (try (have hy1w0 : w.heap.size < w1.heap.size := by omega)); (try (have hy1w1 : w.heap.size + 1 < w1.heap.size := by omega)); (try (have hy1w2 : w.heap.size + 1 + 1 < w1.heap.size := by omega)); (try (have hy1w3 : w.heap.size + 1 + 1 + 1 < w1.heap.size := by omega)); (try (have hy1w4 : w.heap.size + 1 + 1 + 1 + 1 < w1.heap.size := by omega))) | go_in)
    go_returns
    exact ⟨by rw [hE.out]; rfl, by (repeat' (first | (with_reducible exact Below.refl _ _) | (with_reducible assumption) | (with_reducible refine Below.alloc ?_ ?_ _) | (with_reducible refine Below.drew ?_) | (with_reducible refine below_drewN ?_ _) | (with_reducible refine Below.setCell ?_ ?_ _) | (refine Below.step ?_ (by with_reducible assumption) ?_) | go_size))⟩
  · have hE : Hid (isOnR p ⟨a0, a1, a2⟩ ⟨b0, b1, b2⟩ = (false, 1)) := by show _ = _; unfold isOnR; rw [hk]; rfl
    go_enter Try.func35, Try.ntmps35
    go_wp2_with (first | (go_at_call 59; refine (l01Code_any _ _ _ _ [⟨a0, a1, a2⟩, ⟨b0, b1, b2⟩] _ (rdp2 (by go_cell) (by go_cell) (by go_cell) (by go_cell) (by go_cell) (by go_cell)) (by go_size) (by simp)).mono ?_; rintro e w1 ⟨rfl, hb1⟩; obtain ⟨hc1, hf1⟩ := bcell hb1; have hz1 := hb1.size; (try simp only [World.size_alloc, World.size_setCell, World.size_drew] at hz1); (try (have hy1w0 : w.heap.size < w1.heap.size := by omega)); (try (have hy1w1 : w.heap.size + 1 < w1.heap.size := by omega)); (try (have hy1w2 : w.heap.size + 1 + 1 < w1.heap.size := by omega)); (try (have hy1w3 : w.heap.size + 1 + 1 + 1 < w1.heap.size := by omega)); (try (have hy1w4 : w.heap.size + 1 + 1 + 1 + 1 < w1.heap.size := by omega))) | go_in)
    go_returns
    exact ⟨by rw [hE.out]; rfl, by (repeat' (first | (with_reducible exact Below.refl _ _) | (with_reducible assumption) | (with_reducible refine Below.alloc ?_ ?_ _) | (with_reducible refine Below.drew ?_) | (with_reducible refine below_drewN ?_ _) | (with_reducible refine Below.setCell ?_ ?_ _) | (refine Below.step ?_ (by with_reducible assumption) ?_) | go_size))⟩
  · have hE : Hid (isOnR p ⟨a0, a1, a2⟩ ⟨b0, b1, b2⟩ = ((dot3 p a0 a1 a2 b0 b1 b2 == 0), 0)) := by show _ = _; unfold isOnR; rw [hk]; rfl
    have k1 := isP_lo hp
    have k2 := isP_hi hp
    obtain ⟨⟨sa0, sa1, sa2⟩, ⟨sb0, sb1, sb2⟩⟩ := pts2 hok
    clear hok hp
    go_enter Try.func35, Try.ntmps35
    go_wp2_with (first | (go_at_call 59; refine (l01Code_any _ _ _ _ [⟨a0, a1, a2⟩, ⟨b0, b1, b2⟩] _ (rdp2 (by go_cell) (by go_cell) (by go_cell) (by go_cell) (by go_cell) (by go_cell)) (by go_size) (by simp)).mono ?_; rintro e w1 ⟨rfl, hb1⟩; obtain ⟨hc1, hf1⟩ := bcell hb1; have hz1 := hb1.size; (try simp only [World.size_alloc, World.size_setCell, World.size_drew] at hz1); (try (have hy1w0 : w.heap.size < w1.heap.size := by omega)); (try (have hy1w1 : w.heap.size + 1 < w1.heap.size := by omega)); (try (have hy1w2 : w.heap.size + 1 + 1 < w1.heap.size := by omega)); (try (have hy1w3 : w.heap.size + 1 + 1 + 1 < w1.heap.size := by omega)); (try (have hy1w4 : w.heap.size + 1 + 1 + 1 + 1 < w1.heap.size := by omega))) | (go_at_call 63; refine (l01On_any _ _ _ _ _ _ _ _ k1 k2 sa0 sa1 sa2 sb0 sb1 sb2).mono ?_; rintro e w2 ⟨rfl, hb2⟩; obtain ⟨hc2, hf2⟩ := bcell hb2; have hz2 := hb2.size; (try simp only [World.size_alloc, World.size_setCell, World.size_drew] at hz2); (try (have hy2w0 : w.heap.size < w2.heap.size := by omega)); (try (have hy2w1 : w.heap.size + 1 < w2.heap.size := by omega)); (try (have hy2w2 : w.heap.size + 1 + 1 < w2.heap.size := by omega)); (try (have hy2w3 : w.heap.size + 1 + 1 + 1 < w2.heap.size := by omega)); (try (have hy2w4 : w.heap.size + 1 + 1 + 1 + 1 < w2.heap.size := by omega)); (try (have hy2w10 : w1.heap.size < w2.heap.size := by omega)); (try (have hy2w11 : w1.heap.size + 1 < w2.heap.size := by omega)); (try (have hy2w12 : w1.heap.size + 1 + 1 < w2.heap.size := by omega)); (try (have hy2w13 : w1.heap.size + 1 + 1 + 1 < w2.heap.size := by omega)); (try (have hy2w14 : w1.heap.size + 1 + 1 + 1 + 1 < w2.heap.size := by omega))) | go_in)
    go_returns
    exact ⟨by rw [hE.out]; rfl, by (repeat' (first | (with_reducible exact Below.refl _ _) | (with_reducible assumption) | (with_reducible refine Below.alloc ?_ ?_ _) | (with_reducible refine Below.drew ?_) | (with_reducible refine below_drewN ?_ _) | (with_reducible refine Below.setCell ?_ ?_ _) | (refine Below.step ?_ (by with_reducible assumption) ?_) | go_size))⟩

set_option maxHeartbeats 400000 in
theorem IsOn1_any (p a0 a1 a2 b0 b1 b2 : Int) (u v x : Nat) (w : World)
    (hu : w.cell? ⟨u, 0, none⟩ = some (.int .i64 p))
    (hv0 : w.cell? ⟨v, 0, none⟩ = some (.int .i64 a0)) (hv1 : w.cell? ⟨v, 1, none⟩ = some (.int .i64 a1)) (hv2 : w.cell? ⟨v, 2, none⟩ = some (.int .i64 a2))
    (hx0 : w.cell? ⟨x, 0, none⟩ = some (.int .i64 b0)) (hx1 : w.cell? ⟨x, 1, none⟩ = some (.int .i64 b1)) (hx2 : w.cell? ⟨x, 2, none⟩ = some (.int .i64 b2))
    (lu : u < w.heap.size) (lx : x < w.heap.size) :
    ClB Try.prog 65 #[.pointer (some ⟨u, 0, none⟩), .pointer (some ⟨v, 0, none⟩), .pointer (some ⟨x, 0, none⟩)] w (allPt p [⟨a0, a1, a2⟩, ⟨b0, b1, b2⟩]) := by
  unfold ClB
  cases h1 : allPt p [⟨a0, a1, a2⟩]
  · have hE : Hid (allPt p [⟨a0, a1, a2⟩, ⟨b0, b1, b2⟩] = false) := by
      show _ = _; unfold allPt at *; simp at h1 ⊢; simp [h1]
    go_enter Try.func65, Try.ntmps65
    go_wp2_with (go_at_call 66; refine (arePoints_any _ _ _ _ [⟨a0, a1, a2⟩] _ (rdp1 (by go_cell) (by go_cell) (by go_cell)) (by simp) (by simp)).mono ?_; rintro e w1 ⟨rfl, hb1⟩; obtain ⟨hc1, hf1⟩ := bcell hb1; have hz1 := hb1.size; (try simp only [World.size_alloc, World.size_setCell, World.size_drew] at hz1); (try (have hy1w0 : w.heap.size < w1.heap.size := by omega)); (try (have hy1w1 : w.heap.size + 1 < w1.heap.size := by omega)); (try (have hy1w2 : w.heap.size + 1 + 1 < w1.heap.size := by omega)); (try (have hy1w3 : w.heap.size + 1 + 1 + 1 < w1.heap.size := by omega)); (try (have hy1w4 : w.heap.size + 1 + 1 + 1 + 1 < w1.heap.size := by omega)))
    go_returns
    exact ⟨ret_bool hE.out.symm, by (repeat' (first | (with_reducible exact Below.refl _ _) | (with_reducible assumption) | (with_reducible refine Below.alloc ?_ ?_ _) | (with_reducible refine Below.drew ?_) | (with_reducible refine below_drewN ?_ _) | (with_reducible refine Below.setCell ?_ ?_ _) | (refine Below.step ?_ (by with_reducible assumption) ?_) | go_size))⟩
  · have hE : Hid (allPt p [⟨a0, a1, a2⟩, ⟨b0, b1, b2⟩] = allPt p [⟨b0, b1, b2⟩]) := by
      show _ = _; unfold allPt at *; simp at h1 ⊢; simp [h1]
    go_enter Try.func65, Try.ntmps65
    go_wp2_with (first | (go_at_call 66; refine (arePoints_any _ _ _ _ [⟨a0, a1, a2⟩] _ (rdp1 (by go_cell) (by go_cell) (by go_cell)) (by simp) (by simp)).mono ?_; rintro e w1 ⟨rfl, hb1⟩; obtain ⟨hc1, hf1⟩ := bcell hb1; have hz1 := hb1.size; (try simp only [World.size_alloc, World.size_setCell, World.size_drew] at hz1); (try (have hy1w0 : w.heap.size < w1.heap.size := by omega)); (try (have hy1w1 : w.heap.size + 1 < w1.heap.size := by omega)); (try (have hy1w2 : w.heap.size + 1 + 1 < w1.heap.size := by omega)); (try (have hy1w3 : w.heap.size + 1 + 1 + 1 < w1.heap.size := by omega)); (try (have hy1w4 : w.heap.size + 1 + 1 + 1 + 1 < w1.heap.size := by omega))) | (go_at_call 67; refine (areLines_any _ _ _ _ [⟨b0, b1, b2⟩] _ (rdp1 (by go_cell) (by go_cell) (by go_cell)) (by simp) (by simp)).mono ?_; rintro e w2 ⟨rfl, hb2⟩; obtain ⟨hc2, hf2⟩ := bcell hb2; have hz2 := hb2.size; (try simp only [World.size_alloc, World.size_setCell, World.size_drew] at hz2); (try (have hy2w0 : w.heap.size < w2.heap.size := by omega)); (try (have hy2w1 : w.heap.size + 1 < w2.heap.size := by omega)); (try (have hy2w2 : w.heap.size + 1 + 1 < w2.heap.size := by omega)); (try (have hy2w3 : w.heap.size + 1 + 1 + 1 < w2.heap.size := by omega)); (try (have hy2w4 : w.heap.size + 1 + 1 + 1 + 1 < w2.heap.size := by omega)); (try (have hy2w10 : w1.heap.size < w2.heap.size := by omega)); (try (have hy2w11 : w1.heap.size + 1 < w2.heap.size := by omega)); (try (have hy2w12 : w1.heap.size + 1 + 1 < w2.heap.size := by omega)); (try (have hy2w13 : w1.heap.size + 1 + 1 + 1 < w2.heap.size := by omega)); (try (have hy2w14 : w1.heap.size + 1 + 1 + 1 + 1 < w2.heap.size := by omega))))
    go_returns
    exact ⟨ret_bool hE.out.symm, by (repeat' (first | (with_reducible exact Below.refl _ _) | (with_reducible assumption) | (with_reducible refine Below.alloc ?_ ?_ _) | (with_reducible refine Below.drew ?_) | (with_reducible refine below_drewN ?_ _) | (with_reducible refine Below.setCell ?_ ?_ _) | (refine Below.step ?_ (by with_reducible assumption) ?_) | go_size))⟩

set_option maxHeartbeats 400000 in
theorem IsOn_any (p a0 a1 a2 b0 b1 b2 : Int) (w : World) :
    Calls Try.prog 36 #[.int .i64 p, .agg #[.int .i64 a0, .int .i64 a1, .int .i64 a2], .agg #[.int .i64 b0, .int .i64 b1, .int .i64 b2]] w fun e w' => e = .returned (.tuple #[.bool (isOnR p ⟨a0, a1, a2⟩ ⟨b0, b1, b2⟩).1, .int .i64 (isOnR p ⟨a0, a1, a2⟩ ⟨b0, b1, b2⟩).2]) ∧ Below w.heap.size w w' := by
  rcases code3 p (allPt p [⟨a0, a1, a2⟩, ⟨b0, b1, b2⟩]) with hk | hk | ⟨hp, hok, hk⟩
  · have hE : Hid (isOnR p ⟨a0, a1, a2⟩ ⟨b0, b1, b2⟩ = (false, 2)) := by show _ = _; unfold isOnR; rw [hk]; rfl
    go_enter Try.func36, Try.ntmps36
    go_wp2_with (first | (go_at_call 64; refine (planeCode3 _ _ _ _ _ _ _ (fun _ _ => by kernel_rfl) (fun _ => IsOn1_any p a0 a1 a2 b0 b1 b2 _ _ _ _ (by go_cell) (by go_cell) (by go_cell) (by go_cell) (by go_cell) (by go_cell) (by go_cell) (by go_size) (by go_size))).mono ?_; rintro e w1 ⟨rfl, hb1⟩; obtain ⟨hc1, hf1⟩ := bcell hb1; have hz1 := hb1.size; (try simp only [World.size_alloc, World.size_setCell, World.size_drew] at hz1); (try (have hy1w0 : w.heap.size < w1.heap.size := by omega)); (try (have hy1w1 : w.heap.size + 1 < w1.heap.size := by omega)); (try (have hy1w2 : w.heap.size + 1 + 1 < w1.heap.size := by omega)); (try (have hy1w3 : w.heap.size + 1 + 1 + 1 < w1.heap.size := by omega)); (try (have hy1w4 : w.heap.size + 1 + 1 + 1 + 1 < w1.heap.size := by omega))) | go_in)
    go_returns
    exact ⟨by rw [hE.out]; rfl, by (repeat' (first | (with_reducible exact Below.refl _ _) | (with_reducible assumption) | (with_reducible refine Below.alloc ?_ ?_ _) | (with_reducible refine Below.drew ?_) | (with_reducible refine below_drewN ?_ _) | (with_reducible refine Below.setCell ?_ ?_ _) | (refine Below.step ?_ (by with_reducible assumption) ?_) | go_size))⟩
  · have hE : Hid (isOnR p ⟨a0, a1, a2⟩ ⟨b0, b1, b2⟩ = (false, 1)) := by show _ = _; unfold isOnR; rw [hk]; rfl
    go_enter Try.func36, Try.ntmps36
    go_wp2_with (first | (go_at_call 64; refine (planeCode3 _ _ _ _ _ _ _ (fun _ _ => by kernel_rfl) (fun _ => IsOn1_any p a0 a1 a2 b0 b1 b2 _ _ _ _ (by go_cell) (by go_cell) (by go_cell) (by go_cell) (by go_cell) (by go_cell) (by go_cell) (by go_size) (by go_size))).mono ?_; rintro e w1 ⟨rfl, hb1⟩; obtain ⟨hc1, hf1⟩ := bcell hb1; have hz1 := hb1.size; (try simp only [World.size_alloc, World.size_setCell, World.size_drew] at hz1); (try (have hy1w0 : w.heap.size < w1.heap.size := by omega)); (try (have hy1w1 : w.heap.size + 1 < w1.heap.size := by omega)); (try (have hy1w2 : w.heap.size + 1 + 1 < w1.heap.size := by omega)); (try (have hy1w3 : w.heap.size + 1 + 1 + 1 < w1.heap.size := by omega)); (try (have hy1w4 : w.heap.size + 1 + 1 + 1 + 1 < w1.heap.size := by omega))) | go_in)
    go_returns
    exact ⟨by rw [hE.out]; rfl, by (repeat' (first | (with_reducible exact Below.refl _ _) | (with_reducible assumption) | (with_reducible refine Below.alloc ?_ ?_ _) | (with_reducible refine Below.drew ?_) | (with_reducible refine below_drewN ?_ _) | (with_reducible refine Below.setCell ?_ ?_ _) | (refine Below.step ?_ (by with_reducible assumption) ?_) | go_size))⟩
  · have hE : Hid (isOnR p ⟨a0, a1, a2⟩ ⟨b0, b1, b2⟩ = ((dot3 p a0 a1 a2 b0 b1 b2 == 0), 0)) := by show _ = _; unfold isOnR; rw [hk]; rfl
    have k1 := isP_lo hp
    have k2 := isP_hi hp
    obtain ⟨⟨sa0, sa1, sa2⟩, ⟨sb0, sb1, sb2⟩⟩ := pts2 hok
    clear hok hp
    go_enter Try.func36, Try.ntmps36
    go_wp2_with (first | (go_at_call 64; refine (planeCode3 _ _ _ _ _ _ _ (fun _ _ => by kernel_rfl) (fun _ => IsOn1_any p a0 a1 a2 b0 b1 b2 _ _ _ _ (by go_cell) (by go_cell) (by go_cell) (by go_cell) (by go_cell) (by go_cell) (by go_cell) (by go_size) (by go_size))).mono ?_; rintro e w1 ⟨rfl, hb1⟩; obtain ⟨hc1, hf1⟩ := bcell hb1; have hz1 := hb1.size; (try simp only [World.size_alloc, World.size_setCell, World.size_drew] at hz1); (try (have hy1w0 : w.heap.size < w1.heap.size := by omega)); (try (have hy1w1 : w.heap.size + 1 < w1.heap.size := by omega)); (try (have hy1w2 : w.heap.size + 1 + 1 < w1.heap.size := by omega)); (try (have hy1w3 : w.heap.size + 1 + 1 + 1 < w1.heap.size := by omega)); (try (have hy1w4 : w.heap.size + 1 + 1 + 1 + 1 < w1.heap.size := by omega))) | (go_at_call 68; refine (isOn_any _ _ _ _ _ _ _ _ k1 k2 sa0 sa1 sa2 sb0 sb1 sb2).mono ?_; rintro e w2 ⟨rfl, hb2⟩; obtain ⟨hc2, hf2⟩ := bcell hb2; have hz2 := hb2.size; (try simp only [World.size_alloc, World.size_setCell, World.size_drew] at hz2); (try (have hy2w0 : w.heap.size < w2.heap.size := by omega)); (try (have hy2w1 : w.heap.size + 1 < w2.heap.size := by omega)); (try (have hy2w2 : w.heap.size + 1 + 1 < w2.heap.size := by omega)); (try (have hy2w3 : w.heap.size + 1 + 1 + 1 < w2.heap.size := by omega)); (try (have hy2w4 : w.heap.size + 1 + 1 + 1 + 1 < w2.heap.size := by omega)); (try (have hy2w10 : w1.heap.size < w2.heap.size := by omega)); (try (have hy2w11 : w1.heap.size + 1 < w2.heap.size := by omega)); (try (have hy2w12 : w1.heap.size + 1 + 1 < w2.heap.size := by omega)); (try (have hy2w13 : w1.heap.size + 1 + 1 + 1 < w2.heap.size := by omega)); (try (have hy2w14 : w1.heap.size + 1 + 1 + 1 + 1 < w2.heap.size := by omega))) | go_in)
    go_returns
    exact ⟨by rw [hE.out]; rfl, by (repeat' (first | (with_reducible exact Below.refl _ _) | (with_reducible assumption) | (with_reducible refine Below.alloc ?_ ?_ _) | (with_reducible refine Below.drew ?_) | (with_reducible refine below_drewN ?_ _) | (with_reducible refine Below.setCell ?_ ?_ _) | (refine Below.step ?_ (by with_reducible assumption) ?_) | go_size))⟩

end Go.Proofs.Ytllogghbfhdhaaa
