/- What the functions of chapter 1 do with points: codes, lines, joins, determinants. -/
import Derived.Test.YtjfabhkgmelmgaaW1
import Derived.Test.YtjfabhkgmelmgaaW2
import Derived.Deep.QuietTactic
import Derived.BigQuiet
namespace Go.Proofs.Ytjfabhkgmelmgaa
open Go.RowKit
set_option linter.unusedSimpArgs false
set_option linter.unusedVariables false

/-- A slice of points: its cells hold these points. -/
def RdP (w : World) (b off : Nat) (ps : List P3) : Prop := ∀ i a, ps[i]? = some a → w.cell? ⟨b, off + i * 3, none⟩ = some (.int .i64 a.x) ∧ w.cell? ⟨b, off + i * 3 + 1, none⟩ = some (.int .i64 a.y) ∧ w.cell? ⟨b, off + i * 3 + 2, none⟩ = some (.int .i64 a.z)
theorem RdP.below {w w' : World} {b off : Nat} {ps : List P3} (h : RdP w b off ps) (hb : Below w.heap.size w w') (hlt : b < w.heap.size) : RdP w' b off ps := by
  intro i a ha
  obtain ⟨h1, h2, h3⟩ := h i a ha
  exact ⟨by rw [hb.cell (p := ⟨b, _, none⟩) hlt]; exact h1, by rw [hb.cell (p := ⟨b, _, none⟩) hlt]; exact h2, by rw [hb.cell (p := ⟨b, _, none⟩) hlt]; exact h3⟩
theorem RdP.get {w : World} {b off : Nat} {ps : List P3} (h : RdP w b off ps) {k : Nat} (hk : k < ps.length) :
    ∃ x y z, w.cell? ⟨b, off + k * 3, none⟩ = some (.int .i64 x) ∧ w.cell? ⟨b, off + k * 3 + 1, none⟩ = some (.int .i64 y) ∧ w.cell? ⟨b, off + k * 3 + 2, none⟩ = some (.int .i64 z) ∧ Hid (ps[k]? = some ⟨x, y, z⟩) :=
  let ⟨h1, h2, h3⟩ := h k ps[k] (List.getElem?_eq_getElem hk)
  ⟨_, _, _, h1, h2, h3, Lib.hid (List.getElem?_eq_getElem hk)⟩
theorem rdp1 {w : World} {b off : Nat} {x0 y0 z0 : Int} (h00 : w.cell? ⟨b, off + 0 * 3, none⟩ = some (.int .i64 x0)) (h01 : w.cell? ⟨b, off + 0 * 3 + 1, none⟩ = some (.int .i64 y0)) (h02 : w.cell? ⟨b, off + 0 * 3 + 2, none⟩ = some (.int .i64 z0)) : RdP w b off [⟨x0, y0, z0⟩] := by
  intro i a ha
  match i, ha with
  | 0, ha => simp at ha; subst ha; exact ⟨h00, h01, h02⟩
  | i + 1, ha => simp at ha
theorem rdp2 {w : World} {b off : Nat} {x0 y0 z0 x1 y1 z1 : Int} (h00 : w.cell? ⟨b, off + 0 * 3, none⟩ = some (.int .i64 x0)) (h01 : w.cell? ⟨b, off + 0 * 3 + 1, none⟩ = some (.int .i64 y0)) (h02 : w.cell? ⟨b, off + 0 * 3 + 2, none⟩ = some (.int .i64 z0)) (h10 : w.cell? ⟨b, off + 1 * 3, none⟩ = some (.int .i64 x1)) (h11 : w.cell? ⟨b, off + 1 * 3 + 1, none⟩ = some (.int .i64 y1)) (h12 : w.cell? ⟨b, off + 1 * 3 + 2, none⟩ = some (.int .i64 z1)) : RdP w b off [⟨x0, y0, z0⟩, ⟨x1, y1, z1⟩] := by
  intro i a ha
  match i, ha with
  | 0, ha => simp at ha; subst ha; exact ⟨h00, h01, h02⟩
  | 1, ha => simp at ha; subst ha; exact ⟨h10, h11, h12⟩
  | i + 2, ha => simp at ha
theorem rdp3 {w : World} {b off : Nat} {x0 y0 z0 x1 y1 z1 x2 y2 z2 : Int} (h00 : w.cell? ⟨b, off + 0 * 3, none⟩ = some (.int .i64 x0)) (h01 : w.cell? ⟨b, off + 0 * 3 + 1, none⟩ = some (.int .i64 y0)) (h02 : w.cell? ⟨b, off + 0 * 3 + 2, none⟩ = some (.int .i64 z0)) (h10 : w.cell? ⟨b, off + 1 * 3, none⟩ = some (.int .i64 x1)) (h11 : w.cell? ⟨b, off + 1 * 3 + 1, none⟩ = some (.int .i64 y1)) (h12 : w.cell? ⟨b, off + 1 * 3 + 2, none⟩ = some (.int .i64 z1)) (h20 : w.cell? ⟨b, off + 2 * 3, none⟩ = some (.int .i64 x2)) (h21 : w.cell? ⟨b, off + 2 * 3 + 1, none⟩ = some (.int .i64 y2)) (h22 : w.cell? ⟨b, off + 2 * 3 + 2, none⟩ = some (.int .i64 z2)) : RdP w b off [⟨x0, y0, z0⟩, ⟨x1, y1, z1⟩, ⟨x2, y2, z2⟩] := by
  intro i a ha
  match i, ha with
  | 0, ha => simp at ha; subst ha; exact ⟨h00, h01, h02⟩
  | 1, ha => simp at ha; subst ha; exact ⟨h10, h11, h12⟩
  | 2, ha => simp at ha; subst ha; exact ⟨h20, h21, h22⟩
  | i + 3, ha => simp at ha
theorem rdp4 {w : World} {b off : Nat} {x0 y0 z0 x1 y1 z1 x2 y2 z2 x3 y3 z3 : Int} (h00 : w.cell? ⟨b, off + 0 * 3, none⟩ = some (.int .i64 x0)) (h01 : w.cell? ⟨b, off + 0 * 3 + 1, none⟩ = some (.int .i64 y0)) (h02 : w.cell? ⟨b, off + 0 * 3 + 2, none⟩ = some (.int .i64 z0)) (h10 : w.cell? ⟨b, off + 1 * 3, none⟩ = some (.int .i64 x1)) (h11 : w.cell? ⟨b, off + 1 * 3 + 1, none⟩ = some (.int .i64 y1)) (h12 : w.cell? ⟨b, off + 1 * 3 + 2, none⟩ = some (.int .i64 z1)) (h20 : w.cell? ⟨b, off + 2 * 3, none⟩ = some (.int .i64 x2)) (h21 : w.cell? ⟨b, off + 2 * 3 + 1, none⟩ = some (.int .i64 y2)) (h22 : w.cell? ⟨b, off + 2 * 3 + 2, none⟩ = some (.int .i64 z2)) (h30 : w.cell? ⟨b, off + 3 * 3, none⟩ = some (.int .i64 x3)) (h31 : w.cell? ⟨b, off + 3 * 3 + 1, none⟩ = some (.int .i64 y3)) (h32 : w.cell? ⟨b, off + 3 * 3 + 2, none⟩ = some (.int .i64 z3)) : RdP w b off [⟨x0, y0, z0⟩, ⟨x1, y1, z1⟩, ⟨x2, y2, z2⟩, ⟨x3, y3, z3⟩] := by
  intro i a ha
  match i, ha with
  | 0, ha => simp at ha; subst ha; exact ⟨h00, h01, h02⟩
  | 1, ha => simp at ha; subst ha; exact ⟨h10, h11, h12⟩
  | 2, ha => simp at ha; subst ha; exact ⟨h20, h21, h22⟩
  | 3, ha => simp at ha; subst ha; exact ⟨h30, h31, h32⟩
  | i + 4, ha => simp at ha
theorem rdp5 {w : World} {b off : Nat} {x0 y0 z0 x1 y1 z1 x2 y2 z2 x3 y3 z3 x4 y4 z4 : Int} (h00 : w.cell? ⟨b, off + 0 * 3, none⟩ = some (.int .i64 x0)) (h01 : w.cell? ⟨b, off + 0 * 3 + 1, none⟩ = some (.int .i64 y0)) (h02 : w.cell? ⟨b, off + 0 * 3 + 2, none⟩ = some (.int .i64 z0)) (h10 : w.cell? ⟨b, off + 1 * 3, none⟩ = some (.int .i64 x1)) (h11 : w.cell? ⟨b, off + 1 * 3 + 1, none⟩ = some (.int .i64 y1)) (h12 : w.cell? ⟨b, off + 1 * 3 + 2, none⟩ = some (.int .i64 z1)) (h20 : w.cell? ⟨b, off + 2 * 3, none⟩ = some (.int .i64 x2)) (h21 : w.cell? ⟨b, off + 2 * 3 + 1, none⟩ = some (.int .i64 y2)) (h22 : w.cell? ⟨b, off + 2 * 3 + 2, none⟩ = some (.int .i64 z2)) (h30 : w.cell? ⟨b, off + 3 * 3, none⟩ = some (.int .i64 x3)) (h31 : w.cell? ⟨b, off + 3 * 3 + 1, none⟩ = some (.int .i64 y3)) (h32 : w.cell? ⟨b, off + 3 * 3 + 2, none⟩ = some (.int .i64 z3)) (h40 : w.cell? ⟨b, off + 4 * 3, none⟩ = some (.int .i64 x4)) (h41 : w.cell? ⟨b, off + 4 * 3 + 1, none⟩ = some (.int .i64 y4)) (h42 : w.cell? ⟨b, off + 4 * 3 + 2, none⟩ = some (.int .i64 z4)) : RdP w b off [⟨x0, y0, z0⟩, ⟨x1, y1, z1⟩, ⟨x2, y2, z2⟩, ⟨x3, y3, z3⟩, ⟨x4, y4, z4⟩] := by
  intro i a ha
  match i, ha with
  | 0, ha => simp at ha; subst ha; exact ⟨h00, h01, h02⟩
  | 1, ha => simp at ha; subst ha; exact ⟨h10, h11, h12⟩
  | 2, ha => simp at ha; subst ha; exact ⟨h20, h21, h22⟩
  | 3, ha => simp at ha; subst ha; exact ⟨h30, h31, h32⟩
  | 4, ha => simp at ha; subst ha; exact ⟨h40, h41, h42⟩
  | i + 5, ha => simp at ha
theorem all_snoc {α : Type} {f : α → Bool} {ps : List α} {k : Nat} {a : α} (h : ps[k]? = some a) : (ps.take (k + 1)).all f = ((ps.take k).all f && f a) := by
  rw [List.take_add_one, h, List.all_append]
  simp
theorem all_take {α : Type} {f : α → Bool} {ps : List α} {k : Nat} (h : (ps.take k).all f = false) : ps.all f = false := by
  rw [← Bool.not_eq_true] at *
  intro h'
  apply h
  rw [List.all_eq_true] at *
  exact fun x hx => h' x (List.mem_of_mem_take hx)

theorem IsPoint_is (p x y z : Int) (w : World) :
    Calls Try.prog 151 #[.int .i64 p, .agg #[.int .i64 x, .int .i64 y, .int .i64 z]] w fun e w' => e = .returned (.bool (isPt p ⟨x, y, z⟩)) ∧ Below w.heap.size w w' := IsPoint_any p x y z w
theorem IsLine_is (p x y z : Int) (w : World) :
    Calls Try.prog 163 #[.int .i64 p, .agg #[.int .i64 x, .int .i64 y, .int .i64 z]] w fun e w' => e = .returned (.bool (isPt p ⟨x, y, z⟩)) ∧ Below w.heap.size w w' := IsLine_any p x y z w
theorem l01Point_is (p x y z : Int) (w : World) :
    Calls Try.prog 135 #[.int .i64 p, .agg #[.int .i64 x, .int .i64 y, .int .i64 z]] w fun e w' => e = .returned (.bool (isPt p ⟨x, y, z⟩)) ∧ Below w.heap.size w w' := l01Point_any p x y z w
set_option maxHeartbeats 400000 in
theorem arePoints_any (p : Int) (b off cap : Nat) (ps : List P3) (w : World) (hc : RdP w b off ps) (hbl : b < w.heap.size) (hm : ps.length ≤ 1000000) :
    Calls Try.prog 98 #[.int .i64 p, .slice (some ⟨b, off, none⟩) ps.length cap] w fun e w' => e = .returned (.bool (allPt p ps)) ∧ Below w.heap.size w w' := by
  go_enter Try.func98, Try.ntmps98
  go_wp2
  go_loopw [9] (fun i wr => ∃ k : Nat, k ≤ ps.length ∧ i = .int .i64 k ∧ Below w.heap.size w wr ∧ (ps.take k).all (isPt p) = true) (fun i _ => ps.length - (intOf i).toNat)
  case atStart => exact ⟨0, Nat.zero_le _, rfl, Below.refl _ _, rfl⟩
  case round =>
    obtain ⟨k, hk, rfl, hB, hrel⟩ := hrel
    have H := Lib.hid hrel; clear hrel
    have hBz := hB.size
    by_cases hlt : k < ps.length
    · obtain ⟨x, y, z, hx, hy, hz, hg⟩ := (hc.below hB hbl).get hlt
      cases hi : isPt p ⟨x, y, z⟩
      · have hn : Hid (allPt p ps = false) := all_take (k := k + 1) (by rw [all_snoc hg.out, hi, Bool.and_false])
        go_wp2_with (go_at_call 151; refine (IsPoint_is _ _ _ _ _).mono ?_; rintro e w1 ⟨rfl, hb1⟩; obtain ⟨hc1, hf1⟩ := bcell hb1; have hz1 := hb1.size; (try simp only [World.size_alloc, World.size_setCell, World.size_drew] at hz1); (try (have hy1w0 : w.heap.size < w1.heap.size := by omega)); (try (have hy1w1 : w.heap.size + 1 < w1.heap.size := by omega)); (try (have hy1w2 : w.heap.size + 1 + 1 < w1.heap.size := by omega)); (try (have hy1w3 : w.heap.size + 1 + 1 + 1 < w1.heap.size := by omega)); (try (have hy1w4 : w.heap.size + 1 + 1 + 1 + 1 < w1.heap.size := by omega)))
        go_ret
        exact ⟨ret_bool hn.out.symm, by (repeat' (first | (with_reducible exact Below.refl _ _) | (with_reducible assumption) | (with_reducible refine Below.alloc ?_ ?_ _) | (with_reducible refine Below.drew ?_) | (with_reducible refine below_drewN ?_ _) | (with_reducible refine Below.setCell ?_ ?_ _) | (refine Below.step ?_ (by with_reducible assumption) ?_) | go_size))⟩
      · have hn : Hid ((ps.take (k + 1)).all (isPt p) = true) := by show _ = _; rw [all_snoc hg.out, hi, H.out]; rfl
        go_wp2_with (go_at_call 151; refine (IsPoint_is _ _ _ _ _).mono ?_; rintro e w1 ⟨rfl, hb1⟩; obtain ⟨hc1, hf1⟩ := bcell hb1; have hz1 := hb1.size; (try simp only [World.size_alloc, World.size_setCell, World.size_drew] at hz1); (try (have hy1w0 : w.heap.size < w1.heap.size := by omega)); (try (have hy1w1 : w.heap.size + 1 < w1.heap.size := by omega)); (try (have hy1w2 : w.heap.size + 1 + 1 < w1.heap.size := by omega)); (try (have hy1w3 : w.heap.size + 1 + 1 + 1 < w1.heap.size := by omega)); (try (have hy1w4 : w.heap.size + 1 + 1 + 1 + 1 < w1.heap.size := by omega)))
        go_roundw
        case rel => exact ⟨k + 1, by omega, by go_num, by (repeat' (first | (with_reducible exact Below.refl _ _) | (with_reducible assumption) | (with_reducible refine Below.alloc ?_ ?_ _) | (with_reducible refine Below.drew ?_) | (with_reducible refine below_drewN ?_ _) | (with_reducible refine Below.setCell ?_ ?_ _) | (refine Below.step ?_ (by with_reducible assumption) ?_) | go_size)), hn.out⟩
        case measure => simp [intOf]; omega
    · have hn : Hid (allPt p ps = true) := by show _ = _; have := H.out; unfold allPt; rwa [List.take_of_length_le (by omega)] at this
      go_wp2
      go_ret
      exact ⟨ret_bool hn.out.symm, hB⟩

set_option maxHeartbeats 400000 in
theorem areLines_any (p : Int) (b off cap : Nat) (ps : List P3) (w : World) (hc : RdP w b off ps) (hbl : b < w.heap.size) (hm : ps.length ≤ 1000000) :
    Calls Try.prog 115 #[.int .i64 p, .slice (some ⟨b, off, none⟩) ps.length cap] w fun e w' => e = .returned (.bool (allPt p ps)) ∧ Below w.heap.size w w' := by
  go_enter Try.func115, Try.ntmps115
  go_wp2
  go_loopw [9] (fun i wr => ∃ k : Nat, k ≤ ps.length ∧ i = .int .i64 k ∧ Below w.heap.size w wr ∧ (ps.take k).all (isPt p) = true) (fun i _ => ps.length - (intOf i).toNat)
  case atStart => exact ⟨0, Nat.zero_le _, rfl, Below.refl _ _, rfl⟩
  case round =>
    obtain ⟨k, hk, rfl, hB, hrel⟩ := hrel
    have H := Lib.hid hrel; clear hrel
    have hBz := hB.size
    by_cases hlt : k < ps.length
    · obtain ⟨x, y, z, hx, hy, hz, hg⟩ := (hc.below hB hbl).get hlt
      cases hi : isPt p ⟨x, y, z⟩
      · have hn : Hid (allPt p ps = false) := all_take (k := k + 1) (by rw [all_snoc hg.out, hi, Bool.and_false])
        go_wp2_with (go_at_call 163; refine (IsLine_is _ _ _ _ _).mono ?_; rintro e w1 ⟨rfl, hb1⟩; obtain ⟨hc1, hf1⟩ := bcell hb1; have hz1 := hb1.size; (try simp only [World.size_alloc, World.size_setCell, World.size_drew] at hz1); (try (have hy1w0 : w.heap.size < w1.heap.size := by omega)); (try (have hy1w1 : w.heap.size + 1 < w1.heap.size := by omega)); (try (have hy1w2 : w.heap.size + 1 + 1 < w1.heap.size := by omega)); (try (have hy1w3 : w.heap.size + 1 + 1 + 1 < w1.heap.size := by omega)); (try (have hy1w4 : w.heap.size + 1 + 1 + 1 + 1 < w1.heap.size := by omega)))
        go_ret
        exact ⟨ret_bool hn.out.symm, by (repeat' (first | (with_reducible exact Below.refl _ _) | (with_reducible assumption) | (with_reducible refine Below.alloc ?_ ?_ _) | (with_reducible refine Below.drew ?_) | (with_reducible refine below_drewN ?_ _) | (with_reducible refine Below.setCell ?_ ?_ _) | (refine Below.step ?_ (by with_reducible assumption) ?_) | go_size))⟩
      · have hn : Hid ((ps.take (k + 1)).all (isPt p) = true) := by show _ = _; rw [all_snoc hg.out, hi, H.out]; rfl
        go_wp2_with (go_at_call 163; refine (IsLine_is _ _ _ _ _).mono ?_; rintro e w1 ⟨rfl, hb1⟩; obtain ⟨hc1, hf1⟩ := bcell hb1; have hz1 := hb1.size; (try simp only [World.size_alloc, World.size_setCell, World.size_drew] at hz1); (try (have hy1w0 : w.heap.size < w1.heap.size := by omega)); (try (have hy1w1 : w.heap.size + 1 < w1.heap.size := by omega)); (try (have hy1w2 : w.heap.size + 1 + 1 < w1.heap.size := by omega)); (try (have hy1w3 : w.heap.size + 1 + 1 + 1 < w1.heap.size := by omega)); (try (have hy1w4 : w.heap.size + 1 + 1 + 1 + 1 < w1.heap.size := by omega)))
        go_roundw
        case rel => exact ⟨k + 1, by omega, by go_num, by (repeat' (first | (with_reducible exact Below.refl _ _) | (with_reducible assumption) | (with_reducible refine Below.alloc ?_ ?_ _) | (with_reducible refine Below.drew ?_) | (with_reducible refine below_drewN ?_ _) | (with_reducible refine Below.setCell ?_ ?_ _) | (refine Below.step ?_ (by with_reducible assumption) ?_) | go_size)), hn.out⟩
        case measure => simp [intOf]; omega
    · have hn : Hid (allPt p ps = true) := by show _ = _; have := H.out; unfold allPt; rwa [List.take_of_length_le (by omega)] at this
      go_wp2
      go_ret
      exact ⟨ret_bool hn.out.symm, hB⟩

set_option maxHeartbeats 400000 in
theorem determinant_any (p a0 a1 a2 b0 b1 b2 c0 c1 c2 : Int) (w : World) (k1 : 3 ≤ p) (k2 : p ≤ 13) (sa0 : sm a0) (sa1 : sm a1) (sa2 : sm a2) (sb0 : sm b0) (sb1 : sm b1) (sb2 : sm b2) (sc0 : sm c0) (sc1 : sm c1) (sc2 : sm c2) :
    Calls Try.prog 164 #[.int .i64 p, .agg #[.int .i64 a0, .int .i64 a1, .int .i64 a2], .agg #[.int .i64 b0, .int .i64 b1, .int .i64 b2], .agg #[.int .i64 c0, .int .i64 c1, .int .i64 c2]] w fun e w' => e = .returned (.int .i64 (det3 p a0 a1 a2 b0 b1 b2 c0 c1 c2)) ∧ Below w.heap.size w w' := by
  have ⟨la0, ua0⟩ := sa0; have ⟨la1, ua1⟩ := sa1; have ⟨la2, ua2⟩ := sa2; have ⟨lb0, ub0⟩ := sb0; have ⟨lb1, ub1⟩ := sb1; have ⟨lb2, ub2⟩ := sb2; have ⟨lc0, uc0⟩ := sc0; have ⟨lc1, uc1⟩ := sc1; have ⟨lc2, uc2⟩ := sc2
  have ⟨eb1c2, fb1c2⟩ := mul_bd (a := b1) (b := c2) (A := 12) (B := 12) (by omega) (by omega) (by omega) (by omega); have ⟨eb2c1, fb2c1⟩ := mul_bd (a := b2) (b := c1) (A := 12) (B := 12) (by omega) (by omega) (by omega) (by omega); have ⟨eb0c2, fb0c2⟩ := mul_bd (a := b0) (b := c2) (A := 12) (B := 12) (by omega) (by omega) (by omega) (by omega); have ⟨eb2c0, fb2c0⟩ := mul_bd (a := b2) (b := c0) (A := 12) (B := 12) (by omega) (by omega) (by omega) (by omega); have ⟨eb0c1, fb0c1⟩ := mul_bd (a := b0) (b := c1) (A := 12) (B := 12) (by omega) (by omega) (by omega) (by omega); have ⟨eb1c0, fb1c0⟩ := mul_bd (a := b1) (b := c0) (A := 12) (B := 12) (by omega) (by omega) (by omega) (by omega)
  have ⟨g0, h0⟩ := mul_bs (a := a0) (b := b1 * c2 - b2 * c1) (A := 12) (B := 144) (by omega) (by omega) (by omega) (by omega)
  have ⟨g1, h1⟩ := mul_bs (a := a1) (b := b0 * c2 - b2 * c0) (A := 12) (B := 144) (by omega) (by omega) (by omega) (by omega)
  have ⟨g2, h2⟩ := mul_bs (a := a2) (b := b0 * c1 - b1 * c0) (A := 12) (B := 144) (by omega) (by omega) (by omega) (by omega)
  go_enter Try.func164, Try.ntmps164
  go_wp2_with (go_at_call 73; refine (mod_any _ _ _ k1 k2).mono ?_; rintro e w' ⟨rfl, rfl⟩)
  go_returns
  exact ⟨rfl, by (repeat' (first | (with_reducible exact Below.refl _ _) | (with_reducible assumption) | (with_reducible refine Below.alloc ?_ ?_ _) | (with_reducible refine Below.drew ?_) | (with_reducible refine below_drewN ?_ _) | (with_reducible refine Below.setCell ?_ ?_ _) | (refine Below.step ?_ (by with_reducible assumption) ?_) | go_size))⟩

set_option maxHeartbeats 400000 in
theorem l01Det_any (p a0 a1 a2 b0 b1 b2 c0 c1 c2 : Int) (w : World) (k1 : 3 ≤ p) (k2 : p ≤ 13) (sa0 : sm a0) (sa1 : sm a1) (sa2 : sm a2) (sb0 : sm b0) (sb1 : sm b1) (sb2 : sm b2) (sc0 : sm c0) (sc1 : sm c1) (sc2 : sm c2) :
    Calls Try.prog 111 #[.int .i64 p, .agg #[.int .i64 a0, .int .i64 a1, .int .i64 a2], .agg #[.int .i64 b0, .int .i64 b1, .int .i64 b2], .agg #[.int .i64 c0, .int .i64 c1, .int .i64 c2]] w fun e w' => e = .returned (.int .i64 (det3 p a0 a1 a2 b0 b1 b2 c0 c1 c2)) ∧ Below w.heap.size w w' := by
  have ⟨la0, ua0⟩ := sa0; have ⟨la1, ua1⟩ := sa1; have ⟨la2, ua2⟩ := sa2; have ⟨lb0, ub0⟩ := sb0; have ⟨lb1, ub1⟩ := sb1; have ⟨lb2, ub2⟩ := sb2; have ⟨lc0, uc0⟩ := sc0; have ⟨lc1, uc1⟩ := sc1; have ⟨lc2, uc2⟩ := sc2
  have ⟨eb1c2, fb1c2⟩ := mul_bd (a := b1) (b := c2) (A := 12) (B := 12) (by omega) (by omega) (by omega) (by omega); have ⟨eb2c1, fb2c1⟩ := mul_bd (a := b2) (b := c1) (A := 12) (B := 12) (by omega) (by omega) (by omega) (by omega); have ⟨eb0c2, fb0c2⟩ := mul_bd (a := b0) (b := c2) (A := 12) (B := 12) (by omega) (by omega) (by omega) (by omega); have ⟨eb2c0, fb2c0⟩ := mul_bd (a := b2) (b := c0) (A := 12) (B := 12) (by omega) (by omega) (by omega) (by omega); have ⟨eb0c1, fb0c1⟩ := mul_bd (a := b0) (b := c1) (A := 12) (B := 12) (by omega) (by omega) (by omega) (by omega); have ⟨eb1c0, fb1c0⟩ := mul_bd (a := b1) (b := c0) (A := 12) (B := 12) (by omega) (by omega) (by omega) (by omega)
  have ⟨g0, h0⟩ := mul_bs (a := a0) (b := b1 * c2 - b2 * c1) (A := 12) (B := 144) (by omega) (by omega) (by omega) (by omega)
  have ⟨g1, h1⟩ := mul_bs (a := a1) (b := b2 * c0 - b0 * c2) (A := 12) (B := 144) (by omega) (by omega) (by omega) (by omega)
  have ⟨g2, h2⟩ := mul_bs (a := a2) (b := b0 * c1 - b1 * c0) (A := 12) (B := 144) (by omega) (by omega) (by omega) (by omega)
  go_enter Try.func111, Try.ntmps111
  go_wp2_with (go_at_call 69; refine (l01Mod_any _ _ _ k1 k2).mono ?_; rintro e w' ⟨rfl, rfl⟩)
  go_returns
  exact ⟨ret_int (by unfold det3; exact congrArg (· % p) (by grind)), by (repeat' (first | (with_reducible exact Below.refl _ _) | (with_reducible assumption) | (with_reducible refine Below.alloc ?_ ?_ _) | (with_reducible refine Below.drew ?_) | (with_reducible refine below_drewN ?_ _) | (with_reducible refine Below.setCell ?_ ?_ _) | (refine Below.step ?_ (by with_reducible assumption) ?_) | go_size))⟩

set_option maxHeartbeats 400000 in
theorem collinear_any (p a0 a1 a2 b0 b1 b2 c0 c1 c2 : Int) (w : World) (k1 : 3 ≤ p) (k2 : p ≤ 13) (sa0 : sm a0) (sa1 : sm a1) (sa2 : sm a2) (sb0 : sm b0) (sb1 : sm b1) (sb2 : sm b2) (sc0 : sm c0) (sc1 : sm c1) (sc2 : sm c2) :
    Calls Try.prog 117 #[.int .i64 p, .agg #[.int .i64 a0, .int .i64 a1, .int .i64 a2], .agg #[.int .i64 b0, .int .i64 b1, .int .i64 b2], .agg #[.int .i64 c0, .int .i64 c1, .int .i64 c2]] w fun e w' => e = .returned (.bool (det3 p a0 a1 a2 b0 b1 b2 c0 c1 c2 == 0)) ∧ Below w.heap.size w w' := by
  go_enter Try.func117, Try.ntmps117
  go_wp2_with (go_at_call 164; refine (determinant_any _ _ _ _ _ _ _ _ _ _ _ k1 k2 sa0 sa1 sa2 sb0 sb1 sb2 sc0 sc1 sc2).mono ?_; rintro e w1 ⟨rfl, hb1⟩; obtain ⟨hc1, hf1⟩ := bcell hb1; have hz1 := hb1.size; (try simp only [World.size_alloc, World.size_setCell, World.size_drew] at hz1); (try (have hy1w0 : w.heap.size < w1.heap.size := by omega)); (try (have hy1w1 : w.heap.size + 1 < w1.heap.size := by omega)); (try (have hy1w2 : w.heap.size + 1 + 1 < w1.heap.size := by omega)); (try (have hy1w3 : w.heap.size + 1 + 1 + 1 < w1.heap.size := by omega)); (try (have hy1w4 : w.heap.size + 1 + 1 + 1 + 1 < w1.heap.size := by omega)))
  go_returns
  exact ⟨rfl, by (repeat' (first | (with_reducible exact Below.refl _ _) | (with_reducible assumption) | (with_reducible refine Below.alloc ?_ ?_ _) | (with_reducible refine Below.drew ?_) | (with_reducible refine below_drewN ?_ _) | (with_reducible refine Below.setCell ?_ ?_ _) | (refine Below.step ?_ (by with_reducible assumption) ?_) | go_size))⟩

set_option maxHeartbeats 400000 in
theorem dot_any (p a0 a1 a2 b0 b1 b2 : Int) (w : World) (k1 : 3 ≤ p) (k2 : p ≤ 13) (sa0 : sm a0) (sa1 : sm a1) (sa2 : sm a2) (sb0 : sm b0) (sb1 : sm b1) (sb2 : sm b2) :
    Calls Try.prog 120 #[.int .i64 p, .agg #[.int .i64 a0, .int .i64 a1, .int .i64 a2], .agg #[.int .i64 b0, .int .i64 b1, .int .i64 b2]] w fun e w' => e = .returned (.int .i64 (dot3 p a0 a1 a2 b0 b1 b2)) ∧ Below w.heap.size w w' := by
  have ⟨la0, ua0⟩ := sa0; have ⟨la1, ua1⟩ := sa1; have ⟨la2, ua2⟩ := sa2; have ⟨lb0, ub0⟩ := sb0; have ⟨lb1, ub1⟩ := sb1; have ⟨lb2, ub2⟩ := sb2
  have ⟨ea0b0, fa0b0⟩ := mul_bd (a := a0) (b := b0) (A := 12) (B := 12) (by omega) (by omega) (by omega) (by omega); have ⟨ea1b1, fa1b1⟩ := mul_bd (a := a1) (b := b1) (A := 12) (B := 12) (by omega) (by omega) (by omega) (by omega); have ⟨ea2b2, fa2b2⟩ := mul_bd (a := a2) (b := b2) (A := 12) (B := 12) (by omega) (by omega) (by omega) (by omega)
  go_enter Try.func120, Try.ntmps120
  go_wp2_with (go_at_call 73; refine (mod_any _ _ _ k1 k2).mono ?_; rintro e w' ⟨rfl, rfl⟩)
  go_returns
  exact ⟨rfl, by (repeat' (first | (with_reducible exact Below.refl _ _) | (with_reducible assumption) | (with_reducible refine Below.alloc ?_ ?_ _) | (with_reducible refine Below.drew ?_) | (with_reducible refine below_drewN ?_ _) | (with_reducible refine Below.setCell ?_ ?_ _) | (refine Below.step ?_ (by with_reducible assumption) ?_) | go_size))⟩

set_option maxHeartbeats 400000 in
theorem isOn_any (p a0 a1 a2 b0 b1 b2 : Int) (w : World) (k1 : 3 ≤ p) (k2 : p ≤ 13) (sa0 : sm a0) (sa1 : sm a1) (sa2 : sm a2) (sb0 : sm b0) (sb1 : sm b1) (sb2 : sm b2) :
    Calls Try.prog 116 #[.int .i64 p, .agg #[.int .i64 a0, .int .i64 a1, .int .i64 a2], .agg #[.int .i64 b0, .int .i64 b1, .int .i64 b2]] w fun e w' => e = .returned (.bool (dot3 p a0 a1 a2 b0 b1 b2 == 0)) ∧ Below w.heap.size w w' := by
  go_enter Try.func116, Try.ntmps116
  go_wp2_with (go_at_call 120; refine (dot_any _ _ _ _ _ _ _ _ k1 k2 sa0 sa1 sa2 sb0 sb1 sb2).mono ?_; rintro e w1 ⟨rfl, hb1⟩; obtain ⟨hc1, hf1⟩ := bcell hb1; have hz1 := hb1.size; (try simp only [World.size_alloc, World.size_setCell, World.size_drew] at hz1); (try (have hy1w0 : w.heap.size < w1.heap.size := by omega)); (try (have hy1w1 : w.heap.size + 1 < w1.heap.size := by omega)); (try (have hy1w2 : w.heap.size + 1 + 1 < w1.heap.size := by omega)); (try (have hy1w3 : w.heap.size + 1 + 1 + 1 < w1.heap.size := by omega)); (try (have hy1w4 : w.heap.size + 1 + 1 + 1 + 1 < w1.heap.size := by omega)))
  go_returns
  exact ⟨rfl, by (repeat' (first | (with_reducible exact Below.refl _ _) | (with_reducible assumption) | (with_reducible refine Below.alloc ?_ ?_ _) | (with_reducible refine Below.drew ?_) | (with_reducible refine below_drewN ?_ _) | (with_reducible refine Below.setCell ?_ ?_ _) | (refine Below.step ?_ (by with_reducible assumption) ?_) | go_size))⟩

set_option maxHeartbeats 400000 in
theorem l01On_any (p a0 a1 a2 b0 b1 b2 : Int) (w : World) (k1 : 3 ≤ p) (k2 : p ≤ 13) (sa0 : sm a0) (sa1 : sm a1) (sa2 : sm a2) (sb0 : sm b0) (sb1 : sm b1) (sb2 : sm b2) :
    Calls Try.prog 107 #[.int .i64 p, .agg #[.int .i64 a0, .int .i64 a1, .int .i64 a2], .agg #[.int .i64 b0, .int .i64 b1, .int .i64 b2]] w fun e w' => e = .returned (.bool (dot3 p a0 a1 a2 b0 b1 b2 == 0)) ∧ Below w.heap.size w w' := by
  have ⟨la0, ua0⟩ := sa0; have ⟨la1, ua1⟩ := sa1; have ⟨la2, ua2⟩ := sa2; have ⟨lb0, ub0⟩ := sb0; have ⟨lb1, ub1⟩ := sb1; have ⟨lb2, ub2⟩ := sb2
  have ⟨ea0b0, fa0b0⟩ := mul_bd (a := a0) (b := b0) (A := 12) (B := 12) (by omega) (by omega) (by omega) (by omega); have ⟨ea1b1, fa1b1⟩ := mul_bd (a := a1) (b := b1) (A := 12) (B := 12) (by omega) (by omega) (by omega) (by omega); have ⟨ea2b2, fa2b2⟩ := mul_bd (a := a2) (b := b2) (A := 12) (B := 12) (by omega) (by omega) (by omega) (by omega)
  go_enter Try.func107, Try.ntmps107
  go_wp2
  go_returns
  exact ⟨rfl, by (repeat' (first | (with_reducible exact Below.refl _ _) | (with_reducible assumption) | (with_reducible refine Below.alloc ?_ ?_ _) | (with_reducible refine Below.drew ?_) | (with_reducible refine below_drewN ?_ _) | (with_reducible refine Below.setCell ?_ ?_ _) | (refine Below.step ?_ (by with_reducible assumption) ?_) | go_size))⟩

/-- What a call of a closure with these captured variables answers, in any world that keeps what lies below B. -/
def ClB (P : Program) (K : Nat) (caps : Array Value) (w : World) (ok : Bool) : Prop :=
  Calls P K caps w fun e w' => e = .returned (.bool ok) ∧ Below w.heap.size w w'
set_option maxHeartbeats 400000 in
theorem planeCode2 (p : Int) (K : Nat) (c1 c2 : Value) (ok : Bool) (w : World) (hrun : ∀ args w', (callFunc K args).run Try.prog w' = .ok (.enter K args) w') (hcl : isP p = true → ClB Try.prog K #[c1, c2] w ok) :
    Calls Try.prog 96 #[.int .i64 p, .func (.func K) #[] #[c1, c2]] w fun e w' => e = .returned (.int .i64 (codeOf p ok)) ∧ Below w.heap.size w w' := by
  cases hp : isP p
  · have hE : Hid (codeOf p ok = 2) := by show _ = _; unfold codeOf; rw [hp]; rfl
    go_enter Try.func96, Try.ntmps96
    go_wp2_with (go_at_call 61; refine (isPrime_any _ _).mono ?_; rintro e w' ⟨rfl, rfl⟩)
    go_returns
    exact ⟨ret_int hE.out.symm, by (repeat' (first | (with_reducible exact Below.refl _ _) | (with_reducible assumption) | (with_reducible refine Below.alloc ?_ ?_ _) | (with_reducible refine Below.drew ?_) | (with_reducible refine below_drewN ?_ _) | (with_reducible refine Below.setCell ?_ ?_ _) | (refine Below.step ?_ (by with_reducible assumption) ?_) | go_size))⟩
  · have hcl' := hcl hp
    clear hcl
    cases ok
    · have hE : Hid (codeOf p false = 1) := by show _ = _; unfold codeOf; rw [hp]; rfl
      go_enter Try.func96, Try.ntmps96
      go_wp2_with (first | (go_at_call 61; refine (isPrime_any _ _).mono ?_; rintro e w' ⟨rfl, rfl⟩) | (refine Calls.mono (show Calls _ _ _ _ _ from hcl') ?_; rintro e w1 ⟨rfl, hb1⟩))
      go_returns
      exact ⟨ret_int hE.out.symm, by (repeat' (first | (with_reducible exact Below.refl _ _) | (with_reducible assumption) | (with_reducible refine Below.alloc ?_ ?_ _) | (with_reducible refine Below.drew ?_) | (with_reducible refine below_drewN ?_ _) | (with_reducible refine Below.setCell ?_ ?_ _) | (refine Below.step ?_ (by with_reducible assumption) ?_) | go_size))⟩
    · have hE : Hid (codeOf p true = 0) := by show _ = _; unfold codeOf; rw [hp]; rfl
      go_enter Try.func96, Try.ntmps96
      go_wp2_with (first | (go_at_call 61; refine (isPrime_any _ _).mono ?_; rintro e w' ⟨rfl, rfl⟩) | (refine Calls.mono (show Calls _ _ _ _ _ from hcl') ?_; rintro e w1 ⟨rfl, hb1⟩))
      go_returns
      exact ⟨ret_int hE.out.symm, by (repeat' (first | (with_reducible exact Below.refl _ _) | (with_reducible assumption) | (with_reducible refine Below.alloc ?_ ?_ _) | (with_reducible refine Below.drew ?_) | (with_reducible refine below_drewN ?_ _) | (with_reducible refine Below.setCell ?_ ?_ _) | (refine Below.step ?_ (by with_reducible assumption) ?_) | go_size))⟩

set_option maxHeartbeats 400000 in
theorem planeCode3 (p : Int) (K : Nat) (c1 c2 c3 : Value) (ok : Bool) (w : World) (hrun : ∀ args w', (callFunc K args).run Try.prog w' = .ok (.enter K args) w') (hcl : isP p = true → ClB Try.prog K #[c1, c2, c3] w ok) :
    Calls Try.prog 96 #[.int .i64 p, .func (.func K) #[] #[c1, c2, c3]] w fun e w' => e = .returned (.int .i64 (codeOf p ok)) ∧ Below w.heap.size w w' := by
  cases hp : isP p
  · have hE : Hid (codeOf p ok = 2) := by show _ = _; unfold codeOf; rw [hp]; rfl
    go_enter Try.func96, Try.ntmps96
    go_wp2_with (go_at_call 61; refine (isPrime_any _ _).mono ?_; rintro e w' ⟨rfl, rfl⟩)
    go_returns
    exact ⟨ret_int hE.out.symm, by (repeat' (first | (with_reducible exact Below.refl _ _) | (with_reducible assumption) | (with_reducible refine Below.alloc ?_ ?_ _) | (with_reducible refine Below.drew ?_) | (with_reducible refine below_drewN ?_ _) | (with_reducible refine Below.setCell ?_ ?_ _) | (refine Below.step ?_ (by with_reducible assumption) ?_) | go_size))⟩
  · have hcl' := hcl hp
    clear hcl
    cases ok
    · have hE : Hid (codeOf p false = 1) := by show _ = _; unfold codeOf; rw [hp]; rfl
      go_enter Try.func96, Try.ntmps96
      go_wp2_with (first | (go_at_call 61; refine (isPrime_any _ _).mono ?_; rintro e w' ⟨rfl, rfl⟩) | (refine Calls.mono (show Calls _ _ _ _ _ from hcl') ?_; rintro e w1 ⟨rfl, hb1⟩))
      go_returns
      exact ⟨ret_int hE.out.symm, by (repeat' (first | (with_reducible exact Below.refl _ _) | (with_reducible assumption) | (with_reducible refine Below.alloc ?_ ?_ _) | (with_reducible refine Below.drew ?_) | (with_reducible refine below_drewN ?_ _) | (with_reducible refine Below.setCell ?_ ?_ _) | (refine Below.step ?_ (by with_reducible assumption) ?_) | go_size))⟩
    · have hE : Hid (codeOf p true = 0) := by show _ = _; unfold codeOf; rw [hp]; rfl
      go_enter Try.func96, Try.ntmps96
      go_wp2_with (first | (go_at_call 61; refine (isPrime_any _ _).mono ?_; rintro e w' ⟨rfl, rfl⟩) | (refine Calls.mono (show Calls _ _ _ _ _ from hcl') ?_; rintro e w1 ⟨rfl, hb1⟩))
      go_returns
      exact ⟨ret_int hE.out.symm, by (repeat' (first | (with_reducible exact Below.refl _ _) | (with_reducible assumption) | (with_reducible refine Below.alloc ?_ ?_ _) | (with_reducible refine Below.drew ?_) | (with_reducible refine below_drewN ?_ _) | (with_reducible refine Below.setCell ?_ ?_ _) | (refine Below.step ?_ (by with_reducible assumption) ?_) | go_size))⟩

set_option maxHeartbeats 400000 in
theorem planeCode4 (p : Int) (K : Nat) (c1 c2 c3 c4 : Value) (ok : Bool) (w : World) (hrun : ∀ args w', (callFunc K args).run Try.prog w' = .ok (.enter K args) w') (hcl : isP p = true → ClB Try.prog K #[c1, c2, c3, c4] w ok) :
    Calls Try.prog 96 #[.int .i64 p, .func (.func K) #[] #[c1, c2, c3, c4]] w fun e w' => e = .returned (.int .i64 (codeOf p ok)) ∧ Below w.heap.size w w' := by
  cases hp : isP p
  · have hE : Hid (codeOf p ok = 2) := by show _ = _; unfold codeOf; rw [hp]; rfl
    go_enter Try.func96, Try.ntmps96
    go_wp2_with (go_at_call 61; refine (isPrime_any _ _).mono ?_; rintro e w' ⟨rfl, rfl⟩)
    go_returns
    exact ⟨ret_int hE.out.symm, by (repeat' (first | (with_reducible exact Below.refl _ _) | (with_reducible assumption) | (with_reducible refine Below.alloc ?_ ?_ _) | (with_reducible refine Below.drew ?_) | (with_reducible refine below_drewN ?_ _) | (with_reducible refine Below.setCell ?_ ?_ _) | (refine Below.step ?_ (by with_reducible assumption) ?_) | go_size))⟩
  · have hcl' := hcl hp
    clear hcl
    cases ok
    · have hE : Hid (codeOf p false = 1) := by show _ = _; unfold codeOf; rw [hp]; rfl
      go_enter Try.func96, Try.ntmps96
      go_wp2_with (first | (go_at_call 61; refine (isPrime_any _ _).mono ?_; rintro e w' ⟨rfl, rfl⟩) | (refine Calls.mono (show Calls _ _ _ _ _ from hcl') ?_; rintro e w1 ⟨rfl, hb1⟩))
      go_returns
      exact ⟨ret_int hE.out.symm, by (repeat' (first | (with_reducible exact Below.refl _ _) | (with_reducible assumption) | (with_reducible refine Below.alloc ?_ ?_ _) | (with_reducible refine Below.drew ?_) | (with_reducible refine below_drewN ?_ _) | (with_reducible refine Below.setCell ?_ ?_ _) | (refine Below.step ?_ (by with_reducible assumption) ?_) | go_size))⟩
    · have hE : Hid (codeOf p true = 0) := by show _ = _; unfold codeOf; rw [hp]; rfl
      go_enter Try.func96, Try.ntmps96
      go_wp2_with (first | (go_at_call 61; refine (isPrime_any _ _).mono ?_; rintro e w' ⟨rfl, rfl⟩) | (refine Calls.mono (show Calls _ _ _ _ _ from hcl') ?_; rintro e w1 ⟨rfl, hb1⟩))
      go_returns
      exact ⟨ret_int hE.out.symm, by (repeat' (first | (with_reducible exact Below.refl _ _) | (with_reducible assumption) | (with_reducible refine Below.alloc ?_ ?_ _) | (with_reducible refine Below.drew ?_) | (with_reducible refine below_drewN ?_ _) | (with_reducible refine Below.setCell ?_ ?_ _) | (refine Below.step ?_ (by with_reducible assumption) ?_) | go_size))⟩

set_option maxHeartbeats 400000 in
theorem planeCode5 (p : Int) (K : Nat) (c1 c2 c3 c4 c5 : Value) (ok : Bool) (w : World) (hrun : ∀ args w', (callFunc K args).run Try.prog w' = .ok (.enter K args) w') (hcl : isP p = true → ClB Try.prog K #[c1, c2, c3, c4, c5] w ok) :
    Calls Try.prog 96 #[.int .i64 p, .func (.func K) #[] #[c1, c2, c3, c4, c5]] w fun e w' => e = .returned (.int .i64 (codeOf p ok)) ∧ Below w.heap.size w w' := by
  cases hp : isP p
  · have hE : Hid (codeOf p ok = 2) := by show _ = _; unfold codeOf; rw [hp]; rfl
    go_enter Try.func96, Try.ntmps96
    go_wp2_with (go_at_call 61; refine (isPrime_any _ _).mono ?_; rintro e w' ⟨rfl, rfl⟩)
    go_returns
    exact ⟨ret_int hE.out.symm, by (repeat' (first | (with_reducible exact Below.refl _ _) | (with_reducible assumption) | (with_reducible refine Below.alloc ?_ ?_ _) | (with_reducible refine Below.drew ?_) | (with_reducible refine below_drewN ?_ _) | (with_reducible refine Below.setCell ?_ ?_ _) | (refine Below.step ?_ (by with_reducible assumption) ?_) | go_size))⟩
  · have hcl' := hcl hp
    clear hcl
    cases ok
    · have hE : Hid (codeOf p false = 1) := by show _ = _; unfold codeOf; rw [hp]; rfl
      go_enter Try.func96, Try.ntmps96
      go_wp2_with (first | (go_at_call 61; refine (isPrime_any _ _).mono ?_; rintro e w' ⟨rfl, rfl⟩) | (refine Calls.mono (show Calls _ _ _ _ _ from hcl') ?_; rintro e w1 ⟨rfl, hb1⟩))
      go_returns
      exact ⟨ret_int hE.out.symm, by (repeat' (first | (with_reducible exact Below.refl _ _) | (with_reducible assumption) | (with_reducible refine Below.alloc ?_ ?_ _) | (with_reducible refine Below.drew ?_) | (with_reducible refine below_drewN ?_ _) | (with_reducible refine Below.setCell ?_ ?_ _) | (refine Below.step ?_ (by with_reducible assumption) ?_) | go_size))⟩
    · have hE : Hid (codeOf p true = 0) := by show _ = _; unfold codeOf; rw [hp]; rfl
      go_enter Try.func96, Try.ntmps96
      go_wp2_with (first | (go_at_call 61; refine (isPrime_any _ _).mono ?_; rintro e w' ⟨rfl, rfl⟩) | (refine Calls.mono (show Calls _ _ _ _ _ from hcl') ?_; rintro e w1 ⟨rfl, hb1⟩))
      go_returns
      exact ⟨ret_int hE.out.symm, by (repeat' (first | (with_reducible exact Below.refl _ _) | (with_reducible assumption) | (with_reducible refine Below.alloc ?_ ?_ _) | (with_reducible refine Below.drew ?_) | (with_reducible refine below_drewN ?_ _) | (with_reducible refine Below.setCell ?_ ?_ _) | (refine Below.step ?_ (by with_reducible assumption) ?_) | go_size))⟩

set_option maxHeartbeats 400000 in
theorem pointsCode1_any (p : Int) (b cap u v : Nat) (ps : List P3) (w : World) (hc : RdP w b 0 ps) (hbl : b < w.heap.size) (hm : ps.length ≤ 1000000)
    (hu : w.cell? ⟨u, 0, none⟩ = some (.int .i64 p)) (hv : w.cell? ⟨v, 0, none⟩ = some (.slice (some ⟨b, 0, none⟩) ps.length cap)) :
    ClB Try.prog 136 #[.pointer (some ⟨u, 0, none⟩), .pointer (some ⟨v, 0, none⟩)] w (allPt p ps) := by
  unfold ClB
  go_enter Try.func136, Try.ntmps136
  go_wp2_with (go_at_call 98; refine (arePoints_any _ _ _ _ ps _ hc hbl hm).mono ?_; rintro e w1 ⟨rfl, hb1⟩; obtain ⟨hc1, hf1⟩ := bcell hb1; have hz1 := hb1.size; (try simp only [World.size_alloc, World.size_setCell, World.size_drew] at hz1); (try (have hy1w0 : w.heap.size < w1.heap.size := by omega)); (try (have hy1w1 : w.heap.size + 1 < w1.heap.size := by omega)); (try (have hy1w2 : w.heap.size + 1 + 1 < w1.heap.size := by omega)); (try (have hy1w3 : w.heap.size + 1 + 1 + 1 < w1.heap.size := by omega)); (try (have hy1w4 : w.heap.size + 1 + 1 + 1 + 1 < w1.heap.size := by omega)))
  go_returns
  exact ⟨rfl, by (repeat' (first | (with_reducible exact Below.refl _ _) | (with_reducible assumption) | (with_reducible refine Below.alloc ?_ ?_ _) | (with_reducible refine Below.drew ?_) | (with_reducible refine below_drewN ?_ _) | (with_reducible refine Below.setCell ?_ ?_ _) | (refine Below.step ?_ (by with_reducible assumption) ?_) | go_size))⟩

theorem RdP.alloc {w : World} {b off : Nat} {ps : List P3} (h : RdP w b off ps) (hlt : b < w.heap.size) (o : Obj) : RdP (w.alloc o) b off ps :=
  h.below ((Below.refl _ _).alloc (Nat.le_refl _) _) hlt
set_option maxHeartbeats 400000 in
theorem pointsCode_any (p : Int) (b cap : Nat) (ps : List P3) (w : World) (hc : RdP w b 0 ps) (hbl : b < w.heap.size) (hm : ps.length ≤ 1000000) :
    Calls Try.prog 81 #[.int .i64 p, .slice (some ⟨b, 0, none⟩) ps.length cap] w fun e w' => e = .returned (.int .i64 (codeOf p (allPt p ps))) ∧ Below w.heap.size w w' := by
  go_enter Try.func81, Try.ntmps81
  go_wp2_with (go_at_call 96; refine (planeCode2 _ _ _ _ _ _ (fun _ _ => by kernel_rfl) (fun _ => pointsCode1_any p b cap _ _ ps _ ((hc.alloc hbl _).alloc (by simp; omega) _) (by simp; omega) hm (by go_cell) (by go_cell))).mono ?_; rintro e w1 ⟨rfl, hb1⟩; obtain ⟨hc1, hf1⟩ := bcell hb1; have hz1 := hb1.size; (try simp only [World.size_alloc, World.size_setCell, World.size_drew] at hz1); (try (have hy1w0 : w.heap.size < w1.heap.size := by omega)); (try (have hy1w1 : w.heap.size + 1 < w1.heap.size := by omega)); (try (have hy1w2 : w.heap.size + 1 + 1 < w1.heap.size := by omega)); (try (have hy1w3 : w.heap.size + 1 + 1 + 1 < w1.heap.size := by omega)); (try (have hy1w4 : w.heap.size + 1 + 1 + 1 + 1 < w1.heap.size := by omega)))
  go_returns
  exact ⟨rfl, by (repeat' (first | (with_reducible exact Below.refl _ _) | (with_reducible assumption) | (with_reducible refine Below.alloc ?_ ?_ _) | (with_reducible refine Below.drew ?_) | (with_reducible refine below_drewN ?_ _) | (with_reducible refine Below.setCell ?_ ?_ _) | (refine Below.step ?_ (by with_reducible assumption) ?_) | go_size))⟩

end Go.Proofs.Ytjfabhkgmelmgaa
