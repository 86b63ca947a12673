/- ImageOfPoint: what the two functions return; no condition. -/
import Derived.Test.YthlmodofgoelbaaW29
import Derived.Test.YthlmodofgoelbaaW32
import Derived.Test.YthlmodofgoelbaaW33
namespace Go.Proofs.Ythlmodofgoelbaa
open Go.RowKit
set_option linter.unusedSimpArgs false
set_option linter.unusedVariables false
set_option maxRecDepth 100000

def imCode (p : Int) (m : M9) (a : P3) : Int := codeOf p (isMap p m && isPt p a)
def imR (p : Int) (m : M9) (a : P3) : P3 × Int := if imCode p m a = 0 then (imM p m a, 0) else (⟨0, 0, 0⟩, imCode p m a)
theorem im_sm {p : Int} {m : M9} {a : P3} (h : (isMap p m && isPt p a) = true) : isMap p m = true ∧ isPt p a = true := by simpa using h
set_option maxHeartbeats 2000000 in
theorem l02With_any (p m0 m1 m2 m3 m4 m5 m6 m7 m8 a0 a1 a2 : Int) (b cap : Nat) (w : World) (ha0 : w.cell? ⟨b, 0, none⟩ = some (.int .i64 a0)) (ha1 : w.cell? ⟨b, 1, none⟩ = some (.int .i64 a1)) (ha2 : w.cell? ⟨b, 2, none⟩ = some (.int .i64 a2)) :
    Calls Try.prog 61 #[.int .i64 p, .agg #[.int .i64 m0, .int .i64 m1, .int .i64 m2, .int .i64 m3, .int .i64 m4, .int .i64 m5, .int .i64 m6, .int .i64 m7, .int .i64 m8], .slice (some ⟨b, 0, none⟩) 1 cap] w fun e w' => e = .returned (.int .i64 (imCode p ⟨m0, m1, m2, m3, m4, m5, m6, m7, m8⟩ ⟨a0, a1, a2⟩)) ∧ Below w.heap.size w w' := by
  have hbl : b < w.heap.size := World.block_lt_of_cell? w _ ha0
  rcases mpCode3 p [⟨m0, m1, m2, m3, m4, m5, m6, m7, m8⟩] with hk | hk | ⟨hp, hok, hk⟩
  · have hE : Hid (imCode p ⟨m0, m1, m2, m3, m4, m5, m6, m7, m8⟩ ⟨a0, a1, a2⟩ = 2) := by
      show _ = _; unfold mpCode codeOf at hk; unfold imCode codeOf
      cases hp : isP p
      · rfl
      · rw [hp] at hk; revert hk; cases ([⟨m0, m1, m2, m3, m4, m5, m6, m7, m8⟩] : List M9).all (isMap p) <;> simp
    have HK := Lib.hid hk; clear hk
    go_enter Try.func61, Try.ntmps61
    go_wp2_with (go_at_call 53; refine (l02Code_any p _ _ _ [⟨m0, m1, m2, m3, m4, m5, m6, m7, m8⟩] _ (rdM9_1 (by go_cell) (by go_cell) (by go_cell) (by go_cell) (by go_cell) (by go_cell) (by go_cell) (by go_cell) (by go_cell)) (by go_size) (by simp)).mono ?_; rintro e w1 ⟨rfl, hb1⟩; obtain ⟨hc1, hf1⟩ := bcell hb1; have hz1 := hb1.size; (try simp only [World.size_alloc, World.size_setCell, World.size_drew] at hz1); (try (have hy1w0 : w.heap.size < w1.heap.size := by omega)); (try (have hy1w1 : w.heap.size + 1 < w1.heap.size := by omega)); (try (have hy1w2 : w.heap.size + 1 + 1 < w1.heap.size := by omega)); (try (have hy1w3 : w.heap.size + 1 + 1 + 1 < w1.heap.size := by omega)); (try (have hy1w4 : w.heap.size + 1 + 1 + 1 + 1 < w1.heap.size := by omega)); rw [HK.out])
    go_returns
    exact ⟨ret_int hE.out.symm, by (repeat' (first | (with_reducible exact Below.refl _ _) | (with_reducible assumption) | (with_reducible refine Below.alloc ?_ ?_ _) | (with_reducible refine Below.drew ?_) | (with_reducible refine below_drewN ?_ _) | (with_reducible refine Below.setCell ?_ ?_ _) | (refine Below.step ?_ (by with_reducible assumption) ?_) | go_size))⟩
  · have hE : Hid (imCode p ⟨m0, m1, m2, m3, m4, m5, m6, m7, m8⟩ ⟨a0, a1, a2⟩ = 1) := by
      show _ = _; unfold mpCode codeOf at hk; unfold imCode codeOf
      cases hp : isP p
      · rw [hp] at hk; revert hk; simp
      · rw [hp] at hk; revert hk; simp only [List.all_cons, List.all_nil, Bool.and_true]; cases isMap p ⟨m0, m1, m2, m3, m4, m5, m6, m7, m8⟩ <;> simp
    have HK := Lib.hid hk; clear hk
    go_enter Try.func61, Try.ntmps61
    go_wp2_with (go_at_call 53; refine (l02Code_any p _ _ _ [⟨m0, m1, m2, m3, m4, m5, m6, m7, m8⟩] _ (rdM9_1 (by go_cell) (by go_cell) (by go_cell) (by go_cell) (by go_cell) (by go_cell) (by go_cell) (by go_cell) (by go_cell)) (by go_size) (by simp)).mono ?_; rintro e w1 ⟨rfl, hb1⟩; obtain ⟨hc1, hf1⟩ := bcell hb1; have hz1 := hb1.size; (try simp only [World.size_alloc, World.size_setCell, World.size_drew] at hz1); (try (have hy1w0 : w.heap.size < w1.heap.size := by omega)); (try (have hy1w1 : w.heap.size + 1 < w1.heap.size := by omega)); (try (have hy1w2 : w.heap.size + 1 + 1 < w1.heap.size := by omega)); (try (have hy1w3 : w.heap.size + 1 + 1 + 1 < w1.heap.size := by omega)); (try (have hy1w4 : w.heap.size + 1 + 1 + 1 + 1 < w1.heap.size := by omega)); rw [HK.out])
    go_returns
    exact ⟨ret_int hE.out.symm, by (repeat' (first | (with_reducible exact Below.refl _ _) | (with_reducible assumption) | (with_reducible refine Below.alloc ?_ ?_ _) | (with_reducible refine Below.drew ?_) | (with_reducible refine below_drewN ?_ _) | (with_reducible refine Below.setCell ?_ ?_ _) | (refine Below.step ?_ (by with_reducible assumption) ?_) | go_size))⟩
  · have hE : Hid (imCode p ⟨m0, m1, m2, m3, m4, m5, m6, m7, m8⟩ ⟨a0, a1, a2⟩ = codeOf p (allPt p [⟨a0, a1, a2⟩])) := by
      show _ = _; unfold imCode; rw [(mp1 hok).1]; simp [allPt]
    have HK := Lib.hid hk; clear hk hok hp
    go_enter Try.func61, Try.ntmps61
    go_wp2_with (first | (go_at_call 53; refine (l02Code_any p _ _ _ [⟨m0, m1, m2, m3, m4, m5, m6, m7, m8⟩] _ (rdM9_1 (by go_cell) (by go_cell) (by go_cell) (by go_cell) (by go_cell) (by go_cell) (by go_cell) (by go_cell) (by go_cell)) (by go_size) (by simp)).mono ?_; rintro e w1 ⟨rfl, hb1⟩; obtain ⟨hc1, hf1⟩ := bcell hb1; have hz1 := hb1.size; (try simp only [World.size_alloc, World.size_setCell, World.size_drew] at hz1); (try (have hy1w0 : w.heap.size < w1.heap.size := by omega)); (try (have hy1w1 : w.heap.size + 1 < w1.heap.size := by omega)); (try (have hy1w2 : w.heap.size + 1 + 1 < w1.heap.size := by omega)); (try (have hy1w3 : w.heap.size + 1 + 1 + 1 < w1.heap.size := by omega)); (try (have hy1w4 : w.heap.size + 1 + 1 + 1 + 1 < w1.heap.size := by omega)); have q0 := keepC hb1 (b := b) (o := 0) (v := .int .i64 a0) (by go_cell); have q1 := keepC hb1 (b := b) (o := 1) (v := .int .i64 a1) (by go_cell); have q2 := keepC hb1 (b := b) (o := 2) (v := .int .i64 a2) (by go_cell); rw [HK.out]) | (go_at_call 96; refine (l01Code_any p b 0 cap [⟨a0, a1, a2⟩] _ (rdp1 (by simpa using q0) (by simpa using q1) (by simpa using q2)) (by go_size) (by simp)).mono ?_; rintro e w2 ⟨rfl, hb2⟩; obtain ⟨hc2, hf2⟩ := bcell hb2; have hz2 := hb2.size; (try simp only [World.size_alloc, World.size_setCell, World.size_drew] at hz2); (try (have hy2w0 : w.heap.size < w2.heap.size := by omega)); (try (have hy2w1 : w.heap.size + 1 < w2.heap.size := by omega)); (try (have hy2w2 : w.heap.size + 1 + 1 < w2.heap.size := by omega)); (try (have hy2w3 : w.heap.size + 1 + 1 + 1 < w2.heap.size := by omega)); (try (have hy2w4 : w.heap.size + 1 + 1 + 1 + 1 < w2.heap.size := by omega)); (try (have hy2w10 : w1.heap.size < w2.heap.size := by omega)); (try (have hy2w11 : w1.heap.size + 1 < w2.heap.size := by omega)); (try (have hy2w12 : w1.heap.size + 1 + 1 < w2.heap.size := by omega)); (try (have hy2w13 : w1.heap.size + 1 + 1 + 1 < w2.heap.size := by omega)); (try (have hy2w14 : w1.heap.size + 1 + 1 + 1 + 1 < w2.heap.size := by omega))))
    go_returns
    exact ⟨ret_int hE.out.symm, by (repeat' (first | (with_reducible exact Below.refl _ _) | (with_reducible assumption) | (with_reducible refine Below.alloc ?_ ?_ _) | (with_reducible refine Below.drew ?_) | (with_reducible refine below_drewN ?_ _) | (with_reducible refine Below.setCell ?_ ?_ _) | (refine Below.step ?_ (by with_reducible assumption) ?_) | go_size))⟩