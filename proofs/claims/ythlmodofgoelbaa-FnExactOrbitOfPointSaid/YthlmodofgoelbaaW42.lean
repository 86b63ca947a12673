/- OrbitOfPoint: what the two functions return; no condition on the exported ones. -/
import Derived.Test.YthlmodofgoelbaaW34
import Derived.Test.YthlmodofgoelbaaW41
namespace Go.Proofs.Ythlmodofgoelbaa
open Go.RowKit
set_option linter.unusedSimpArgs false
set_option linter.unusedVariables false
set_option maxRecDepth 100000

def PtsPostO (E : Nat) (R : List P3 × Int) (w : World) (e : Ending) (w' : World) : Prop :=
  ∃ v, e = .returned (.tuple #[v, .int .i64 R.2]) ∧ OwnA E 3 w' w.heap.size v (rowsP R.1) ∧ Below w.heap.size w w'
def obR (p : Int) (m : M9) (a : P3) (n : Nat) : List P3 × Int := if imCode p m a = 0 then (orbL p m a (n + 1), 0) else ([], imCode p m a)
theorem obR_len (p : Int) (m : M9) (a : P3) (n : Nat) (hn : n < 2197) : Hid ((rowsP (obR p m a n).1).length ≤ 1000000) := by
  show _ ≤ _
  rw [rowsP_len]; unfold obR
  split
  · simp only [orbL_len]; omega
  · simp
theorem imCode_ok {p : Int} {m : M9} {a : P3} (h : imCode p m a = 0) : isMap p m = true ∧ isPt p a = true := by
  rcases code3 p (isMap p m && isPt p a) with hk | hk | ⟨_, hok, _⟩
  · unfold imCode at h; rw [hk] at h; cases h
  · unfold imCode at h; rw [hk] at h; cases h
  · exact im_sm hok
theorem orb_ex (p : Int) (m : M9) (a : P3) : ∃ n, n < 2197 ∧ (imCode p m a = 0 → OrbN p m a n) := by
  by_cases h : imCode p m a = 0
  · obtain ⟨n, hn⟩ := orbit_ex (imCode_ok h).1 (imCode_ok h).2
    exact ⟨n, hn.1, fun _ => hn⟩
  · exact ⟨0, by omega, fun h' => absurd h' h⟩
set_option maxHeartbeats 1000000 in
theorem OrbitOfPoint1 (p m0 m1 m2 m3 m4 m5 m6 m7 m8 a0 a1 a2 : Int) (u v x : Nat) (w : World) (hu : w.cell? ⟨u, 0, none⟩ = some (.int .i64 p)) (hm0 : w.cell? ⟨v, 0, none⟩ = some (.int .i64 m0)) (hm1 : w.cell? ⟨v, 1, none⟩ = some (.int .i64 m1)) (hm2 : w.cell? ⟨v, 2, none⟩ = some (.int .i64 m2)) (hm3 : w.cell? ⟨v, 3, none⟩ = some (.int .i64 m3)) (hm4 : w.cell? ⟨v, 4, none⟩ = some (.int .i64 m4)) (hm5 : w.cell? ⟨v, 5, none⟩ = some (.int .i64 m5)) (hm6 : w.cell? ⟨v, 6, none⟩ = some (.int .i64 m6)) (hm7 : w.cell? ⟨v, 7, none⟩ = some (.int .i64 m7)) (hm8 : w.cell? ⟨v, 8, none⟩ = some (.int .i64 m8)) (ha0 : w.cell? ⟨x, 0, none⟩ = some (.int .i64 a0)) (ha1 : w.cell? ⟨x, 1, none⟩ = some (.int .i64 a1)) (ha2 : w.cell? ⟨x, 2, none⟩ = some (.int .i64 a2)) :
    ClB Try.prog 71 #[.pointer (some ⟨u, 0, none⟩), .pointer (some ⟨v, 0, none⟩), .pointer (some ⟨x, 0, none⟩)] w (isMap p ⟨m0, m1, m2, m3, m4, m5, m6, m7, m8⟩ && isPt p ⟨a0, a1, a2⟩) := by
  have hul : u < w.heap.size := World.block_lt_of_cell? w _ hu
  have hvl : v < w.heap.size := World.block_lt_of_cell? w _ hm0
  have hxl : x < w.heap.size := World.block_lt_of_cell? w _ ha0
  unfold ClB
  cases hq : isMap p ⟨m0, m1, m2, m3, m4, m5, m6, m7, m8⟩
  · have HQ := Lib.hid hq; clear hq
    go_enter Try.func71, Try.ntmps71
    go_wp2_with (go_at_call 65; refine (IsMap_any _ _ _ _ _ _ _ _ _ _ _).mono ?_; rintro e w1 ⟨rfl, hb1⟩; obtain ⟨hc1, hf1⟩ := bcell hb1; have hz1 := hb1.size; (try simp only [World.size_alloc, World.size_setCell, World.size_drew] at hz1); (try (have hy1w0 : w.heap.size < w1.heap.size := by omega)); (try (have hy1w1 : w.heap.size + 1 < w1.heap.size := by omega)); (try (have hy1w2 : w.heap.size + 1 + 1 < w1.heap.size := by omega)); (try (have hy1w3 : w.heap.size + 1 + 1 + 1 < w1.heap.size := by omega)); (try (have hy1w4 : w.heap.size + 1 + 1 + 1 + 1 < w1.heap.size := by omega)); rw [HQ.out])
    go_returns
    exact ⟨rfl, by (repeat' (first | (with_reducible exact Below.refl _ _) | (with_reducible assumption) | (with_reducible refine Below.alloc ?_ ?_ _) | (with_reducible refine Below.drew ?_) | (with_reducible refine below_drewN ?_ _) | (with_reducible refine Below.setCell ?_ ?_ _) | (refine Below.step ?_ (by with_reducible assumption) ?_) | go_size))⟩
  · have HQ := Lib.hid hq; clear hq
    go_enter Try.func71, Try.ntmps71
    go_wp2_with (first | (go_at_call 65; refine (IsMap_any _ _ _ _ _ _ _ _ _ _ _).mono ?_; rintro e w1 ⟨rfl, hb1⟩; obtain ⟨hc1, hf1⟩ := bcell hb1; have hz1 := hb1.size; (try simp only [World.size_alloc, World.size_setCell, World.size_drew] at hz1); (try (have hy1w0 : w.heap.size < w1.heap.size := by omega)); (try (have hy1w1 : w.heap.size + 1 < w1.heap.size := by omega)); (try (have hy1w2 : w.heap.size + 1 + 1 < w1.heap.size := by omega)); (try (have hy1w3 : w.heap.size + 1 + 1 + 1 < w1.heap.size := by omega)); (try (have hy1w4 : w.heap.size + 1 + 1 + 1 + 1 < w1.heap.size := by omega)); rw [HQ.out]) | (go_at_call 72; refine (IsPoint_any _ _ _ _ _).mono ?_; rintro e w2 ⟨rfl, hb2⟩; obtain ⟨hc2, hf2⟩ := bcell hb2; have hz2 := hb2.size; (try simp only [World.size_alloc, World.size_setCell, World.size_drew] at hz2); (try (have hy2w0 : w.heap.size < w2.heap.size := by omega)); (try (have hy2w1 : w.heap.size + 1 < w2.heap.size := by omega)); (try (have hy2w2 : w.heap.size + 1 + 1 < w2.heap.size := by omega)); (try (have hy2w3 : w.heap.size + 1 + 1 + 1 < w2.heap.size := by omega)); (try (have hy2w4 : w.heap.size + 1 + 1 + 1 + 1 < w2.heap.size := by omega)); (try (have hy2w10 : w1.heap.size < w2.heap.size := by omega)); (try (have hy2w11 : w1.heap.size + 1 < w2.heap.size := by omega)); (try (have hy2w12 : w1.heap.size + 1 + 1 < w2.heap.size := by omega)); (try (have hy2w13 : w1.heap.size + 1 + 1 + 1 < w2.heap.size := by omega)); (try (have hy2w14 : w1.heap.size + 1 + 1 + 1 + 1 < w2.heap.size := by omega))))
    go_returns
    exact ⟨ret_bool (by first | rfl | simp [isPt, P3.l]), by (repeat' (first | (with_reducible exact Below.refl _ _) | (with_reducible assumption) | (with_reducible refine Below.alloc ?_ ?_ _) | (with_reducible refine Below.drew ?_) | (with_reducible refine below_drewN ?_ _) | (with_reducible refine Below.setCell ?_ ?_ _) | (refine Below.step ?_ (by with_reducible assumption) ?_) | go_size))⟩
set_option maxHeartbeats 2000000 in
theorem OrbitOfPoint_spec (p m0 m1 m2 m3 m4 m5 m6 m7 m8 a0 a1 a2 : Int) (n : Nat) (w : World) (hn : imCode p ⟨m0, m1, m2, m3, m4, m5, m6, m7, m8⟩ ⟨a0, a1, a2⟩ = 0 → OrbN p ⟨m0, m1, m2, m3, m4, m5, m6, m7, m8⟩ ⟨a0, a1, a2⟩ n) :
    Calls Try.prog 25 #[.int .i64 p, .agg #[.int .i64 m0, .int .i64 m1, .int .i64 m2, .int .i64 m3, .int .i64 m4, .int .i64 m5, .int .i64 m6, .int .i64 m7, .int .i64 m8], .agg #[.int .i64 a0, .int .i64 a1, .int .i64 a2]] w (PtsPostO 43 (obR p ⟨m0, m1, m2, m3, m4, m5, m6, m7, m8⟩ ⟨a0, a1, a2⟩ n) w) := by
  rcases code3 p (isMap p ⟨m0, m1, m2, m3, m4, m5, m6, m7, m8⟩ && isPt p ⟨a0, a1, a2⟩) with hk | hk | ⟨hp, hok, hk⟩
  · have hE : Hid (obR p ⟨m0, m1, m2, m3, m4, m5, m6, m7, m8⟩ ⟨a0, a1, a2⟩ n = ([], 2)) := by show _ = _; unfold obR imCode; rw [hk]; rfl
    have HK : Hid (imCode p ⟨m0, m1, m2, m3, m4, m5, m6, m7, m8⟩ ⟨a0, a1, a2⟩ = 2) := hk
    clear hk hn
    go_enter Try.func25, Try.ntmps25
    go_wp2_with (go_at_call 61; refine (l02With_any p m0 m1 m2 m3 m4 m5 m6 m7 m8 a0 a1 a2 _ _ _ (by go_cell) (by go_cell) (by go_cell)).mono ?_; rintro e w1 ⟨rfl, hb1⟩; obtain ⟨hc1, hf1⟩ := bcell hb1; have hz1 := hb1.size; (try simp only [World.size_alloc, World.size_setCell, World.size_drew] at hz1); (try (have hy1w0 : w.heap.size < w1.heap.size := by omega)); (try (have hy1w1 : w.heap.size + 1 < w1.heap.size := by omega)); (try (have hy1w2 : w.heap.size + 1 + 1 < w1.heap.size := by omega)); (try (have hy1w3 : w.heap.size + 1 + 1 + 1 < w1.heap.size := by omega)); (try (have hy1w4 : w.heap.size + 1 + 1 + 1 + 1 < w1.heap.size := by omega)); rw [HK.out])
    go_ret2
    exact ⟨_, by rw [hE.out]; try rfl, by rw [hE.out]; exact OwnA.nil _ _ _ _, by (repeat' (first | (with_reducible exact Below.refl _ _) | (with_reducible assumption) | (with_reducible refine Below.alloc ?_ ?_ _) | (with_reducible refine Below.drew ?_) | (with_reducible refine below_drewN ?_ _) | (with_reducible refine Below.setCell ?_ ?_ _) | (refine Below.step ?_ (by with_reducible assumption) ?_) | go_size))⟩
  · have hE : Hid (obR p ⟨m0, m1, m2, m3, m4, m5, m6, m7, m8⟩ ⟨a0, a1, a2⟩ n = ([], 1)) := by show _ = _; unfold obR imCode; rw [hk]; rfl
    have HK : Hid (imCode p ⟨m0, m1, m2, m3, m4, m5, m6, m7, m8⟩ ⟨a0, a1, a2⟩ = 1) := hk
    clear hk hn
    go_enter Try.func25, Try.ntmps25
    go_wp2_with (go_at_call 61; refine (l02With_any p m0 m1 m2 m3 m4 m5 m6 m7 m8 a0 a1 a2 _ _ _ (by go_cell) (by go_cell) (by go_cell)).mono ?_; rintro e w1 ⟨rfl, hb1⟩; obtain ⟨hc1, hf1⟩ := bcell hb1; have hz1 := hb1.size; (try simp only [World.size_alloc, World.size_setCell, World.size_drew] at hz1); (try (have hy1w0 : w.heap.size < w1.heap.size := by omega)); (try (have hy1w1 : w.heap.size + 1 < w1.heap.size := by omega)); (try (have hy1w2 : w.heap.size + 1 + 1 < w1.heap.size := by omega)); (try (have hy1w3 : w.heap.size + 1 + 1 + 1 < w1.heap.size := by omega)); (try (have hy1w4 : w.heap.size + 1 + 1 + 1 + 1 < w1.heap.size := by omega)); rw [HK.out])
    go_ret2
    exact ⟨_, by rw [hE.out]; try rfl, by rw [hE.out]; exact OwnA.nil _ _ _ _, by (repeat' (first | (with_reducible exact Below.refl _ _) | (with_reducible assumption) | (with_reducible refine Below.alloc ?_ ?_ _) | (with_reducible refine Below.drew ?_) | (with_reducible refine below_drewN ?_ _) | (with_reducible refine Below.setCell ?_ ?_ _) | (refine Below.step ?_ (by with_reducible assumption) ?_) | go_size))⟩
  · have hE : Hid (obR p ⟨m0, m1, m2, m3, m4, m5, m6, m7, m8⟩ ⟨a0, a1, a2⟩ n = (orbL p ⟨m0, m1, m2, m3, m4, m5, m6, m7, m8⟩ ⟨a0, a1, a2⟩ (n + 1), 0)) := by show _ = _; unfold obR imCode; rw [hk]; rfl
    have HK : Hid (imCode p ⟨m0, m1, m2, m3, m4, m5, m6, m7, m8⟩ ⟨a0, a1, a2⟩ = 0) := hk
    have HN := Lib.hid (hn hk)
    have HM := Lib.hid (im_sm hok).1
    have HA := Lib.hid (im_sm hok).2
    clear hp hok hk hn
    go_enter Try.func25, Try.ntmps25
    go_wp2_with (first | (go_at_call 61; refine (l02With_any p m0 m1 m2 m3 m4 m5 m6 m7 m8 a0 a1 a2 _ _ _ (by go_cell) (by go_cell) (by go_cell)).mono ?_; rintro e w1 ⟨rfl, hb1⟩; obtain ⟨hc1, hf1⟩ := bcell hb1; have hz1 := hb1.size; (try simp only [World.size_alloc, World.size_setCell, World.size_drew] at hz1); (try (have hy1w0 : w.heap.size < w1.heap.size := by omega)); (try (have hy1w1 : w.heap.size + 1 < w1.heap.size := by omega)); (try (have hy1w2 : w.heap.size + 1 + 1 < w1.heap.size := by omega)); (try (have hy1w3 : w.heap.size + 1 + 1 + 1 < w1.heap.size := by omega)); (try (have hy1w4 : w.heap.size + 1 + 1 + 1 + 1 < w1.heap.size := by omega)); rw [HK.out]) | (go_at_call 70; refine (l02Orbit_any p m0 m1 m2 m3 m4 m5 m6 m7 m8 a0 a1 a2 n _ HM.out HA.out HN.out).mono ?_; rintro e w2 ⟨v2, rfl, hown2, hb2⟩; obtain ⟨hc2, hf2⟩ := bcell hb2; have hz2 := hb2.size; (try simp only [World.size_alloc, World.size_setCell, World.size_drew] at hz2); (try (have hy2w0 : w.heap.size < w2.heap.size := by omega)); (try (have hy2w1 : w.heap.size + 1 < w2.heap.size := by omega)); (try (have hy2w2 : w.heap.size + 1 + 1 < w2.heap.size := by omega)); (try (have hy2w3 : w.heap.size + 1 + 1 + 1 < w2.heap.size := by omega)); (try (have hy2w4 : w.heap.size + 1 + 1 + 1 + 1 < w2.heap.size := by omega)); (try (have hy2w10 : w1.heap.size < w2.heap.size := by omega)); (try (have hy2w11 : w1.heap.size + 1 < w2.heap.size := by omega)); (try (have hy2w12 : w1.heap.size + 1 + 1 < w2.heap.size := by omega)); (try (have hy2w13 : w1.heap.size + 1 + 1 + 1 < w2.heap.size := by omega)); (try (have hy2w14 : w1.heap.size + 1 + 1 + 1 + 1 < w2.heap.size := by omega))))
    go_ret2
    exact ⟨_, by rw [hE.out]; try rfl, by rw [hE.out]; exact hown2.base_le (by (try simp only [World.size_alloc] at *); omega), by (repeat' (first | (with_reducible exact Below.refl _ _) | (with_reducible assumption) | (with_reducible refine Below.alloc ?_ ?_ _) | (with_reducible refine Below.drew ?_) | (with_reducible refine below_drewN ?_ _) | (with_reducible refine Below.setCell ?_ ?_ _) | (refine Below.step ?_ (by with_reducible assumption) ?_) | go_size))⟩
set_option maxHeartbeats 2000000 in
theorem OrbitOfPoint_any (p m0 m1 m2 m3 m4 m5 m6 m7 m8 a0 a1 a2 : Int) (n : Nat) (w : World) (hn : imCode p ⟨m0, m1, m2, m3, m4, m5, m6, m7, m8⟩ ⟨a0, a1, a2⟩ = 0 → OrbN p ⟨m0, m1, m2, m3, m4, m5, m6, m7, m8⟩ ⟨a0, a1, a2⟩ n) :
    Calls Try.prog 27 #[.int .i64 p, .agg #[.int .i64 m0, .int .i64 m1, .int .i64 m2, .int .i64 m3, .int .i64 m4, .int .i64 m5, .int .i64 m6, .int .i64 m7, .int .i64 m8], .agg #[.int .i64 a0, .int .i64 a1, .int .i64 a2]] w (PtsPostO 43 (obR p ⟨m0, m1, m2, m3, m4, m5, m6, m7, m8⟩ ⟨a0, a1, a2⟩ n) w) := by
  rcases code3 p (isMap p ⟨m0, m1, m2, m3, m4, m5, m6, m7, m8⟩ && isPt p ⟨a0, a1, a2⟩) with hk | hk | ⟨hp, hok, hk⟩
  · have hE : Hid (obR p ⟨m0, m1, m2, m3, m4, m5, m6, m7, m8⟩ ⟨a0, a1, a2⟩ n = ([], 2)) := by show _ = _; unfold obR imCode; rw [hk]; rfl
    have HK : Hid (imCode p ⟨m0, m1, m2, m3, m4, m5, m6, m7, m8⟩ ⟨a0, a1, a2⟩ = 2) := hk
    clear hk hn
    go_enter Try.func27, Try.ntmps27
    go_wp2_with (go_at_call 63; refine (planeCode3 p _ _ _ _ (isMap p ⟨m0, m1, m2, m3, m4, m5, m6, m7, m8⟩ && isPt p ⟨a0, a1, a2⟩) _ (fun _ _ => by kernel_rfl) (fun _ => OrbitOfPoint1 p m0 m1 m2 m3 m4 m5 m6 m7 m8 a0 a1 a2 _ _ _ _ (by go_cell) (by go_cell) (by go_cell) (by go_cell) (by go_cell) (by go_cell) (by go_cell) (by go_cell) (by go_cell) (by go_cell) (by go_cell) (by go_cell) (by go_cell))).mono ?_; rintro e w1 ⟨rfl, hb1⟩; obtain ⟨hc1, hf1⟩ := bcell hb1; have hz1 := hb1.size; (try simp only [World.size_alloc, World.size_setCell, World.size_drew] at hz1); (try (have hy1w0 : w.heap.size < w1.heap.size := by omega)); (try (have hy1w1 : w.heap.size + 1 < w1.heap.size := by omega)); (try (have hy1w2 : w.heap.size + 1 + 1 < w1.heap.size := by omega)); (try (have hy1w3 : w.heap.size + 1 + 1 + 1 < w1.heap.size := by omega)); (try (have hy1w4 : w.heap.size + 1 + 1 + 1 + 1 < w1.heap.size := by omega)); rw [show codeOf p (isMap p ⟨m0, m1, m2, m3, m4, m5, m6, m7, m8⟩ && isPt p ⟨a0, a1, a2⟩) = _ from HK.out])
    go_ret2
    exact ⟨_, by rw [hE.out]; try rfl, by rw [hE.out]; exact OwnA.nil _ _ _ _, by (repeat' (first | (with_reducible exact Below.refl _ _) | (with_reducible assumption) | (with_reducible refine Below.alloc ?_ ?_ _) | (with_reducible refine Below.drew ?_) | (with_reducible refine below_drewN ?_ _) | (with_reducible refine Below.setCell ?_ ?_ _) | (refine Below.step ?_ (by with_reducible assumption) ?_) | go_size))⟩
  · have hE : Hid (obR p ⟨m0, m1, m2, m3, m4, m5, m6, m7, m8⟩ ⟨a0, a1, a2⟩ n = ([], 1)) := by show _ = _; unfold obR imCode; rw [hk]; rfl
    have HK : Hid (imCode p ⟨m0, m1, m2, m3, m4, m5, m6, m7, m8⟩ ⟨a0, a1, a2⟩ = 1) := hk
    clear hk hn
    go_enter Try.func27, Try.ntmps27
    go_wp2_with (go_at_call 63; refine (planeCode3 p _ _ _ _ (isMap p ⟨m0, m1, m2, m3, m4, m5, m6, m7, m8⟩ && isPt p ⟨a0, a1, a2⟩) _ (fun _ _ => by kernel_rfl) (fun _ => OrbitOfPoint1 p m0 m1 m2 m3 m4 m5 m6 m7 m8 a0 a1 a2 _ _ _ _ (by go_cell) (by go_cell) (by go_cell) (by go_cell) (by go_cell) (by go_cell) (by go_cell) (by go_cell) (by go_cell) (by go_cell) (by go_cell) (by go_cell) (by go_cell))).mono ?_; rintro e w1 ⟨rfl, hb1⟩; obtain ⟨hc1, hf1⟩ := bcell hb1; have hz1 := hb1.size; (try simp only [World.size_alloc, World.size_setCell, World.size_drew] at hz1); (try (have hy1w0 : w.heap.size < w1.heap.size := by omega)); (try (have hy1w1 : w.heap.size + 1 < w1.heap.size := by omega)); (try (have hy1w2 : w.heap.size + 1 + 1 < w1.heap.size := by omega)); (try (have hy1w3 : w.heap.size + 1 + 1 + 1 < w1.heap.size := by omega)); (try (have hy1w4 : w.heap.size + 1 + 1 + 1 + 1 < w1.heap.size := by omega)); rw [show codeOf p (isMap p ⟨m0, m1, m2, m3, m4, m5, m6, m7, m8⟩ && isPt p ⟨a0, a1, a2⟩) = _ from HK.out])
    go_ret2
    exact ⟨_, by rw [hE.out]; try rfl, by rw [hE.out]; exact OwnA.nil _ _ _ _, by (repeat' (first | (with_reducible exact Below.refl _ _) | (with_reducible assumption) | (with_reducible refine Below.alloc ?_ ?_ _) | (with_reducible refine Below.drew ?_) | (with_reducible refine below_drewN ?_ _) | (with_reducible refine Below.setCell ?_ ?_ _) | (refine Below.step ?_ (by with_reducible assumption) ?_) | go_size))⟩
  · have hE : Hid (obR p ⟨m0, m1, m2, m3, m4, m5, m6, m7, m8⟩ ⟨a0, a1, a2⟩ n = (orbL p ⟨m0, m1, m2, m3, m4, m5, m6, m7, m8⟩ ⟨a0, a1, a2⟩ (n + 1), 0)) := by show _ = _; unfold obR imCode; rw [hk]; rfl
    have HK : Hid (imCode p ⟨m0, m1, m2, m3, m4, m5, m6, m7, m8⟩ ⟨a0, a1, a2⟩ = 0) := hk
    have HN := Lib.hid (hn hk)
    have HM := Lib.hid (im_sm hok).1
    have HA := Lib.hid (im_sm hok).2
    clear hp hok hk hn
    go_enter Try.func27, Try.ntmps27
    go_wp2_with (first | (go_at_call 63; refine (planeCode3 p _ _ _ _ (isMap p ⟨m0, m1, m2, m3, m4, m5, m6, m7, m8⟩ && isPt p ⟨a0, a1, a2⟩) _ (fun _ _ => by kernel_rfl) (fun _ => OrbitOfPoint1 p m0 m1 m2 m3 m4 m5 m6 m7 m8 a0 a1 a2 _ _ _ _ (by go_cell) (by go_cell) (by go_cell) (by go_cell) (by go_cell) (by go_cell) (by go_cell) (by go_cell) (by go_cell) (by go_cell) (by go_cell) (by go_cell) (by go_cell))).mono ?_; rintro e w1 ⟨rfl, hb1⟩; obtain ⟨hc1, hf1⟩ := bcell hb1; have hz1 := hb1.size; (try simp only [World.size_alloc, World.size_setCell, World.size_drew] at hz1); (try (have hy1w0 : w.heap.size < w1.heap.size := by omega)); (try (have hy1w1 : w.heap.size + 1 < w1.heap.size := by omega)); (try (have hy1w2 : w.heap.size + 1 + 1 < w1.heap.size := by omega)); (try (have hy1w3 : w.heap.size + 1 + 1 + 1 < w1.heap.size := by omega)); (try (have hy1w4 : w.heap.size + 1 + 1 + 1 + 1 < w1.heap.size := by omega)); rw [show codeOf p (isMap p ⟨m0, m1, m2, m3, m4, m5, m6, m7, m8⟩ && isPt p ⟨a0, a1, a2⟩) = _ from HK.out]) | (go_at_call 73; refine (orbit_any p m0 m1 m2 m3 m4 m5 m6 m7 m8 a0 a1 a2 n _ HM.out HA.out HN.out).mono ?_; rintro e w2 ⟨v2, rfl, hown2, hb2⟩; obtain ⟨hc2, hf2⟩ := bcell hb2; have hz2 := hb2.size; (try simp only [World.size_alloc, World.size_setCell, World.size_drew] at hz2); (try (have hy2w0 : w.heap.size < w2.heap.size := by omega)); (try (have hy2w1 : w.heap.size + 1 < w2.heap.size := by omega)); (try (have hy2w2 : w.heap.size + 1 + 1 < w2.heap.size := by omega)); (try (have hy2w3 : w.heap.size + 1 + 1 + 1 < w2.heap.size := by omega)); (try (have hy2w4 : w.heap.size + 1 + 1 + 1 + 1 < w2.heap.size := by omega)); (try (have hy2w10 : w1.heap.size < w2.heap.size := by omega)); (try (have hy2w11 : w1.heap.size + 1 < w2.heap.size := by omega)); (try (have hy2w12 : w1.heap.size + 1 + 1 < w2.heap.size := by omega)); (try (have hy2w13 : w1.heap.size + 1 + 1 + 1 < w2.heap.size := by omega)); (try (have hy2w14 : w1.heap.size + 1 + 1 + 1 + 1 < w2.heap.size := by omega))))
    go_ret2
    exact ⟨_, by rw [hE.out]; try rfl, by rw [hE.out]; exact hown2.base_le (by (try simp only [World.size_alloc] at *); omega), by (repeat' (first | (with_reducible exact Below.refl _ _) | (with_reducible assumption) | (with_reducible refine Below.alloc ?_ ?_ _) | (with_reducible refine Below.drew ?_) | (with_reducible refine below_drewN ?_ _) | (with_reducible refine Below.setCell ?_ ?_ _) | (refine Below.step ?_ (by with_reducible assumption) ?_) | go_size))⟩
end Go.Proofs.Ythlmodofgoelbaa
