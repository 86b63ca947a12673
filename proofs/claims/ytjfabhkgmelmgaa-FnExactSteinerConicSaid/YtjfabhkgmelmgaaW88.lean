/- LineAtPlace: what the two functions return; no condition. -/
import Derived.Test.YtjfabhkgmelmgaaW87
import Derived.Test.YtjfabhkgmelmgaaW81
import Derived.Test.YtjfabhkgmelmgaaW16
import Derived.Test.YtjfabhkgmelmgaaW18
import Derived.Test.YtjfabhkgmelmgaaW4
namespace Go.Proofs.Ytjfabhkgmelmgaa
open Go.RowKit
set_option linter.unusedSimpArgs false
set_option linter.unusedVariables false
set_option maxRecDepth 100000

/-- What LineAtPlace answers. -/
def laR (p : Int) (o : P3) (t : Int) : P3 × Int :=
  if codeOf p (allPt p [o]) = 0 then (if inB t 0 p = true then (lnAt p o t, 0) else (⟨0, 0, 0⟩, 2)) else (⟨0, 0, 0⟩, codeOf p (allPt p [o]))
set_option maxHeartbeats 4000000 in
theorem LineAtPlace_any (p o0 o1 o2 t : Int) (w : World) :
    Calls Try.prog 40 #[.int .i64 p, .agg #[.int .i64 o0, .int .i64 o1, .int .i64 o2], .int .i64 t] w fun e w' => e = .returned (.tuple #[.agg #[.int .i64 ((laR p ⟨o0, o1, o2⟩ t).1).x, .int .i64 ((laR p ⟨o0, o1, o2⟩ t).1).y, .int .i64 ((laR p ⟨o0, o1, o2⟩ t).1).z], .int .i64 (laR p ⟨o0, o1, o2⟩ t).2]) ∧ Below w.heap.size w w' := by
  rcases code3 p (allPt p [⟨o0, o1, o2⟩]) with hk | hk | ⟨hp, hok, hk⟩
  · have hE : Hid (laR p ⟨o0, o1, o2⟩ t = (⟨0, 0, 0⟩, 2)) := by show _ = _; unfold laR; rw [hk]; rfl
    go_enter Try.func40, Try.ntmps40
    go_wp2_with (go_at_call 81; refine (pointsCode_any _ _ _ [⟨o0, o1, o2⟩] _ (rdp1 (by go_cell) (by go_cell) (by go_cell)) (by go_size) (by simp)).mono ?_; rintro e w1 ⟨rfl, hb1⟩; obtain ⟨hc1, hf1⟩ := bcell hb1; have hz1 := hb1.size; (try simp only [World.size_alloc, World.size_setCell, World.size_drew] at hz1); (try (have hy1w0 : w.heap.size < w1.heap.size := by omega)); (try (have hy1w1 : w.heap.size + 1 < w1.heap.size := by omega)); (try (have hy1w2 : w.heap.size + 1 + 1 < w1.heap.size := by omega)); (try (have hy1w3 : w.heap.size + 1 + 1 + 1 < w1.heap.size := by omega)); (try (have hy1w4 : w.heap.size + 1 + 1 + 1 + 1 < w1.heap.size := by omega)); have r1_0 := keepC hb1 (b := w.heap.size + 1) (o := 0) (v := .int .i64 0) (by go_cell); have r1_1 := keepC hb1 (b := w.heap.size + 1) (o := 1) (v := .int .i64 0) (by go_cell); have r1_2 := keepC hb1 (b := w.heap.size + 1) (o := 2) (v := .int .i64 0) (by go_cell))
    (try simp only [Exit.inBlock, Exit.then]); refine bodyPost_ret (by simp [results, Try.results40, go_sem, *]; try rfl) rfl ?_
    exact ⟨by rw [hE.out]; try rfl, by (repeat' (first | (with_reducible exact Below.refl _ _) | (with_reducible assumption) | (with_reducible refine Below.alloc ?_ ?_ _) | (with_reducible refine Below.drew ?_) | (with_reducible refine below_drewN ?_ _) | (with_reducible refine Below.setCell ?_ ?_ _) | (refine Below.step ?_ (by with_reducible assumption) ?_) | go_size))⟩
  · have hE : Hid (laR p ⟨o0, o1, o2⟩ t = (⟨0, 0, 0⟩, 1)) := by show _ = _; unfold laR; rw [hk]; rfl
    go_enter Try.func40, Try.ntmps40
    go_wp2_with (go_at_call 81; refine (pointsCode_any _ _ _ [⟨o0, o1, o2⟩] _ (rdp1 (by go_cell) (by go_cell) (by go_cell)) (by go_size) (by simp)).mono ?_; rintro e w1 ⟨rfl, hb1⟩; obtain ⟨hc1, hf1⟩ := bcell hb1; have hz1 := hb1.size; (try simp only [World.size_alloc, World.size_setCell, World.size_drew] at hz1); (try (have hy1w0 : w.heap.size < w1.heap.size := by omega)); (try (have hy1w1 : w.heap.size + 1 < w1.heap.size := by omega)); (try (have hy1w2 : w.heap.size + 1 + 1 < w1.heap.size := by omega)); (try (have hy1w3 : w.heap.size + 1 + 1 + 1 < w1.heap.size := by omega)); (try (have hy1w4 : w.heap.size + 1 + 1 + 1 + 1 < w1.heap.size := by omega)); have r1_0 := keepC hb1 (b := w.heap.size + 1) (o := 0) (v := .int .i64 0) (by go_cell); have r1_1 := keepC hb1 (b := w.heap.size + 1) (o := 1) (v := .int .i64 0) (by go_cell); have r1_2 := keepC hb1 (b := w.heap.size + 1) (o := 2) (v := .int .i64 0) (by go_cell))
    (try simp only [Exit.inBlock, Exit.then]); refine bodyPost_ret (by simp [results, Try.results40, go_sem, *]; try rfl) rfl ?_
    exact ⟨by rw [hE.out]; try rfl, by (repeat' (first | (with_reducible exact Below.refl _ _) | (with_reducible assumption) | (with_reducible refine Below.alloc ?_ ?_ _) | (with_reducible refine Below.drew ?_) | (with_reducible refine below_drewN ?_ _) | (with_reducible refine Below.setCell ?_ ?_ _) | (refine Below.step ?_ (by with_reducible assumption) ?_) | go_size))⟩
  · have hpt := (pt1 hok).1
    have k1 := isP_lo hp
    have k2 := isP_hi hp
    have HPT := Lib.hid hpt
    have HAP : Hid (∀ (w' : World) (b : Nat), Rd w' b 0 [t] → Calls Try.prog 91 #[.int .i64 p, .slice (some ⟨b, 0, none⟩) 1 1] w' fun e w'' => e = .returned (.bool (inB t 0 p)) ∧ w' = w'') := fun w' b h => (by
      have h := arePlaces_any p b 0 1 [t] w' h (by simp)
      have e : isPl p [t] = inB t 0 p := by unfold isPl; simp
      rw [e] at h; exact h)
    clear hpt hp hok
    cases ht : inB t 0 p
    · have hE : Hid (laR p ⟨o0, o1, o2⟩ t = (⟨0, 0, 0⟩, 2)) := by show _ = _; unfold laR; rw [hk, ht]; rfl
      rw [ht] at HAP
      clear ht
      go_enter Try.func40, Try.ntmps40
      go_wp2_with (first | (go_at_call 81; refine (pointsCode_any _ _ _ [⟨o0, o1, o2⟩] _ (rdp1 (by go_cell) (by go_cell) (by go_cell)) (by go_size) (by simp)).mono ?_; rintro e w1 ⟨rfl, hb1⟩; obtain ⟨hc1, hf1⟩ := bcell hb1; have hz1 := hb1.size; (try simp only [World.size_alloc, World.size_setCell, World.size_drew] at hz1); (try (have hy1w0 : w.heap.size < w1.heap.size := by omega)); (try (have hy1w1 : w.heap.size + 1 < w1.heap.size := by omega)); (try (have hy1w2 : w.heap.size + 1 + 1 < w1.heap.size := by omega)); (try (have hy1w3 : w.heap.size + 1 + 1 + 1 < w1.heap.size := by omega)); (try (have hy1w4 : w.heap.size + 1 + 1 + 1 + 1 < w1.heap.size := by omega)); have r1_0 := keepC hb1 (b := w.heap.size + 1) (o := 0) (v := .int .i64 0) (by go_cell); have r1_1 := keepC hb1 (b := w.heap.size + 1) (o := 1) (v := .int .i64 0) (by go_cell); have r1_2 := keepC hb1 (b := w.heap.size + 1) (o := 2) (v := .int .i64 0) (by go_cell)) | (go_at_call 91; refine (HAP.out _ _ (rd1 (by go_cell))).mono ?_; rintro e w3 ⟨rfl, rfl⟩))
      (try simp only [Exit.inBlock, Exit.then]); refine bodyPost_ret (by simp [results, Try.results40, go_sem, *]; try rfl) rfl ?_
      exact ⟨by rw [hE.out]; try rfl, by (repeat' (first | (with_reducible exact Below.refl _ _) | (with_reducible assumption) | (with_reducible refine Below.alloc ?_ ?_ _) | (with_reducible refine Below.drew ?_) | (with_reducible refine below_drewN ?_ _) | (with_reducible refine Below.setCell ?_ ?_ _) | (refine Below.step ?_ (by with_reducible assumption) ?_) | go_size))⟩
    · have hE : Hid (laR p ⟨o0, o1, o2⟩ t = (lnAt p ⟨o0, o1, o2⟩ t, 0)) := by show _ = _; unfold laR; rw [hk, ht]; rfl
      rw [ht] at HAP
      have htt := inB_iff.1 ht
      have HLA := Lib.hid (fun w' => lineAt_any p o0 o1 o2 t w' HPT.out htt)
      clear ht
      go_enter Try.func40, Try.ntmps40
      go_wp2_with (first | (go_at_call 81; refine (pointsCode_any _ _ _ [⟨o0, o1, o2⟩] _ (rdp1 (by go_cell) (by go_cell) (by go_cell)) (by go_size) (by simp)).mono ?_; rintro e w1 ⟨rfl, hb1⟩; obtain ⟨hc1, hf1⟩ := bcell hb1; have hz1 := hb1.size; (try simp only [World.size_alloc, World.size_setCell, World.size_drew] at hz1); (try (have hy1w0 : w.heap.size < w1.heap.size := by omega)); (try (have hy1w1 : w.heap.size + 1 < w1.heap.size := by omega)); (try (have hy1w2 : w.heap.size + 1 + 1 < w1.heap.size := by omega)); (try (have hy1w3 : w.heap.size + 1 + 1 + 1 < w1.heap.size := by omega)); (try (have hy1w4 : w.heap.size + 1 + 1 + 1 + 1 < w1.heap.size := by omega)); have r1_0 := keepC hb1 (b := w.heap.size + 1) (o := 0) (v := .int .i64 0) (by go_cell); have r1_1 := keepC hb1 (b := w.heap.size + 1) (o := 1) (v := .int .i64 0) (by go_cell); have r1_2 := keepC hb1 (b := w.heap.size + 1) (o := 2) (v := .int .i64 0) (by go_cell)) | (go_at_call 91; refine (HAP.out _ _ (rd1 (by go_cell))).mono ?_; rintro e w3 ⟨rfl, rfl⟩) | (go_at_call 92; refine (HLA.out _).mono ?_; rintro e w4 ⟨rfl, hb4⟩; obtain ⟨hc4, hf4⟩ := bcell hb4; have hz4 := hb4.size; (try simp only [World.size_alloc, World.size_setCell, World.size_drew] at hz4); (try (have hy4w0 : w.heap.size < w4.heap.size := by omega)); (try (have hy4w1 : w.heap.size + 1 < w4.heap.size := by omega)); (try (have hy4w2 : w.heap.size + 1 + 1 < w4.heap.size := by omega)); (try (have hy4w3 : w.heap.size + 1 + 1 + 1 < w4.heap.size := by omega)); (try (have hy4w4 : w.heap.size + 1 + 1 + 1 + 1 < w4.heap.size := by omega)); (try (have hy4w10 : w1.heap.size < w4.heap.size := by omega)); (try (have hy4w11 : w1.heap.size + 1 < w4.heap.size := by omega)); (try (have hy4w12 : w1.heap.size + 1 + 1 < w4.heap.size := by omega)); (try (have hy4w13 : w1.heap.size + 1 + 1 + 1 < w4.heap.size := by omega)); (try (have hy4w14 : w1.heap.size + 1 + 1 + 1 + 1 < w4.heap.size := by omega)); (try (have hy4w20 : w2.heap.size < w4.heap.size := by omega)); (try (have hy4w21 : w2.heap.size + 1 < w4.heap.size := by omega)); (try (have hy4w22 : w2.heap.size + 1 + 1 < w4.heap.size := by omega)); (try (have hy4w23 : w2.heap.size + 1 + 1 + 1 < w4.heap.size := by omega)); (try (have hy4w24 : w2.heap.size + 1 + 1 + 1 + 1 < w4.heap.size := by omega)); (try (have hy4w30 : w3.heap.size < w4.heap.size := by omega)); (try (have hy4w31 : w3.heap.size + 1 < w4.heap.size := by omega)); (try (have hy4w32 : w3.heap.size + 1 + 1 < w4.heap.size := by omega)); (try (have hy4w33 : w3.heap.size + 1 + 1 + 1 < w4.heap.size := by omega)); (try (have hy4w34 : w3.heap.size + 1 + 1 + 1 + 1 < w4.heap.size := by omega)); have z0 : w4.cell? ⟨w.heap.size + 1, 0, none⟩ = some (.int .i64 0) := keepC hb4 (by go_cell); have z1 : w4.cell? ⟨w.heap.size + 1, 1, none⟩ = some (.int .i64 0) := keepC hb4 (by go_cell); have z2 : w4.cell? ⟨w.heap.size + 1, 2, none⟩ = some (.int .i64 0) := keepC hb4 (by go_cell)))
      (try simp only [Exit.inBlock, Exit.then]); refine bodyPost_ret (by simp [results, Try.results40, go_sem, *]; try rfl) rfl ?_
      exact ⟨by rw [hE.out]; try rfl, by (repeat' (first | (with_reducible exact Below.refl _ _) | (with_reducible assumption) | (with_reducible refine Below.alloc ?_ ?_ _) | (with_reducible refine Below.drew ?_) | (with_reducible refine below_drewN ?_ _) | (with_reducible refine Below.setCell ?_ ?_ _) | (refine Below.step ?_ (by with_reducible assumption) ?_) | go_size))⟩
theorem OwnI.of_box {w : World} {base g : Nat} {zs : List Int} (h : Box 2 w g zs) (hb : base ≤ g) (hl : zs.length ≤ maxLen) : OwnI w base (.slice (some ⟨g, 0, none⟩) zs.length zs.length) zs :=
  ⟨by simp, .inr ⟨g, zs.length, _, rfl, hb, h, Nat.le_refl _, hl, by simp, by rw [Nat.mul_one]; exact List.take_of_length_le (by simp)⟩⟩
set_option maxHeartbeats 1000000 in
theorem l01List_own (a0 a1 a2 : Int) (w : World) :
    Calls Try.prog 150 #[.agg #[.int .i64 a0, .int .i64 a1, .int .i64 a2]] w fun e w' => ∃ g, e = .returned (.slice (some ⟨g, 0, none⟩) 3 3) ∧ OwnI w' w.heap.size (.slice (some ⟨g, 0, none⟩) 3 3) [a0, a1, a2] ∧ Below w.heap.size w w' := by
  go_enter Try.func150, Try.ntmps150
  go_wp2
  go_ret
  refine ⟨_, rfl, ?_, by (repeat' (first | (with_reducible exact Below.refl _ _) | (with_reducible assumption) | (with_reducible refine Below.alloc ?_ ?_ _) | (with_reducible refine Below.drew ?_) | (with_reducible refine below_drewN ?_ _) | (with_reducible refine Below.setCell ?_ ?_ _) | (refine Below.step ?_ (by with_reducible assumption) ?_) | go_size))⟩
  exact OwnI.of_box (zs := [a0, a1, a2]) (Box.new (E := 2) [a0, a1, a2] (by simp)) (by simp) (by unfold maxLen; simp)
theorem RowsP.of_own {w : World} {base c : Nat} {a : Option Addr} {L : List (List Int)} (h : OwnSS w base (.slice a L.length c) L) (hn : ∀ r ∈ L, r ≠ []) (hne : L ≠ []) : ∃ b, a = some ⟨b, 0, none⟩ ∧ b < w.heap.size ∧ RowsP w b 0 L := by
  cases L with
  | nil => exact absurd rfl hne
  | cons r0 L =>
    obtain ⟨g, cap, b0, c0, hv, h1, h2, h3, _⟩ := h.row (k := 0) (r := r0) rfl (hn r0 (by simp))
    injection hv with hv _ _
    subst hv
    refine ⟨g, rfl, h3, fun k r hk => ?_⟩
    obtain ⟨g', cap', b', c', hv', e1, _, _, _, e2, e3⟩ := h.row hk (hn r (List.mem_of_getElem? hk))
    injection hv' with hv' _ _
    injection hv' with hv'
    injection hv' with hv'
    subst hv'
    exact ⟨b', 0, c', by rw [Nat.zero_add]; exact e1, e2, e3⟩
theorem onP_ne {p : Int} {o : P3} (h : isPt p o = true) : rowsP (onP p o) ≠ [] := fun e => by
  have h1 := bun_len h
  rw [← bun_same h, e] at h1
  simp [ech] at h1
set_option maxHeartbeats 16000000 in
theorem l05Base_any (p o0 o1 o2 : Int) (w : World) (ho : isPt p ⟨o0, o1, o2⟩ = true) :
    Calls Try.prog 94 #[.int .i64 p, .agg #[.int .i64 o0, .int .i64 o1, .int .i64 o2]] w fun e w' => e = .returned (.tuple #[.agg #[.int .i64 (buU p ⟨o0, o1, o2⟩).x, .int .i64 (buU p ⟨o0, o1, o2⟩).y, .int .i64 (buU p ⟨o0, o1, o2⟩).z], .agg #[.int .i64 (buV p ⟨o0, o1, o2⟩).x, .int .i64 (buV p ⟨o0, o1, o2⟩).y, .int .i64 (buV p ⟨o0, o1, o2⟩).z]]) ∧ Below w.heap.size w w' := by
  have hp := isPt_pr ho
  have htwo := (bun_two ho).1
  obtain ⟨so0, so1, so2⟩ := isPt_sm ho
  have hpo := fun w' => l01PointsOn_any p o0 o1 o2 w' hp so0 so1 so2
  have hne := Lib.hid (onP_ne ho)
  have hlen := onP_len hp ⟨o0, o1, o2⟩
  have hok : Hid (∀ r ∈ rowsP (onP p ⟨o0, o1, o2⟩), okR p 3 r) := fun r hr => (by
    unfold rowsP at hr
    rw [List.mem_map] at hr
    obtain ⟨a, ha, rfl⟩ := hr
    unfold onP at ha
    exact isPt_ok (allP_mem hp (List.mem_filter.1 ha).1))
  have hsame := bun_same ho
  obtain ⟨u0, u1, u2, hu⟩ : ∃ u0 u1 u2, buU p ⟨o0, o1, o2⟩ = ⟨u0, u1, u2⟩ := ⟨_, _, _, rfl⟩
  obtain ⟨v0, v1, v2, hv⟩ : ∃ v0 v1 v2, buV p ⟨o0, o1, o2⟩ = ⟨v0, v1, v2⟩ := ⟨_, _, _, rfl⟩
  rw [hu, hv] at htwo
  have hE : Hid (ech p (rowsP (onP p ⟨o0, o1, o2⟩)) = [[u0, u1, u2], [v0, v1, v2]]) := hsame.trans htwo
  have HU := Lib.hid hu; have HV := Lib.hid hv
  have HPO := Lib.hid hpo
  have HP := Lib.hid hp
  generalize hps : onP p ⟨o0, o1, o2⟩ = ps at *
  have hpl : (rowsP ps).length = ps.length := rowsP_len ps
  clear hsame htwo hu hv hpo ho hp so0 so1 so2 hps
  go_enter Try.func94, Try.ntmps94
  go_wp2_with (go_at_call 112; refine (HPO.out _).mono ?_; rintro e w1 ⟨v1', rfl, hown, hb1⟩; obtain ⟨hc1, hf1⟩ := bcell hb1; have hz1 := hb1.size; (try simp only [World.size_alloc, World.size_setCell, World.size_drew] at hz1); (try (have hy1w0 : w.heap.size < w1.heap.size := by omega)); (try (have hy1w1 : w.heap.size + 1 < w1.heap.size := by omega)); (try (have hy1w2 : w.heap.size + 1 + 1 < w1.heap.size := by omega)); (try (have hy1w3 : w.heap.size + 1 + 1 + 1 < w1.heap.size := by omega)); (try (have hy1w4 : w.heap.size + 1 + 1 + 1 + 1 < w1.heap.size := by omega)))
  have hR := hown.sl
  have hB1 : Below w.heap.size w w1 := by (repeat' (first | (with_reducible exact Below.refl _ _) | (with_reducible assumption) | (with_reducible refine Below.alloc ?_ ?_ _) | (with_reducible refine Below.drew ?_) | (with_reducible refine below_drewN ?_ _) | (with_reducible refine Below.setCell ?_ ?_ _) | (refine Below.step ?_ (by with_reducible assumption) ?_) | go_size))
  obtain ⟨av, cv, rfl, hR⟩ := hR
  rw [hpl]
  have HPL := Lib.hid hpl
  clear hpl
  have hHR : Hid (∀ k (a : P3), ps[k]? = some a → ∃ b off, av = some ⟨b, off, none⟩ ∧ b < w1.heap.size ∧ w1.cell? ⟨b, off + k * 3, none⟩ = some (.int .i64 a.x) ∧ w1.cell? ⟨b, off + k * 3 + 1, none⟩ = some (.int .i64 a.y) ∧ w1.cell? ⟨b, off + k * 3 + 2, none⟩ = some (.int .i64 a.z)) := fun k a hk => (by
    rcases hR with h | ⟨b, off, h1, h2, h3⟩
    · unfold rowsP at h
      have : ps = [] := List.map_eq_nil_iff.1 h
      rw [this] at hk; simp at hk
    · have hr := h3 k a.l (by unfold rowsP; rw [List.getElem?_map, hk]; rfl)
      have e0 := hr 0 _ rfl; have e1 := hr 1 _ rfl; have e2 := hr 2 _ rfl
      rw [Nat.add_zero] at e0
      exact ⟨b, off, h1, h2, e0, e1, e2⟩)
  clear hR hown
  go_loopw [7, 8] (fun v i wr => ∃ k : Nat, k ≤ ps.length ∧ i = .int .i64 k ∧ OwnSS wr w1.heap.size v ((rowsP ps).take k) ∧ Below w1.heap.size w1 wr) (fun _ i _ => ps.length - (intOf i).toNat)
  case atStart => exact ⟨0, Nat.zero_le _, rfl, OwnSS.made w1 w1.heap.size (Nat.le_refl _), (Below.refl _ _).alloc (Nat.le_refl _) _⟩
  obtain ⟨k, hk, rfl, hown, hC⟩ := hrel
  have hCz := hC.size
  by_cases hlt : k < ps.length
  · obtain ⟨⟨a0, a1, a2⟩, ha⟩ : ∃ a, ps[k]? = some a := ⟨_, List.getElem?_eq_getElem hlt⟩
    obtain ⟨b, off, rfl, hbl, e0, e1, e2⟩ := hHR.out k _ ha
    have e0' := keepC hC e0; have e1' := keepC hC e1; have e2' := keepC hC e2
    have hnx : Hid ((rowsP ps).take (k + 1) = (rowsP ps).take k ++ [[a0, a1, a2]]) := by
      show _ = _
      rw [List.take_add_one]; unfold rowsP; rw [List.getElem?_map, ha]; rfl
    have hRl : ((rowsP ps).take k).length ≤ 1000 := by rw [List.length_take, HPL.out]; omega
    generalize (rowsP ps).take k = R at *
    clear e0 e1 e2 ha
    go_wp2_with (first | (go_at_call 150; refine (l01List_own a0 a1 a2 _).mono ?_; rintro e w2 ⟨gl, rfl, hO, hb2⟩; have hown2 := OwnSS.below hown hb2; have hC2 := keepB hb2 hC (Nat.le_refl _); have hO2 := OwnI.base_le hO hCz; have hz2 := hC2.size) | (at_builtin; refine append_own w1.heap.size _ R [a0, a1, a2] hown2 hO2 rfl _ _ rfl rfl rfl (by omega) hz2 ?_; intro g9 cap9 w9 hn9 hb9 hz9 hi9 hs9 hnb9))
    have hC9 := hb9 _ _ hC2 (Nat.le_refl _)
    clear hown hO hown2 hO2 hi9 hs9 hb9 hnb9
    go_roundw
    case rel => exact ⟨k + 1, by omega, by go_num, by rw [hnx.out]; exact hn9, hC9⟩
    case measure => simp [intOf]; omega
  obtain rfl : k = ps.length := by omega
  rw [List.take_of_length_le (by rw [HPL.out]; exact Nat.le_refl _)] at hown
  obtain ⟨a7, c7, hv7⟩ := hown.shape
  subst hv7
  obtain ⟨bq, rfl, hbq, hRP⟩ := RowsP.of_own hown (fun r hr h0 => by have := (hok.out r hr).1; rw [h0] at this; cases this) hne.out
  have hec := l01Echelon_any p 3 bq 0 c7 (rowsP ps) wr HP.out hok.out hRP hbq (by rw [HPL.out]; omega) (by omega)
  rw [hE.out] at hec
  have HEC := Lib.hid hec
  have hBw : Below w.heap.size w wr := keepB hC hB1 (Nat.le_refl _)
  have Z1 : Box 58 wr (w.heap.size + 1) [0, 0, 0] := Box.below hC (Box.below hb1 (Box.alloc (Box.new [0, 0, 0] (by simp)) _))
  have Z2 : Box 58 wr (w.heap.size + 1 + 1) [0, 0, 0] := Box.below hC (Box.below hb1 (Box.new [0, 0, 0] (by simp)))
  have hsz := Z2.lt
  clear hown hRP hec hC hne hok hHR hE
  go_wp2_with (go_at_call 58; refine HEC.out.mono ?_; rintro e w5 ⟨v5, rfl, hv5, hb5⟩)
  obtain ⟨g, cg, b0, c0, hv5e, e1, hg, hgl, hb0, _, e2⟩ := hv5.row (k := 0) (r := [u0, u1, u2]) rfl (by simp)
  obtain ⟨g', cg', b1, c1, hv5e', f1, _, _, hb1', _, f2⟩ := hv5.row (k := 1) (r := [v0, v1, v2]) rfl (by simp)
  subst hv5e
  injection hv5e' with h1 _ h2
  injection h1 with h1
  injection h1 with h1
  subst h1 h2
  have r0 := e2 0 _ rfl; have r1 := e2 1 _ rfl; have r2 := e2 2 _ rfl
  have t0 := f2 0 _ rfl; have t1 := f2 1 _ rfl; have t2 := f2 2 _ rfl
  simp only [Nat.zero_add, List.length_cons, List.length_nil] at e1 f1 r0 r1 r2 t0 t1 t2
  replace Z1 := Box.below hb5 Z1
  replace Z2 := Box.below hb5 Z2
  have x0 := Z1.cell 0 rfl; have x1 := Z1.cell 1 rfl; have x2 := Z1.cell 2 rfl
  have y0 := Z2.cell 0 rfl; have y1 := Z2.cell 1 rfl; have y2 := Z2.cell 2 rfl
  have fx0 := Z1.frz 0; have fx1 := Z1.frz 1; have fx2 := Z1.frz 2
  have fy0 := Z2.frz 0; have fy1 := Z2.frz 1; have fy2 := Z2.frz 2
  have hB : Below w.heap.size w w5 := keepB hb5 hBw (Nat.le_refl _)
  have hgb : wr.heap.size ≤ g := hg
  have hbb0 : wr.heap.size ≤ b0 := hb0
  have hbb1 : wr.heap.size ≤ b1 := hb1'
  clear hv5 e2 f2 Z1 Z2 HEC hb5 hb1 hBw hbq HP HPL hlen hB1
  go_wp2
  go_region_held3 (fun w' => w'.cell? ⟨g, 0, none⟩ = some (.slice (some ⟨b0, 0, none⟩) 3 c0) ∧ w'.cell? ⟨g, 1, none⟩ = some (.slice (some ⟨b1, 0, none⟩) 3 c1) ∧ w'.cell? ⟨b0, 0, none⟩ = some (.int .i64 u0) ∧ w'.cell? ⟨b0, 1, none⟩ = some (.int .i64 u1) ∧ w'.cell? ⟨b0, 2, none⟩ = some (.int .i64 u2) ∧ w'.cell? ⟨b1, 0, none⟩ = some (.int .i64 v0) ∧ w'.cell? ⟨b1, 1, none⟩ = some (.int .i64 v1) ∧ w'.cell? ⟨b1, 2, none⟩ = some (.int .i64 v2)) ((go_split_ands; (repeat (any_goals (with_reducible apply And.intro))) <;> (first | (with_reducible assumption) | (with_reducible exact keepD (by with_reducible assumption)) | ((repeat (first | (with_reducible refine keepD ?_) | (with_reducible refine keepS2 ?_ (by omega)))); (with_reducible assumption)) | (with_reducible exact True.intro)))) (fail)
  have hBn : Below w.heap.size w ((((((w5.setCell ⟨w.heap.size + 1, 0, none⟩ (.int .i64 u0)).setCell ⟨w.heap.size + 1, 1, none⟩ (.int .i64 u1)).setCell ⟨w.heap.size + 1, 2, none⟩ (.int .i64 u2)).setCell ⟨w.heap.size + 1 + 1, 0, none⟩ (.int .i64 v0)).setCell ⟨w.heap.size + 1 + 1, 1, none⟩ (.int .i64 v1)).setCell ⟨w.heap.size + 1 + 1, 2, none⟩ (.int .i64 v2)).drew := (by
    refine Below.drew ?_
    repeat (refine setB2 ?_ (by omega))
    exact hB)
  go_wp2
  (try simp only [Exit.inBlock, Exit.then]); refine bodyPost_ret (by simp [results, Try.results94, go_sem, *]; try rfl) rfl ?_
  exact ⟨by rw [HU.out, HV.out], hBn⟩
set_option maxHeartbeats 8000000 in
theorem l05Line_any (p o0 o1 o2 t : Int) (w : World) (ho : isPt p ⟨o0, o1, o2⟩ = true) (ht : 0 ≤ t ∧ t ≤ p) :
    Calls Try.prog 90 #[.int .i64 p, .agg #[.int .i64 o0, .int .i64 o1, .int .i64 o2], .int .i64 t] w fun e w' => e = .returned (.agg #[.int .i64 (lnAt p ⟨o0, o1, o2⟩ t).x, .int .i64 (lnAt p ⟨o0, o1, o2⟩ t).y, .int .i64 (lnAt p ⟨o0, o1, o2⟩ t).z]) ∧ Below w.heap.size w w' := by
  have hp := isPt_pr ho
  have k1 := isP_lo hp
  have k2 := isP_hi hp
  have hb := (bun_two ho).2
  have hbu := fun w' => l05Base_any p o0 o1 o2 w' ho
  have hE : Hid (lnAt p ⟨o0, o1, o2⟩ t = if t = p then buV p ⟨o0, o1, o2⟩ else ⟨((buU p ⟨o0, o1, o2⟩).x + t * (buV p ⟨o0, o1, o2⟩).x) % p, ((buU p ⟨o0, o1, o2⟩).y + t * (buV p ⟨o0, o1, o2⟩).y) % p, ((buU p ⟨o0, o1, o2⟩).z + t * (buV p ⟨o0, o1, o2⟩).z) % p⟩) := rfl
  obtain ⟨u0, u1, u2, hu⟩ : ∃ u0 u1 u2, buU p ⟨o0, o1, o2⟩ = ⟨u0, u1, u2⟩ := ⟨_, _, _, rfl⟩
  obtain ⟨v0, v1, v2, hv⟩ : ∃ v0 v1 v2, buV p ⟨o0, o1, o2⟩ = ⟨v0, v1, v2⟩ := ⟨_, _, _, rfl⟩
  rw [hu, hv] at hb hbu hE
  have smu : sm u0 ∧ sm u1 ∧ sm u2 := ⟨⟨(hb.ou.2 u0 (by simp [P3.l])).1, by have := (hb.ou.2 u0 (by simp [P3.l])).2; omega⟩, ⟨(hb.ou.2 u1 (by simp [P3.l])).1, by have := (hb.ou.2 u1 (by simp [P3.l])).2; omega⟩, ⟨(hb.ou.2 u2 (by simp [P3.l])).1, by have := (hb.ou.2 u2 (by simp [P3.l])).2; omega⟩⟩
  have smv : sm v0 ∧ sm v1 ∧ sm v2 := ⟨⟨(hb.ov.2 v0 (by simp [P3.l])).1, by have := (hb.ov.2 v0 (by simp [P3.l])).2; omega⟩, ⟨(hb.ov.2 v1 (by simp [P3.l])).1, by have := (hb.ov.2 v1 (by simp [P3.l])).2; omega⟩, ⟨(hb.ov.2 v2 (by simp [P3.l])).1, by have := (hb.ov.2 v2 (by simp [P3.l])).2; omega⟩⟩
  have HBU := Lib.hid hbu
  dsimp only at hE
  clear hb hbu hu hv ho
  by_cases htp : t = p
  · subst htp
    rw [if_pos rfl] at hE
    clear smu smv hp
    go_enter Try.func90, Try.ntmps90
    go_wp2_with (go_at_call 94; refine (HBU.out _).mono ?_; rintro e w1 ⟨rfl, hb1⟩; obtain ⟨hc1, hf1⟩ := bcell hb1; have hz1 := hb1.size; (try simp only [World.size_alloc, World.size_setCell, World.size_drew] at hz1); (try (have hy1w0 : w.heap.size < w1.heap.size := by omega)); (try (have hy1w1 : w.heap.size + 1 < w1.heap.size := by omega)); (try (have hy1w2 : w.heap.size + 1 + 1 < w1.heap.size := by omega)); (try (have hy1w3 : w.heap.size + 1 + 1 + 1 < w1.heap.size := by omega)); (try (have hy1w4 : w.heap.size + 1 + 1 + 1 + 1 < w1.heap.size := by omega)); have s0 : w1.cell? ⟨w.heap.size + 1, 0, none⟩ = some (.int .i64 0) := keepC hb1 (by go_cell); have s1 : w1.cell? ⟨w.heap.size + 1, 1, none⟩ = some (.int .i64 0) := keepC hb1 (by go_cell); have s2 : w1.cell? ⟨w.heap.size + 1, 2, none⟩ = some (.int .i64 0) := keepC hb1 (by go_cell))
    (try simp only [Exit.inBlock, Exit.then]); refine bodyPost_ret (by simp [results, Try.results90, go_sem, *]; try rfl) rfl ?_
    exact ⟨by rw [hE.out], by (repeat' (first | (with_reducible exact Below.refl _ _) | (with_reducible assumption) | (with_reducible refine Below.alloc ?_ ?_ _) | (with_reducible refine Below.drew ?_) | (with_reducible refine below_drewN ?_ _) | (with_reducible refine Below.setCell ?_ ?_ _) | (refine Below.step ?_ (by with_reducible assumption) ?_) | go_size))⟩
  · rw [if_neg htp] at hE
    have hso := fun w' => l01Sum_any p u0 u1 u2 v0 v1 v2 1 t w' k1 k2 smu.1 smu.2.1 smu.2.2 smv.1 smv.2.1 smv.2.2 ⟨by omega, by omega⟩ ⟨by omega, by omega⟩
    simp only [Int.one_mul] at hso
    have HSO := Lib.hid hso
    clear hso smu smv hp
    go_enter Try.func90, Try.ntmps90
    go_wp2_with (first | (go_at_call 94; refine (HBU.out _).mono ?_; rintro e w1 ⟨rfl, hb1⟩; obtain ⟨hc1, hf1⟩ := bcell hb1; have hz1 := hb1.size; (try simp only [World.size_alloc, World.size_setCell, World.size_drew] at hz1); (try (have hy1w0 : w.heap.size < w1.heap.size := by omega)); (try (have hy1w1 : w.heap.size + 1 < w1.heap.size := by omega)); (try (have hy1w2 : w.heap.size + 1 + 1 < w1.heap.size := by omega)); (try (have hy1w3 : w.heap.size + 1 + 1 + 1 < w1.heap.size := by omega)); (try (have hy1w4 : w.heap.size + 1 + 1 + 1 + 1 < w1.heap.size := by omega)); have s0 : w1.cell? ⟨w.heap.size + 1, 0, none⟩ = some (.int .i64 0) := keepC hb1 (by go_cell); have s1 : w1.cell? ⟨w.heap.size + 1, 1, none⟩ = some (.int .i64 0) := keepC hb1 (by go_cell); have s2 : w1.cell? ⟨w.heap.size + 1, 2, none⟩ = some (.int .i64 0) := keepC hb1 (by go_cell)) | (go_at_call 147; refine (HSO.out _).mono ?_; rintro e w2 ⟨rfl, hb2⟩; obtain ⟨hc2, hf2⟩ := bcell hb2; have hz2 := hb2.size; (try simp only [World.size_alloc, World.size_setCell, World.size_drew] at hz2); (try (have hy2w0 : w.heap.size < w2.heap.size := by omega)); (try (have hy2w1 : w.heap.size + 1 < w2.heap.size := by omega)); (try (have hy2w2 : w.heap.size + 1 + 1 < w2.heap.size := by omega)); (try (have hy2w3 : w.heap.size + 1 + 1 + 1 < w2.heap.size := by omega)); (try (have hy2w4 : w.heap.size + 1 + 1 + 1 + 1 < w2.heap.size := by omega)); (try (have hy2w10 : w1.heap.size < w2.heap.size := by omega)); (try (have hy2w11 : w1.heap.size + 1 < w2.heap.size := by omega)); (try (have hy2w12 : w1.heap.size + 1 + 1 < w2.heap.size := by omega)); (try (have hy2w13 : w1.heap.size + 1 + 1 + 1 < w2.heap.size := by omega)); (try (have hy2w14 : w1.heap.size + 1 + 1 + 1 + 1 < w2.heap.size := by omega)); have z0 : w2.cell? ⟨w.heap.size + 1, 0, none⟩ = some (.int .i64 0) := keepC hb2 (by go_cell); have z1 : w2.cell? ⟨w.heap.size + 1, 1, none⟩ = some (.int .i64 0) := keepC hb2 (by go_cell); have z2 : w2.cell? ⟨w.heap.size + 1, 2, none⟩ = some (.int .i64 0) := keepC hb2 (by go_cell)))
    (try simp only [Exit.inBlock, Exit.then]); refine bodyPost_ret (by simp [results, Try.results90, go_sem, *]; try rfl) rfl ?_
    exact ⟨by rw [hE.out], by (repeat' (first | (with_reducible exact Below.refl _ _) | (with_reducible assumption) | (with_reducible refine Below.alloc ?_ ?_ _) | (with_reducible refine Below.drew ?_) | (with_reducible refine below_drewN ?_ _) | (with_reducible refine Below.setCell ?_ ?_ _) | (refine Below.step ?_ (by with_reducible assumption) ?_) | go_size))⟩
set_option maxHeartbeats 4000000 in
theorem LineAtPlace_spec (p o0 o1 o2 t : Int) (w : World) :
    Calls Try.prog 38 #[.int .i64 p, .agg #[.int .i64 o0, .int .i64 o1, .int .i64 o2], .int .i64 t] w fun e w' => e = .returned (.tuple #[.agg #[.int .i64 ((laR p ⟨o0, o1, o2⟩ t).1).x, .int .i64 ((laR p ⟨o0, o1, o2⟩ t).1).y, .int .i64 ((laR p ⟨o0, o1, o2⟩ t).1).z], .int .i64 (laR p ⟨o0, o1, o2⟩ t).2]) ∧ Below w.heap.size w w' := by
  rcases code3 p (allPt p [⟨o0, o1, o2⟩]) with hk | hk | ⟨hp, hok, hk⟩
  · have hE : Hid (laR p ⟨o0, o1, o2⟩ t = (⟨0, 0, 0⟩, 2)) := by show _ = _; unfold laR; rw [hk]; rfl
    go_enter Try.func38, Try.ntmps38
    go_wp2_with (go_at_call 76; refine (l01Code_any _ _ _ _ [⟨o0, o1, o2⟩] _ (rdp1 (by go_cell) (by go_cell) (by go_cell)) (by go_size) (by simp)).mono ?_; rintro e w1 ⟨rfl, hb1⟩; obtain ⟨hc1, hf1⟩ := bcell hb1; have hz1 := hb1.size; (try simp only [World.size_alloc, World.size_setCell, World.size_drew] at hz1); (try (have hy1w0 : w.heap.size < w1.heap.size := by omega)); (try (have hy1w1 : w.heap.size + 1 < w1.heap.size := by omega)); (try (have hy1w2 : w.heap.size + 1 + 1 < w1.heap.size := by omega)); (try (have hy1w3 : w.heap.size + 1 + 1 + 1 < w1.heap.size := by omega)); (try (have hy1w4 : w.heap.size + 1 + 1 + 1 + 1 < w1.heap.size := by omega)); have r1_0 := keepC hb1 (b := w.heap.size + 1) (o := 0) (v := .int .i64 0) (by go_cell); have r1_1 := keepC hb1 (b := w.heap.size + 1) (o := 1) (v := .int .i64 0) (by go_cell); have r1_2 := keepC hb1 (b := w.heap.size + 1) (o := 2) (v := .int .i64 0) (by go_cell))
    (try simp only [Exit.inBlock, Exit.then]); refine bodyPost_ret (by simp [results, Try.results38, go_sem, *]; try rfl) rfl ?_
    exact ⟨by rw [hE.out]; try rfl, by (repeat' (first | (with_reducible exact Below.refl _ _) | (with_reducible assumption) | (with_reducible refine Below.alloc ?_ ?_ _) | (with_reducible refine Below.drew ?_) | (with_reducible refine below_drewN ?_ _) | (with_reducible refine Below.setCell ?_ ?_ _) | (refine Below.step ?_ (by with_reducible assumption) ?_) | go_size))⟩
  · have hE : Hid (laR p ⟨o0, o1, o2⟩ t = (⟨0, 0, 0⟩, 1)) := by show _ = _; unfold laR; rw [hk]; rfl
    go_enter Try.func38, Try.ntmps38
    go_wp2_with (go_at_call 76; refine (l01Code_any _ _ _ _ [⟨o0, o1, o2⟩] _ (rdp1 (by go_cell) (by go_cell) (by go_cell)) (by go_size) (by simp)).mono ?_; rintro e w1 ⟨rfl, hb1⟩; obtain ⟨hc1, hf1⟩ := bcell hb1; have hz1 := hb1.size; (try simp only [World.size_alloc, World.size_setCell, World.size_drew] at hz1); (try (have hy1w0 : w.heap.size < w1.heap.size := by omega)); (try (have hy1w1 : w.heap.size + 1 < w1.heap.size := by omega)); (try (have hy1w2 : w.heap.size + 1 + 1 < w1.heap.size := by omega)); (try (have hy1w3 : w.heap.size + 1 + 1 + 1 < w1.heap.size := by omega)); (try (have hy1w4 : w.heap.size + 1 + 1 + 1 + 1 < w1.heap.size := by omega)); have r1_0 := keepC hb1 (b := w.heap.size + 1) (o := 0) (v := .int .i64 0) (by go_cell); have r1_1 := keepC hb1 (b := w.heap.size + 1) (o := 1) (v := .int .i64 0) (by go_cell); have r1_2 := keepC hb1 (b := w.heap.size + 1) (o := 2) (v := .int .i64 0) (by go_cell))
    (try simp only [Exit.inBlock, Exit.then]); refine bodyPost_ret (by simp [results, Try.results38, go_sem, *]; try rfl) rfl ?_
    exact ⟨by rw [hE.out]; try rfl, by (repeat' (first | (with_reducible exact Below.refl _ _) | (with_reducible assumption) | (with_reducible refine Below.alloc ?_ ?_ _) | (with_reducible refine Below.drew ?_) | (with_reducible refine below_drewN ?_ _) | (with_reducible refine Below.setCell ?_ ?_ _) | (refine Below.step ?_ (by with_reducible assumption) ?_) | go_size))⟩
  · have hpt := (pt1 hok).1
    have k1 := isP_lo hp
    have k2 := isP_hi hp
    have HPT := Lib.hid hpt
    clear hpt hp hok
    cases ht : inB t 0 p
    · have hE : Hid (laR p ⟨o0, o1, o2⟩ t = (⟨0, 0, 0⟩, 2)) := by show _ = _; unfold laR; rw [hk, ht]; rfl
      have HT := Lib.hid ht
      clear ht
      go_enter Try.func38, Try.ntmps38
      go_wp2_with (first | (go_at_call 76; refine (l01Code_any _ _ _ _ [⟨o0, o1, o2⟩] _ (rdp1 (by go_cell) (by go_cell) (by go_cell)) (by go_size) (by simp)).mono ?_; rintro e w1 ⟨rfl, hb1⟩; obtain ⟨hc1, hf1⟩ := bcell hb1; have hz1 := hb1.size; (try simp only [World.size_alloc, World.size_setCell, World.size_drew] at hz1); (try (have hy1w0 : w.heap.size < w1.heap.size := by omega)); (try (have hy1w1 : w.heap.size + 1 < w1.heap.size := by omega)); (try (have hy1w2 : w.heap.size + 1 + 1 < w1.heap.size := by omega)); (try (have hy1w3 : w.heap.size + 1 + 1 + 1 < w1.heap.size := by omega)); (try (have hy1w4 : w.heap.size + 1 + 1 + 1 + 1 < w1.heap.size := by omega)); have r1_0 := keepC hb1 (b := w.heap.size + 1) (o := 0) (v := .int .i64 0) (by go_cell); have r1_1 := keepC hb1 (b := w.heap.size + 1) (o := 1) (v := .int .i64 0) (by go_cell); have r1_2 := keepC hb1 (b := w.heap.size + 1) (o := 2) (v := .int .i64 0) (by go_cell)) | (go_at_call 57; refine (l01In_any _ _ _ _).mono ?_; rw [HT.out]; rintro e w3 ⟨rfl, rfl⟩))
      (try simp only [Exit.inBlock, Exit.then]); refine bodyPost_ret (by simp [results, Try.results38, go_sem, *]; try rfl) rfl ?_
      exact ⟨by rw [hE.out]; try rfl, by (repeat' (first | (with_reducible exact Below.refl _ _) | (with_reducible assumption) | (with_reducible refine Below.alloc ?_ ?_ _) | (with_reducible refine Below.drew ?_) | (with_reducible refine below_drewN ?_ _) | (with_reducible refine Below.setCell ?_ ?_ _) | (refine Below.step ?_ (by with_reducible assumption) ?_) | go_size))⟩
    · have hE : Hid (laR p ⟨o0, o1, o2⟩ t = (lnAt p ⟨o0, o1, o2⟩ t, 0)) := by show _ = _; unfold laR; rw [hk, ht]; rfl
      have htt := inB_iff.1 ht
      have HLA := Lib.hid (fun w' => l05Line_any p o0 o1 o2 t w' HPT.out htt)
      have HT := Lib.hid ht
      clear ht
      go_enter Try.func38, Try.ntmps38
      go_wp2_with (first | (go_at_call 76; refine (l01Code_any _ _ _ _ [⟨o0, o1, o2⟩] _ (rdp1 (by go_cell) (by go_cell) (by go_cell)) (by go_size) (by simp)).mono ?_; rintro e w1 ⟨rfl, hb1⟩; obtain ⟨hc1, hf1⟩ := bcell hb1; have hz1 := hb1.size; (try simp only [World.size_alloc, World.size_setCell, World.size_drew] at hz1); (try (have hy1w0 : w.heap.size < w1.heap.size := by omega)); (try (have hy1w1 : w.heap.size + 1 < w1.heap.size := by omega)); (try (have hy1w2 : w.heap.size + 1 + 1 < w1.heap.size := by omega)); (try (have hy1w3 : w.heap.size + 1 + 1 + 1 < w1.heap.size := by omega)); (try (have hy1w4 : w.heap.size + 1 + 1 + 1 + 1 < w1.heap.size := by omega)); have r1_0 := keepC hb1 (b := w.heap.size + 1) (o := 0) (v := .int .i64 0) (by go_cell); have r1_1 := keepC hb1 (b := w.heap.size + 1) (o := 1) (v := .int .i64 0) (by go_cell); have r1_2 := keepC hb1 (b := w.heap.size + 1) (o := 2) (v := .int .i64 0) (by go_cell)) | (go_at_call 57; refine (l01In_any _ _ _ _).mono ?_; rw [HT.out]; rintro e w3 ⟨rfl, rfl⟩) | (go_at_call 90; refine (HLA.out _).mono ?_; rintro e w4 ⟨rfl, hb4⟩; obtain ⟨hc4, hf4⟩ := bcell hb4; have hz4 := hb4.size; (try simp only [World.size_alloc, World.size_setCell, World.size_drew] at hz4); (try (have hy4w0 : w.heap.size < w4.heap.size := by omega)); (try (have hy4w1 : w.heap.size + 1 < w4.heap.size := by omega)); (try (have hy4w2 : w.heap.size + 1 + 1 < w4.heap.size := by omega)); (try (have hy4w3 : w.heap.size + 1 + 1 + 1 < w4.heap.size := by omega)); (try (have hy4w4 : w.heap.size + 1 + 1 + 1 + 1 < w4.heap.size := by omega)); (try (have hy4w10 : w1.heap.size < w4.heap.size := by omega)); (try (have hy4w11 : w1.heap.size + 1 < w4.heap.size := by omega)); (try (have hy4w12 : w1.heap.size + 1 + 1 < w4.heap.size := by omega)); (try (have hy4w13 : w1.heap.size + 1 + 1 + 1 < w4.heap.size := by omega)); (try (have hy4w14 : w1.heap.size + 1 + 1 + 1 + 1 < w4.heap.size := by omega)); (try (have hy4w20 : w2.heap.size < w4.heap.size := by omega)); (try (have hy4w21 : w2.heap.size + 1 < w4.heap.size := by omega)); (try (have hy4w22 : w2.heap.size + 1 + 1 < w4.heap.size := by omega)); (try (have hy4w23 : w2.heap.size + 1 + 1 + 1 < w4.heap.size := by omega)); (try (have hy4w24 : w2.heap.size + 1 + 1 + 1 + 1 < w4.heap.size := by omega)); (try (have hy4w30 : w3.heap.size < w4.heap.size := by omega)); (try (have hy4w31 : w3.heap.size + 1 < w4.heap.size := by omega)); (try (have hy4w32 : w3.heap.size + 1 + 1 < w4.heap.size := by omega)); (try (have hy4w33 : w3.heap.size + 1 + 1 + 1 < w4.heap.size := by omega)); (try (have hy4w34 : w3.heap.size + 1 + 1 + 1 + 1 < w4.heap.size := by omega)); have z0 : w4.cell? ⟨w.heap.size + 1, 0, none⟩ = some (.int .i64 0) := keepC hb4 (by go_cell); have z1 : w4.cell? ⟨w.heap.size + 1, 1, none⟩ = some (.int .i64 0) := keepC hb4 (by go_cell); have z2 : w4.cell? ⟨w.heap.size + 1, 2, none⟩ = some (.int .i64 0) := keepC hb4 (by go_cell)))
      (try simp only [Exit.inBlock, Exit.then]); refine bodyPost_ret (by simp [results, Try.results38, go_sem, *]; try rfl) rfl ?_
      exact ⟨by rw [hE.out]; try rfl, by (repeat' (first | (with_reducible exact Below.refl _ _) | (with_reducible assumption) | (with_reducible refine Below.alloc ?_ ?_ _) | (with_reducible refine Below.drew ?_) | (with_reducible refine below_drewN ?_ _) | (with_reducible refine Below.setCell ?_ ?_ _) | (refine Below.step ?_ (by with_reducible assumption) ?_) | go_size))⟩
end Go.Proofs.Ytjfabhkgmelmgaa
