/- The two rows of the lines through a point, and the line at a place: what the program's functions return; o is a point for p. -/
import Derived.Test.YtjfabhkgmelmgaaW85
import Derived.Test.YtjfabhkgmelmgaaP17
import Derived.Test.YtjfabhkgmelmgaaW21
import Derived.Test.YtjfabhkgmelmgaaW62
import Derived.BigRegion
import Derived.Laws.Cover3
namespace Go.Proofs.Ytjfabhkgmelmgaa
open Go.RowKit
set_option linter.unusedSimpArgs false
set_option linter.unusedVariables false
set_option maxRecDepth 100000

theorem RedV.at2 {w : World} {base c : Nat} {a : Option Addr} {L : List (List Int)} (h : RedV w base (.slice a L.length c) L) {k : Nat} {r : List Int} (hk : L[k]? = some r) :
    ∃ g b cb, a = some ⟨g, 0, none⟩ ∧ w.cell? ⟨g, k, none⟩ = some (.slice (some ⟨b, 0, none⟩) r.length cb) ∧ Rd w b 0 r ∧ b < w.heap.size ∧ base ≤ g ∧ base ≤ b ∧ r.length ≤ cb := by
  rcases h with ⟨rfl, _⟩ | ⟨g, cap, n, vs, bs, cs, hn, hv, hc, ho⟩
  · simp at hk
  · injection hv with h1 _ _
    subst h1
    obtain ⟨e1, e2, _, e6, e4, e3, e5⟩ := ho.get hk hn
    exact ⟨g, bs k, cs k, rfl, by rw [e3]; exact e1, e2, e4, ho.hg, e6, by omega⟩
theorem len3r' {r : List Int} (h : r.length = 3) : ∃ x y z, r = [x, y, z] := by
  match r, h with
  | [x, y, z], _ => exact ⟨x, y, z, rfl⟩
set_option maxHeartbeats 8000000 in
theorem bundle_any (p o0 o1 o2 : Int) (w : World) (ho : isPt p ⟨o0, o1, o2⟩ = true) :
    Calls Try.prog 100 #[.int .i64 p, .agg #[.int .i64 o0, .int .i64 o1, .int .i64 o2]] w fun e w' => e = .returned (.tuple #[.agg #[.int .i64 (buU p ⟨o0, o1, o2⟩).x, .int .i64 (buU p ⟨o0, o1, o2⟩).y, .int .i64 (buU p ⟨o0, o1, o2⟩).z], .agg #[.int .i64 (buV p ⟨o0, o1, o2⟩).x, .int .i64 (buV p ⟨o0, o1, o2⟩).y, .int .i64 (buV p ⟨o0, o1, o2⟩).z]]) ∧ Below w.heap.size w w' := by
  have hp := isPt_pr ho
  have htwo := (bun_two ho).1
  obtain ⟨u0, u1, u2, hu⟩ : ∃ u0 u1 u2, buU p ⟨o0, o1, o2⟩ = ⟨u0, u1, u2⟩ := ⟨_, _, _, rfl⟩
  obtain ⟨v0, v1, v2, hv⟩ : ∃ v0 v1 v2, buV p ⟨o0, o1, o2⟩ = ⟨v0, v1, v2⟩ := ⟨_, _, _, rfl⟩
  rw [hu, hv] at htwo
  have HU := Lib.hid hu; have HV := Lib.hid hv
  have hK : ∀ (w' : World) (B b : Nat), w'.cell? ⟨B, 0, none⟩ = some (.slice (some ⟨b, 0, none⟩) 3 3) → b < w'.heap.size → Rd w' b 0 [o0, o1, o2] → Calls Try.prog 145 #[.int .i64 p, .slice (some ⟨B, 0, none⟩) 1 1, .int .i64 3] w' fun e w'' => ∃ v, e = .returned v ∧ RedV w'' w'.heap.size v [[u0, u1, u2], [v0, v1, v2]] ∧ Below w'.heap.size w' w'' := fun w' B b h1 h2 h3 => by
    have h := kernel_any p 3 1 (some ⟨B, 0, none⟩) [[o0, o1, o2]] w' hp (fun r hr => by simp at hr; subst hr; exact isPt_ok ho) (fun k r hk => by
      match k, hk with
      | 0, hk =>
        simp at hk; subst hk
        exact ⟨B, 0, _, rfl, World.block_lt_of_cell? w' _ h1, h1, _, 3, rfl, Nat.le_refl _, .inr ⟨b, 0, rfl, h2, h3⟩⟩) (by simp) (by omega)
    have e : bunL p ⟨o0, o1, o2⟩ = ech p (kern p 3 (ech p [[o0, o1, o2]])) := rfl
    rw [← e, htwo] at h
    exact h
  have HK := Lib.hid hK
  clear hK htwo hu hv hp ho
  go_enter Try.func100, Try.ntmps100
  go_wp2_with (go_at_call 145; refine (HK.out _ _ w.heap.size (by go_cell) (by go_size) (rd3 (by go_cell) (by go_cell) (by go_cell))).mono ?_; rintro e w1 ⟨v1, rfl, hv1, hb1⟩; obtain ⟨a1, c1, rfl⟩ := hv1.shape; obtain ⟨hc1, hf1⟩ := bcell hb1; have hz1 := hb1.size; (try simp only [World.size_alloc, World.size_setCell, World.size_drew] at hz1); (try (have hy1w0 : w.heap.size < w1.heap.size := by omega)); (try (have hy1w1 : w.heap.size + 1 < w1.heap.size := by omega)); (try (have hy1w2 : w.heap.size + 1 + 1 < w1.heap.size := by omega)); (try (have hy1w3 : w.heap.size + 1 + 1 + 1 < w1.heap.size := by omega)); (try (have hy1w4 : w.heap.size + 1 + 1 + 1 + 1 < w1.heap.size := by omega)))
  obtain ⟨g, b0, c0, rfl, e1, e2, _, hg, hb0, _⟩ := hv1.at2 (k := 0) (r := [u0, u1, u2]) rfl
  obtain ⟨g', b1, c1', hgg, f1, f2, _, _, hb1', _⟩ := hv1.at2 (k := 1) (r := [v0, v1, v2]) rfl
  injection hgg with hgg
  injection hgg with hgg
  subst hgg
  simp only [World.size_alloc] at hg hb0 hb1'
  have r0 := e2 0 _ rfl; have r1 := e2 1 _ rfl; have r2 := e2 2 _ rfl
  have t0 := f2 0 _ rfl; have t1 := f2 1 _ rfl; have t2 := f2 2 _ rfl
  simp only [Nat.zero_add, List.length_cons, List.length_nil] at e1 f1 r0 r1 r2 t0 t1 t2
  have Z1 : Box 55 w1 (w.heap.size + 1) [0, 0, 0] := Box.below hb1 (Box.alloc (Box.alloc (Box.new [0, 0, 0] (by simp)) _) _)
  have Z2 : Box 55 w1 (w.heap.size + 1 + 1) [0, 0, 0] := Box.below hb1 (Box.alloc (Box.new [0, 0, 0] (by simp)) _)
  have hat : ∀ (w' : World) (b c : Nat), (Instr.arrayAt 55 (.slice (some ⟨b, 0, none⟩) 3 c)).run Try.prog w' = .ok (.pointer (some ⟨b, 0, none⟩)) w' := fun w' b c => run_arrayAt w' _ 2 3 _ 3 c Try.underlying55 (Nat.le_refl _)
  have x0 := Z1.cell 0 rfl; have x1 := Z1.cell 1 rfl; have x2 := Z1.cell 2 rfl
  have y0 := Z2.cell 0 rfl; have y1 := Z2.cell 1 rfl; have y2 := Z2.cell 2 rfl
  have fx0 := Z1.frz 0; have fx1 := Z1.frz 1; have fx2 := Z1.frz 2
  have fy0 := Z2.frz 0; have fy1 := Z2.frz 1; have fy2 := Z2.frz 2
  have hB : Below w.heap.size w w1 := by (repeat' (first | (with_reducible exact Below.refl _ _) | (with_reducible assumption) | (with_reducible refine Below.alloc ?_ ?_ _) | (with_reducible refine Below.drew ?_) | (with_reducible refine below_drewN ?_ _) | (with_reducible refine Below.setCell ?_ ?_ _) | (refine Below.step ?_ (by with_reducible assumption) ?_) | go_size))
  have hz := hB.size
  clear hv1 e2 f2 Z1 Z2 HK hb1
  go_region
  have hBn : Below w.heap.size w ((((((w1.setCell ⟨w.heap.size + 1, 0, none⟩ (.int .i64 u0)).setCell ⟨w.heap.size + 1, 1, none⟩ (.int .i64 u1)).setCell ⟨w.heap.size + 1, 2, none⟩ (.int .i64 u2)).setCell ⟨w.heap.size + 1 + 1, 0, none⟩ (.int .i64 v0)).setCell ⟨w.heap.size + 1 + 1, 1, none⟩ (.int .i64 v1)).setCell ⟨w.heap.size + 1 + 1, 2, none⟩ (.int .i64 v2)).drew := (by
    refine Below.drew ?_
    repeat (refine setB2 ?_ (by omega))
    exact hB)
  go_wp2
  (try simp only [Exit.inBlock, Exit.then]); refine bodyPost_ret (by simp [results, Try.results100, go_sem, *]; try rfl) rfl ?_
  exact ⟨by rw [HU.out, HV.out], hBn⟩
/-- The line at a place. -/
def lnAt (p : Int) (o : P3) (t : Int) : P3 := if t = p then buV p o else ⟨((buU p o).x + t * (buV p o).x) % p, ((buU p o).y + t * (buV p o).y) % p, ((buU p o).z + t * (buV p o).z) % p⟩
set_option maxHeartbeats 8000000 in
theorem lineAt_any (p o0 o1 o2 t : Int) (w : World) (ho : isPt p ⟨o0, o1, o2⟩ = true) (ht : 0 ≤ t ∧ t ≤ p) :
    Calls Try.prog 92 #[.int .i64 p, .agg #[.int .i64 o0, .int .i64 o1, .int .i64 o2], .int .i64 t] w fun e w' => e = .returned (.agg #[.int .i64 (lnAt p ⟨o0, o1, o2⟩ t).x, .int .i64 (lnAt p ⟨o0, o1, o2⟩ t).y, .int .i64 (lnAt p ⟨o0, o1, o2⟩ t).z]) ∧ Below w.heap.size w w' := by
  have hp := isPt_pr ho
  have k1 := isP_lo hp
  have k2 := isP_hi hp
  have hb := (bun_two ho).2
  have hbu := fun w' => bundle_any p o0 o1 o2 w' ho
  have hE : Hid (lnAt p ⟨o0, o1, o2⟩ t = if t = p then buV p ⟨o0, o1, o2⟩ else ⟨((buU p ⟨o0, o1, o2⟩).x + t * (buV p ⟨o0, o1, o2⟩).x) % p, ((buU p ⟨o0, o1, o2⟩).y + t * (buV p ⟨o0, o1, o2⟩).y) % p, ((buU p ⟨o0, o1, o2⟩).z + t * (buV p ⟨o0, o1, o2⟩).z) % p⟩) := rfl
  obtain ⟨u0, u1, u2, hu⟩ : ∃ u0 u1 u2, buU p ⟨o0, o1, o2⟩ = ⟨u0, u1, u2⟩ := ⟨_, _, _, rfl⟩
  obtain ⟨v0, v1, v2, hv⟩ : ∃ v0 v1 v2, buV p ⟨o0, o1, o2⟩ = ⟨v0, v1, v2⟩ := ⟨_, _, _, rfl⟩
  rw [hu, hv] at hb hbu hE
  have hs := bun_sum hp hb t
  have smu : sm u0 ∧ sm u1 ∧ sm u2 := ⟨⟨(hb.ou.2 u0 (by simp [P3.l])).1, by have := (hb.ou.2 u0 (by simp [P3.l])).2; omega⟩, ⟨(hb.ou.2 u1 (by simp [P3.l])).1, by have := (hb.ou.2 u1 (by simp [P3.l])).2; omega⟩, ⟨(hb.ou.2 u2 (by simp [P3.l])).1, by have := (hb.ou.2 u2 (by simp [P3.l])).2; omega⟩⟩
  have smv : sm v0 ∧ sm v1 ∧ sm v2 := ⟨⟨(hb.ov.2 v0 (by simp [P3.l])).1, by have := (hb.ov.2 v0 (by simp [P3.l])).2; omega⟩, ⟨(hb.ov.2 v1 (by simp [P3.l])).1, by have := (hb.ov.2 v1 (by simp [P3.l])).2; omega⟩, ⟨(hb.ov.2 v2 (by simp [P3.l])).1, by have := (hb.ov.2 v2 (by simp [P3.l])).2; omega⟩⟩
  have HBU := Lib.hid hbu
  dsimp only at hs hE
  clear hb hbu hu hv ho
  by_cases htp : t = p
  · subst htp
    rw [if_pos rfl] at hE
    clear hs smu smv hp
    go_enter Try.func92, Try.ntmps92
    go_wp2_with (go_at_call 100; refine (HBU.out _).mono ?_; rintro e w1 ⟨rfl, hb1⟩; obtain ⟨hc1, hf1⟩ := bcell hb1; have hz1 := hb1.size; (try simp only [World.size_alloc, World.size_setCell, World.size_drew] at hz1); (try (have hy1w0 : w.heap.size < w1.heap.size := by omega)); (try (have hy1w1 : w.heap.size + 1 < w1.heap.size := by omega)); (try (have hy1w2 : w.heap.size + 1 + 1 < w1.heap.size := by omega)); (try (have hy1w3 : w.heap.size + 1 + 1 + 1 < w1.heap.size := by omega)); (try (have hy1w4 : w.heap.size + 1 + 1 + 1 + 1 < w1.heap.size := by omega)))
    (try simp only [Exit.inBlock, Exit.then]); refine bodyPost_ret (by simp [results, Try.results92, go_sem, *]; try rfl) rfl ?_
    exact ⟨by rw [hE.out], by (repeat' (first | (with_reducible exact Below.refl _ _) | (with_reducible assumption) | (with_reducible refine Below.alloc ?_ ?_ _) | (with_reducible refine Below.drew ?_) | (with_reducible refine below_drewN ?_ _) | (with_reducible refine Below.setCell ?_ ?_ _) | (refine Below.step ?_ (by with_reducible assumption) ?_) | go_size))⟩
  · rw [if_neg htp] at hE
    have hso := fun w' => sumOf_any p 1 u0 u1 u2 t v0 v1 v2 w' hp (by omega) (by omega) smu.1 smu.2.1 smu.2.2 smv.1 smv.2.1 smv.2.2
    rw [hs] at hso
    simp only [Int.one_mul] at hso
    have HSO := Lib.hid hso
    clear hs hso smu smv hp
    go_enter Try.func92, Try.ntmps92
    go_wp2_with (first | (go_at_call 100; refine (HBU.out _).mono ?_; rintro e w1 ⟨rfl, hb1⟩; obtain ⟨hc1, hf1⟩ := bcell hb1; have hz1 := hb1.size; (try simp only [World.size_alloc, World.size_setCell, World.size_drew] at hz1); (try (have hy1w0 : w.heap.size < w1.heap.size := by omega)); (try (have hy1w1 : w.heap.size + 1 < w1.heap.size := by omega)); (try (have hy1w2 : w.heap.size + 1 + 1 < w1.heap.size := by omega)); (try (have hy1w3 : w.heap.size + 1 + 1 + 1 < w1.heap.size := by omega)); (try (have hy1w4 : w.heap.size + 1 + 1 + 1 + 1 < w1.heap.size := by omega)); have s0 : w1.cell? ⟨w.heap.size + 1, 0, none⟩ = some (.int .i64 0) := keepC hb1 (by go_cell); have s1 : w1.cell? ⟨w.heap.size + 1, 1, none⟩ = some (.int .i64 0) := keepC hb1 (by go_cell); have s2 : w1.cell? ⟨w.heap.size + 1, 2, none⟩ = some (.int .i64 0) := keepC hb1 (by go_cell)) | (go_at_call 148; refine (HSO.out _).mono ?_; rintro e w2 ⟨rfl, hb2⟩; obtain ⟨hc2, hf2⟩ := bcell hb2; have hz2 := hb2.size; (try simp only [World.size_alloc, World.size_setCell, World.size_drew] at hz2); (try (have hy2w0 : w.heap.size < w2.heap.size := by omega)); (try (have hy2w1 : w.heap.size + 1 < w2.heap.size := by omega)); (try (have hy2w2 : w.heap.size + 1 + 1 < w2.heap.size := by omega)); (try (have hy2w3 : w.heap.size + 1 + 1 + 1 < w2.heap.size := by omega)); (try (have hy2w4 : w.heap.size + 1 + 1 + 1 + 1 < w2.heap.size := by omega)); (try (have hy2w10 : w1.heap.size < w2.heap.size := by omega)); (try (have hy2w11 : w1.heap.size + 1 < w2.heap.size := by omega)); (try (have hy2w12 : w1.heap.size + 1 + 1 < w2.heap.size := by omega)); (try (have hy2w13 : w1.heap.size + 1 + 1 + 1 < w2.heap.size := by omega)); (try (have hy2w14 : w1.heap.size + 1 + 1 + 1 + 1 < w2.heap.size := by omega)); have z0 : w2.cell? ⟨w.heap.size + 1, 0, none⟩ = some (.int .i64 0) := keepC hb2 (by go_cell); have z1 : w2.cell? ⟨w.heap.size + 1, 1, none⟩ = some (.int .i64 0) := keepC hb2 (by go_cell); have z2 : w2.cell? ⟨w.heap.size + 1, 2, none⟩ = some (.int .i64 0) := keepC hb2 (by go_cell)))
    (try simp only [Exit.inBlock, Exit.then]); refine bodyPost_ret (by simp [results, Try.results92, go_sem, *]; try rfl) rfl ?_
    exact ⟨by rw [hE.out], by (repeat' (first | (with_reducible exact Below.refl _ _) | (with_reducible assumption) | (with_reducible refine Below.alloc ?_ ?_ _) | (with_reducible refine Below.drew ?_) | (with_reducible refine below_drewN ?_ _) | (with_reducible refine Below.setCell ?_ ?_ _) | (refine Below.step ?_ (by with_reducible assumption) ?_) | go_size))⟩
end Go.Proofs.Ytjfabhkgmelmgaa
