/- AreConjugate: what the two functions return; no condition on the exported ones. -/
import Derived.Test.YtemimkbngfbomaaW53
import Derived.Test.YtemimkbngfbomaaP3
import Derived.Test.YtemimkbngfbomaaH2
import Derived.Test.YtemimkbngfbomaaW7
import Derived.Deep.RegionWith
import Derived.Deep.RegionHeld3
import Derived.Deep.DeepCutAuto
import Derived.StillTailTactics
namespace Go.Proofs.Ytemimkbngfbomaa
open Go.RowKit
set_option linter.unusedSimpArgs false
set_option linter.unusedVariables false
set_option maxRecDepth 100000

/-- What the matrix makes of two points. -/
def cjV (p : Int) (c : C6) (a b : P3) : Int := dot3 p a.x a.y a.z (dot3 p (mxC p c).m0 (mxC p c).m1 (mxC p c).m2 b.x b.y b.z) (dot3 p (mxC p c).m3 (mxC p c).m4 (mxC p c).m5 b.x b.y b.z) (dot3 p (mxC p c).m6 (mxC p c).m7 (mxC p c).m8 b.x b.y b.z)
def cjCode (p : Int) (c : C6) (a b : P3) : Int := coCode p (allPt p [a, b]) [c]
def cjR (p : Int) (c : C6) (a b : P3) : Bool × Int := if cjCode p c a b = 0 then (cjV p c a b == 0, 0) else (false, cjCode p c a b)
theorem M9_parts (e : M9) : ∃ m0 m1 m2 m3 m4 m5 m6 m7 m8, e = ⟨m0, m1, m2, m3, m4, m5, m6, m7, m8⟩ := ⟨_, _, _, _, _, _, _, _, _, rfl⟩
theorem mxC_sm {p c0 c1 c2 c3 c4 c5 : Int} (hp : isP p = true) (h : isCo p ⟨c0, c1, c2, c3, c4, c5⟩ = true) : smM (mxC p ⟨c0, c1, c2, c3, c4, c5⟩) := by
  obtain ⟨s0, s1, s2, s3, s4, s5⟩ := isCo_sm h
  exact ⟨em_sm hp _, s3, s4, s3, em_sm hp _, s5, s4, s5, em_sm hp _⟩
theorem dot3_sm {p : Int} (hp : isP p = true) (a b c d e f : Int) : sm (dot3 p a b c d e f) := em_sm hp _
theorem matrix_co (p c0 c1 c2 c3 c4 c5 : Int) (hp : isP p = true) (h : isCo p ⟨c0, c1, c2, c3, c4, c5⟩ = true) (w : World) :
    Calls Try.prog 60 #[.agg #[.int .i64 c0, .int .i64 c1, .int .i64 c2, .int .i64 c3, .int .i64 c4, .int .i64 c5], .int .i64 p] w fun e w' => e = .returned (.agg #[.int .i64 (mxC p ⟨c0, c1, c2, c3, c4, c5⟩).m0, .int .i64 (mxC p ⟨c0, c1, c2, c3, c4, c5⟩).m1, .int .i64 (mxC p ⟨c0, c1, c2, c3, c4, c5⟩).m2, .int .i64 (mxC p ⟨c0, c1, c2, c3, c4, c5⟩).m3, .int .i64 (mxC p ⟨c0, c1, c2, c3, c4, c5⟩).m4, .int .i64 (mxC p ⟨c0, c1, c2, c3, c4, c5⟩).m5, .int .i64 (mxC p ⟨c0, c1, c2, c3, c4, c5⟩).m6, .int .i64 (mxC p ⟨c0, c1, c2, c3, c4, c5⟩).m7, .int .i64 (mxC p ⟨c0, c1, c2, c3, c4, c5⟩).m8]) ∧ Below w.heap.size w w' := by
  obtain ⟨s0, s1, s2, s3, s4, s5⟩ := isCo_sm h
  obtain ⟨r0, r1, r2, r3, r4, r5⟩ := isCo_rng h
  exact matrix_any p c0 c1 c2 c3 c4 c5 w (isP_lo hp) (isP_hi hp) s0 s1 s2 s3 s4 s5 r0 r1 r2 r3 r4 r5
theorem cj_ok {p : Int} {c : C6} {ps : List P3} (h : (allPt p ps && [c].all (isCo p)) = true) : allPt p ps = true ∧ isCo p c = true := by simpa using h
set_option maxHeartbeats 4000000 in
theorem AreConjugate_any (p c0 c1 c2 c3 c4 c5 a0 a1 a2 b0 b1 b2 : Int) (w : World) :
    Calls Try.prog 21 #[.int .i64 p, .agg #[.int .i64 c0, .int .i64 c1, .int .i64 c2, .int .i64 c3, .int .i64 c4, .int .i64 c5], .agg #[.int .i64 a0, .int .i64 a1, .int .i64 a2], .agg #[.int .i64 b0, .int .i64 b1, .int .i64 b2]] w fun e w' => e = .returned (.tuple #[.bool (cjR p ⟨c0, c1, c2, c3, c4, c5⟩ ⟨a0, a1, a2⟩ ⟨b0, b1, b2⟩).1, .int .i64 (cjR p ⟨c0, c1, c2, c3, c4, c5⟩ ⟨a0, a1, a2⟩ ⟨b0, b1, b2⟩).2]) ∧ Below w.heap.size w w' := by
  go_enter Try.func21, Try.ntmps21
  go_upto_region 1 with fail
  refine wp_name (fun w' => Box 24 w' (w.heap.size) [c0, c1, c2, c3, c4, c5] ∧ Box 35 w' (w.heap.size + 1) [a0, a1, a2] ∧ Box 35 w' (w.heap.size + 1 + 1) [b0, b1, b2] ∧ Below w.heap.size w w') ⟨Box.alloc (Box.alloc (Box.new [c0, c1, c2, c3, c4, c5] (by simp)) _) _, Box.alloc (Box.new [a0, a1, a2] (by simp)) _, Box.new [b0, b1, b2] (by simp), by (repeat' (first | (with_reducible exact Below.refl _ _) | (with_reducible assumption) | (with_reducible refine Below.alloc ?_ ?_ _) | (with_reducible refine Below.drew ?_) | (with_reducible refine below_drewN ?_ _) | (with_reducible refine Below.setCell ?_ ?_ _) | (refine Below.step ?_ (by with_reducible assumption) ?_) | go_size))⟩ ?_
  rintro wq ⟨Bc, Ba, Bb, hB⟩
  have hz := hB.size
  have qc0 := Bc.cell 0 rfl
  have qc1 := Bc.cell 1 rfl
  have qc2 := Bc.cell 2 rfl
  have qc3 := Bc.cell 3 rfl
  have qc4 := Bc.cell 4 rfl
  have qc5 := Bc.cell 5 rfl
  have ltc := Bc.lt
  have qa0 := Ba.cell 0 rfl
  have qa1 := Ba.cell 1 rfl
  have qa2 := Ba.cell 2 rfl
  have lta := Ba.lt
  have qb0 := Bb.cell 0 rfl
  have qb1 := Bb.cell 1 rfl
  have qb2 := Bb.cell 2 rfl
  have ltb := Bb.lt
  have hsz : w.heap.size + 1 + 1 + 1 ≤ wq.heap.size := Bb.lt
  go_cut [10] (fun s10 w' => s10 = .int .i64 (cjCode p ⟨c0, c1, c2, c3, c4, c5⟩ ⟨a0, a1, a2⟩ ⟨b0, b1, b2⟩) ∧ Box 24 w' (w.heap.size) [c0, c1, c2, c3, c4, c5] ∧ Box 35 w' (w.heap.size + 1) [a0, a1, a2] ∧ Box 35 w' (w.heap.size + 1 + 1) [b0, b1, b2] ∧ Below w.heap.size w w')
  case first =>
    go_region_held3 (fun w' => w'.cell? ⟨w.heap.size, 0, none⟩ = some (.int .i64 c0) ∧ w'.cell? ⟨w.heap.size, 1, none⟩ = some (.int .i64 c1) ∧ w'.cell? ⟨w.heap.size, 2, none⟩ = some (.int .i64 c2) ∧ w'.cell? ⟨w.heap.size, 3, none⟩ = some (.int .i64 c3) ∧ w'.cell? ⟨w.heap.size, 4, none⟩ = some (.int .i64 c4) ∧ w'.cell? ⟨w.heap.size, 5, none⟩ = some (.int .i64 c5) ∧ w'.cell? ⟨w.heap.size + 1, 0, none⟩ = some (.int .i64 a0) ∧ w'.cell? ⟨w.heap.size + 1, 1, none⟩ = some (.int .i64 a1) ∧ w'.cell? ⟨w.heap.size + 1, 2, none⟩ = some (.int .i64 a2) ∧ w'.cell? ⟨w.heap.size + 1 + 1, 0, none⟩ = some (.int .i64 b0) ∧ w'.cell? ⟨w.heap.size + 1 + 1, 1, none⟩ = some (.int .i64 b1) ∧ w'.cell? ⟨w.heap.size + 1 + 1, 2, none⟩ = some (.int .i64 b2) ∧ Box 24 w' (w.heap.size) [c0, c1, c2, c3, c4, c5] ∧ Box 35 w' (w.heap.size + 1) [a0, a1, a2] ∧ Box 35 w' (w.heap.size + 1 + 1) [b0, b1, b2] ∧ Below w.heap.size w w' ∧ w.heap.size + 1 + 1 + 1 ≤ w'.heap.size) ((go_split_ands; (repeat (any_goals (with_reducible apply And.intro))) <;> ((repeat (first | (with_reducible assumption) | (with_reducible exact Below.refl _ _) | (with_reducible refine keepD ?_) | (with_reducible refine Below.drew ?_) | (with_reducible refine Box.drew ?_) | (with_reducible refine sizeD ?_) | (with_reducible exact keepC (by with_reducible assumption) (by with_reducible assumption)) | (with_reducible exact Box.below (by with_reducible assumption) (by with_reducible assumption)) | (with_reducible exact keepB (by with_reducible assumption) (by with_reducible assumption) (Nat.le_refl _)) | (with_reducible exact sizeC (by with_reducible assumption) (by with_reducible assumption)) | (with_reducible refine keepA _ ?_) | (with_reducible refine Box.alloc ?_ _) | (with_reducible refine allocB ?_ (Nat.le_refl _) _) | (with_reducible refine sizeA ?_ _))); done))) ((first | (go_at_call 59; refine (arePoints_any p _ 0 _ [⟨a0, a1, a2⟩, ⟨b0, b1, b2⟩] _ (rdp2 (by go_cell) (by go_cell) (by go_cell) (by go_cell) (by go_cell) (by go_cell)) (by go_size) (by simp)).mono ?_; rintro e w1 ⟨rfl, hb1⟩; obtain ⟨hc1, hf1⟩ := bcell hb1; have hz1 := hb1.size; (try simp only [World.size_alloc, World.size_setCell, World.size_drew] at hz1); (try (have hy1w0 : w.heap.size < w1.heap.size := by omega)); (try (have hy1w1 : w.heap.size + 1 < w1.heap.size := by omega)); (try (have hy1w2 : w.heap.size + 1 + 1 < w1.heap.size := by omega)); (try (have hy1w3 : w.heap.size + 1 + 1 + 1 < w1.heap.size := by omega)); (try (have hy1w4 : w.heap.size + 1 + 1 + 1 + 1 < w1.heap.size := by omega)); (try (have hy1wc0 : wc.heap.size < w1.heap.size := by omega)); (try (have hy1wc1 : wc.heap.size + 1 < w1.heap.size := by omega)); (try (have hy1wc2 : wc.heap.size + 1 + 1 < w1.heap.size := by omega)); (try (have hy1wc3 : wc.heap.size + 1 + 1 + 1 < w1.heap.size := by omega)); (try (have hy1wc4 : wc.heap.size + 1 + 1 + 1 + 1 < w1.heap.size := by omega))) | (go_at_call 58; refine (conicsCode_any p _ _ _ [⟨c0, c1, c2, c3, c4, c5⟩] _ (rdC6_1 (by go_cell) (by go_cell) (by go_cell) (by go_cell) (by go_cell) (by go_cell)) (by go_size) (by simp)).mono ?_; rintro e w2 ⟨rfl, hb2⟩; obtain ⟨hc2, hf2⟩ := bcell hb2; have hz2 := hb2.size; (try simp only [World.size_alloc, World.size_setCell, World.size_drew] at hz2); (try (have hy2w0 : w.heap.size < w2.heap.size := by omega)); (try (have hy2w1 : w.heap.size + 1 < w2.heap.size := by omega)); (try (have hy2w2 : w.heap.size + 1 + 1 < w2.heap.size := by omega)); (try (have hy2w3 : w.heap.size + 1 + 1 + 1 < w2.heap.size := by omega)); (try (have hy2w4 : w.heap.size + 1 + 1 + 1 + 1 < w2.heap.size := by omega)); (try (have hy2wc0 : wc.heap.size < w2.heap.size := by omega)); (try (have hy2wc1 : wc.heap.size + 1 < w2.heap.size := by omega)); (try (have hy2wc2 : wc.heap.size + 1 + 1 < w2.heap.size := by omega)); (try (have hy2wc3 : wc.heap.size + 1 + 1 + 1 < w2.heap.size := by omega)); (try (have hy2wc4 : wc.heap.size + 1 + 1 + 1 + 1 < w2.heap.size := by omega)); (try (have hy2w10 : w1.heap.size < w2.heap.size := by omega)); (try (have hy2w11 : w1.heap.size + 1 < w2.heap.size := by omega)); (try (have hy2w12 : w1.heap.size + 1 + 1 < w2.heap.size := by omega)); (try (have hy2w13 : w1.heap.size + 1 + 1 + 1 < w2.heap.size := by omega)); (try (have hy2w14 : w1.heap.size + 1 + 1 + 1 + 1 < w2.heap.size := by omega)))))
    all_goals (go_wp2_with fail; go_meet; refine And.intro rfl ?_; ((go_split_ands; (repeat (any_goals (with_reducible apply And.intro))) <;> ((repeat (first | (with_reducible assumption) | (with_reducible exact Below.refl _ _) | (with_reducible refine keepD ?_) | (with_reducible refine Below.drew ?_) | (with_reducible refine Box.drew ?_) | (with_reducible refine sizeD ?_) | (with_reducible exact keepC (by with_reducible assumption) (by with_reducible assumption)) | (with_reducible exact Box.below (by with_reducible assumption) (by with_reducible assumption)) | (with_reducible exact keepB (by with_reducible assumption) (by with_reducible assumption) (Nat.le_refl _)) | (with_reducible exact sizeC (by with_reducible assumption) (by with_reducible assumption)) | (with_reducible refine keepA _ ?_) | (with_reducible refine Box.alloc ?_ _) | (with_reducible refine allocB ?_ (Nat.le_refl _) _) | (with_reducible refine sizeA ?_ _))); done))))
  clear hB hz Bc ltc qc0 qc1 qc2 qc3 qc4 qc5 Ba lta qa0 qa1 qa2 Bb ltb qb0 qb1 qb2 hsz
  case' rest => obtain ⟨rfl, Bc, Ba, Bb, hB⟩ := hcut; have hz := hB.size
  rcases coCode3 p (allPt p [⟨a0, a1, a2⟩, ⟨b0, b1, b2⟩]) [⟨c0, c1, c2, c3, c4, c5⟩] with hk | hk | ⟨hp, hok, hk⟩
  · have hE : Hid (cjR p ⟨c0, c1, c2, c3, c4, c5⟩ ⟨a0, a1, a2⟩ ⟨b0, b1, b2⟩ = (false, 2)) := by show _ = _; unfold cjR; rw [show cjCode p ⟨c0, c1, c2, c3, c4, c5⟩ ⟨a0, a1, a2⟩ ⟨b0, b1, b2⟩ = 2 from hk]; rfl
    rw [show cjCode p ⟨c0, c1, c2, c3, c4, c5⟩ ⟨a0, a1, a2⟩ ⟨b0, b1, b2⟩ = 2 from hk]
    go_wp2_with fail
    go_returns
    exact ⟨by rw [hE.out]; try rfl, by (repeat' (first | (with_reducible exact Below.refl _ _) | (with_reducible assumption) | (with_reducible refine Below.alloc ?_ ?_ _) | (with_reducible refine Below.drew ?_) | (with_reducible refine below_drewN ?_ _) | (with_reducible refine Below.setCell ?_ ?_ _) | (refine Below.step ?_ (by with_reducible assumption) ?_) | go_size))⟩
  · have hE : Hid (cjR p ⟨c0, c1, c2, c3, c4, c5⟩ ⟨a0, a1, a2⟩ ⟨b0, b1, b2⟩ = (false, 1)) := by show _ = _; unfold cjR; rw [show cjCode p ⟨c0, c1, c2, c3, c4, c5⟩ ⟨a0, a1, a2⟩ ⟨b0, b1, b2⟩ = 1 from hk]; rfl
    rw [show cjCode p ⟨c0, c1, c2, c3, c4, c5⟩ ⟨a0, a1, a2⟩ ⟨b0, b1, b2⟩ = 1 from hk]
    go_wp2_with fail
    go_returns
    exact ⟨by rw [hE.out]; try rfl, by (repeat' (first | (with_reducible exact Below.refl _ _) | (with_reducible assumption) | (with_reducible refine Below.alloc ?_ ?_ _) | (with_reducible refine Below.drew ?_) | (with_reducible refine below_drewN ?_ _) | (with_reducible refine Below.setCell ?_ ?_ _) | (refine Below.step ?_ (by with_reducible assumption) ?_) | go_size))⟩
  · obtain ⟨hpts, hco⟩ := cj_ok hok
    obtain ⟨sa, sb⟩ := pts2 hpts
    obtain ⟨sa0, sa1, sa2⟩ := sa; obtain ⟨sb0, sb1, sb2⟩ := sb
    have k1 := isP_lo hp; have k2 := isP_hi hp
    have hms := mxC_sm hp hco
    have hmx := fun w' => matrix_co p c0 c1 c2 c3 c4 c5 hp hco w'
    have hE0 : cjR p ⟨c0, c1, c2, c3, c4, c5⟩ ⟨a0, a1, a2⟩ ⟨b0, b1, b2⟩ = (cjV p ⟨c0, c1, c2, c3, c4, c5⟩ ⟨a0, a1, a2⟩ ⟨b0, b1, b2⟩ == 0, 0) := by unfold cjR; rw [show cjCode p ⟨c0, c1, c2, c3, c4, c5⟩ ⟨a0, a1, a2⟩ ⟨b0, b1, b2⟩ = 0 from hk]; rfl
    unfold cjV at hE0
    obtain ⟨m0, m1, m2, m3, m4, m5, m6, m7, m8, hM⟩ := M9_parts (mxC p ⟨c0, c1, c2, c3, c4, c5⟩)
    rw [hM] at hms hmx hE0
    obtain ⟨sm0, sm1, sm2, sm3, sm4, sm5, sm6, sm7, sm8⟩ := hms
    dsimp only at hmx hE0 sm0 sm1 sm2 sm3 sm4 sm5 sm6 sm7 sm8
    have sd0 := dot3_sm hp m0 m1 m2 b0 b1 b2
    obtain ⟨d0, he0⟩ : ∃ d : Int, Hid (d = dot3 p m0 m1 m2 b0 b1 b2) := ⟨_, rfl⟩
    rw [← he0.out] at sd0 hE0
    have sd1 := dot3_sm hp m3 m4 m5 b0 b1 b2
    obtain ⟨d1, he1⟩ : ∃ d : Int, Hid (d = dot3 p m3 m4 m5 b0 b1 b2) := ⟨_, rfl⟩
    rw [← he1.out] at sd1 hE0
    have sd2 := dot3_sm hp m6 m7 m8 b0 b1 b2
    obtain ⟨d2, he2⟩ : ∃ d : Int, Hid (d = dot3 p m6 m7 m8 b0 b1 b2) := ⟨_, rfl⟩
    rw [← he2.out] at sd2 hE0
    obtain ⟨v, hv⟩ : ∃ v : Int, Hid (v = dot3 p a0 a1 a2 d0 d1 d2) := ⟨_, rfl⟩
    rw [← hv.out] at hE0
    have hE := Lib.hid hE0
    have hd0 : Hid (∀ w' : World, Calls Try.prog 61 #[.int .i64 p, .agg #[.int .i64 m0, .int .i64 m1, .int .i64 m2], .agg #[.int .i64 b0, .int .i64 b1, .int .i64 b2]] w' fun e w'' => e = .returned (.int .i64 d0) ∧ Below w'.heap.size w' w'') := fun w' => (dot_any p m0 m1 m2 b0 b1 b2 w' k1 k2 sm0 sm1 sm2 sb0 sb1 sb2).mono fun _ _ h => ⟨by rw [he0.out]; exact h.1, h.2⟩
    have hd1 : Hid (∀ w' : World, Calls Try.prog 61 #[.int .i64 p, .agg #[.int .i64 m3, .int .i64 m4, .int .i64 m5], .agg #[.int .i64 b0, .int .i64 b1, .int .i64 b2]] w' fun e w'' => e = .returned (.int .i64 d1) ∧ Below w'.heap.size w' w'') := fun w' => (dot_any p m3 m4 m5 b0 b1 b2 w' k1 k2 sm3 sm4 sm5 sb0 sb1 sb2).mono fun _ _ h => ⟨by rw [he1.out]; exact h.1, h.2⟩
    have hd2 : Hid (∀ w' : World, Calls Try.prog 61 #[.int .i64 p, .agg #[.int .i64 m6, .int .i64 m7, .int .i64 m8], .agg #[.int .i64 b0, .int .i64 b1, .int .i64 b2]] w' fun e w'' => e = .returned (.int .i64 d2) ∧ Below w'.heap.size w' w'') := fun w' => (dot_any p m6 m7 m8 b0 b1 b2 w' k1 k2 sm6 sm7 sm8 sb0 sb1 sb2).mono fun _ _ h => ⟨by rw [he2.out]; exact h.1, h.2⟩
    have hd3 : Hid (∀ w' : World, Calls Try.prog 61 #[.int .i64 p, .agg #[.int .i64 a0, .int .i64 a1, .int .i64 a2], .agg #[.int .i64 d0, .int .i64 d1, .int .i64 d2]] w' fun e w'' => e = .returned (.int .i64 v) ∧ Below w'.heap.size w' w'') := fun w' => (dot_any p a0 a1 a2 d0 d1 d2 w' k1 k2 sa0 sa1 sa2 sd0 sd1 sd2).mono fun _ _ h => ⟨by rw [hv.out]; exact h.1, h.2⟩
    have HMX := Lib.hid hmx
    clear hmx hE0 hM hpts hco hok hp k1 k2 sm0 sm1 sm2 sm3 sm4 sm5 sm6 sm7 sm8 sa0 sa1 sa2 sb0 sb1 sb2 sd0 sd1 sd2
    rw [show cjCode p ⟨c0, c1, c2, c3, c4, c5⟩ ⟨a0, a1, a2⟩ ⟨b0, b1, b2⟩ = 0 from hk]
    have qc0 := Bc.cell 0 rfl
    have qc1 := Bc.cell 1 rfl
    have qc2 := Bc.cell 2 rfl
    have qc3 := Bc.cell 3 rfl
    have qc4 := Bc.cell 4 rfl
    have qc5 := Bc.cell 5 rfl
    have ltc := Bc.lt
    have qa0 := Ba.cell 0 rfl
    have qa1 := Ba.cell 1 rfl
    have qa2 := Ba.cell 2 rfl
    have lta := Ba.lt
    have qb0 := Bb.cell 0 rfl
    have qb1 := Bb.cell 1 rfl
    have qb2 := Bb.cell 2 rfl
    have ltb := Bb.lt
    go_upto_region 5 with (go_at_call 60; refine (HMX.out _).mono ?_; rintro e w1 ⟨rfl, hb1⟩)
    have hz1 := hb1.size
    refine wp_name (fun w' => Box 35 w' (w.heap.size + 1) [a0, a1, a2] ∧ Box 35 w' (w.heap.size + 1 + 1) [b0, b1, b2] ∧ Box 55 w' w1.heap.size [m0, m1, m2, m3, m4, m5, m6, m7, m8] ∧ Below w.heap.size w w') ⟨Box.alloc (Box.below hb1 Ba) _, Box.alloc (Box.below hb1 Bb) _, Box.new [m0, m1, m2, m3, m4, m5, m6, m7, m8] rfl, by (repeat' (first | (with_reducible exact Below.refl _ _) | (with_reducible assumption) | (with_reducible refine Below.alloc ?_ ?_ _) | (with_reducible refine Below.drew ?_) | (with_reducible refine below_drewN ?_ _) | (with_reducible refine Below.setCell ?_ ?_ _) | (refine Below.step ?_ (by with_reducible assumption) ?_) | go_size))⟩ ?_
    rintro wq1 ⟨Ba1, Bb1, Bm1, hB1⟩
    have ra0 := Ba1.cell 0 rfl; have rb0 := Bb1.cell 0 rfl
    have ra1 := Ba1.cell 1 rfl; have rb1 := Bb1.cell 1 rfl
    have ra2 := Ba1.cell 2 rfl; have rb2 := Bb1.cell 2 rfl
    have rm0 := Bm1.cell 0 rfl
    have rm1 := Bm1.cell 1 rfl
    have rm2 := Bm1.cell 2 rfl
    have rm3 := Bm1.cell 3 rfl
    have rm4 := Bm1.cell 4 rfl
    have rm5 := Bm1.cell 5 rfl
    have rm6 := Bm1.cell 6 rfl
    have rm7 := Bm1.cell 7 rfl
    have rm8 := Bm1.cell 8 rfl
    go_region_held3 (fun w' => w'.cell? ⟨w.heap.size + 1, 0, none⟩ = some (.int .i64 a0) ∧ w'.cell? ⟨w.heap.size + 1, 1, none⟩ = some (.int .i64 a1) ∧ w'.cell? ⟨w.heap.size + 1, 2, none⟩ = some (.int .i64 a2) ∧ w'.cell? ⟨w.heap.size + 1 + 1, 0, none⟩ = some (.int .i64 b0) ∧ w'.cell? ⟨w.heap.size + 1 + 1, 1, none⟩ = some (.int .i64 b1) ∧ w'.cell? ⟨w.heap.size + 1 + 1, 2, none⟩ = some (.int .i64 b2) ∧ w'.cell? ⟨w1.heap.size, 0, none⟩ = some (.int .i64 m0) ∧ w'.cell? ⟨w1.heap.size, 1, none⟩ = some (.int .i64 m1) ∧ w'.cell? ⟨w1.heap.size, 2, none⟩ = some (.int .i64 m2) ∧ w'.cell? ⟨w1.heap.size, 3, none⟩ = some (.int .i64 m3) ∧ w'.cell? ⟨w1.heap.size, 4, none⟩ = some (.int .i64 m4) ∧ w'.cell? ⟨w1.heap.size, 5, none⟩ = some (.int .i64 m5) ∧ w'.cell? ⟨w1.heap.size, 6, none⟩ = some (.int .i64 m6) ∧ w'.cell? ⟨w1.heap.size, 7, none⟩ = some (.int .i64 m7) ∧ w'.cell? ⟨w1.heap.size, 8, none⟩ = some (.int .i64 m8) ∧ Below w.heap.size w w') ((go_split_ands; (repeat (any_goals (with_reducible apply And.intro))) <;> ((repeat (first | (with_reducible assumption) | (with_reducible exact Below.refl _ _) | (with_reducible refine keepD ?_) | (with_reducible refine Below.drew ?_) | (with_reducible refine Box.drew ?_) | (with_reducible refine sizeD ?_) | (with_reducible exact keepC (by with_reducible assumption) (by with_reducible assumption)) | (with_reducible exact Box.below (by with_reducible assumption) (by with_reducible assumption)) | (with_reducible exact keepB (by with_reducible assumption) (by with_reducible assumption) (Nat.le_refl _)) | (with_reducible exact sizeC (by with_reducible assumption) (by with_reducible assumption)) | (with_reducible refine keepA _ ?_) | (with_reducible refine Box.alloc ?_ _) | (with_reducible refine allocB ?_ (Nat.le_refl _) _) | (with_reducible refine sizeA ?_ _))); done))) ((first | (go_at_call_of 61 (Value.agg #[.int .i64 m0, .int .i64 m1, .int .i64 m2]); refine (hd0.out _).mono ?_; rintro e w2 ⟨rfl, hb2⟩) | (go_at_call_of 61 (Value.agg #[.int .i64 m3, .int .i64 m4, .int .i64 m5]); refine (hd1.out _).mono ?_; rintro e w3 ⟨rfl, hb3⟩) | (go_at_call_of 61 (Value.agg #[.int .i64 m6, .int .i64 m7, .int .i64 m8]); refine (hd2.out _).mono ?_; rintro e w4 ⟨rfl, hb4⟩) | (go_at_call_of 61 (Value.agg #[.int .i64 d0, .int .i64 d1, .int .i64 d2]); refine (hd3.out _).mono ?_; rintro e w5 ⟨rfl, hb5⟩)))
    all_goals (go_split_ands; go_wp2_with fail; go_returns; exact ⟨by rw [hE.out]; try rfl, by (repeat' (first | (with_reducible exact Below.refl _ _) | (with_reducible assumption) | (with_reducible refine Below.alloc ?_ ?_ _) | (with_reducible refine Below.drew ?_) | (with_reducible refine below_drewN ?_ _) | (with_reducible refine Below.setCell ?_ ?_ _) | (refine Below.step ?_ (by with_reducible assumption) ?_) | go_size))⟩)
theorem l03Rows_co (p c0 c1 c2 c3 c4 c5 : Int) (hp : isP p = true) (h : isCo p ⟨c0, c1, c2, c3, c4, c5⟩ = true) (w : World) :
    Calls Try.prog 69 #[.int .i64 p, .agg #[.int .i64 c0, .int .i64 c1, .int .i64 c2, .int .i64 c3, .int .i64 c4, .int .i64 c5]] w fun e w' => ∃ v, e = .returned v ∧ Rows3 w' v (mxC p ⟨c0, c1, c2, c3, c4, c5⟩).m0 (mxC p ⟨c0, c1, c2, c3, c4, c5⟩).m1 (mxC p ⟨c0, c1, c2, c3, c4, c5⟩).m2 (mxC p ⟨c0, c1, c2, c3, c4, c5⟩).m3 (mxC p ⟨c0, c1, c2, c3, c4, c5⟩).m4 (mxC p ⟨c0, c1, c2, c3, c4, c5⟩).m5 (mxC p ⟨c0, c1, c2, c3, c4, c5⟩).m6 (mxC p ⟨c0, c1, c2, c3, c4, c5⟩).m7 (mxC p ⟨c0, c1, c2, c3, c4, c5⟩).m8 ∧ Below w.heap.size w w' := by
  obtain ⟨s0, s1, s2, s3, s4, s5⟩ := isCo_sm h
  exact l03Rows_any p c0 c1 c2 c3 c4 c5 w (isP_lo hp) (isP_hi hp) s0 s1 s2 s3 s4 s5
theorem trip_bd {a m b : Int} (ha : sm a) (hm : sm m) (hb : sm b) : (0 ≤ a * m ∧ a * m ≤ 144) ∧ (0 ≤ a * m * b ∧ a * m * b ≤ 1728) := by
  obtain ⟨a0, a1⟩ := ha; obtain ⟨m0, m1⟩ := hm; obtain ⟨b0, b1⟩ := hb
  have h1 := mul_bd (a := a) (b := m) (A := 12) (B := 12) a0 a1 m0 m1
  have h2 := mul_bd (a := a * m) (b := b) (A := 144) (B := 12) h1.1 (by omega) b0 b1
  exact ⟨⟨h1.1, by omega⟩, h2.1, by omega⟩
set_option maxHeartbeats 8000000 in
theorem l03Pair_any (p c0 c1 c2 c3 c4 c5 a0 a1 a2 b0 b1 b2 : Int) (w : World) (hp : isP p = true) (h : isCo p ⟨c0, c1, c2, c3, c4, c5⟩ = true) (sa0 : sm a0) (sa1 : sm a1) (sa2 : sm a2) (sb0 : sm b0) (sb1 : sm b1) (sb2 : sm b2) :
    Calls Try.prog 57 #[.int .i64 p, .agg #[.int .i64 c0, .int .i64 c1, .int .i64 c2, .int .i64 c3, .int .i64 c4, .int .i64 c5], .agg #[.int .i64 a0, .int .i64 a1, .int .i64 a2], .agg #[.int .i64 b0, .int .i64 b1, .int .i64 b2]] w fun e w' => e = .returned (.int .i64 ((a0 * (mxC p ⟨c0, c1, c2, c3, c4, c5⟩).m0 * b0 + a0 * (mxC p ⟨c0, c1, c2, c3, c4, c5⟩).m1 * b1 + a0 * (mxC p ⟨c0, c1, c2, c3, c4, c5⟩).m2 * b2 + a1 * (mxC p ⟨c0, c1, c2, c3, c4, c5⟩).m3 * b0 + a1 * (mxC p ⟨c0, c1, c2, c3, c4, c5⟩).m4 * b1 + a1 * (mxC p ⟨c0, c1, c2, c3, c4, c5⟩).m5 * b2 + a2 * (mxC p ⟨c0, c1, c2, c3, c4, c5⟩).m6 * b0 + a2 * (mxC p ⟨c0, c1, c2, c3, c4, c5⟩).m7 * b1 + a2 * (mxC p ⟨c0, c1, c2, c3, c4, c5⟩).m8 * b2) % p)) ∧ Below w.heap.size w w' := by
  have k1 := isP_lo hp
  have hp0 : ¬ p = 0 := by omega
  have hms := mxC_sm hp h
  have hr := fun w' => l03Rows_co p c0 c1 c2 c3 c4 c5 hp h w'
  obtain ⟨m0, m1, m2, m3, m4, m5, m6, m7, m8, hM⟩ := M9_parts (mxC p ⟨c0, c1, c2, c3, c4, c5⟩)
  rw [hM] at hms hr ⊢
  obtain ⟨sm0, sm1, sm2, sm3, sm4, sm5, sm6, sm7, sm8⟩ := hms
  dsimp only at sm0 sm1 sm2 sm3 sm4 sm5 sm6 sm7 sm8 hr ⊢
  have HR := Lib.hid hr
  obtain ⟨⟨ea0, eb0⟩, ec0, ed0⟩ := trip_bd sa0 sm0 sb0
  obtain ⟨⟨ea1, eb1⟩, ec1, ed1⟩ := trip_bd sa0 sm1 sb1
  obtain ⟨⟨ea2, eb2⟩, ec2, ed2⟩ := trip_bd sa0 sm2 sb2
  obtain ⟨⟨ea3, eb3⟩, ec3, ed3⟩ := trip_bd sa1 sm3 sb0
  obtain ⟨⟨ea4, eb4⟩, ec4, ed4⟩ := trip_bd sa1 sm4 sb1
  obtain ⟨⟨ea5, eb5⟩, ec5, ed5⟩ := trip_bd sa1 sm5 sb2
  obtain ⟨⟨ea6, eb6⟩, ec6, ed6⟩ := trip_bd sa2 sm6 sb0
  obtain ⟨⟨ea7, eb7⟩, ec7, ed7⟩ := trip_bd sa2 sm7 sb1
  obtain ⟨⟨ea8, eb8⟩, ec8, ed8⟩ := trip_bd sa2 sm8 sb2
  have hmod : (a0 * m0 * b0 + a0 * m1 * b1 + a0 * m2 * b2 + a1 * m3 * b0 + a1 * m4 * b1 + a1 * m5 * b2 + a2 * m6 * b0 + a2 * m7 * b1 + a2 * m8 * b2).tmod p = (a0 * m0 * b0 + a0 * m1 * b1 + a0 * m2 * b2 + a1 * m3 * b0 + a1 * m4 * b1 + a1 * m5 * b2 + a2 * m6 * b0 + a2 * m7 * b1 + a2 * m8 * b2) % p := Int.tmod_eq_emod_of_nonneg (by omega)
  have hl0 : IntKind.i64.wrap 0 = 0 := by decide
  have hl1 : IntKind.i64.wrap 1 = 1 := by decide
  have hl2 : IntKind.i64.wrap 2 = 2 := by decide
  have hl3 : IntKind.i64.wrap 3 = 3 := by decide
  clear hr hM k1 hp h sm0 sm1 sm2 sm3 sm4 sm5 sm6 sm7 sm8 sa0 sa1 sa2 sb0 sb1 sb2
  go_enter Try.func57, Try.ntmps57
  go_wp2_with (go_at_call 69; refine (HR.out _).mono ?_; rintro e w1 ⟨v, rfl, hrow, hb1⟩)
  obtain ⟨g, ra, rb, rc, rfl, h1, h2, h3, q0, q1, q2, q3, q4, q5, q6, q7, q8⟩ := hrow
  have Ba : Box 35 w1 (w.heap.size + 1) [a0, a1, a2] := Box.below hb1 (Box.alloc (Box.new [a0, a1, a2] (by simp)) _)
  have Bb : Box 35 w1 (w.heap.size + 1 + 1) [b0, b1, b2] := Box.below hb1 (Box.new [b0, b1, b2] (by simp))
  have hB : Below w.heap.size w w1 := by (repeat' (first | (with_reducible exact Below.refl _ _) | (with_reducible assumption) | (with_reducible refine Below.alloc ?_ ?_ _) | (with_reducible refine Below.drew ?_) | (with_reducible refine below_drewN ?_ _) | (with_reducible refine Below.setCell ?_ ?_ _) | (refine Below.step ?_ (by with_reducible assumption) ?_) | go_size))
  clear hb1 HR
  go_wp2_with fail
  refine wp_loop_rounds 4 ?_
  rw [rounds_succ]
  go_wp2_with fail
  refine wp_loop_rounds 4 ?_
  rw [rounds_succ]
  go_wp2_with fail
  refine wp_name (fun w' => w'.cell? ⟨g, 0, none⟩ = some (.slice (some ⟨ra, 0, none⟩) 3 3) ∧ w'.cell? ⟨g, 1, none⟩ = some (.slice (some ⟨rb, 0, none⟩) 3 3) ∧ w'.cell? ⟨g, 2, none⟩ = some (.slice (some ⟨rc, 0, none⟩) 3 3) ∧ w'.cell? ⟨ra, 0, none⟩ = some (.int .i64 m0) ∧ w'.cell? ⟨ra, 1, none⟩ = some (.int .i64 m1) ∧ w'.cell? ⟨ra, 2, none⟩ = some (.int .i64 m2) ∧ w'.cell? ⟨rb, 0, none⟩ = some (.int .i64 m3) ∧ w'.cell? ⟨rb, 1, none⟩ = some (.int .i64 m4) ∧ w'.cell? ⟨rb, 2, none⟩ = some (.int .i64 m5) ∧ w'.cell? ⟨rc, 0, none⟩ = some (.int .i64 m6) ∧ w'.cell? ⟨rc, 1, none⟩ = some (.int .i64 m7) ∧ w'.cell? ⟨rc, 2, none⟩ = some (.int .i64 m8) ∧ w'.cell? ⟨w.heap.size + 1, 0, none⟩ = some (.int .i64 a0) ∧ w'.cell? ⟨w.heap.size + 1, 1, none⟩ = some (.int .i64 a1) ∧ w'.cell? ⟨w.heap.size + 1, 2, none⟩ = some (.int .i64 a2) ∧ w'.cell? ⟨w.heap.size + 1 + 1, 0, none⟩ = some (.int .i64 b0) ∧ w'.cell? ⟨w.heap.size + 1 + 1, 1, none⟩ = some (.int .i64 b1) ∧ w'.cell? ⟨w.heap.size + 1 + 1, 2, none⟩ = some (.int .i64 b2) ∧ Below w.heap.size w w') ⟨h1, h2, h3, q0, q1, q2, q3, q4, q5, q6, q7, q8, (Ba.cell 0 rfl), (Ba.cell 1 rfl), (Ba.cell 2 rfl), (Bb.cell 0 rfl), (Bb.cell 1 rfl), (Bb.cell 2 rfl), hB⟩ ?_
  rintro wq0 ⟨y0_0, y1_0, y2_0, y3_0, y4_0, y5_0, y6_0, y7_0, y8_0, y9_0, y10_0, y11_0, y12_0, y13_0, y14_0, y15_0, y16_0, y17_0, hB_0⟩
  clear h1 h2 h3 q0 q1 q2 q3 q4 q5 q6 q7 q8 Ba Bb hB
  refine wp_region_still_tail 16 (by kernel_rfl) (by kernel_rfl) ?_
  simp only [List.take_succ_cons, List.take_zero, List.drop_succ_cons, List.drop_zero]
  repeat still_step
  try refine wpStill_nil ?_
  change wpList _ _ _ _ _ wq0.drew
  go_wp2_with fail
  rw [rounds_succ]
  go_wp2_with fail
  refine wp_name (fun w' => w'.cell? ⟨g, 0, none⟩ = some (.slice (some ⟨ra, 0, none⟩) 3 3) ∧ w'.cell? ⟨g, 1, none⟩ = some (.slice (some ⟨rb, 0, none⟩) 3 3) ∧ w'.cell? ⟨g, 2, none⟩ = some (.slice (some ⟨rc, 0, none⟩) 3 3) ∧ w'.cell? ⟨ra, 0, none⟩ = some (.int .i64 m0) ∧ w'.cell? ⟨ra, 1, none⟩ = some (.int .i64 m1) ∧ w'.cell? ⟨ra, 2, none⟩ = some (.int .i64 m2) ∧ w'.cell? ⟨rb, 0, none⟩ = some (.int .i64 m3) ∧ w'.cell? ⟨rb, 1, none⟩ = some (.int .i64 m4) ∧ w'.cell? ⟨rb, 2, none⟩ = some (.int .i64 m5) ∧ w'.cell? ⟨rc, 0, none⟩ = some (.int .i64 m6) ∧ w'.cell? ⟨rc, 1, none⟩ = some (.int .i64 m7) ∧ w'.cell? ⟨rc, 2, none⟩ = some (.int .i64 m8) ∧ w'.cell? ⟨w.heap.size + 1, 0, none⟩ = some (.int .i64 a0) ∧ w'.cell? ⟨w.heap.size + 1, 1, none⟩ = some (.int .i64 a1) ∧ w'.cell? ⟨w.heap.size + 1, 2, none⟩ = some (.int .i64 a2) ∧ w'.cell? ⟨w.heap.size + 1 + 1, 0, none⟩ = some (.int .i64 b0) ∧ w'.cell? ⟨w.heap.size + 1 + 1, 1, none⟩ = some (.int .i64 b1) ∧ w'.cell? ⟨w.heap.size + 1 + 1, 2, none⟩ = some (.int .i64 b2) ∧ Below w.heap.size w w') ⟨y0_0, y1_0, y2_0, y3_0, y4_0, y5_0, y6_0, y7_0, y8_0, y9_0, y10_0, y11_0, y12_0, y13_0, y14_0, y15_0, y16_0, y17_0, hB_0.drew⟩ ?_
  rintro wq1 ⟨y0_1, y1_1, y2_1, y3_1, y4_1, y5_1, y6_1, y7_1, y8_1, y9_1, y10_1, y11_1, y12_1, y13_1, y14_1, y15_1, y16_1, y17_1, hB_1⟩
  clear y0_0 y1_0 y2_0 y3_0 y4_0 y5_0 y6_0 y7_0 y8_0 y9_0 y10_0 y11_0 y12_0 y13_0 y14_0 y15_0 y16_0 y17_0 hB_0
  refine wp_region_still_tail 16 (by kernel_rfl) (by kernel_rfl) ?_
  simp only [List.take_succ_cons, List.take_zero, List.drop_succ_cons, List.drop_zero]
  repeat still_step
  try refine wpStill_nil ?_
  change wpList _ _ _ _ _ wq1.drew
  go_wp2_with fail
  rw [rounds_succ]
  go_wp2_with fail
  refine wp_name (fun w' => w'.cell? ⟨g, 0, none⟩ = some (.slice (some ⟨ra, 0, none⟩) 3 3) ∧ w'.cell? ⟨g, 1, none⟩ = some (.slice (some ⟨rb, 0, none⟩) 3 3) ∧ w'.cell? ⟨g, 2, none⟩ = some (.slice (some ⟨rc, 0, none⟩) 3 3) ∧ w'.cell? ⟨ra, 0, none⟩ = some (.int .i64 m0) ∧ w'.cell? ⟨ra, 1, none⟩ = some (.int .i64 m1) ∧ w'.cell? ⟨ra, 2, none⟩ = some (.int .i64 m2) ∧ w'.cell? ⟨rb, 0, none⟩ = some (.int .i64 m3) ∧ w'.cell? ⟨rb, 1, none⟩ = some (.int .i64 m4) ∧ w'.cell? ⟨rb, 2, none⟩ = some (.int .i64 m5) ∧ w'.cell? ⟨rc, 0, none⟩ = some (.int .i64 m6) ∧ w'.cell? ⟨rc, 1, none⟩ = some (.int .i64 m7) ∧ w'.cell? ⟨rc, 2, none⟩ = some (.int .i64 m8) ∧ w'.cell? ⟨w.heap.size + 1, 0, none⟩ = some (.int .i64 a0) ∧ w'.cell? ⟨w.heap.size + 1, 1, none⟩ = some (.int .i64 a1) ∧ w'.cell? ⟨w.heap.size + 1, 2, none⟩ = some (.int .i64 a2) ∧ w'.cell? ⟨w.heap.size + 1 + 1, 0, none⟩ = some (.int .i64 b0) ∧ w'.cell? ⟨w.heap.size + 1 + 1, 1, none⟩ = some (.int .i64 b1) ∧ w'.cell? ⟨w.heap.size + 1 + 1, 2, none⟩ = some (.int .i64 b2) ∧ Below w.heap.size w w') ⟨y0_1, y1_1, y2_1, y3_1, y4_1, y5_1, y6_1, y7_1, y8_1, y9_1, y10_1, y11_1, y12_1, y13_1, y14_1, y15_1, y16_1, y17_1, hB_1.drew⟩ ?_
  rintro wq2 ⟨y0_2, y1_2, y2_2, y3_2, y4_2, y5_2, y6_2, y7_2, y8_2, y9_2, y10_2, y11_2, y12_2, y13_2, y14_2, y15_2, y16_2, y17_2, hB_2⟩
  clear y0_1 y1_1 y2_1 y3_1 y4_1 y5_1 y6_1 y7_1 y8_1 y9_1 y10_1 y11_1 y12_1 y13_1 y14_1 y15_1 y16_1 y17_1 hB_1
  refine wp_region_still_tail 16 (by kernel_rfl) (by kernel_rfl) ?_
  simp only [List.take_succ_cons, List.take_zero, List.drop_succ_cons, List.drop_zero]
  repeat still_step
  try refine wpStill_nil ?_
  change wpList _ _ _ _ _ wq2.drew
  go_wp2_with fail
  rw [rounds_succ]
  go_wp2_with fail
  rw [rounds_succ]
  go_wp2_with fail
  refine wp_loop_rounds 4 ?_
  rw [rounds_succ]
  go_wp2_with fail
  refine wp_name (fun w' => w'.cell? ⟨g, 0, none⟩ = some (.slice (some ⟨ra, 0, none⟩) 3 3) ∧ w'.cell? ⟨g, 1, none⟩ = some (.slice (some ⟨rb, 0, none⟩) 3 3) ∧ w'.cell? ⟨g, 2, none⟩ = some (.slice (some ⟨rc, 0, none⟩) 3 3) ∧ w'.cell? ⟨ra, 0, none⟩ = some (.int .i64 m0) ∧ w'.cell? ⟨ra, 1, none⟩ = some (.int .i64 m1) ∧ w'.cell? ⟨ra, 2, none⟩ = some (.int .i64 m2) ∧ w'.cell? ⟨rb, 0, none⟩ = some (.int .i64 m3) ∧ w'.cell? ⟨rb, 1, none⟩ = some (.int .i64 m4) ∧ w'.cell? ⟨rb, 2, none⟩ = some (.int .i64 m5) ∧ w'.cell? ⟨rc, 0, none⟩ = some (.int .i64 m6) ∧ w'.cell? ⟨rc, 1, none⟩ = some (.int .i64 m7) ∧ w'.cell? ⟨rc, 2, none⟩ = some (.int .i64 m8) ∧ w'.cell? ⟨w.heap.size + 1, 0, none⟩ = some (.int .i64 a0) ∧ w'.cell? ⟨w.heap.size + 1, 1, none⟩ = some (.int .i64 a1) ∧ w'.cell? ⟨w.heap.size + 1, 2, none⟩ = some (.int .i64 a2) ∧ w'.cell? ⟨w.heap.size + 1 + 1, 0, none⟩ = some (.int .i64 b0) ∧ w'.cell? ⟨w.heap.size + 1 + 1, 1, none⟩ = some (.int .i64 b1) ∧ w'.cell? ⟨w.heap.size + 1 + 1, 2, none⟩ = some (.int .i64 b2) ∧ Below w.heap.size w w') ⟨y0_2, y1_2, y2_2, y3_2, y4_2, y5_2, y6_2, y7_2, y8_2, y9_2, y10_2, y11_2, y12_2, y13_2, y14_2, y15_2, y16_2, y17_2, hB_2.drew⟩ ?_
  rintro wq3 ⟨y0_3, y1_3, y2_3, y3_3, y4_3, y5_3, y6_3, y7_3, y8_3, y9_3, y10_3, y11_3, y12_3, y13_3, y14_3, y15_3, y16_3, y17_3, hB_3⟩
  clear y0_2 y1_2 y2_2 y3_2 y4_2 y5_2 y6_2 y7_2 y8_2 y9_2 y10_2 y11_2 y12_2 y13_2 y14_2 y15_2 y16_2 y17_2 hB_2
  refine wp_region_still_tail 16 (by kernel_rfl) (by kernel_rfl) ?_
  simp only [List.take_succ_cons, List.take_zero, List.drop_succ_cons, List.drop_zero]
  repeat still_step
  try refine wpStill_nil ?_
  change wpList _ _ _ _ _ wq3.drew
  go_wp2_with fail
  rw [rounds_succ]
  go_wp2_with fail
  refine wp_name (fun w' => w'.cell? ⟨g, 0, none⟩ = some (.slice (some ⟨ra, 0, none⟩) 3 3) ∧ w'.cell? ⟨g, 1, none⟩ = some (.slice (some ⟨rb, 0, none⟩) 3 3) ∧ w'.cell? ⟨g, 2, none⟩ = some (.slice (some ⟨rc, 0, none⟩) 3 3) ∧ w'.cell? ⟨ra, 0, none⟩ = some (.int .i64 m0) ∧ w'.cell? ⟨ra, 1, none⟩ = some (.int .i64 m1) ∧ w'.cell? ⟨ra, 2, none⟩ = some (.int .i64 m2) ∧ w'.cell? ⟨rb, 0, none⟩ = some (.int .i64 m3) ∧ w'.cell? ⟨rb, 1, none⟩ = some (.int .i64 m4) ∧ w'.cell? ⟨rb, 2, none⟩ = some (.int .i64 m5) ∧ w'.cell? ⟨rc, 0, none⟩ = some (.int .i64 m6) ∧ w'.cell? ⟨rc, 1, none⟩ = some (.int .i64 m7) ∧ w'.cell? ⟨rc, 2, none⟩ = some (.int .i64 m8) ∧ w'.cell? ⟨w.heap.size + 1, 0, none⟩ = some (.int .i64 a0) ∧ w'.cell? ⟨w.heap.size + 1, 1, none⟩ = some (.int .i64 a1) ∧ w'.cell? ⟨w.heap.size + 1, 2, none⟩ = some (.int .i64 a2) ∧ w'.cell? ⟨w.heap.size + 1 + 1, 0, none⟩ = some (.int .i64 b0) ∧ w'.cell? ⟨w.heap.size + 1 + 1, 1, none⟩ = some (.int .i64 b1) ∧ w'.cell? ⟨w.heap.size + 1 + 1, 2, none⟩ = some (.int .i64 b2) ∧ Below w.heap.size w w') ⟨y0_3, y1_3, y2_3, y3_3, y4_3, y5_3, y6_3, y7_3, y8_3, y9_3, y10_3, y11_3, y12_3, y13_3, y14_3, y15_3, y16_3, y17_3, hB_3.drew⟩ ?_
  rintro wq4 ⟨y0_4, y1_4, y2_4, y3_4, y4_4, y5_4, y6_4, y7_4, y8_4, y9_4, y10_4, y11_4, y12_4, y13_4, y14_4, y15_4, y16_4, y17_4, hB_4⟩
  clear y0_3 y1_3 y2_3 y3_3 y4_3 y5_3 y6_3 y7_3 y8_3 y9_3 y10_3 y11_3 y12_3 y13_3 y14_3 y15_3 y16_3 y17_3 hB_3
  refine wp_region_still_tail 16 (by kernel_rfl) (by kernel_rfl) ?_
  simp only [List.take_succ_cons, List.take_zero, List.drop_succ_cons, List.drop_zero]
  repeat still_step
  try refine wpStill_nil ?_
  change wpList _ _ _ _ _ wq4.drew
  go_wp2_with fail
  rw [rounds_succ]
  go_wp2_with fail
  refine wp_name (fun w' => w'.cell? ⟨g, 0, none⟩ = some (.slice (some ⟨ra, 0, none⟩) 3 3) ∧ w'.cell? ⟨g, 1, none⟩ = some (.slice (some ⟨rb, 0, none⟩) 3 3) ∧ w'.cell? ⟨g, 2, none⟩ = some (.slice (some ⟨rc, 0, none⟩) 3 3) ∧ w'.cell? ⟨ra, 0, none⟩ = some (.int .i64 m0) ∧ w'.cell? ⟨ra, 1, none⟩ = some (.int .i64 m1) ∧ w'.cell? ⟨ra, 2, none⟩ = some (.int .i64 m2) ∧ w'.cell? ⟨rb, 0, none⟩ = some (.int .i64 m3) ∧ w'.cell? ⟨rb, 1, none⟩ = some (.int .i64 m4) ∧ w'.cell? ⟨rb, 2, none⟩ = some (.int .i64 m5) ∧ w'.cell? ⟨rc, 0, none⟩ = some (.int .i64 m6) ∧ w'.cell? ⟨rc, 1, none⟩ = some (.int .i64 m7) ∧ w'.cell? ⟨rc, 2, none⟩ = some (.int .i64 m8) ∧ w'.cell? ⟨w.heap.size + 1, 0, none⟩ = some (.int .i64 a0) ∧ w'.cell? ⟨w.heap.size + 1, 1, none⟩ = some (.int .i64 a1) ∧ w'.cell? ⟨w.heap.size + 1, 2, none⟩ = some (.int .i64 a2) ∧ w'.cell? ⟨w.heap.size + 1 + 1, 0, none⟩ = some (.int .i64 b0) ∧ w'.cell? ⟨w.heap.size + 1 + 1, 1, none⟩ = some (.int .i64 b1) ∧ w'.cell? ⟨w.heap.size + 1 + 1, 2, none⟩ = some (.int .i64 b2) ∧ Below w.heap.size w w') ⟨y0_4, y1_4, y2_4, y3_4, y4_4, y5_4, y6_4, y7_4, y8_4, y9_4, y10_4, y11_4, y12_4, y13_4, y14_4, y15_4, y16_4, y17_4, hB_4.drew⟩ ?_
  rintro wq5 ⟨y0_5, y1_5, y2_5, y3_5, y4_5, y5_5, y6_5, y7_5, y8_5, y9_5, y10_5, y11_5, y12_5, y13_5, y14_5, y15_5, y16_5, y17_5, hB_5⟩
  clear y0_4 y1_4 y2_4 y3_4 y4_4 y5_4 y6_4 y7_4 y8_4 y9_4 y10_4 y11_4 y12_4 y13_4 y14_4 y15_4 y16_4 y17_4 hB_4
  refine wp_region_still_tail 16 (by kernel_rfl) (by kernel_rfl) ?_
  simp only [List.take_succ_cons, List.take_zero, List.drop_succ_cons, List.drop_zero]
  repeat still_step
  try refine wpStill_nil ?_
  change wpList _ _ _ _ _ wq5.drew
  go_wp2_with fail
  rw [rounds_succ]
  go_wp2_with fail
  rw [rounds_succ]
  go_wp2_with fail
  refine wp_loop_rounds 4 ?_
  rw [rounds_succ]
  go_wp2_with fail
  refine wp_name (fun w' => w'.cell? ⟨g, 0, none⟩ = some (.slice (some ⟨ra, 0, none⟩) 3 3) ∧ w'.cell? ⟨g, 1, none⟩ = some (.slice (some ⟨rb, 0, none⟩) 3 3) ∧ w'.cell? ⟨g, 2, none⟩ = some (.slice (some ⟨rc, 0, none⟩) 3 3) ∧ w'.cell? ⟨ra, 0, none⟩ = some (.int .i64 m0) ∧ w'.cell? ⟨ra, 1, none⟩ = some (.int .i64 m1) ∧ w'.cell? ⟨ra, 2, none⟩ = some (.int .i64 m2) ∧ w'.cell? ⟨rb, 0, none⟩ = some (.int .i64 m3) ∧ w'.cell? ⟨rb, 1, none⟩ = some (.int .i64 m4) ∧ w'.cell? ⟨rb, 2, none⟩ = some (.int .i64 m5) ∧ w'.cell? ⟨rc, 0, none⟩ = some (.int .i64 m6) ∧ w'.cell? ⟨rc, 1, none⟩ = some (.int .i64 m7) ∧ w'.cell? ⟨rc, 2, none⟩ = some (.int .i64 m8) ∧ w'.cell? ⟨w.heap.size + 1, 0, none⟩ = some (.int .i64 a0) ∧ w'.cell? ⟨w.heap.size + 1, 1, none⟩ = some (.int .i64 a1) ∧ w'.cell? ⟨w.heap.size + 1, 2, none⟩ = some (.int .i64 a2) ∧ w'.cell? ⟨w.heap.size + 1 + 1, 0, none⟩ = some (.int .i64 b0) ∧ w'.cell? ⟨w.heap.size + 1 + 1, 1, none⟩ = some (.int .i64 b1) ∧ w'.cell? ⟨w.heap.size + 1 + 1, 2, none⟩ = some (.int .i64 b2) ∧ Below w.heap.size w w') ⟨y0_5, y1_5, y2_5, y3_5, y4_5, y5_5, y6_5, y7_5, y8_5, y9_5, y10_5, y11_5, y12_5, y13_5, y14_5, y15_5, y16_5, y17_5, hB_5.drew⟩ ?_
  rintro wq6 ⟨y0_6, y1_6, y2_6, y3_6, y4_6, y5_6, y6_6, y7_6, y8_6, y9_6, y10_6, y11_6, y12_6, y13_6, y14_6, y15_6, y16_6, y17_6, hB_6⟩
  clear y0_5 y1_5 y2_5 y3_5 y4_5 y5_5 y6_5 y7_5 y8_5 y9_5 y10_5 y11_5 y12_5 y13_5 y14_5 y15_5 y16_5 y17_5 hB_5
  refine wp_region_still_tail 16 (by kernel_rfl) (by kernel_rfl) ?_
  simp only [List.take_succ_cons, List.take_zero, List.drop_succ_cons, List.drop_zero]
  repeat still_step
  try refine wpStill_nil ?_
  change wpList _ _ _ _ _ wq6.drew
  go_wp2_with fail
  rw [rounds_succ]
  go_wp2_with fail
  refine wp_name (fun w' => w'.cell? ⟨g, 0, none⟩ = some (.slice (some ⟨ra, 0, none⟩) 3 3) ∧ w'.cell? ⟨g, 1, none⟩ = some (.slice (some ⟨rb, 0, none⟩) 3 3) ∧ w'.cell? ⟨g, 2, none⟩ = some (.slice (some ⟨rc, 0, none⟩) 3 3) ∧ w'.cell? ⟨ra, 0, none⟩ = some (.int .i64 m0) ∧ w'.cell? ⟨ra, 1, none⟩ = some (.int .i64 m1) ∧ w'.cell? ⟨ra, 2, none⟩ = some (.int .i64 m2) ∧ w'.cell? ⟨rb, 0, none⟩ = some (.int .i64 m3) ∧ w'.cell? ⟨rb, 1, none⟩ = some (.int .i64 m4) ∧ w'.cell? ⟨rb, 2, none⟩ = some (.int .i64 m5) ∧ w'.cell? ⟨rc, 0, none⟩ = some (.int .i64 m6) ∧ w'.cell? ⟨rc, 1, none⟩ = some (.int .i64 m7) ∧ w'.cell? ⟨rc, 2, none⟩ = some (.int .i64 m8) ∧ w'.cell? ⟨w.heap.size + 1, 0, none⟩ = some (.int .i64 a0) ∧ w'.cell? ⟨w.heap.size + 1, 1, none⟩ = some (.int .i64 a1) ∧ w'.cell? ⟨w.heap.size + 1, 2, none⟩ = some (.int .i64 a2) ∧ w'.cell? ⟨w.heap.size + 1 + 1, 0, none⟩ = some (.int .i64 b0) ∧ w'.cell? ⟨w.heap.size + 1 + 1, 1, none⟩ = some (.int .i64 b1) ∧ w'.cell? ⟨w.heap.size + 1 + 1, 2, none⟩ = some (.int .i64 b2) ∧ Below w.heap.size w w') ⟨y0_6, y1_6, y2_6, y3_6, y4_6, y5_6, y6_6, y7_6, y8_6, y9_6, y10_6, y11_6, y12_6, y13_6, y14_6, y15_6, y16_6, y17_6, hB_6.drew⟩ ?_
  rintro wq7 ⟨y0_7, y1_7, y2_7, y3_7, y4_7, y5_7, y6_7, y7_7, y8_7, y9_7, y10_7, y11_7, y12_7, y13_7, y14_7, y15_7, y16_7, y17_7, hB_7⟩
  clear y0_6 y1_6 y2_6 y3_6 y4_6 y5_6 y6_6 y7_6 y8_6 y9_6 y10_6 y11_6 y12_6 y13_6 y14_6 y15_6 y16_6 y17_6 hB_6
  refine wp_region_still_tail 16 (by kernel_rfl) (by kernel_rfl) ?_
  simp only [List.take_succ_cons, List.take_zero, List.drop_succ_cons, List.drop_zero]
  repeat still_step
  try refine wpStill_nil ?_
  change wpList _ _ _ _ _ wq7.drew
  go_wp2_with fail
  rw [rounds_succ]
  go_wp2_with fail
  refine wp_name (fun w' => w'.cell? ⟨g, 0, none⟩ = some (.slice (some ⟨ra, 0, none⟩) 3 3) ∧ w'.cell? ⟨g, 1, none⟩ = some (.slice (some ⟨rb, 0, none⟩) 3 3) ∧ w'.cell? ⟨g, 2, none⟩ = some (.slice (some ⟨rc, 0, none⟩) 3 3) ∧ w'.cell? ⟨ra, 0, none⟩ = some (.int .i64 m0) ∧ w'.cell? ⟨ra, 1, none⟩ = some (.int .i64 m1) ∧ w'.cell? ⟨ra, 2, none⟩ = some (.int .i64 m2) ∧ w'.cell? ⟨rb, 0, none⟩ = some (.int .i64 m3) ∧ w'.cell? ⟨rb, 1, none⟩ = some (.int .i64 m4) ∧ w'.cell? ⟨rb, 2, none⟩ = some (.int .i64 m5) ∧ w'.cell? ⟨rc, 0, none⟩ = some (.int .i64 m6) ∧ w'.cell? ⟨rc, 1, none⟩ = some (.int .i64 m7) ∧ w'.cell? ⟨rc, 2, none⟩ = some (.int .i64 m8) ∧ w'.cell? ⟨w.heap.size + 1, 0, none⟩ = some (.int .i64 a0) ∧ w'.cell? ⟨w.heap.size + 1, 1, none⟩ = some (.int .i64 a1) ∧ w'.cell? ⟨w.heap.size + 1, 2, none⟩ = some (.int .i64 a2) ∧ w'.cell? ⟨w.heap.size + 1 + 1, 0, none⟩ = some (.int .i64 b0) ∧ w'.cell? ⟨w.heap.size + 1 + 1, 1, none⟩ = some (.int .i64 b1) ∧ w'.cell? ⟨w.heap.size + 1 + 1, 2, none⟩ = some (.int .i64 b2) ∧ Below w.heap.size w w') ⟨y0_7, y1_7, y2_7, y3_7, y4_7, y5_7, y6_7, y7_7, y8_7, y9_7, y10_7, y11_7, y12_7, y13_7, y14_7, y15_7, y16_7, y17_7, hB_7.drew⟩ ?_
  rintro wq8 ⟨y0_8, y1_8, y2_8, y3_8, y4_8, y5_8, y6_8, y7_8, y8_8, y9_8, y10_8, y11_8, y12_8, y13_8, y14_8, y15_8, y16_8, y17_8, hB_8⟩
  clear y0_7 y1_7 y2_7 y3_7 y4_7 y5_7 y6_7 y7_7 y8_7 y9_7 y10_7 y11_7 y12_7 y13_7 y14_7 y15_7 y16_7 y17_7 hB_7
  refine wp_region_still_tail 16 (by kernel_rfl) (by kernel_rfl) ?_
  simp only [List.take_succ_cons, List.take_zero, List.drop_succ_cons, List.drop_zero]
  repeat still_step
  try refine wpStill_nil ?_
  change wpList _ _ _ _ _ wq8.drew
  go_wp2_with fail
  rw [rounds_succ]
  go_wp2_with fail
  rw [rounds_succ]
  go_wp2_with fail
  go_returns
  exact ⟨rfl, by (have := hB_8.drew; (repeat' (first | (with_reducible exact Below.refl _ _) | (with_reducible assumption) | (with_reducible refine Below.alloc ?_ ?_ _) | (with_reducible refine Below.drew ?_) | (with_reducible refine below_drewN ?_ _) | (with_reducible refine Below.setCell ?_ ?_ _) | (refine Below.step ?_ (by with_reducible assumption) ?_) | go_size)))⟩
theorem cj_sum (p a0 a1 a2 m0 m1 m2 m3 m4 m5 m6 m7 m8 b0 b1 b2 : Int) :
    dot3 p a0 a1 a2 (dot3 p m0 m1 m2 b0 b1 b2) (dot3 p m3 m4 m5 b0 b1 b2) (dot3 p m6 m7 m8 b0 b1 b2) = (a0 * m0 * b0 + a0 * m1 * b1 + a0 * m2 * b2 + a1 * m3 * b0 + a1 * m4 * b1 + a1 * m5 * b2 + a2 * m6 * b0 + a2 * m7 * b1 + a2 * m8 * b2) % p := by
  unfold dot3
  refine Cg.em ?_
  exact ((((Cg.mod p _).mulL a0).add ((Cg.mod p _).mulL a1)).add ((Cg.mod p _).mulL a2)).trans (Cg.of_eq (by grind))
set_option maxHeartbeats 4000000 in
theorem AreConjugate_spec (p c0 c1 c2 c3 c4 c5 a0 a1 a2 b0 b1 b2 : Int) (w : World) :
    Calls Try.prog 18 #[.int .i64 p, .agg #[.int .i64 c0, .int .i64 c1, .int .i64 c2, .int .i64 c3, .int .i64 c4, .int .i64 c5], .agg #[.int .i64 a0, .int .i64 a1, .int .i64 a2], .agg #[.int .i64 b0, .int .i64 b1, .int .i64 b2]] w fun e w' => e = .returned (.tuple #[.bool (cjR p ⟨c0, c1, c2, c3, c4, c5⟩ ⟨a0, a1, a2⟩ ⟨b0, b1, b2⟩).1, .int .i64 (cjR p ⟨c0, c1, c2, c3, c4, c5⟩ ⟨a0, a1, a2⟩ ⟨b0, b1, b2⟩).2]) ∧ Below w.heap.size w w' := by
  rcases coCode3 p (allPt p [⟨a0, a1, a2⟩, ⟨b0, b1, b2⟩]) [⟨c0, c1, c2, c3, c4, c5⟩] with hk | hk | ⟨hp, hok, hk⟩
  · have hE : Hid (cjR p ⟨c0, c1, c2, c3, c4, c5⟩ ⟨a0, a1, a2⟩ ⟨b0, b1, b2⟩ = (false, 2)) := by show _ = _; unfold cjR; rw [show cjCode p ⟨c0, c1, c2, c3, c4, c5⟩ ⟨a0, a1, a2⟩ ⟨b0, b1, b2⟩ = 2 from hk]; rfl
    have HK := Lib.hid hk; clear hk
    go_enter Try.func18, Try.ntmps18
    go_wp2_with (go_at_call 56; refine (l03Code_any p c0 c1 c2 c3 c4 c5 _ _ [⟨a0, a1, a2⟩, ⟨b0, b1, b2⟩] _ (rdp2 (by go_cell) (by go_cell) (by go_cell) (by go_cell) (by go_cell) (by go_cell)) (by go_size) (by simp)).mono ?_; rintro e w1 ⟨rfl, hb1⟩; obtain ⟨hc1, hf1⟩ := bcell hb1; have hz1 := hb1.size; (try simp only [World.size_alloc, World.size_setCell, World.size_drew] at hz1); (try (have hy1w0 : w.heap.size < w1.heap.size := by omega)); (try (have hy1w1 : w.heap.size + 1 < w1.heap.size := by omega)); (try (have hy1w2 : w.heap.size + 1 + 1 < w1.heap.size := by omega)); (try (have hy1w3 : w.heap.size + 1 + 1 + 1 < w1.heap.size := by omega)); (try (have hy1w4 : w.heap.size + 1 + 1 + 1 + 1 < w1.heap.size := by omega)); (try (have hy1wc0 : wc.heap.size < w1.heap.size := by omega)); (try (have hy1wc1 : wc.heap.size + 1 < w1.heap.size := by omega)); (try (have hy1wc2 : wc.heap.size + 1 + 1 < w1.heap.size := by omega)); (try (have hy1wc3 : wc.heap.size + 1 + 1 + 1 < w1.heap.size := by omega)); (try (have hy1wc4 : wc.heap.size + 1 + 1 + 1 + 1 < w1.heap.size := by omega)); rw [HK.out])
    go_returns
    exact ⟨by rw [hE.out]; try rfl, by (repeat' (first | (with_reducible exact Below.refl _ _) | (with_reducible assumption) | (with_reducible refine Below.alloc ?_ ?_ _) | (with_reducible refine Below.drew ?_) | (with_reducible refine below_drewN ?_ _) | (with_reducible refine Below.setCell ?_ ?_ _) | (refine Below.step ?_ (by with_reducible assumption) ?_) | go_size))⟩
  · have hE : Hid (cjR p ⟨c0, c1, c2, c3, c4, c5⟩ ⟨a0, a1, a2⟩ ⟨b0, b1, b2⟩ = (false, 1)) := by show _ = _; unfold cjR; rw [show cjCode p ⟨c0, c1, c2, c3, c4, c5⟩ ⟨a0, a1, a2⟩ ⟨b0, b1, b2⟩ = 1 from hk]; rfl
    have HK := Lib.hid hk; clear hk
    go_enter Try.func18, Try.ntmps18
    go_wp2_with (go_at_call 56; refine (l03Code_any p c0 c1 c2 c3 c4 c5 _ _ [⟨a0, a1, a2⟩, ⟨b0, b1, b2⟩] _ (rdp2 (by go_cell) (by go_cell) (by go_cell) (by go_cell) (by go_cell) (by go_cell)) (by go_size) (by simp)).mono ?_; rintro e w1 ⟨rfl, hb1⟩; obtain ⟨hc1, hf1⟩ := bcell hb1; have hz1 := hb1.size; (try simp only [World.size_alloc, World.size_setCell, World.size_drew] at hz1); (try (have hy1w0 : w.heap.size < w1.heap.size := by omega)); (try (have hy1w1 : w.heap.size + 1 < w1.heap.size := by omega)); (try (have hy1w2 : w.heap.size + 1 + 1 < w1.heap.size := by omega)); (try (have hy1w3 : w.heap.size + 1 + 1 + 1 < w1.heap.size := by omega)); (try (have hy1w4 : w.heap.size + 1 + 1 + 1 + 1 < w1.heap.size := by omega)); (try (have hy1wc0 : wc.heap.size < w1.heap.size := by omega)); (try (have hy1wc1 : wc.heap.size + 1 < w1.heap.size := by omega)); (try (have hy1wc2 : wc.heap.size + 1 + 1 < w1.heap.size := by omega)); (try (have hy1wc3 : wc.heap.size + 1 + 1 + 1 < w1.heap.size := by omega)); (try (have hy1wc4 : wc.heap.size + 1 + 1 + 1 + 1 < w1.heap.size := by omega)); rw [HK.out])
    go_returns
    exact ⟨by rw [hE.out]; try rfl, by (repeat' (first | (with_reducible exact Below.refl _ _) | (with_reducible assumption) | (with_reducible refine Below.alloc ?_ ?_ _) | (with_reducible refine Below.drew ?_) | (with_reducible refine below_drewN ?_ _) | (with_reducible refine Below.setCell ?_ ?_ _) | (refine Below.step ?_ (by with_reducible assumption) ?_) | go_size))⟩
  · obtain ⟨hpts, hco⟩ := cj_ok hok
    obtain ⟨sa, sb⟩ := pts2 hpts
    obtain ⟨sa0, sa1, sa2⟩ := sa; obtain ⟨sb0, sb1, sb2⟩ := sb
    have hpair := fun w' => l03Pair_any p c0 c1 c2 c3 c4 c5 a0 a1 a2 b0 b1 b2 w' hp hco sa0 sa1 sa2 sb0 sb1 sb2
    obtain ⟨v, hv⟩ : ∃ v : Int, Hid (v = (a0 * (mxC p ⟨c0, c1, c2, c3, c4, c5⟩).m0 * b0 + a0 * (mxC p ⟨c0, c1, c2, c3, c4, c5⟩).m1 * b1 + a0 * (mxC p ⟨c0, c1, c2, c3, c4, c5⟩).m2 * b2 + a1 * (mxC p ⟨c0, c1, c2, c3, c4, c5⟩).m3 * b0 + a1 * (mxC p ⟨c0, c1, c2, c3, c4, c5⟩).m4 * b1 + a1 * (mxC p ⟨c0, c1, c2, c3, c4, c5⟩).m5 * b2 + a2 * (mxC p ⟨c0, c1, c2, c3, c4, c5⟩).m6 * b0 + a2 * (mxC p ⟨c0, c1, c2, c3, c4, c5⟩).m7 * b1 + a2 * (mxC p ⟨c0, c1, c2, c3, c4, c5⟩).m8 * b2) % p) := ⟨_, rfl⟩
    rw [← hv.out] at hpair
    have hE : Hid (cjR p ⟨c0, c1, c2, c3, c4, c5⟩ ⟨a0, a1, a2⟩ ⟨b0, b1, b2⟩ = (v == 0, 0)) := by
      show _ = _; unfold cjR; rw [show cjCode p ⟨c0, c1, c2, c3, c4, c5⟩ ⟨a0, a1, a2⟩ ⟨b0, b1, b2⟩ = 0 from hk, hv.out, ← cj_sum]; rfl
    have HPR := Lib.hid hpair
    have HK := Lib.hid hk; clear hk hpair hok hpts hco hp sa0 sa1 sa2 sb0 sb1 sb2
    go_enter Try.func18, Try.ntmps18
    go_wp2_with (first | (go_at_call 56; refine (l03Code_any p c0 c1 c2 c3 c4 c5 _ _ [⟨a0, a1, a2⟩, ⟨b0, b1, b2⟩] _ (rdp2 (by go_cell) (by go_cell) (by go_cell) (by go_cell) (by go_cell) (by go_cell)) (by go_size) (by simp)).mono ?_; rintro e w1 ⟨rfl, hb1⟩; obtain ⟨hc1, hf1⟩ := bcell hb1; have hz1 := hb1.size; (try simp only [World.size_alloc, World.size_setCell, World.size_drew] at hz1); (try (have hy1w0 : w.heap.size < w1.heap.size := by omega)); (try (have hy1w1 : w.heap.size + 1 < w1.heap.size := by omega)); (try (have hy1w2 : w.heap.size + 1 + 1 < w1.heap.size := by omega)); (try (have hy1w3 : w.heap.size + 1 + 1 + 1 < w1.heap.size := by omega)); (try (have hy1w4 : w.heap.size + 1 + 1 + 1 + 1 < w1.heap.size := by omega)); (try (have hy1wc0 : wc.heap.size < w1.heap.size := by omega)); (try (have hy1wc1 : wc.heap.size + 1 < w1.heap.size := by omega)); (try (have hy1wc2 : wc.heap.size + 1 + 1 < w1.heap.size := by omega)); (try (have hy1wc3 : wc.heap.size + 1 + 1 + 1 < w1.heap.size := by omega)); (try (have hy1wc4 : wc.heap.size + 1 + 1 + 1 + 1 < w1.heap.size := by omega)); rw [HK.out]) | (go_at_call 57; refine (HPR.out _).mono ?_; rintro e w2 ⟨rfl, hb2⟩; obtain ⟨hc2, hf2⟩ := bcell hb2; have hz2 := hb2.size; (try simp only [World.size_alloc, World.size_setCell, World.size_drew] at hz2); (try (have hy2w0 : w.heap.size < w2.heap.size := by omega)); (try (have hy2w1 : w.heap.size + 1 < w2.heap.size := by omega)); (try (have hy2w2 : w.heap.size + 1 + 1 < w2.heap.size := by omega)); (try (have hy2w3 : w.heap.size + 1 + 1 + 1 < w2.heap.size := by omega)); (try (have hy2w4 : w.heap.size + 1 + 1 + 1 + 1 < w2.heap.size := by omega)); (try (have hy2wc0 : wc.heap.size < w2.heap.size := by omega)); (try (have hy2wc1 : wc.heap.size + 1 < w2.heap.size := by omega)); (try (have hy2wc2 : wc.heap.size + 1 + 1 < w2.heap.size := by omega)); (try (have hy2wc3 : wc.heap.size + 1 + 1 + 1 < w2.heap.size := by omega)); (try (have hy2wc4 : wc.heap.size + 1 + 1 + 1 + 1 < w2.heap.size := by omega)); (try (have hy2w10 : w1.heap.size < w2.heap.size := by omega)); (try (have hy2w11 : w1.heap.size + 1 < w2.heap.size := by omega)); (try (have hy2w12 : w1.heap.size + 1 + 1 < w2.heap.size := by omega)); (try (have hy2w13 : w1.heap.size + 1 + 1 + 1 < w2.heap.size := by omega)); (try (have hy2w14 : w1.heap.size + 1 + 1 + 1 + 1 < w2.heap.size := by omega))))
    go_returns
    exact ⟨by rw [hE.out]; try rfl, by (repeat' (first | (with_reducible exact Below.refl _ _) | (with_reducible assumption) | (with_reducible refine Below.alloc ?_ ?_ _) | (with_reducible refine Below.drew ?_) | (with_reducible refine below_drewN ?_ _) | (with_reducible refine Below.setCell ?_ ?_ _) | (refine Below.step ?_ (by with_reducible assumption) ?_) | go_size))⟩
end Go.Proofs.Ytemimkbngfbomaa
