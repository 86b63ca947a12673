/- Polars of points: the program's and the reference's steps; p is a prime. -/
import Derived.Test.YtemimkbngfbomaaW54
import Derived.Test.YtemimkbngfbomaaA4
import Derived.Test.YtemimkbngfbomaaP6
import Derived.Test.YtemimkbngfbomaaX1
import Derived.Deep.RegionWith
import Derived.Deep.RegionHeld3
import Derived.Deep.DeepCutAuto
namespace Go.Proofs.Ytemimkbngfbomaa
open Go.RowKit
set_option linter.unusedSimpArgs false
set_option linter.unusedVariables false
set_option maxRecDepth 100000

/-- The polar's three numbers, not normal. -/
def plN (p : Int) (c : C6) (a : P3) : P3 := ⟨dot3 p (mxC p c).m0 (mxC p c).m1 (mxC p c).m2 a.x a.y a.z, dot3 p (mxC p c).m3 (mxC p c).m4 (mxC p c).m5 a.x a.y a.z, dot3 p (mxC p c).m6 (mxC p c).m7 (mxC p c).m8 a.x a.y a.z⟩
def plB (p : Int) (c : C6) (a : P3) : Bool := !(fac p [(plN p c a).x, (plN p c a).y, (plN p c a).z] == 0)
def plL (p : Int) (c : C6) (a : P3) : P3 := npt p (plN p c a).x (plN p c a).y (plN p c a).z
def plM (p : Int) (c : C6) (a : P3) : P3 × Bool := made p (plN p c a).x (plN p c a).y (plN p c a).z
theorem Box.alloc3 {E : Nat} {W : World} {o o' : Obj} {b : Nat} {vs : List Int} (h : Box E (W.alloc o) b vs) (hs : b < W.heap.size) : Box E (W.alloc o') b vs := by
  unfold Box at *
  rw [Below.heap_alloc _ _ _ hs] at h ⊢
  exact h
theorem below_alloc3 {B : Nat} {a W : World} {o o' : Obj} (h : Below B a (W.alloc o)) (hs : B ≤ W.heap.size) (ha : a.heap.size ≤ W.heap.size) : Below B a (W.alloc o') :=
  ⟨h.os, h.tape, h.output, by simp; omega, fun k hk => by rw [← h.block k hk, Below.heap_alloc _ _ _ (by omega), Below.heap_alloc _ _ _ (by omega)]⟩
theorem plM_no {p : Int} {c : C6} {a : P3} (h : plB p c a = false) : plM p c a = (⟨0, 0, 0⟩, false) := by
  unfold plB at h; unfold plM made
  rw [if_pos (by simpa using h)]
theorem plM_ok {p : Int} {c : C6} {a : P3} (h : plB p c a = true) : plM p c a = (plL p c a, true) := by
  unfold plB at h; unfold plM made plL
  rw [if_neg (by simpa using h)]
set_option maxHeartbeats 4000000 in
theorem polar_any (p c0 c1 c2 c3 c4 c5 a0 a1 a2 : Int) (w : World) (hp : isP p = true) (hco : isCo p ⟨c0, c1, c2, c3, c4, c5⟩ = true) (sa0 : sm a0) (sa1 : sm a1) (sa2 : sm a2) :
    Calls Try.prog 63 #[.agg #[.int .i64 c0, .int .i64 c1, .int .i64 c2, .int .i64 c3, .int .i64 c4, .int .i64 c5], .int .i64 p, .agg #[.int .i64 a0, .int .i64 a1, .int .i64 a2]] w fun e w' => e = .returned (.tuple #[.agg #[.int .i64 (plL p ⟨c0, c1, c2, c3, c4, c5⟩ ⟨a0, a1, a2⟩).x, .int .i64 (plL p ⟨c0, c1, c2, c3, c4, c5⟩ ⟨a0, a1, a2⟩).y, .int .i64 (plL p ⟨c0, c1, c2, c3, c4, c5⟩ ⟨a0, a1, a2⟩).z], .bool (plB p ⟨c0, c1, c2, c3, c4, c5⟩ ⟨a0, a1, a2⟩)]) ∧ Below w.heap.size w w' := by
  have k1 := isP_lo hp; have k2 := isP_hi hp
  have hms := mxC_sm hp hco
  have hmx := fun w' => matrix_co p c0 c1 c2 c3 c4 c5 hp hco w'
  have hE0 : plN p ⟨c0, c1, c2, c3, c4, c5⟩ ⟨a0, a1, a2⟩ = ⟨dot3 p (mxC p ⟨c0, c1, c2, c3, c4, c5⟩).m0 (mxC p ⟨c0, c1, c2, c3, c4, c5⟩).m1 (mxC p ⟨c0, c1, c2, c3, c4, c5⟩).m2 a0 a1 a2, dot3 p (mxC p ⟨c0, c1, c2, c3, c4, c5⟩).m3 (mxC p ⟨c0, c1, c2, c3, c4, c5⟩).m4 (mxC p ⟨c0, c1, c2, c3, c4, c5⟩).m5 a0 a1 a2, dot3 p (mxC p ⟨c0, c1, c2, c3, c4, c5⟩).m6 (mxC p ⟨c0, c1, c2, c3, c4, c5⟩).m7 (mxC p ⟨c0, c1, c2, c3, c4, c5⟩).m8 a0 a1 a2⟩ := rfl
  obtain ⟨m0, m1, m2, m3, m4, m5, m6, m7, m8, hM⟩ := M9_parts (mxC p ⟨c0, c1, c2, c3, c4, c5⟩)
  rw [hM] at hms hmx hE0
  obtain ⟨sm0, sm1, sm2, sm3, sm4, sm5, sm6, sm7, sm8⟩ := hms
  dsimp only at hmx hE0 sm0 sm1 sm2 sm3 sm4 sm5 sm6 sm7 sm8
  obtain ⟨d0, he0⟩ : ∃ d : Int, Hid (d = (dot3 p m0 m1 m2 a0 a1 a2)) := ⟨_, rfl⟩
  rw [← he0.out] at hE0
  obtain ⟨d1, he1⟩ : ∃ d : Int, Hid (d = (dot3 p m3 m4 m5 a0 a1 a2)) := ⟨_, rfl⟩
  rw [← he1.out] at hE0
  obtain ⟨d2, he2⟩ : ∃ d : Int, Hid (d = (dot3 p m6 m7 m8 a0 a1 a2)) := ⟨_, rfl⟩
  rw [← he2.out] at hE0
  have hd0 : Hid (∀ w' : World, Calls Try.prog 61 #[.int .i64 p, .agg #[.int .i64 m0, .int .i64 m1, .int .i64 m2], .agg #[.int .i64 a0, .int .i64 a1, .int .i64 a2]] w' fun e w'' => e = .returned (.int .i64 d0) ∧ Below w'.heap.size w' w'') := fun w' => (dot_any p m0 m1 m2 a0 a1 a2 w' k1 k2 sm0 sm1 sm2 sa0 sa1 sa2).mono fun _ _ h => ⟨by rw [he0.out]; exact h.1, h.2⟩
  have hd1 : Hid (∀ w' : World, Calls Try.prog 61 #[.int .i64 p, .agg #[.int .i64 m3, .int .i64 m4, .int .i64 m5], .agg #[.int .i64 a0, .int .i64 a1, .int .i64 a2]] w' fun e w'' => e = .returned (.int .i64 d1) ∧ Below w'.heap.size w' w'') := fun w' => (dot_any p m3 m4 m5 a0 a1 a2 w' k1 k2 sm3 sm4 sm5 sa0 sa1 sa2).mono fun _ _ h => ⟨by rw [he1.out]; exact h.1, h.2⟩
  have hd2 : Hid (∀ w' : World, Calls Try.prog 61 #[.int .i64 p, .agg #[.int .i64 m6, .int .i64 m7, .int .i64 m8], .agg #[.int .i64 a0, .int .i64 a1, .int .i64 a2]] w' fun e w'' => e = .returned (.int .i64 d2) ∧ Below w'.heap.size w' w'') := fun w' => (dot_any p m6 m7 m8 a0 a1 a2 w' k1 k2 sm6 sm7 sm8 sa0 sa1 sa2).mono fun _ _ h => ⟨by rw [he2.out]; exact h.1, h.2⟩
  have HE : Hid (plN p ⟨c0, c1, c2, c3, c4, c5⟩ ⟨a0, a1, a2⟩ = ⟨d0, d1, d2⟩) := hE0
  have HP := Lib.hid hp
  have HMX := Lib.hid hmx
  have hEL : Hid (plL p ⟨c0, c1, c2, c3, c4, c5⟩ ⟨a0, a1, a2⟩ = ⟨nr p (fac p [d0, d1, d2]) d0, nr p (fac p [d0, d1, d2]) d1, nr p (fac p [d0, d1, d2]) d2⟩) := by show _ = _; unfold plL; rw [hE0]; rfl
  have hEB : Hid (plB p ⟨c0, c1, c2, c3, c4, c5⟩ ⟨a0, a1, a2⟩ = !(fac p [d0, d1, d2] == 0)) := by show _ = _; unfold plB; rw [hE0]
  clear hmx hE0 hM hp hco k1 k2 sm0 sm1 sm2 sm3 sm4 sm5 sm6 sm7 sm8 sa0 sa1 sa2
  go_enter Try.func63, Try.ntmps63
  go_upto_region 2 with (go_at_call 60; refine (HMX.out _).mono ?_; rintro e v1 ⟨rfl, hb1⟩)
  have hz1 := hb1.size
  simp only [World.size_alloc] at hz1
  refine wp_name (fun w' => Box 35 w' (w.heap.size + 1) [a0, a1, a2] ∧ Box 38 w' (w.heap.size + 1 + 1) [0, 0, 0] ∧ Box 55 w' v1.heap.size [m0, m1, m2, m3, m4, m5, m6, m7, m8] ∧ Below w.heap.size w w') ⟨Box.alloc (Box.below hb1 (Box.alloc (Box.new [a0, a1, a2] (by simp)) _)) _, Box.alloc (Box.below hb1 (Box.new [0, 0, 0] (by simp))) _, Box.new [m0, m1, m2, m3, m4, m5, m6, m7, m8] rfl, by (repeat' (first | (with_reducible exact Below.refl _ _) | (with_reducible assumption) | (with_reducible refine Below.alloc ?_ ?_ _) | (with_reducible refine Below.drew ?_) | (with_reducible refine below_drewN ?_ _) | (with_reducible refine Below.setCell ?_ ?_ _) | (refine Below.step ?_ (by with_reducible assumption) ?_) | go_size))⟩ ?_
  rintro w1 ⟨Ba, Br, Bm, hB⟩
  have ltm := Bm.lt
  have ltr := Br.lt
  have ra0 := Ba.cell 0 rfl
  have ra1 := Ba.cell 1 rfl
  have ra2 := Ba.cell 2 rfl
  have rm0 := Bm.cell 0 rfl
  have rm1 := Bm.cell 1 rfl
  have rm2 := Bm.cell 2 rfl
  have rm3 := Bm.cell 3 rfl
  have rm4 := Bm.cell 4 rfl
  have rm5 := Bm.cell 5 rfl
  have rm6 := Bm.cell 6 rfl
  have rm7 := Bm.cell 7 rfl
  have rm8 := Bm.cell 8 rfl
  go_cut [9] (fun s9 w' => ∃ g : Nat, s9 = .pointer (some ⟨g, 0, none⟩) ∧ w.heap.size + 1 + 1 + 1 ≤ g ∧ Box 38 w' g [d0, d1, d2] ∧ Box 38 w' (w.heap.size + 1 + 1) [0, 0, 0] ∧ Below w.heap.size w w')
  case first =>
    go_region_held3 (fun w' => w'.cell? ⟨w.heap.size + 1, 0, none⟩ = some (.int .i64 a0) ∧ w'.cell? ⟨w.heap.size + 1, 1, none⟩ = some (.int .i64 a1) ∧ w'.cell? ⟨w.heap.size + 1, 2, none⟩ = some (.int .i64 a2) ∧ w'.cell? ⟨v1.heap.size, 0, none⟩ = some (.int .i64 m0) ∧ w'.cell? ⟨v1.heap.size, 1, none⟩ = some (.int .i64 m1) ∧ w'.cell? ⟨v1.heap.size, 2, none⟩ = some (.int .i64 m2) ∧ w'.cell? ⟨v1.heap.size, 3, none⟩ = some (.int .i64 m3) ∧ w'.cell? ⟨v1.heap.size, 4, none⟩ = some (.int .i64 m4) ∧ w'.cell? ⟨v1.heap.size, 5, none⟩ = some (.int .i64 m5) ∧ w'.cell? ⟨v1.heap.size, 6, none⟩ = some (.int .i64 m6) ∧ w'.cell? ⟨v1.heap.size, 7, none⟩ = some (.int .i64 m7) ∧ w'.cell? ⟨v1.heap.size, 8, none⟩ = some (.int .i64 m8) ∧ Box 38 w' (w.heap.size + 1 + 1) [0, 0, 0] ∧ Below w.heap.size w w') ((go_split_ands; (repeat (any_goals (with_reducible apply And.intro))) <;> ((repeat (first | (with_reducible assumption) | (with_reducible refine Box.far3 ?_ (by omega)) | (with_reducible refine keepS2 ?_ (by omega)) | (with_reducible refine setB2 ?_ (by omega)) | ((with_reducible apply keepA2); (with_reducible assumption); ((try simp only [World.size_alloc, World.size_drew, World.size_setCell]); omega)) | ((with_reducible apply Box.alloc3); (with_reducible assumption); ((try simp only [World.size_alloc, World.size_drew, World.size_setCell]); omega)) | ((with_reducible apply below_alloc3); (with_reducible assumption); ((try simp only [World.size_alloc, World.size_drew, World.size_setCell]); omega); ((try simp only [World.size_alloc, World.size_drew, World.size_setCell]); omega)) | (with_reducible exact Below.refl _ _) | (with_reducible refine keepD ?_) | (with_reducible refine Below.drew ?_) | (with_reducible refine Box.drew ?_) | (with_reducible refine sizeD ?_) | (with_reducible exact keepC (by with_reducible assumption) (by with_reducible assumption)) | (with_reducible exact Box.below (by with_reducible assumption) (by with_reducible assumption)) | (with_reducible exact keepB (by with_reducible assumption) (by with_reducible assumption) (Nat.le_refl _)) | (with_reducible exact sizeC (by with_reducible assumption) (by with_reducible assumption)) | (with_reducible refine keepA _ ?_) | (with_reducible refine Box.alloc ?_ _) | (with_reducible refine allocB ?_ (Nat.le_refl _) _) | (with_reducible refine sizeA ?_ _))); done))) ((first | (go_at_call_of 61 (Value.agg #[.int .i64 m0, .int .i64 m1, .int .i64 m2]); refine (hd0.out _).mono ?_; rintro e w2 ⟨rfl, hb2⟩; obtain ⟨hc2, hf2⟩ := bcell hb2; have hz2 := hb2.size; (try simp only [World.size_alloc, World.size_setCell, World.size_drew] at hz2); (try (have hy2w0 : w.heap.size < w2.heap.size := by omega)); (try (have hy2w1 : w.heap.size + 1 < w2.heap.size := by omega)); (try (have hy2w2 : w.heap.size + 1 + 1 < w2.heap.size := by omega)); (try (have hy2w3 : w.heap.size + 1 + 1 + 1 < w2.heap.size := by omega)); (try (have hy2w4 : w.heap.size + 1 + 1 + 1 + 1 < w2.heap.size := by omega)); (try (have hy2wc0 : wc.heap.size < w2.heap.size := by omega)); (try (have hy2wc1 : wc.heap.size + 1 < w2.heap.size := by omega)); (try (have hy2wc2 : wc.heap.size + 1 + 1 < w2.heap.size := by omega)); (try (have hy2wc3 : wc.heap.size + 1 + 1 + 1 < w2.heap.size := by omega)); (try (have hy2wc4 : wc.heap.size + 1 + 1 + 1 + 1 < w2.heap.size := by omega)); (try (have hy2w10 : w1.heap.size < w2.heap.size := by omega)); (try (have hy2w11 : w1.heap.size + 1 < w2.heap.size := by omega)); (try (have hy2w12 : w1.heap.size + 1 + 1 < w2.heap.size := by omega)); (try (have hy2w13 : w1.heap.size + 1 + 1 + 1 < w2.heap.size := by omega)); (try (have hy2w14 : w1.heap.size + 1 + 1 + 1 + 1 < w2.heap.size := by omega))) | (go_at_call_of 61 (Value.agg #[.int .i64 m3, .int .i64 m4, .int .i64 m5]); refine (hd1.out _).mono ?_; rintro e w3 ⟨rfl, hb3⟩; obtain ⟨hc3, hf3⟩ := bcell hb3; have hz3 := hb3.size; (try simp only [World.size_alloc, World.size_setCell, World.size_drew] at hz3); (try (have hy3w0 : w.heap.size < w3.heap.size := by omega)); (try (have hy3w1 : w.heap.size + 1 < w3.heap.size := by omega)); (try (have hy3w2 : w.heap.size + 1 + 1 < w3.heap.size := by omega)); (try (have hy3w3 : w.heap.size + 1 + 1 + 1 < w3.heap.size := by omega)); (try (have hy3w4 : w.heap.size + 1 + 1 + 1 + 1 < w3.heap.size := by omega)); (try (have hy3wc0 : wc.heap.size < w3.heap.size := by omega)); (try (have hy3wc1 : wc.heap.size + 1 < w3.heap.size := by omega)); (try (have hy3wc2 : wc.heap.size + 1 + 1 < w3.heap.size := by omega)); (try (have hy3wc3 : wc.heap.size + 1 + 1 + 1 < w3.heap.size := by omega)); (try (have hy3wc4 : wc.heap.size + 1 + 1 + 1 + 1 < w3.heap.size := by omega)); (try (have hy3w10 : w1.heap.size < w3.heap.size := by omega)); (try (have hy3w11 : w1.heap.size + 1 < w3.heap.size := by omega)); (try (have hy3w12 : w1.heap.size + 1 + 1 < w3.heap.size := by omega)); (try (have hy3w13 : w1.heap.size + 1 + 1 + 1 < w3.heap.size := by omega)); (try (have hy3w14 : w1.heap.size + 1 + 1 + 1 + 1 < w3.heap.size := by omega)); (try (have hy3w20 : w2.heap.size < w3.heap.size := by omega)); (try (have hy3w21 : w2.heap.size + 1 < w3.heap.size := by omega)); (try (have hy3w22 : w2.heap.size + 1 + 1 < w3.heap.size := by omega)); (try (have hy3w23 : w2.heap.size + 1 + 1 + 1 < w3.heap.size := by omega)); (try (have hy3w24 : w2.heap.size + 1 + 1 + 1 + 1 < w3.heap.size := by omega))) | (go_at_call_of 61 (Value.agg #[.int .i64 m6, .int .i64 m7, .int .i64 m8]); refine (hd2.out _).mono ?_; rintro e w4 ⟨rfl, hb4⟩; obtain ⟨hc4, hf4⟩ := bcell hb4; have hz4 := hb4.size; (try simp only [World.size_alloc, World.size_setCell, World.size_drew] at hz4); (try (have hy4w0 : w.heap.size < w4.heap.size := by omega)); (try (have hy4w1 : w.heap.size + 1 < w4.heap.size := by omega)); (try (have hy4w2 : w.heap.size + 1 + 1 < w4.heap.size := by omega)); (try (have hy4w3 : w.heap.size + 1 + 1 + 1 < w4.heap.size := by omega)); (try (have hy4w4 : w.heap.size + 1 + 1 + 1 + 1 < w4.heap.size := by omega)); (try (have hy4wc0 : wc.heap.size < w4.heap.size := by omega)); (try (have hy4wc1 : wc.heap.size + 1 < w4.heap.size := by omega)); (try (have hy4wc2 : wc.heap.size + 1 + 1 < w4.heap.size := by omega)); (try (have hy4wc3 : wc.heap.size + 1 + 1 + 1 < w4.heap.size := by omega)); (try (have hy4wc4 : wc.heap.size + 1 + 1 + 1 + 1 < w4.heap.size := by omega)); (try (have hy4w10 : w1.heap.size < w4.heap.size := by omega)); (try (have hy4w11 : w1.heap.size + 1 < w4.heap.size := by omega)); (try (have hy4w12 : w1.heap.size + 1 + 1 < w4.heap.size := by omega)); (try (have hy4w13 : w1.heap.size + 1 + 1 + 1 < w4.heap.size := by omega)); (try (have hy4w14 : w1.heap.size + 1 + 1 + 1 + 1 < w4.heap.size := by omega)); (try (have hy4w20 : w2.heap.size < w4.heap.size := by omega)); (try (have hy4w21 : w2.heap.size + 1 < w4.heap.size := by omega)); (try (have hy4w22 : w2.heap.size + 1 + 1 < w4.heap.size := by omega)); (try (have hy4w23 : w2.heap.size + 1 + 1 + 1 < w4.heap.size := by omega)); (try (have hy4w24 : w2.heap.size + 1 + 1 + 1 + 1 < w4.heap.size := by omega)); (try (have hy4w30 : w3.heap.size < w4.heap.size := by omega)); (try (have hy4w31 : w3.heap.size + 1 < w4.heap.size := by omega)); (try (have hy4w32 : w3.heap.size + 1 + 1 < w4.heap.size := by omega)); (try (have hy4w33 : w3.heap.size + 1 + 1 + 1 < w4.heap.size := by omega)); (try (have hy4w34 : w3.heap.size + 1 + 1 + 1 + 1 < w4.heap.size := by omega)))))
    all_goals (go_wp2_with fail; go_meet; go_split_ands; refine ⟨_, rfl, ?_, ?_, by with_reducible assumption, by with_reducible assumption⟩)
    all_goals first
      | omega
      | exact Box.new [d0, d1, d2] rfl
      | ((refine Box.fill3 (u0 := 0) (u1 := 0) (u2 := 0) ?_); (repeat (first | (exact Box.new [0, 0, 0] rfl) | (with_reducible refine Box.drew ?_) | (with_reducible refine Box.below hb4 ?_) | (with_reducible refine Box.below hb3 ?_) | (with_reducible refine Box.below hb2 ?_))); done)
  clear ra0 ra1 ra2 rm0 rm1 rm2 rm3 rm4 rm5 rm6 rm7 rm8 ltr ltm Br Bm Ba
  case' rest =>
    obtain ⟨g, rfl, hg, BG, BX, hBc⟩ := hcut
    have ltg := BG.lt
    have sg0 := BG.cell 0 rfl; have sg1 := BG.cell 1 rfl; have sg2 := BG.cell 2 rfl; have sh0 := BG.frz 0; have sh1 := BG.frz 1; have sh2 := BG.frz 2
    go_wp2_with fail
    refine (normal3 p _ _ d0 d1 d2 _ HP.out sg0 sg1 sg2 sh0 sh1 sh2).mono ?_
    rintro e w' ⟨rfl, rfl⟩
    clear sg0 sg1 sg2 sh0 sh1 sh2
    go_upto_region 4 with fail
    refine wp_name (fun w' => Box 38 w' g [nr p (fac p [d0, d1, d2]) d0, nr p (fac p [d0, d1, d2]) d1, nr p (fac p [d0, d1, d2]) d2] ∧ Box 38 w' (w.heap.size + 1 + 1) [0, 0, 0] ∧ Below w.heap.size w w') ⟨Box.fill3 BG, Box.far3 BX (by omega), by (repeat' (first | (with_reducible exact Below.refl _ _) | (with_reducible assumption) | (with_reducible refine Below.alloc ?_ ?_ _) | (with_reducible refine Below.drew ?_) | (with_reducible refine below_drewN ?_ _) | (with_reducible refine Below.setCell ?_ ?_ _) | (refine Below.step ?_ (by with_reducible assumption) ?_) | go_size))⟩ ?_
    rintro wr ⟨BG2, BX2, hBd⟩
    have sr0 := BX2.cell 0 rfl; have sr1 := BX2.cell 1 rfl; have sr2 := BX2.cell 2 rfl; have sf0 := BX2.frz 0; have sf1 := BX2.frz 1; have sf2 := BX2.frz 2; have sg0 := BG2.cell 0 rfl; have sg1 := BG2.cell 1 rfl; have sg2 := BG2.cell 2 rfl
    go_wp2_with fail
    (try simp only [Exit.inBlock, Exit.then]); refine bodyPost_ret (by simp [results, Try.results63, go_sem, *]; try rfl) rfl ?_
    exact ⟨by rw [hEL.out, hEB.out]; try rfl, by (repeat' (first | (with_reducible exact Below.refl _ _) | (with_reducible assumption) | (with_reducible refine Below.alloc ?_ ?_ _) | (with_reducible refine Below.drew ?_) | (with_reducible refine below_drewN ?_ _) | (with_reducible refine Below.setCell ?_ ?_ _) | (refine Below.step ?_ (by with_reducible assumption) ?_) | go_size))⟩
set_option maxHeartbeats 4000000 in
theorem l03Polar_any (p c0 c1 c2 c3 c4 c5 a0 a1 a2 : Int) (w : World) (hp : isP p = true) (hco : isCo p ⟨c0, c1, c2, c3, c4, c5⟩ = true) (sa0 : sm a0) (sa1 : sm a1) (sa2 : sm a2) :
    Calls Try.prog 62 #[.int .i64 p, .agg #[.int .i64 c0, .int .i64 c1, .int .i64 c2, .int .i64 c3, .int .i64 c4, .int .i64 c5], .agg #[.int .i64 a0, .int .i64 a1, .int .i64 a2]] w fun e w' => e = .returned (.tuple #[.agg #[.int .i64 ((plM p ⟨c0, c1, c2, c3, c4, c5⟩ ⟨a0, a1, a2⟩).1).x, .int .i64 ((plM p ⟨c0, c1, c2, c3, c4, c5⟩ ⟨a0, a1, a2⟩).1).y, .int .i64 ((plM p ⟨c0, c1, c2, c3, c4, c5⟩ ⟨a0, a1, a2⟩).1).z], .bool (plM p ⟨c0, c1, c2, c3, c4, c5⟩ ⟨a0, a1, a2⟩).2]) ∧ Below w.heap.size w w' := by
  have hms := mxC_sm hp hco
  have hr := fun w' => l03Rows_co p c0 c1 c2 c3 c4 c5 hp hco w'
  have hE0 : plM p ⟨c0, c1, c2, c3, c4, c5⟩ ⟨a0, a1, a2⟩ = made p (dot3 p (mxC p ⟨c0, c1, c2, c3, c4, c5⟩).m0 (mxC p ⟨c0, c1, c2, c3, c4, c5⟩).m1 (mxC p ⟨c0, c1, c2, c3, c4, c5⟩).m2 a0 a1 a2) (dot3 p (mxC p ⟨c0, c1, c2, c3, c4, c5⟩).m3 (mxC p ⟨c0, c1, c2, c3, c4, c5⟩).m4 (mxC p ⟨c0, c1, c2, c3, c4, c5⟩).m5 a0 a1 a2) (dot3 p (mxC p ⟨c0, c1, c2, c3, c4, c5⟩).m6 (mxC p ⟨c0, c1, c2, c3, c4, c5⟩).m7 (mxC p ⟨c0, c1, c2, c3, c4, c5⟩).m8 a0 a1 a2) := rfl
  obtain ⟨m0, m1, m2, m3, m4, m5, m6, m7, m8, hM⟩ := M9_parts (mxC p ⟨c0, c1, c2, c3, c4, c5⟩)
  rw [hM] at hms hr hE0
  obtain ⟨sm0, sm1, sm2, sm3, sm4, sm5, sm6, sm7, sm8⟩ := hms
  dsimp only at hr hE0 sm0 sm1 sm2 sm3 sm4 sm5 sm6 sm7 sm8
  unfold dot3 at hE0
  rw [made_mod] at hE0
  have hmd := fun w' => l01Made_any p (m0 * a0 + m1 * a1 + m2 * a2) (m3 * a0 + m4 * a1 + m5 * a2) (m6 * a0 + m7 * a1 + m8 * a2) w' hp
  rw [← hE0] at hmd
  obtain ⟨⟨l0, l1, l2⟩, bb, hl⟩ : ∃ l b, plM p ⟨c0, c1, c2, c3, c4, c5⟩ ⟨a0, a1, a2⟩ = (l, b) := ⟨_, _, rfl⟩
  rw [hl] at hmd ⊢
  dsimp only at hmd ⊢
  have HR := Lib.hid hr
  have HMD := Lib.hid hmd
  obtain ⟨wa0, wb0, wc0, wd0, we0, _⟩ := dtw p sm0 sm1 sm2 sa0 sa1 sa2
  obtain ⟨wa1, wb1, wc1, wd1, we1, _⟩ := dtw p sm3 sm4 sm5 sa0 sa1 sa2
  obtain ⟨wa2, wb2, wc2, wd2, we2, _⟩ := dtw p sm6 sm7 sm8 sa0 sa1 sa2
  clear hr hmd hE0 hM hl hp hco sm0 sm1 sm2 sm3 sm4 sm5 sm6 sm7 sm8 sa0 sa1 sa2
  go_enter Try.func62, Try.ntmps62
  go_upto_region 2 with (go_at_call 69; refine (HR.out _).mono ?_; rintro e w1 ⟨v, rfl, hrow, hb1⟩)
  have hz1 := hb1.size
  simp only [World.size_alloc] at hz1
  obtain ⟨g, ra, rb, rc, rfl, h1, h2, h3, q0, q1, q2, q3, q4, q5, q6, q7, q8⟩ := hrow
  have Ba : Box 35 w1 (w.heap.size + 1) [a0, a1, a2] := Box.below hb1 (Box.alloc (Box.new [a0, a1, a2] (by simp)) _)
  have Br : Box 38 w1 (w.heap.size + 1 + 1) [0, 0, 0] := Box.below hb1 (Box.new [0, 0, 0] (by simp))
  have hB1 : Below w.heap.size w w1 := by (repeat' (first | (with_reducible exact Below.refl _ _) | (with_reducible assumption) | (with_reducible refine Below.alloc ?_ ?_ _) | (with_reducible refine Below.drew ?_) | (with_reducible refine below_drewN ?_ _) | (with_reducible refine Below.setCell ?_ ?_ _) | (refine Below.step ?_ (by with_reducible assumption) ?_) | go_size))
  have ltr := Br.lt
  clear hb1 HR
  have pa0 := Ba.cell 0 rfl; have pa1 := Ba.cell 1 rfl; have pa2 := Ba.cell 2 rfl
  refine wp_name (fun w' => OwnI w' w1.heap.size (.slice (some ⟨w1.heap.size, 0, none⟩) 0 0) [] ∧ Below w1.heap.size w1 w') ⟨OwnI.made0 rfl (Nat.le_refl _), by (repeat' (first | (with_reducible exact Below.refl _ _) | (with_reducible assumption) | (with_reducible refine Below.alloc ?_ ?_ _) | (with_reducible refine Below.drew ?_) | (with_reducible refine below_drewN ?_ _) | (with_reducible refine Below.setCell ?_ ?_ _) | (refine Below.step ?_ (by with_reducible assumption) ?_) | go_size))⟩ ?_
  rintro wq0 ⟨HO0, hC0⟩
  have hy0 := hC0.size
  go_wp2_with fail
  refine wp_loop_rounds 4 ?_
  rw [rounds_succ]
  go_wp2_with fail
  have ya := keepC2 hC0 h1
  have yb0 := keepC2 hC0 q0
  have yc0 := keepC2 hC0 pa0
  have yb1 := keepC2 hC0 q1
  have yc1 := keepC2 hC0 pa1
  have yb2 := keepC2 hC0 q2
  have yc2 := keepC2 hC0 pa2
  have hOa : OwnI (wq0.alloc (.cells #[.int .i64 (m0 * a0 + m1 * a1 + m2 * a2)] 2)).drew w1.heap.size (.slice (some ⟨w1.heap.size, 0, none⟩) 0 0) [] := OwnI.alloc HO0 (.cells #[.int .i64 (m0 * a0 + m1 * a1 + m2 * a2)] 2)
  have hNa : Box 2 (wq0.alloc (.cells #[.int .i64 (m0 * a0 + m1 * a1 + m2 * a2)] 2)).drew wq0.heap.size [(m0 * a0 + m1 * a1 + m2 * a2)] := Box.new [(m0 * a0 + m1 * a1 + m2 * a2)] rfl
  have hBa : Below w1.heap.size w1 (wq0.alloc (.cells #[.int .i64 (m0 * a0 + m1 * a1 + m2 * a2)] 2)).drew := Below.drew (Below.alloc hC0 (by omega) _)
  go_region_held3 (fun w' => w'.cell? ⟨g, 0, none⟩ = some (.slice (some ⟨ra, 0, none⟩) 3 3) ∧ w'.cell? ⟨ra, 0, none⟩ = some (.int .i64 m0) ∧ w'.cell? ⟨ra, 1, none⟩ = some (.int .i64 m1) ∧ w'.cell? ⟨ra, 2, none⟩ = some (.int .i64 m2) ∧ w'.cell? ⟨w.heap.size + 1, 0, none⟩ = some (.int .i64 a0) ∧ w'.cell? ⟨w.heap.size + 1, 1, none⟩ = some (.int .i64 a1) ∧ w'.cell? ⟨w.heap.size + 1, 2, none⟩ = some (.int .i64 a2)) ((go_split_ands; (repeat (any_goals (with_reducible apply And.intro))) <;> (first | (with_reducible assumption) | (with_reducible exact keepD (by with_reducible assumption)) | (with_reducible exact keepD (keepA _ (by with_reducible assumption))) | (with_reducible exact keepC2 hBk2 (by with_reducible assumption))))) ((refine appI_step rfl _ _ rfl w1.heap.size _ [] [(m0 * a0 + m1 * a1 + m2 * a2)] rfl hOa rfl hNa rfl (by decide) (by simp) (by go_size) ?_; intro g1 cap1 wn1 HOn1 hgr hBk; have hCn1 := hBk _ _ hBa (Nat.le_refl _); have hBk2 := hCn1))
  go_wp2_with fail
  clear hBk2 hgr hBk hBa hNa hOa ya yb0 yb1 yb2 yc0 yc1 yc2
  rw [rounds_succ]
  go_wp2_with fail
  refine wp_name (fun w' => OwnI w' w1.heap.size (.slice (some ⟨g1, 0, none⟩) 1 cap1) [(m0 * a0 + m1 * a1 + m2 * a2)] ∧ Below w1.heap.size w1 w') ⟨HOn1, hCn1⟩ ?_
  rintro wq1 ⟨HO1, hC1⟩
  have hy1 := hC1.size
  clear HOn1 hCn1 HO0 hC0
  have ya := keepC2 hC1 h2
  have yb0 := keepC2 hC1 q3
  have yc0 := keepC2 hC1 pa0
  have yb1 := keepC2 hC1 q4
  have yc1 := keepC2 hC1 pa1
  have yb2 := keepC2 hC1 q5
  have yc2 := keepC2 hC1 pa2
  have hOa : OwnI (wq1.alloc (.cells #[.int .i64 (m3 * a0 + m4 * a1 + m5 * a2)] 2)).drew w1.heap.size (.slice (some ⟨g1, 0, none⟩) 1 cap1) [(m0 * a0 + m1 * a1 + m2 * a2)] := OwnI.alloc HO1 (.cells #[.int .i64 (m3 * a0 + m4 * a1 + m5 * a2)] 2)
  have hNa : Box 2 (wq1.alloc (.cells #[.int .i64 (m3 * a0 + m4 * a1 + m5 * a2)] 2)).drew wq1.heap.size [(m3 * a0 + m4 * a1 + m5 * a2)] := Box.new [(m3 * a0 + m4 * a1 + m5 * a2)] rfl
  have hBa : Below w1.heap.size w1 (wq1.alloc (.cells #[.int .i64 (m3 * a0 + m4 * a1 + m5 * a2)] 2)).drew := Below.drew (Below.alloc hC1 (by omega) _)
  go_region_held3 (fun w' => w'.cell? ⟨g, 1, none⟩ = some (.slice (some ⟨rb, 0, none⟩) 3 3) ∧ w'.cell? ⟨rb, 0, none⟩ = some (.int .i64 m3) ∧ w'.cell? ⟨rb, 1, none⟩ = some (.int .i64 m4) ∧ w'.cell? ⟨rb, 2, none⟩ = some (.int .i64 m5) ∧ w'.cell? ⟨w.heap.size + 1, 0, none⟩ = some (.int .i64 a0) ∧ w'.cell? ⟨w.heap.size + 1, 1, none⟩ = some (.int .i64 a1) ∧ w'.cell? ⟨w.heap.size + 1, 2, none⟩ = some (.int .i64 a2)) ((go_split_ands; (repeat (any_goals (with_reducible apply And.intro))) <;> (first | (with_reducible assumption) | (with_reducible exact keepD (by with_reducible assumption)) | (with_reducible exact keepD (keepA _ (by with_reducible assumption))) | (with_reducible exact keepC2 hBk2 (by with_reducible assumption))))) ((refine appI_step rfl _ _ rfl w1.heap.size _ [(m0 * a0 + m1 * a1 + m2 * a2)] [(m3 * a0 + m4 * a1 + m5 * a2)] rfl hOa rfl hNa rfl (by decide) (by simp) (by go_size) ?_; intro g2 cap2 wn2 HOn2 hgr hBk; have hCn2 := hBk _ _ hBa (Nat.le_refl _); have hBk2 := hCn2))
  go_wp2_with fail
  clear hBk2 hgr hBk hBa hNa hOa ya yb0 yb1 yb2 yc0 yc1 yc2
  rw [rounds_succ]
  go_wp2_with fail
  refine wp_name (fun w' => OwnI w' w1.heap.size (.slice (some ⟨g2, 0, none⟩) 2 cap2) [(m0 * a0 + m1 * a1 + m2 * a2), (m3 * a0 + m4 * a1 + m5 * a2)] ∧ Below w1.heap.size w1 w') ⟨HOn2, hCn2⟩ ?_
  rintro wq2 ⟨HO2, hC2⟩
  have hy2 := hC2.size
  clear HOn2 hCn2 HO1 hC1
  have ya := keepC2 hC2 h3
  have yb0 := keepC2 hC2 q6
  have yc0 := keepC2 hC2 pa0
  have yb1 := keepC2 hC2 q7
  have yc1 := keepC2 hC2 pa1
  have yb2 := keepC2 hC2 q8
  have yc2 := keepC2 hC2 pa2
  have hOa : OwnI (wq2.alloc (.cells #[.int .i64 (m6 * a0 + m7 * a1 + m8 * a2)] 2)).drew w1.heap.size (.slice (some ⟨g2, 0, none⟩) 2 cap2) [(m0 * a0 + m1 * a1 + m2 * a2), (m3 * a0 + m4 * a1 + m5 * a2)] := OwnI.alloc HO2 (.cells #[.int .i64 (m6 * a0 + m7 * a1 + m8 * a2)] 2)
  have hNa : Box 2 (wq2.alloc (.cells #[.int .i64 (m6 * a0 + m7 * a1 + m8 * a2)] 2)).drew wq2.heap.size [(m6 * a0 + m7 * a1 + m8 * a2)] := Box.new [(m6 * a0 + m7 * a1 + m8 * a2)] rfl
  have hBa : Below w1.heap.size w1 (wq2.alloc (.cells #[.int .i64 (m6 * a0 + m7 * a1 + m8 * a2)] 2)).drew := Below.drew (Below.alloc hC2 (by omega) _)
  go_region_held3 (fun w' => w'.cell? ⟨g, 2, none⟩ = some (.slice (some ⟨rc, 0, none⟩) 3 3) ∧ w'.cell? ⟨rc, 0, none⟩ = some (.int .i64 m6) ∧ w'.cell? ⟨rc, 1, none⟩ = some (.int .i64 m7) ∧ w'.cell? ⟨rc, 2, none⟩ = some (.int .i64 m8) ∧ w'.cell? ⟨w.heap.size + 1, 0, none⟩ = some (.int .i64 a0) ∧ w'.cell? ⟨w.heap.size + 1, 1, none⟩ = some (.int .i64 a1) ∧ w'.cell? ⟨w.heap.size + 1, 2, none⟩ = some (.int .i64 a2)) ((go_split_ands; (repeat (any_goals (with_reducible apply And.intro))) <;> (first | (with_reducible assumption) | (with_reducible exact keepD (by with_reducible assumption)) | (with_reducible exact keepD (keepA _ (by with_reducible assumption))) | (with_reducible exact keepC2 hBk2 (by with_reducible assumption))))) ((refine appI_step rfl _ _ rfl w1.heap.size _ [(m0 * a0 + m1 * a1 + m2 * a2), (m3 * a0 + m4 * a1 + m5 * a2)] [(m6 * a0 + m7 * a1 + m8 * a2)] rfl hOa rfl hNa rfl (by decide) (by simp) (by go_size) ?_; intro g3 cap3 wn3 HOn3 hgr hBk; have hCn3 := hBk _ _ hBa (Nat.le_refl _); have hBk2 := hCn3))
  go_wp2_with fail
  clear hBk2 hgr hBk hBa hNa hOa ya yb0 yb1 yb2 yc0 yc1 yc2
  rw [rounds_succ]
  go_wp2_with fail
  obtain ⟨hR, hgl, hgb, _⟩ := HOn3.rd (by simp)
  have z0 := hR 0 _ rfl; have z1 := hR 1 _ rfl; have z2 := hR 2 _ rfl
  simp only [Nat.zero_add] at z0 z1 z2
  have hD : Below w.heap.size w wn3 := Below.step hB1 hCn3 (by omega)
  have BX3 : Box 38 wn3 (w.heap.size + 1 + 1) [0, 0, 0] := Box.below hCn3 Br
  have hy3 := hCn3.size
  clear hR HO2 hC2 HOn3 h1 h2 h3 q0 q1 q2 q3 q4 q5 q6 q7 q8 Ba Br hB1 wa0 wb0 wc0 wd0 we0 wa1 wb1 wc1 wd1 we1 wa2 wb2 wc2 wd2 we2
  refine wp_name (fun w' => w'.cell? ⟨g3, 0, none⟩ = some (.int .i64 (m0 * a0 + m1 * a1 + m2 * a2)) ∧ w'.cell? ⟨g3, 1, none⟩ = some (.int .i64 (m3 * a0 + m4 * a1 + m5 * a2)) ∧ w'.cell? ⟨g3, 2, none⟩ = some (.int .i64 (m6 * a0 + m7 * a1 + m8 * a2)) ∧ Box 38 w' (w.heap.size + 1 + 1) [0, 0, 0] ∧ Below w.heap.size w w') ⟨z0, z1, z2, BX3, hD⟩ ?_
  rintro w2 ⟨z0', z1', z2', BX2, hD2⟩
  clear z0 z1 z2 BX3 hD hCn3 hy3
  have ltx := BX2.lt
  have ltg3 : g3 < w2.heap.size := World.block_lt_of_cell? _ _ z0'
  go_cut [11, 12] (fun s11 s12 w' => ∃ k : Nat, s11 = .pointer (some ⟨k, 0, none⟩) ∧ s12 = .bool bb ∧ w.heap.size + 1 + 1 + 1 ≤ k ∧ Box 35 w' k [l0, l1, l2] ∧ Box 38 w' (w.heap.size + 1 + 1) [0, 0, 0] ∧ Below w.heap.size w w')
  case first =>
    go_region_held3 (fun w' => w'.cell? ⟨g3, 0, none⟩ = some (.int .i64 (m0 * a0 + m1 * a1 + m2 * a2)) ∧ w'.cell? ⟨g3, 1, none⟩ = some (.int .i64 (m3 * a0 + m4 * a1 + m5 * a2)) ∧ w'.cell? ⟨g3, 2, none⟩ = some (.int .i64 (m6 * a0 + m7 * a1 + m8 * a2)) ∧ Box 38 w' (w.heap.size + 1 + 1) [0, 0, 0] ∧ Below w.heap.size w w') ((go_split_ands; (repeat (any_goals (with_reducible apply And.intro))) <;> ((repeat (first | (with_reducible assumption) | (with_reducible refine Box.far3 ?_ (by omega)) | (with_reducible refine keepS2 ?_ (by omega)) | (with_reducible refine setB2 ?_ (by omega)) | ((with_reducible apply keepA2); (with_reducible assumption); ((try simp only [World.size_alloc, World.size_drew, World.size_setCell]); omega)) | ((with_reducible apply Box.alloc3); (with_reducible assumption); ((try simp only [World.size_alloc, World.size_drew, World.size_setCell]); omega)) | ((with_reducible apply below_alloc3); (with_reducible assumption); ((try simp only [World.size_alloc, World.size_drew, World.size_setCell]); omega); ((try simp only [World.size_alloc, World.size_drew, World.size_setCell]); omega)) | (with_reducible exact Below.refl _ _) | (with_reducible refine keepD ?_) | (with_reducible refine Below.drew ?_) | (with_reducible refine Box.drew ?_) | (with_reducible refine sizeD ?_) | (with_reducible exact keepC (by with_reducible assumption) (by with_reducible assumption)) | (with_reducible exact Box.below (by with_reducible assumption) (by with_reducible assumption)) | (with_reducible exact keepB (by with_reducible assumption) (by with_reducible assumption) (Nat.le_refl _)) | (with_reducible exact sizeC (by with_reducible assumption) (by with_reducible assumption)) | (with_reducible refine keepA _ ?_) | (with_reducible refine Box.alloc ?_ _) | (with_reducible refine allocB ?_ (Nat.le_refl _) _) | (with_reducible refine sizeA ?_ _))); done))) ((go_at_call 108; refine (HMD.out _).mono ?_; rintro e w3 ⟨rfl, hb3⟩; obtain ⟨hc3, hf3⟩ := bcell hb3; have hz3 := hb3.size; (try simp only [World.size_alloc, World.size_setCell, World.size_drew] at hz3); (try (have hy3w0 : w.heap.size < w3.heap.size := by omega)); (try (have hy3w1 : w.heap.size + 1 < w3.heap.size := by omega)); (try (have hy3w2 : w.heap.size + 1 + 1 < w3.heap.size := by omega)); (try (have hy3w3 : w.heap.size + 1 + 1 + 1 < w3.heap.size := by omega)); (try (have hy3w4 : w.heap.size + 1 + 1 + 1 + 1 < w3.heap.size := by omega)); (try (have hy3wc0 : wc.heap.size < w3.heap.size := by omega)); (try (have hy3wc1 : wc.heap.size + 1 < w3.heap.size := by omega)); (try (have hy3wc2 : wc.heap.size + 1 + 1 < w3.heap.size := by omega)); (try (have hy3wc3 : wc.heap.size + 1 + 1 + 1 < w3.heap.size := by omega)); (try (have hy3wc4 : wc.heap.size + 1 + 1 + 1 + 1 < w3.heap.size := by omega)); (try (have hy3w10 : w1.heap.size < w3.heap.size := by omega)); (try (have hy3w11 : w1.heap.size + 1 < w3.heap.size := by omega)); (try (have hy3w12 : w1.heap.size + 1 + 1 < w3.heap.size := by omega)); (try (have hy3w13 : w1.heap.size + 1 + 1 + 1 < w3.heap.size := by omega)); (try (have hy3w14 : w1.heap.size + 1 + 1 + 1 + 1 < w3.heap.size := by omega)); (try (have hy3w20 : w2.heap.size < w3.heap.size := by omega)); (try (have hy3w21 : w2.heap.size + 1 < w3.heap.size := by omega)); (try (have hy3w22 : w2.heap.size + 1 + 1 < w3.heap.size := by omega)); (try (have hy3w23 : w2.heap.size + 1 + 1 + 1 < w3.heap.size := by omega)); (try (have hy3w24 : w2.heap.size + 1 + 1 + 1 + 1 < w3.heap.size := by omega))))
    all_goals (go_wp2_with fail; go_meet; go_split_ands; refine ⟨_, rfl, rfl, ?_, ?_, by with_reducible assumption, by with_reducible assumption⟩)
    all_goals first
      | omega
      | exact Box.new [l0, l1, l2] rfl
      | ((refine Box.fill3 (u0 := 0) (u1 := 0) (u2 := 0) ?_); (repeat (first | (exact Box.new [0, 0, 0] rfl) | (with_reducible refine Box.drew ?_) | (with_reducible refine Box.below hb3 ?_))); done)
  clear z0' z1' z2' BX2 hD2 ltx ltg3
  case' rest =>
    obtain ⟨k, rfl, rfl, hk, BG, BX, hBc⟩ := hcut
    have sg0 := BG.cell 0 rfl; have sg1 := BG.cell 1 rfl; have sg2 := BG.cell 2 rfl; have sr0 := BX.cell 0 rfl; have sr1 := BX.cell 1 rfl; have sr2 := BX.cell 2 rfl; have sf0 := BX.frz 0; have sf1 := BX.frz 1; have sf2 := BX.frz 2
    go_wp2_with fail
    (try simp only [Exit.inBlock, Exit.then]); refine bodyPost_ret (by simp [results, Try.results62, go_sem, *]; try rfl) rfl ?_
    exact ⟨rfl, by (repeat' (first | (with_reducible exact Below.refl _ _) | (with_reducible assumption) | (with_reducible refine Below.alloc ?_ ?_ _) | (with_reducible refine Below.drew ?_) | (with_reducible refine below_drewN ?_ _) | (with_reducible refine Below.setCell ?_ ?_ _) | (refine Below.step ?_ (by with_reducible assumption) ?_) | go_size))⟩
end Go.Proofs.Ytemimkbngfbomaa
