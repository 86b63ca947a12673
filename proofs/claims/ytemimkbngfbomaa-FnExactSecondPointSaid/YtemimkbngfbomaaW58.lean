/- SecondPoint: what the two functions return; no condition. -/
import Derived.Test.YtemimkbngfbomaaW55
import Derived.Test.YtemimkbngfbomaaW57
import Derived.Test.YtemimkbngfbomaaE2
import Derived.Test.YtemimkbngfbomaaP4
import Derived.Deep.RegionWith
import Derived.Deep.RegionHeld3
import Derived.Deep.DeepCutAuto
namespace Go.Proofs.Ytemimkbngfbomaa
open Go.RowKit
set_option linter.unusedSimpArgs false
set_option linter.unusedVariables false
set_option maxRecDepth 100000

def spCode (p : Int) (c d : C6) (a : P3) : Int := pcCode p (allPt p [a]) c d
def spOk (p : Int) (c d : C6) (a : P3) : Bool := plB p c a && (plB p d a && !decide (plL p c a = plL p d a))
def spR (p : Int) (c d : C6) (a : P3) : P3 × Int := if spCode p c d a = 0 then (if spOk p c d a then (crs p (plL p c a) (plL p d a), 0) else (⟨0, 0, 0⟩, 5)) else (⟨0, 0, 0⟩, spCode p c d a)
theorem spCode3 (p : Int) (c d : C6) (a : P3) : spCode p c d a = 2 ∨ spCode p c d a = 1 ∨ spCode p c d a = 5 ∨ (isP p = true ∧ allPt p [a] = true ∧ isCo p c = true ∧ isCo p d = true ∧ spCode p c d a = 0) := by
  unfold spCode pcCode
  rcases coCode3 p (allPt p [a]) [c, d] with hk | hk | ⟨hp, hok, hk⟩
  · rw [hk]; exact .inl rfl
  · rw [hk]; exact .inr (.inl rfl)
  · rw [hk]
    rw [Bool.and_eq_true] at hok
    have h1 := co1 hok.2
    have h2 := co1 h1.2
    by_cases h : c = d
    · rw [if_pos h]; exact .inr (.inr (.inl rfl))
    · rw [if_neg h]; exact .inr (.inr (.inr ⟨hp, hok.1, h1.1, h2.1, rfl⟩))
theorem plL_pt {p : Int} {c : C6} {a : P3} (hp : isP p = true) (h : plB p c a = true) : isPt p (plL p c a) = true := by
  unfold plB at h; unfold plL
  exact npt_pt hp (by simpa using h)
theorem plL_sm {p : Int} (hp : isP p = true) (c : C6) (a : P3) : sm (plL p c a).x ∧ sm (plL p c a).y ∧ sm (plL p c a).z := npt_sm hp _ _ _
theorem crs_made {p : Int} {a b : P3} (ha : isPt p a = true) (hb : isPt p b = true) (h : a ≠ b) : made p (a.y * b.z - a.z * b.y) (a.z * b.x - a.x * b.z) (a.x * b.y - a.y * b.x) = (crs p a b, true) := by
  unfold made crs
  rw [if_neg (fac_crs ha hb h)]
set_option maxHeartbeats 8000000 in
theorem SecondPoint_any (p c0 c1 c2 c3 c4 c5 d0 d1 d2 d3 d4 d5 a0 a1 a2 : Int) (w : World) :
    Calls Try.prog 33 #[.int .i64 p, .agg #[.int .i64 c0, .int .i64 c1, .int .i64 c2, .int .i64 c3, .int .i64 c4, .int .i64 c5], .agg #[.int .i64 d0, .int .i64 d1, .int .i64 d2, .int .i64 d3, .int .i64 d4, .int .i64 d5], .agg #[.int .i64 a0, .int .i64 a1, .int .i64 a2]] w fun e w' => e = .returned (.tuple #[.agg #[.int .i64 ((spR p ⟨c0, c1, c2, c3, c4, c5⟩ ⟨d0, d1, d2, d3, d4, d5⟩ ⟨a0, a1, a2⟩).1).x, .int .i64 ((spR p ⟨c0, c1, c2, c3, c4, c5⟩ ⟨d0, d1, d2, d3, d4, d5⟩ ⟨a0, a1, a2⟩).1).y, .int .i64 ((spR p ⟨c0, c1, c2, c3, c4, c5⟩ ⟨d0, d1, d2, d3, d4, d5⟩ ⟨a0, a1, a2⟩).1).z], .int .i64 (spR p ⟨c0, c1, c2, c3, c4, c5⟩ ⟨d0, d1, d2, d3, d4, d5⟩ ⟨a0, a1, a2⟩).2]) ∧ Below w.heap.size w w' := by
  go_enter Try.func33, Try.ntmps33
  go_upto_region 1 with fail
  refine wp_name (fun w' => Box 24 w' (w.heap.size) [c0, c1, c2, c3, c4, c5] ∧ Box 24 w' (w.heap.size + 1) [d0, d1, d2, d3, d4, d5] ∧ Box 35 w' (w.heap.size + 1 + 1) [a0, a1, a2] ∧ Box 35 w' (w.heap.size + 1 + 1 + 1) [0, 0, 0] ∧ Below w.heap.size w w') ⟨Box.alloc (Box.alloc (Box.alloc (Box.new [c0, c1, c2, c3, c4, c5] (by simp)) _) _) _, Box.alloc (Box.alloc (Box.new [d0, d1, d2, d3, d4, d5] (by simp)) _) _, Box.alloc (Box.new [a0, a1, a2] (by simp)) _, Box.new [0, 0, 0] (by simp), by (repeat' (first | (with_reducible exact Below.refl _ _) | (with_reducible assumption) | (with_reducible refine Below.alloc ?_ ?_ _) | (with_reducible refine Below.drew ?_) | (with_reducible refine below_drewN ?_ _) | (with_reducible refine Below.setCell ?_ ?_ _) | (refine Below.step ?_ (by with_reducible assumption) ?_) | go_size))⟩ ?_
  rintro wq ⟨Bc, Bd, Ba, BR, hB⟩
  have hz := hB.size
  have qc0 := Bc.cell 0 rfl
  have qc1 := Bc.cell 1 rfl
  have qc2 := Bc.cell 2 rfl
  have qc3 := Bc.cell 3 rfl
  have qc4 := Bc.cell 4 rfl
  have qc5 := Bc.cell 5 rfl
  have ltc := Bc.lt
  have qd0 := Bd.cell 0 rfl
  have qd1 := Bd.cell 1 rfl
  have qd2 := Bd.cell 2 rfl
  have qd3 := Bd.cell 3 rfl
  have qd4 := Bd.cell 4 rfl
  have qd5 := Bd.cell 5 rfl
  have ltd := Bd.lt
  have qa0 := Ba.cell 0 rfl
  have qa1 := Ba.cell 1 rfl
  have qa2 := Ba.cell 2 rfl
  have lta := Ba.lt
  have hsz : w.heap.size + 1 + 1 + 1 + 1 ≤ wq.heap.size := BR.lt
  go_cut [10] (fun s10 w' => s10 = .int .i64 (spCode p ⟨c0, c1, c2, c3, c4, c5⟩ ⟨d0, d1, d2, d3, d4, d5⟩ ⟨a0, a1, a2⟩) ∧ Box 24 w' (w.heap.size) [c0, c1, c2, c3, c4, c5] ∧ Box 24 w' (w.heap.size + 1) [d0, d1, d2, d3, d4, d5] ∧ Box 35 w' (w.heap.size + 1 + 1) [a0, a1, a2] ∧ Box 35 w' (w.heap.size + 1 + 1 + 1) [0, 0, 0] ∧ Below w.heap.size w w')
  case first =>
    go_region_held3 (fun w' => w'.cell? ⟨w.heap.size, 0, none⟩ = some (.int .i64 c0) ∧ w'.cell? ⟨w.heap.size, 1, none⟩ = some (.int .i64 c1) ∧ w'.cell? ⟨w.heap.size, 2, none⟩ = some (.int .i64 c2) ∧ w'.cell? ⟨w.heap.size, 3, none⟩ = some (.int .i64 c3) ∧ w'.cell? ⟨w.heap.size, 4, none⟩ = some (.int .i64 c4) ∧ w'.cell? ⟨w.heap.size, 5, none⟩ = some (.int .i64 c5) ∧ w'.cell? ⟨w.heap.size + 1, 0, none⟩ = some (.int .i64 d0) ∧ w'.cell? ⟨w.heap.size + 1, 1, none⟩ = some (.int .i64 d1) ∧ w'.cell? ⟨w.heap.size + 1, 2, none⟩ = some (.int .i64 d2) ∧ w'.cell? ⟨w.heap.size + 1, 3, none⟩ = some (.int .i64 d3) ∧ w'.cell? ⟨w.heap.size + 1, 4, none⟩ = some (.int .i64 d4) ∧ w'.cell? ⟨w.heap.size + 1, 5, none⟩ = some (.int .i64 d5) ∧ w'.cell? ⟨w.heap.size + 1 + 1, 0, none⟩ = some (.int .i64 a0) ∧ w'.cell? ⟨w.heap.size + 1 + 1, 1, none⟩ = some (.int .i64 a1) ∧ w'.cell? ⟨w.heap.size + 1 + 1, 2, none⟩ = some (.int .i64 a2) ∧ Box 24 w' (w.heap.size) [c0, c1, c2, c3, c4, c5] ∧ Box 24 w' (w.heap.size + 1) [d0, d1, d2, d3, d4, d5] ∧ Box 35 w' (w.heap.size + 1 + 1) [a0, a1, a2] ∧ Box 35 w' (w.heap.size + 1 + 1 + 1) [0, 0, 0] ∧ Below w.heap.size w w' ∧ w.heap.size + 1 + 1 + 1 + 1 ≤ w'.heap.size) ((go_split_ands; (repeat (any_goals (with_reducible apply And.intro))) <;> ((repeat (first | (with_reducible assumption) | (with_reducible exact Below.refl _ _) | (with_reducible refine keepD ?_) | (with_reducible refine Below.drew ?_) | (with_reducible refine Box.drew ?_) | (with_reducible refine sizeD ?_) | (with_reducible exact keepC (by with_reducible assumption) (by with_reducible assumption)) | (with_reducible exact Box.below (by with_reducible assumption) (by with_reducible assumption)) | (with_reducible exact keepB (by with_reducible assumption) (by with_reducible assumption) (Nat.le_refl _)) | (with_reducible exact sizeC (by with_reducible assumption) (by with_reducible assumption)) | (with_reducible refine keepA _ ?_) | (with_reducible refine Box.alloc ?_ _) | (with_reducible refine allocB ?_ (Nat.le_refl _) _) | (with_reducible refine sizeA ?_ _))); done))) ((first | (go_at_call 59; refine (arePoints_any p _ 0 _ [⟨a0, a1, a2⟩] _ (rdp1 (by go_cell) (by go_cell) (by go_cell)) (by go_size) (by simp)).mono ?_; rintro e w1 ⟨rfl, hb1⟩; obtain ⟨hc1, hf1⟩ := bcell hb1; have hz1 := hb1.size; (try simp only [World.size_alloc, World.size_setCell, World.size_drew] at hz1); (try (have hy1w0 : w.heap.size < w1.heap.size := by omega)); (try (have hy1w1 : w.heap.size + 1 < w1.heap.size := by omega)); (try (have hy1w2 : w.heap.size + 1 + 1 < w1.heap.size := by omega)); (try (have hy1w3 : w.heap.size + 1 + 1 + 1 < w1.heap.size := by omega)); (try (have hy1w4 : w.heap.size + 1 + 1 + 1 + 1 < w1.heap.size := by omega)); (try (have hy1wc0 : wc.heap.size < w1.heap.size := by omega)); (try (have hy1wc1 : wc.heap.size + 1 < w1.heap.size := by omega)); (try (have hy1wc2 : wc.heap.size + 1 + 1 < w1.heap.size := by omega)); (try (have hy1wc3 : wc.heap.size + 1 + 1 + 1 < w1.heap.size := by omega)); (try (have hy1wc4 : wc.heap.size + 1 + 1 + 1 + 1 < w1.heap.size := by omega))) | (go_at_call 71; refine (pencilCode_any p c0 c1 c2 c3 c4 c5 d0 d1 d2 d3 d4 d5 _ _).mono ?_; rintro e w2 ⟨rfl, hb2⟩; obtain ⟨hc2, hf2⟩ := bcell hb2; have hz2 := hb2.size; (try simp only [World.size_alloc, World.size_setCell, World.size_drew] at hz2); (try (have hy2w0 : w.heap.size < w2.heap.size := by omega)); (try (have hy2w1 : w.heap.size + 1 < w2.heap.size := by omega)); (try (have hy2w2 : w.heap.size + 1 + 1 < w2.heap.size := by omega)); (try (have hy2w3 : w.heap.size + 1 + 1 + 1 < w2.heap.size := by omega)); (try (have hy2w4 : w.heap.size + 1 + 1 + 1 + 1 < w2.heap.size := by omega)); (try (have hy2wc0 : wc.heap.size < w2.heap.size := by omega)); (try (have hy2wc1 : wc.heap.size + 1 < w2.heap.size := by omega)); (try (have hy2wc2 : wc.heap.size + 1 + 1 < w2.heap.size := by omega)); (try (have hy2wc3 : wc.heap.size + 1 + 1 + 1 < w2.heap.size := by omega)); (try (have hy2wc4 : wc.heap.size + 1 + 1 + 1 + 1 < w2.heap.size := by omega)); (try (have hy2w10 : w1.heap.size < w2.heap.size := by omega)); (try (have hy2w11 : w1.heap.size + 1 < w2.heap.size := by omega)); (try (have hy2w12 : w1.heap.size + 1 + 1 < w2.heap.size := by omega)); (try (have hy2w13 : w1.heap.size + 1 + 1 + 1 < w2.heap.size := by omega)); (try (have hy2w14 : w1.heap.size + 1 + 1 + 1 + 1 < w2.heap.size := by omega)))))
    all_goals (go_wp2_with fail; go_meet; refine And.intro rfl ?_; ((go_split_ands; (repeat (any_goals (with_reducible apply And.intro))) <;> ((repeat (first | (with_reducible assumption) | (with_reducible exact Below.refl _ _) | (with_reducible refine keepD ?_) | (with_reducible refine Below.drew ?_) | (with_reducible refine Box.drew ?_) | (with_reducible refine sizeD ?_) | (with_reducible exact keepC (by with_reducible assumption) (by with_reducible assumption)) | (with_reducible exact Box.below (by with_reducible assumption) (by with_reducible assumption)) | (with_reducible exact keepB (by with_reducible assumption) (by with_reducible assumption) (Nat.le_refl _)) | (with_reducible exact sizeC (by with_reducible assumption) (by with_reducible assumption)) | (with_reducible refine keepA _ ?_) | (with_reducible refine Box.alloc ?_ _) | (with_reducible refine allocB ?_ (Nat.le_refl _) _) | (with_reducible refine sizeA ?_ _))); done))))
  clear hB hz Bc ltc qc0 qc1 qc2 qc3 qc4 qc5 Bd ltd qd0 qd1 qd2 qd3 qd4 qd5 Ba lta qa0 qa1 qa2 hsz BR
  case' rest => obtain ⟨rfl, Bc, Bd, Ba, BR, hB⟩ := hcut; have hz := hB.size
  have sr0 := BR.cell 0 rfl; have sf0 := BR.frz 0
  have sr1 := BR.cell 1 rfl; have sf1 := BR.frz 1
  have sr2 := BR.cell 2 rfl; have sf2 := BR.frz 2
  have qc0 := Bc.cell 0 rfl
  have qc1 := Bc.cell 1 rfl
  have qc2 := Bc.cell 2 rfl
  have qc3 := Bc.cell 3 rfl
  have qc4 := Bc.cell 4 rfl
  have qc5 := Bc.cell 5 rfl
  have ltc := Bc.lt
  have qd0 := Bd.cell 0 rfl
  have qd1 := Bd.cell 1 rfl
  have qd2 := Bd.cell 2 rfl
  have qd3 := Bd.cell 3 rfl
  have qd4 := Bd.cell 4 rfl
  have qd5 := Bd.cell 5 rfl
  have ltd := Bd.lt
  have qa0 := Ba.cell 0 rfl
  have qa1 := Ba.cell 1 rfl
  have qa2 := Ba.cell 2 rfl
  have lta := Ba.lt
  rcases spCode3 p ⟨c0, c1, c2, c3, c4, c5⟩ ⟨d0, d1, d2, d3, d4, d5⟩ ⟨a0, a1, a2⟩ with hk | hk | hk | ⟨hp, hpts, hc, hd, hk⟩
  · have hE : Hid (spR p ⟨c0, c1, c2, c3, c4, c5⟩ ⟨d0, d1, d2, d3, d4, d5⟩ ⟨a0, a1, a2⟩ = (⟨0, 0, 0⟩, 2)) := by show _ = _; unfold spR; rw [hk]; rfl
    rw [hk]
    go_wp2_with fail
    (try simp only [Exit.inBlock, Exit.then]); refine bodyPost_ret (by simp [results, Try.results33, go_sem, *]; try rfl) rfl ?_
    exact ⟨by rw [hE.out]; try rfl, by (repeat' (first | (with_reducible exact Below.refl _ _) | (with_reducible assumption) | (with_reducible refine Below.alloc ?_ ?_ _) | (with_reducible refine Below.drew ?_) | (with_reducible refine below_drewN ?_ _) | (with_reducible refine Below.setCell ?_ ?_ _) | (refine Below.step ?_ (by with_reducible assumption) ?_) | go_size))⟩
  · have hE : Hid (spR p ⟨c0, c1, c2, c3, c4, c5⟩ ⟨d0, d1, d2, d3, d4, d5⟩ ⟨a0, a1, a2⟩ = (⟨0, 0, 0⟩, 1)) := by show _ = _; unfold spR; rw [hk]; rfl
    rw [hk]
    go_wp2_with fail
    (try simp only [Exit.inBlock, Exit.then]); refine bodyPost_ret (by simp [results, Try.results33, go_sem, *]; try rfl) rfl ?_
    exact ⟨by rw [hE.out]; try rfl, by (repeat' (first | (with_reducible exact Below.refl _ _) | (with_reducible assumption) | (with_reducible refine Below.alloc ?_ ?_ _) | (with_reducible refine Below.drew ?_) | (with_reducible refine below_drewN ?_ _) | (with_reducible refine Below.setCell ?_ ?_ _) | (refine Below.step ?_ (by with_reducible assumption) ?_) | go_size))⟩
  · have hE : Hid (spR p ⟨c0, c1, c2, c3, c4, c5⟩ ⟨d0, d1, d2, d3, d4, d5⟩ ⟨a0, a1, a2⟩ = (⟨0, 0, 0⟩, 5)) := by show _ = _; unfold spR; rw [hk]; rfl
    rw [hk]
    go_wp2_with fail
    (try simp only [Exit.inBlock, Exit.then]); refine bodyPost_ret (by simp [results, Try.results33, go_sem, *]; try rfl) rfl ?_
    exact ⟨by rw [hE.out]; try rfl, by (repeat' (first | (with_reducible exact Below.refl _ _) | (with_reducible assumption) | (with_reducible refine Below.alloc ?_ ?_ _) | (with_reducible refine Below.drew ?_) | (with_reducible refine below_drewN ?_ _) | (with_reducible refine Below.setCell ?_ ?_ _) | (refine Below.step ?_ (by with_reducible assumption) ?_) | go_size))⟩
  · obtain ⟨sa0, sa1, sa2⟩ := pts1 hpts
    have hpl := fun w' => polar_any p c0 c1 c2 c3 c4 c5 a0 a1 a2 w' hp hc sa0 sa1 sa2
    have hpm := fun w' => polar_any p d0 d1 d2 d3 d4 d5 a0 a1 a2 w' hp hd sa0 sa1 sa2
    have k2 := isP_hi hp
    have HC0 := Lib.hid hk
    rw [hk]
    have hR0 : spR p ⟨c0, c1, c2, c3, c4, c5⟩ ⟨d0, d1, d2, d3, d4, d5⟩ ⟨a0, a1, a2⟩ = if spOk p ⟨c0, c1, c2, c3, c4, c5⟩ ⟨d0, d1, d2, d3, d4, d5⟩ ⟨a0, a1, a2⟩ then (crs p (plL p ⟨c0, c1, c2, c3, c4, c5⟩ ⟨a0, a1, a2⟩) (plL p ⟨d0, d1, d2, d3, d4, d5⟩ ⟨a0, a1, a2⟩), 0) else (⟨0, 0, 0⟩, 5) := by unfold spR; rw [hk]; rfl
    unfold spOk at hR0
    have hsl := plL_sm hp ⟨c0, c1, c2, c3, c4, c5⟩ ⟨a0, a1, a2⟩
    have hsm := plL_sm hp ⟨d0, d1, d2, d3, d4, d5⟩ ⟨a0, a1, a2⟩
    have hql := fun hb : plB p ⟨c0, c1, c2, c3, c4, c5⟩ ⟨a0, a1, a2⟩ = true => plL_pt hp hb
    have hqm := fun hb : plB p ⟨d0, d1, d2, d3, d4, d5⟩ ⟨a0, a1, a2⟩ = true => plL_pt hp hb
    clear hk hpts hc hd sa0 sa1 sa2
    cases hb1 : plB p ⟨c0, c1, c2, c3, c4, c5⟩ ⟨a0, a1, a2⟩
    · have hE0 : spR p ⟨c0, c1, c2, c3, c4, c5⟩ ⟨d0, d1, d2, d3, d4, d5⟩ ⟨a0, a1, a2⟩ = (⟨0, 0, 0⟩, 5) := by rw [hR0]; simp [hb1]
      rw [hb1] at hpl
      obtain ⟨bb, hbb⟩ : ∃ x, plB p ⟨d0, d1, d2, d3, d4, d5⟩ ⟨a0, a1, a2⟩ = x := ⟨_, rfl⟩
      rw [hbb] at hpm
      obtain ⟨l0, l1, l2, hl⟩ : ∃ l0 l1 l2, plL p ⟨c0, c1, c2, c3, c4, c5⟩ ⟨a0, a1, a2⟩ = ⟨l0, l1, l2⟩ := ⟨_, _, _, rfl⟩
      rw [hl] at hpl hsl
      dsimp only at hpl hsl
      obtain ⟨m0, m1, m2, hm⟩ : ∃ m0 m1 m2, plL p ⟨d0, d1, d2, d3, d4, d5⟩ ⟨a0, a1, a2⟩ = ⟨m0, m1, m2⟩ := ⟨_, _, _, rfl⟩
      rw [hm] at hpm hsm
      dsimp only at hpm hsm
      have hE := Lib.hid hE0
      have HPL := Lib.hid hpl; have HPM := Lib.hid hpm
      clear hpl hpm hE0 hR0 hql hqm hp k2 hsl hsm hb1 hl hm
      go_upto_region 6 with (first | (go_at_call_of 63 (Value.agg #[.int .i64 c0, .int .i64 c1, .int .i64 c2, .int .i64 c3, .int .i64 c4, .int .i64 c5]); refine (HPL.out _).mono ?_; rintro e w3 ⟨rfl, hb3⟩; obtain ⟨hc3, hf3⟩ := bcell hb3; have hz3 := hb3.size; (try simp only [World.size_alloc, World.size_setCell, World.size_drew] at hz3); (try (have hy3w0 : w.heap.size < w3.heap.size := by omega)); (try (have hy3w1 : w.heap.size + 1 < w3.heap.size := by omega)); (try (have hy3w2 : w.heap.size + 1 + 1 < w3.heap.size := by omega)); (try (have hy3w3 : w.heap.size + 1 + 1 + 1 < w3.heap.size := by omega)); (try (have hy3w4 : w.heap.size + 1 + 1 + 1 + 1 < w3.heap.size := by omega)); (try (have hy3wc0 : wc.heap.size < w3.heap.size := by omega)); (try (have hy3wc1 : wc.heap.size + 1 < w3.heap.size := by omega)); (try (have hy3wc2 : wc.heap.size + 1 + 1 < w3.heap.size := by omega)); (try (have hy3wc3 : wc.heap.size + 1 + 1 + 1 < w3.heap.size := by omega)); (try (have hy3wc4 : wc.heap.size + 1 + 1 + 1 + 1 < w3.heap.size := by omega)); (try (have hy3w10 : w1.heap.size < w3.heap.size := by omega)); (try (have hy3w11 : w1.heap.size + 1 < w3.heap.size := by omega)); (try (have hy3w12 : w1.heap.size + 1 + 1 < w3.heap.size := by omega)); (try (have hy3w13 : w1.heap.size + 1 + 1 + 1 < w3.heap.size := by omega)); (try (have hy3w14 : w1.heap.size + 1 + 1 + 1 + 1 < w3.heap.size := by omega)); (try (have hy3w20 : w2.heap.size < w3.heap.size := by omega)); (try (have hy3w21 : w2.heap.size + 1 < w3.heap.size := by omega)); (try (have hy3w22 : w2.heap.size + 1 + 1 < w3.heap.size := by omega)); (try (have hy3w23 : w2.heap.size + 1 + 1 + 1 < w3.heap.size := by omega)); (try (have hy3w24 : w2.heap.size + 1 + 1 + 1 + 1 < w3.heap.size := by omega))) | (go_at_call_of 63 (Value.agg #[.int .i64 d0, .int .i64 d1, .int .i64 d2, .int .i64 d3, .int .i64 d4, .int .i64 d5]); refine (HPM.out _).mono ?_; rintro e w4 ⟨rfl, hb4⟩; obtain ⟨hc4, hf4⟩ := bcell hb4; have hz4 := hb4.size; (try simp only [World.size_alloc, World.size_setCell, World.size_drew] at hz4); (try (have hy4w0 : w.heap.size < w4.heap.size := by omega)); (try (have hy4w1 : w.heap.size + 1 < w4.heap.size := by omega)); (try (have hy4w2 : w.heap.size + 1 + 1 < w4.heap.size := by omega)); (try (have hy4w3 : w.heap.size + 1 + 1 + 1 < w4.heap.size := by omega)); (try (have hy4w4 : w.heap.size + 1 + 1 + 1 + 1 < w4.heap.size := by omega)); (try (have hy4wc0 : wc.heap.size < w4.heap.size := by omega)); (try (have hy4wc1 : wc.heap.size + 1 < w4.heap.size := by omega)); (try (have hy4wc2 : wc.heap.size + 1 + 1 < w4.heap.size := by omega)); (try (have hy4wc3 : wc.heap.size + 1 + 1 + 1 < w4.heap.size := by omega)); (try (have hy4wc4 : wc.heap.size + 1 + 1 + 1 + 1 < w4.heap.size := by omega)); (try (have hy4w10 : w1.heap.size < w4.heap.size := by omega)); (try (have hy4w11 : w1.heap.size + 1 < w4.heap.size := by omega)); (try (have hy4w12 : w1.heap.size + 1 + 1 < w4.heap.size := by omega)); (try (have hy4w13 : w1.heap.size + 1 + 1 + 1 < w4.heap.size := by omega)); (try (have hy4w14 : w1.heap.size + 1 + 1 + 1 + 1 < w4.heap.size := by omega)); (try (have hy4w20 : w2.heap.size < w4.heap.size := by omega)); (try (have hy4w21 : w2.heap.size + 1 < w4.heap.size := by omega)); (try (have hy4w22 : w2.heap.size + 1 + 1 < w4.heap.size := by omega)); (try (have hy4w23 : w2.heap.size + 1 + 1 + 1 < w4.heap.size := by omega)); (try (have hy4w24 : w2.heap.size + 1 + 1 + 1 + 1 < w4.heap.size := by omega)); (try (have hy4w30 : w3.heap.size < w4.heap.size := by omega)); (try (have hy4w31 : w3.heap.size + 1 < w4.heap.size := by omega)); (try (have hy4w32 : w3.heap.size + 1 + 1 < w4.heap.size := by omega)); (try (have hy4w33 : w3.heap.size + 1 + 1 + 1 < w4.heap.size := by omega)); (try (have hy4w34 : w3.heap.size + 1 + 1 + 1 + 1 < w4.heap.size := by omega))))
      have ltr := BR.lt
      refine wp_name (fun w' => Box 38 w' w3.heap.size [l0, l1, l2] ∧ Box 38 w' w4.heap.size [m0, m1, m2] ∧ Box 35 w' (w.heap.size + 1 + 1 + 1) [0, 0, 0] ∧ Below w.heap.size w w') ⟨Box.alloc (Box.below hb4 (Box.new [l0, l1, l2] rfl)) _, Box.new [m0, m1, m2] rfl, Box.alloc (Box.below hb4 (Box.alloc (Box.below hb3 BR) _)) _, by (repeat' (first | (with_reducible exact Below.refl _ _) | (with_reducible assumption) | (with_reducible refine Below.alloc ?_ ?_ _) | (with_reducible refine Below.drew ?_) | (with_reducible refine below_drewN ?_ _) | (with_reducible refine Below.setCell ?_ ?_ _) | (refine Below.step ?_ (by with_reducible assumption) ?_) | go_size))⟩ ?_
      rintro wd ⟨BG, BH, BX, hBd⟩
      have hzd := hBd.size
      have hw3 : w.heap.size + 1 + 1 + 1 + 1 ≤ w3.heap.size := by omega
      have hw4 : w3.heap.size + 1 ≤ w4.heap.size := by omega
      clear BR hB ltr hb3 hb4 hc3 hc4 hf3 hf4
      have sg0 := BG.cell 0 rfl; have sh0 := BH.cell 0 rfl; have sr0 := BX.cell 0 rfl; have sf0 := BX.frz 0
      have sg1 := BG.cell 1 rfl; have sh1 := BH.cell 1 rfl; have sr1 := BX.cell 1 rfl; have sf1 := BX.frz 1
      have sg2 := BG.cell 2 rfl; have sh2 := BH.cell 2 rfl; have sr2 := BX.cell 2 rfl; have sf2 := BX.frz 2
      go_wp2_with fail
      (try simp only [Exit.inBlock, Exit.then]); refine bodyPost_ret (by simp [results, Try.results33, go_sem, *]; try rfl) rfl ?_
      exact ⟨by rw [hE.out]; try rfl, by (repeat' (first | (with_reducible exact Below.refl _ _) | (with_reducible assumption) | (with_reducible refine Below.alloc ?_ ?_ _) | (with_reducible refine Below.drew ?_) | (with_reducible refine below_drewN ?_ _) | (with_reducible refine Below.setCell ?_ ?_ _) | (refine Below.step ?_ (by with_reducible assumption) ?_) | go_size))⟩
    · cases hb2 : plB p ⟨d0, d1, d2, d3, d4, d5⟩ ⟨a0, a1, a2⟩
      · have hE0 : spR p ⟨c0, c1, c2, c3, c4, c5⟩ ⟨d0, d1, d2, d3, d4, d5⟩ ⟨a0, a1, a2⟩ = (⟨0, 0, 0⟩, 5) := by rw [hR0]; simp [hb1, hb2]
        rw [hb1] at hpl
        rw [hb2] at hpm
        obtain ⟨l0, l1, l2, hl⟩ : ∃ l0 l1 l2, plL p ⟨c0, c1, c2, c3, c4, c5⟩ ⟨a0, a1, a2⟩ = ⟨l0, l1, l2⟩ := ⟨_, _, _, rfl⟩
        rw [hl] at hpl hsl
        dsimp only at hpl hsl
        obtain ⟨m0, m1, m2, hm⟩ : ∃ m0 m1 m2, plL p ⟨d0, d1, d2, d3, d4, d5⟩ ⟨a0, a1, a2⟩ = ⟨m0, m1, m2⟩ := ⟨_, _, _, rfl⟩
        rw [hm] at hpm hsm
        dsimp only at hpm hsm
        have hE := Lib.hid hE0
        have HPL := Lib.hid hpl; have HPM := Lib.hid hpm
        clear hpl hpm hE0 hR0 hql hqm hp k2 hsl hsm hb1 hb2 hl hm
        go_upto_region 6 with (first | (go_at_call_of 63 (Value.agg #[.int .i64 c0, .int .i64 c1, .int .i64 c2, .int .i64 c3, .int .i64 c4, .int .i64 c5]); refine (HPL.out _).mono ?_; rintro e w3 ⟨rfl, hb3⟩; obtain ⟨hc3, hf3⟩ := bcell hb3; have hz3 := hb3.size; (try simp only [World.size_alloc, World.size_setCell, World.size_drew] at hz3); (try (have hy3w0 : w.heap.size < w3.heap.size := by omega)); (try (have hy3w1 : w.heap.size + 1 < w3.heap.size := by omega)); (try (have hy3w2 : w.heap.size + 1 + 1 < w3.heap.size := by omega)); (try (have hy3w3 : w.heap.size + 1 + 1 + 1 < w3.heap.size := by omega)); (try (have hy3w4 : w.heap.size + 1 + 1 + 1 + 1 < w3.heap.size := by omega)); (try (have hy3wc0 : wc.heap.size < w3.heap.size := by omega)); (try (have hy3wc1 : wc.heap.size + 1 < w3.heap.size := by omega)); (try (have hy3wc2 : wc.heap.size + 1 + 1 < w3.heap.size := by omega)); (try (have hy3wc3 : wc.heap.size + 1 + 1 + 1 < w3.heap.size := by omega)); (try (have hy3wc4 : wc.heap.size + 1 + 1 + 1 + 1 < w3.heap.size := by omega)); (try (have hy3w10 : w1.heap.size < w3.heap.size := by omega)); (try (have hy3w11 : w1.heap.size + 1 < w3.heap.size := by omega)); (try (have hy3w12 : w1.heap.size + 1 + 1 < w3.heap.size := by omega)); (try (have hy3w13 : w1.heap.size + 1 + 1 + 1 < w3.heap.size := by omega)); (try (have hy3w14 : w1.heap.size + 1 + 1 + 1 + 1 < w3.heap.size := by omega)); (try (have hy3w20 : w2.heap.size < w3.heap.size := by omega)); (try (have hy3w21 : w2.heap.size + 1 < w3.heap.size := by omega)); (try (have hy3w22 : w2.heap.size + 1 + 1 < w3.heap.size := by omega)); (try (have hy3w23 : w2.heap.size + 1 + 1 + 1 < w3.heap.size := by omega)); (try (have hy3w24 : w2.heap.size + 1 + 1 + 1 + 1 < w3.heap.size := by omega))) | (go_at_call_of 63 (Value.agg #[.int .i64 d0, .int .i64 d1, .int .i64 d2, .int .i64 d3, .int .i64 d4, .int .i64 d5]); refine (HPM.out _).mono ?_; rintro e w4 ⟨rfl, hb4⟩; obtain ⟨hc4, hf4⟩ := bcell hb4; have hz4 := hb4.size; (try simp only [World.size_alloc, World.size_setCell, World.size_drew] at hz4); (try (have hy4w0 : w.heap.size < w4.heap.size := by omega)); (try (have hy4w1 : w.heap.size + 1 < w4.heap.size := by omega)); (try (have hy4w2 : w.heap.size + 1 + 1 < w4.heap.size := by omega)); (try (have hy4w3 : w.heap.size + 1 + 1 + 1 < w4.heap.size := by omega)); (try (have hy4w4 : w.heap.size + 1 + 1 + 1 + 1 < w4.heap.size := by omega)); (try (have hy4wc0 : wc.heap.size < w4.heap.size := by omega)); (try (have hy4wc1 : wc.heap.size + 1 < w4.heap.size := by omega)); (try (have hy4wc2 : wc.heap.size + 1 + 1 < w4.heap.size := by omega)); (try (have hy4wc3 : wc.heap.size + 1 + 1 + 1 < w4.heap.size := by omega)); (try (have hy4wc4 : wc.heap.size + 1 + 1 + 1 + 1 < w4.heap.size := by omega)); (try (have hy4w10 : w1.heap.size < w4.heap.size := by omega)); (try (have hy4w11 : w1.heap.size + 1 < w4.heap.size := by omega)); (try (have hy4w12 : w1.heap.size + 1 + 1 < w4.heap.size := by omega)); (try (have hy4w13 : w1.heap.size + 1 + 1 + 1 < w4.heap.size := by omega)); (try (have hy4w14 : w1.heap.size + 1 + 1 + 1 + 1 < w4.heap.size := by omega)); (try (have hy4w20 : w2.heap.size < w4.heap.size := by omega)); (try (have hy4w21 : w2.heap.size + 1 < w4.heap.size := by omega)); (try (have hy4w22 : w2.heap.size + 1 + 1 < w4.heap.size := by omega)); (try (have hy4w23 : w2.heap.size + 1 + 1 + 1 < w4.heap.size := by omega)); (try (have hy4w24 : w2.heap.size + 1 + 1 + 1 + 1 < w4.heap.size := by omega)); (try (have hy4w30 : w3.heap.size < w4.heap.size := by omega)); (try (have hy4w31 : w3.heap.size + 1 < w4.heap.size := by omega)); (try (have hy4w32 : w3.heap.size + 1 + 1 < w4.heap.size := by omega)); (try (have hy4w33 : w3.heap.size + 1 + 1 + 1 < w4.heap.size := by omega)); (try (have hy4w34 : w3.heap.size + 1 + 1 + 1 + 1 < w4.heap.size := by omega))))
        have ltr := BR.lt
        refine wp_name (fun w' => Box 38 w' w3.heap.size [l0, l1, l2] ∧ Box 38 w' w4.heap.size [m0, m1, m2] ∧ Box 35 w' (w.heap.size + 1 + 1 + 1) [0, 0, 0] ∧ Below w.heap.size w w') ⟨Box.alloc (Box.below hb4 (Box.new [l0, l1, l2] rfl)) _, Box.new [m0, m1, m2] rfl, Box.alloc (Box.below hb4 (Box.alloc (Box.below hb3 BR) _)) _, by (repeat' (first | (with_reducible exact Below.refl _ _) | (with_reducible assumption) | (with_reducible refine Below.alloc ?_ ?_ _) | (with_reducible refine Below.drew ?_) | (with_reducible refine below_drewN ?_ _) | (with_reducible refine Below.setCell ?_ ?_ _) | (refine Below.step ?_ (by with_reducible assumption) ?_) | go_size))⟩ ?_
        rintro wd ⟨BG, BH, BX, hBd⟩
        have hzd := hBd.size
        have hw3 : w.heap.size + 1 + 1 + 1 + 1 ≤ w3.heap.size := by omega
        have hw4 : w3.heap.size + 1 ≤ w4.heap.size := by omega
        clear BR hB ltr hb3 hb4 hc3 hc4 hf3 hf4
        have sg0 := BG.cell 0 rfl; have sh0 := BH.cell 0 rfl; have sr0 := BX.cell 0 rfl; have sf0 := BX.frz 0
        have sg1 := BG.cell 1 rfl; have sh1 := BH.cell 1 rfl; have sr1 := BX.cell 1 rfl; have sf1 := BX.frz 1
        have sg2 := BG.cell 2 rfl; have sh2 := BH.cell 2 rfl; have sr2 := BX.cell 2 rfl; have sf2 := BX.frz 2
        go_wp2_with fail
        (try simp only [Exit.inBlock, Exit.then]); refine bodyPost_ret (by simp [results, Try.results33, go_sem, *]; try rfl) rfl ?_
        exact ⟨by rw [hE.out]; try rfl, by (repeat' (first | (with_reducible exact Below.refl _ _) | (with_reducible assumption) | (with_reducible refine Below.alloc ?_ ?_ _) | (with_reducible refine Below.drew ?_) | (with_reducible refine below_drewN ?_ _) | (with_reducible refine Below.setCell ?_ ?_ _) | (refine Below.step ?_ (by with_reducible assumption) ?_) | go_size))⟩
      · by_cases heq : plL p ⟨c0, c1, c2, c3, c4, c5⟩ ⟨a0, a1, a2⟩ = plL p ⟨d0, d1, d2, d3, d4, d5⟩ ⟨a0, a1, a2⟩
        · have hE0 : spR p ⟨c0, c1, c2, c3, c4, c5⟩ ⟨d0, d1, d2, d3, d4, d5⟩ ⟨a0, a1, a2⟩ = (⟨0, 0, 0⟩, 5) := by rw [hR0]; simp [hb1, hb2, heq]
          rw [hb1] at hpl
          rw [hb2] at hpm
          obtain ⟨l0, l1, l2, hl⟩ : ∃ l0 l1 l2, plL p ⟨c0, c1, c2, c3, c4, c5⟩ ⟨a0, a1, a2⟩ = ⟨l0, l1, l2⟩ := ⟨_, _, _, rfl⟩
          rw [hl] at hpl hsl heq
          dsimp only at hpl hsl
          obtain ⟨m0, m1, m2, hm⟩ : ∃ m0 m1 m2, plL p ⟨d0, d1, d2, d3, d4, d5⟩ ⟨a0, a1, a2⟩ = ⟨m0, m1, m2⟩ := ⟨_, _, _, rfl⟩
          rw [hm] at hpm hsm heq
          dsimp only at hpm hsm
          have hq := fun w' => (eqP3 (t := 38) Try.underlying38 ⟨l0, l1, l2⟩ ⟨m0, m1, m2⟩ w').1
          simp only [heq, decide_true] at hq
          have hE := Lib.hid hE0
          have HPL := Lib.hid hpl; have HPM := Lib.hid hpm
          clear hpl hpm hE0 hR0 hql hqm hp k2 hsl hsm hb1 hb2 hl hm heq
          go_upto_region 6 with (first | (go_at_call_of 63 (Value.agg #[.int .i64 c0, .int .i64 c1, .int .i64 c2, .int .i64 c3, .int .i64 c4, .int .i64 c5]); refine (HPL.out _).mono ?_; rintro e w3 ⟨rfl, hb3⟩; obtain ⟨hc3, hf3⟩ := bcell hb3; have hz3 := hb3.size; (try simp only [World.size_alloc, World.size_setCell, World.size_drew] at hz3); (try (have hy3w0 : w.heap.size < w3.heap.size := by omega)); (try (have hy3w1 : w.heap.size + 1 < w3.heap.size := by omega)); (try (have hy3w2 : w.heap.size + 1 + 1 < w3.heap.size := by omega)); (try (have hy3w3 : w.heap.size + 1 + 1 + 1 < w3.heap.size := by omega)); (try (have hy3w4 : w.heap.size + 1 + 1 + 1 + 1 < w3.heap.size := by omega)); (try (have hy3wc0 : wc.heap.size < w3.heap.size := by omega)); (try (have hy3wc1 : wc.heap.size + 1 < w3.heap.size := by omega)); (try (have hy3wc2 : wc.heap.size + 1 + 1 < w3.heap.size := by omega)); (try (have hy3wc3 : wc.heap.size + 1 + 1 + 1 < w3.heap.size := by omega)); (try (have hy3wc4 : wc.heap.size + 1 + 1 + 1 + 1 < w3.heap.size := by omega)); (try (have hy3w10 : w1.heap.size < w3.heap.size := by omega)); (try (have hy3w11 : w1.heap.size + 1 < w3.heap.size := by omega)); (try (have hy3w12 : w1.heap.size + 1 + 1 < w3.heap.size := by omega)); (try (have hy3w13 : w1.heap.size + 1 + 1 + 1 < w3.heap.size := by omega)); (try (have hy3w14 : w1.heap.size + 1 + 1 + 1 + 1 < w3.heap.size := by omega)); (try (have hy3w20 : w2.heap.size < w3.heap.size := by omega)); (try (have hy3w21 : w2.heap.size + 1 < w3.heap.size := by omega)); (try (have hy3w22 : w2.heap.size + 1 + 1 < w3.heap.size := by omega)); (try (have hy3w23 : w2.heap.size + 1 + 1 + 1 < w3.heap.size := by omega)); (try (have hy3w24 : w2.heap.size + 1 + 1 + 1 + 1 < w3.heap.size := by omega))) | (go_at_call_of 63 (Value.agg #[.int .i64 d0, .int .i64 d1, .int .i64 d2, .int .i64 d3, .int .i64 d4, .int .i64 d5]); refine (HPM.out _).mono ?_; rintro e w4 ⟨rfl, hb4⟩; obtain ⟨hc4, hf4⟩ := bcell hb4; have hz4 := hb4.size; (try simp only [World.size_alloc, World.size_setCell, World.size_drew] at hz4); (try (have hy4w0 : w.heap.size < w4.heap.size := by omega)); (try (have hy4w1 : w.heap.size + 1 < w4.heap.size := by omega)); (try (have hy4w2 : w.heap.size + 1 + 1 < w4.heap.size := by omega)); (try (have hy4w3 : w.heap.size + 1 + 1 + 1 < w4.heap.size := by omega)); (try (have hy4w4 : w.heap.size + 1 + 1 + 1 + 1 < w4.heap.size := by omega)); (try (have hy4wc0 : wc.heap.size < w4.heap.size := by omega)); (try (have hy4wc1 : wc.heap.size + 1 < w4.heap.size := by omega)); (try (have hy4wc2 : wc.heap.size + 1 + 1 < w4.heap.size := by omega)); (try (have hy4wc3 : wc.heap.size + 1 + 1 + 1 < w4.heap.size := by omega)); (try (have hy4wc4 : wc.heap.size + 1 + 1 + 1 + 1 < w4.heap.size := by omega)); (try (have hy4w10 : w1.heap.size < w4.heap.size := by omega)); (try (have hy4w11 : w1.heap.size + 1 < w4.heap.size := by omega)); (try (have hy4w12 : w1.heap.size + 1 + 1 < w4.heap.size := by omega)); (try (have hy4w13 : w1.heap.size + 1 + 1 + 1 < w4.heap.size := by omega)); (try (have hy4w14 : w1.heap.size + 1 + 1 + 1 + 1 < w4.heap.size := by omega)); (try (have hy4w20 : w2.heap.size < w4.heap.size := by omega)); (try (have hy4w21 : w2.heap.size + 1 < w4.heap.size := by omega)); (try (have hy4w22 : w2.heap.size + 1 + 1 < w4.heap.size := by omega)); (try (have hy4w23 : w2.heap.size + 1 + 1 + 1 < w4.heap.size := by omega)); (try (have hy4w24 : w2.heap.size + 1 + 1 + 1 + 1 < w4.heap.size := by omega)); (try (have hy4w30 : w3.heap.size < w4.heap.size := by omega)); (try (have hy4w31 : w3.heap.size + 1 < w4.heap.size := by omega)); (try (have hy4w32 : w3.heap.size + 1 + 1 < w4.heap.size := by omega)); (try (have hy4w33 : w3.heap.size + 1 + 1 + 1 < w4.heap.size := by omega)); (try (have hy4w34 : w3.heap.size + 1 + 1 + 1 + 1 < w4.heap.size := by omega))))
          have ltr := BR.lt
          refine wp_name (fun w' => Box 38 w' w3.heap.size [l0, l1, l2] ∧ Box 38 w' w4.heap.size [m0, m1, m2] ∧ Box 35 w' (w.heap.size + 1 + 1 + 1) [0, 0, 0] ∧ Below w.heap.size w w') ⟨Box.alloc (Box.below hb4 (Box.new [l0, l1, l2] rfl)) _, Box.new [m0, m1, m2] rfl, Box.alloc (Box.below hb4 (Box.alloc (Box.below hb3 BR) _)) _, by (repeat' (first | (with_reducible exact Below.refl _ _) | (with_reducible assumption) | (with_reducible refine Below.alloc ?_ ?_ _) | (with_reducible refine Below.drew ?_) | (with_reducible refine below_drewN ?_ _) | (with_reducible refine Below.setCell ?_ ?_ _) | (refine Below.step ?_ (by with_reducible assumption) ?_) | go_size))⟩ ?_
          rintro wd ⟨BG, BH, BX, hBd⟩
          have hzd := hBd.size
          have hw3 : w.heap.size + 1 + 1 + 1 + 1 ≤ w3.heap.size := by omega
          have hw4 : w3.heap.size + 1 ≤ w4.heap.size := by omega
          clear BR hB ltr hb3 hb4 hc3 hc4 hf3 hf4
          have sg0 := BG.cell 0 rfl; have sh0 := BH.cell 0 rfl; have sr0 := BX.cell 0 rfl; have sf0 := BX.frz 0
          have sg1 := BG.cell 1 rfl; have sh1 := BH.cell 1 rfl; have sr1 := BX.cell 1 rfl; have sf1 := BX.frz 1
          have sg2 := BG.cell 2 rfl; have sh2 := BH.cell 2 rfl; have sr2 := BX.cell 2 rfl; have sf2 := BX.frz 2
          go_wp2_with fail
          (try simp only [Exit.inBlock, Exit.then]); refine bodyPost_ret (by simp [results, Try.results33, go_sem, *]; try rfl) rfl ?_
          exact ⟨by rw [hE.out]; try rfl, by (repeat' (first | (with_reducible exact Below.refl _ _) | (with_reducible assumption) | (with_reducible refine Below.alloc ?_ ?_ _) | (with_reducible refine Below.drew ?_) | (with_reducible refine below_drewN ?_ _) | (with_reducible refine Below.setCell ?_ ?_ _) | (refine Below.step ?_ (by with_reducible assumption) ?_) | go_size))⟩
        · have hE0 : spR p ⟨c0, c1, c2, c3, c4, c5⟩ ⟨d0, d1, d2, d3, d4, d5⟩ ⟨a0, a1, a2⟩ = (crs p (plL p ⟨c0, c1, c2, c3, c4, c5⟩ ⟨a0, a1, a2⟩) (plL p ⟨d0, d1, d2, d3, d4, d5⟩ ⟨a0, a1, a2⟩), 0) := by rw [hR0]; simp [hb1, hb2, heq]
          rw [hb1] at hpl
          rw [hb2] at hpm
          have hpa := hql hb1; have hpb := hqm hb2
          have hcm := crs_made hpa hpb heq
          obtain ⟨l0, l1, l2, hl⟩ : ∃ l0 l1 l2, plL p ⟨c0, c1, c2, c3, c4, c5⟩ ⟨a0, a1, a2⟩ = ⟨l0, l1, l2⟩ := ⟨_, _, _, rfl⟩
          rw [hl] at hpl hsl hE0 heq hcm
          dsimp only at hpl hsl
          obtain ⟨m0, m1, m2, hm⟩ : ∃ m0 m1 m2, plL p ⟨d0, d1, d2, d3, d4, d5⟩ ⟨a0, a1, a2⟩ = ⟨m0, m1, m2⟩ := ⟨_, _, _, rfl⟩
          rw [hm] at hpm hsm hE0 heq hcm
          dsimp only at hpm hsm
          have hq := fun w' => (eqP3 (t := 38) Try.underlying38 ⟨l0, l1, l2⟩ ⟨m0, m1, m2⟩ w').1
          simp only [heq, decide_false] at hq
          obtain ⟨x0, x1, x2, hx⟩ : ∃ x0 x1 x2, crs p ⟨l0, l1, l2⟩ ⟨m0, m1, m2⟩ = ⟨x0, x1, x2⟩ := ⟨_, _, _, rfl⟩
          obtain ⟨sl0, sl1, sl2⟩ := hsl
          obtain ⟨sm0, sm1, sm2⟩ := hsm
          have hmt := fun w' => meet_any p l0 l1 l2 m0 m1 m2 w' hp k2 sl0 sl1 sl2 sm0 sm1 sm2
          rw [hx] at hmt hE0
          dsimp only at hmt
          have HMT := Lib.hid hmt
          clear hmt hcm hx hpa hpb
          have hE := Lib.hid hE0
          have HPL := Lib.hid hpl; have HPM := Lib.hid hpm
          clear hpl hpm hE0 hR0 hql hqm hp k2 hb1 hb2 hl hm heq sl0 sl1 sl2 sm0 sm1 sm2
          go_upto_region 6 with (first | (go_at_call_of 63 (Value.agg #[.int .i64 c0, .int .i64 c1, .int .i64 c2, .int .i64 c3, .int .i64 c4, .int .i64 c5]); refine (HPL.out _).mono ?_; rintro e w3 ⟨rfl, hb3⟩; obtain ⟨hc3, hf3⟩ := bcell hb3; have hz3 := hb3.size; (try simp only [World.size_alloc, World.size_setCell, World.size_drew] at hz3); (try (have hy3w0 : w.heap.size < w3.heap.size := by omega)); (try (have hy3w1 : w.heap.size + 1 < w3.heap.size := by omega)); (try (have hy3w2 : w.heap.size + 1 + 1 < w3.heap.size := by omega)); (try (have hy3w3 : w.heap.size + 1 + 1 + 1 < w3.heap.size := by omega)); (try (have hy3w4 : w.heap.size + 1 + 1 + 1 + 1 < w3.heap.size := by omega)); (try (have hy3wc0 : wc.heap.size < w3.heap.size := by omega)); (try (have hy3wc1 : wc.heap.size + 1 < w3.heap.size := by omega)); (try (have hy3wc2 : wc.heap.size + 1 + 1 < w3.heap.size := by omega)); (try (have hy3wc3 : wc.heap.size + 1 + 1 + 1 < w3.heap.size := by omega)); (try (have hy3wc4 : wc.heap.size + 1 + 1 + 1 + 1 < w3.heap.size := by omega)); (try (have hy3w10 : w1.heap.size < w3.heap.size := by omega)); (try (have hy3w11 : w1.heap.size + 1 < w3.heap.size := by omega)); (try (have hy3w12 : w1.heap.size + 1 + 1 < w3.heap.size := by omega)); (try (have hy3w13 : w1.heap.size + 1 + 1 + 1 < w3.heap.size := by omega)); (try (have hy3w14 : w1.heap.size + 1 + 1 + 1 + 1 < w3.heap.size := by omega)); (try (have hy3w20 : w2.heap.size < w3.heap.size := by omega)); (try (have hy3w21 : w2.heap.size + 1 < w3.heap.size := by omega)); (try (have hy3w22 : w2.heap.size + 1 + 1 < w3.heap.size := by omega)); (try (have hy3w23 : w2.heap.size + 1 + 1 + 1 < w3.heap.size := by omega)); (try (have hy3w24 : w2.heap.size + 1 + 1 + 1 + 1 < w3.heap.size := by omega))) | (go_at_call_of 63 (Value.agg #[.int .i64 d0, .int .i64 d1, .int .i64 d2, .int .i64 d3, .int .i64 d4, .int .i64 d5]); refine (HPM.out _).mono ?_; rintro e w4 ⟨rfl, hb4⟩; obtain ⟨hc4, hf4⟩ := bcell hb4; have hz4 := hb4.size; (try simp only [World.size_alloc, World.size_setCell, World.size_drew] at hz4); (try (have hy4w0 : w.heap.size < w4.heap.size := by omega)); (try (have hy4w1 : w.heap.size + 1 < w4.heap.size := by omega)); (try (have hy4w2 : w.heap.size + 1 + 1 < w4.heap.size := by omega)); (try (have hy4w3 : w.heap.size + 1 + 1 + 1 < w4.heap.size := by omega)); (try (have hy4w4 : w.heap.size + 1 + 1 + 1 + 1 < w4.heap.size := by omega)); (try (have hy4wc0 : wc.heap.size < w4.heap.size := by omega)); (try (have hy4wc1 : wc.heap.size + 1 < w4.heap.size := by omega)); (try (have hy4wc2 : wc.heap.size + 1 + 1 < w4.heap.size := by omega)); (try (have hy4wc3 : wc.heap.size + 1 + 1 + 1 < w4.heap.size := by omega)); (try (have hy4wc4 : wc.heap.size + 1 + 1 + 1 + 1 < w4.heap.size := by omega)); (try (have hy4w10 : w1.heap.size < w4.heap.size := by omega)); (try (have hy4w11 : w1.heap.size + 1 < w4.heap.size := by omega)); (try (have hy4w12 : w1.heap.size + 1 + 1 < w4.heap.size := by omega)); (try (have hy4w13 : w1.heap.size + 1 + 1 + 1 < w4.heap.size := by omega)); (try (have hy4w14 : w1.heap.size + 1 + 1 + 1 + 1 < w4.heap.size := by omega)); (try (have hy4w20 : w2.heap.size < w4.heap.size := by omega)); (try (have hy4w21 : w2.heap.size + 1 < w4.heap.size := by omega)); (try (have hy4w22 : w2.heap.size + 1 + 1 < w4.heap.size := by omega)); (try (have hy4w23 : w2.heap.size + 1 + 1 + 1 < w4.heap.size := by omega)); (try (have hy4w24 : w2.heap.size + 1 + 1 + 1 + 1 < w4.heap.size := by omega)); (try (have hy4w30 : w3.heap.size < w4.heap.size := by omega)); (try (have hy4w31 : w3.heap.size + 1 < w4.heap.size := by omega)); (try (have hy4w32 : w3.heap.size + 1 + 1 < w4.heap.size := by omega)); (try (have hy4w33 : w3.heap.size + 1 + 1 + 1 < w4.heap.size := by omega)); (try (have hy4w34 : w3.heap.size + 1 + 1 + 1 + 1 < w4.heap.size := by omega))))
          have ltr := BR.lt
          refine wp_name (fun w' => Box 38 w' w3.heap.size [l0, l1, l2] ∧ Box 38 w' w4.heap.size [m0, m1, m2] ∧ Box 35 w' (w.heap.size + 1 + 1 + 1) [0, 0, 0] ∧ Below w.heap.size w w') ⟨Box.alloc (Box.below hb4 (Box.new [l0, l1, l2] rfl)) _, Box.new [m0, m1, m2] rfl, Box.alloc (Box.below hb4 (Box.alloc (Box.below hb3 BR) _)) _, by (repeat' (first | (with_reducible exact Below.refl _ _) | (with_reducible assumption) | (with_reducible refine Below.alloc ?_ ?_ _) | (with_reducible refine Below.drew ?_) | (with_reducible refine below_drewN ?_ _) | (with_reducible refine Below.setCell ?_ ?_ _) | (refine Below.step ?_ (by with_reducible assumption) ?_) | go_size))⟩ ?_
          rintro wd ⟨BG, BH, BX, hBd⟩
          have hzd := hBd.size
          have hw3 : w.heap.size + 1 + 1 + 1 + 1 ≤ w3.heap.size := by omega
          have hw4 : w3.heap.size + 1 ≤ w4.heap.size := by omega
          clear BR hB ltr hb3 hb4 hc3 hc4 hf3 hf4
          have sg0 := BG.cell 0 rfl; have sh0 := BH.cell 0 rfl; have sr0 := BX.cell 0 rfl; have sf0 := BX.frz 0
          have sg1 := BG.cell 1 rfl; have sh1 := BH.cell 1 rfl; have sr1 := BX.cell 1 rfl; have sf1 := BX.frz 1
          have sg2 := BG.cell 2 rfl; have sh2 := BH.cell 2 rfl; have sr2 := BX.cell 2 rfl; have sf2 := BX.frz 2
          go_wp2_with (go_at_call 75; refine (HMT.out _).mono ?_; rintro e w5 ⟨rfl, hb5⟩; obtain ⟨hc5, hf5⟩ := bcell hb5; have hz5 := hb5.size; (try simp only [World.size_alloc, World.size_setCell, World.size_drew] at hz5); (try (have hy5w0 : w.heap.size < w5.heap.size := by omega)); (try (have hy5w1 : w.heap.size + 1 < w5.heap.size := by omega)); (try (have hy5w2 : w.heap.size + 1 + 1 < w5.heap.size := by omega)); (try (have hy5w3 : w.heap.size + 1 + 1 + 1 < w5.heap.size := by omega)); (try (have hy5w4 : w.heap.size + 1 + 1 + 1 + 1 < w5.heap.size := by omega)); (try (have hy5wc0 : wc.heap.size < w5.heap.size := by omega)); (try (have hy5wc1 : wc.heap.size + 1 < w5.heap.size := by omega)); (try (have hy5wc2 : wc.heap.size + 1 + 1 < w5.heap.size := by omega)); (try (have hy5wc3 : wc.heap.size + 1 + 1 + 1 < w5.heap.size := by omega)); (try (have hy5wc4 : wc.heap.size + 1 + 1 + 1 + 1 < w5.heap.size := by omega)); (try (have hy5w10 : w1.heap.size < w5.heap.size := by omega)); (try (have hy5w11 : w1.heap.size + 1 < w5.heap.size := by omega)); (try (have hy5w12 : w1.heap.size + 1 + 1 < w5.heap.size := by omega)); (try (have hy5w13 : w1.heap.size + 1 + 1 + 1 < w5.heap.size := by omega)); (try (have hy5w14 : w1.heap.size + 1 + 1 + 1 + 1 < w5.heap.size := by omega)); (try (have hy5w20 : w2.heap.size < w5.heap.size := by omega)); (try (have hy5w21 : w2.heap.size + 1 < w5.heap.size := by omega)); (try (have hy5w22 : w2.heap.size + 1 + 1 < w5.heap.size := by omega)); (try (have hy5w23 : w2.heap.size + 1 + 1 + 1 < w5.heap.size := by omega)); (try (have hy5w24 : w2.heap.size + 1 + 1 + 1 + 1 < w5.heap.size := by omega)); (try (have hy5w30 : w3.heap.size < w5.heap.size := by omega)); (try (have hy5w31 : w3.heap.size + 1 < w5.heap.size := by omega)); (try (have hy5w32 : w3.heap.size + 1 + 1 < w5.heap.size := by omega)); (try (have hy5w33 : w3.heap.size + 1 + 1 + 1 < w5.heap.size := by omega)); (try (have hy5w34 : w3.heap.size + 1 + 1 + 1 + 1 < w5.heap.size := by omega)); (try (have hy5w40 : w4.heap.size < w5.heap.size := by omega)); (try (have hy5w41 : w4.heap.size + 1 < w5.heap.size := by omega)); (try (have hy5w42 : w4.heap.size + 1 + 1 < w5.heap.size := by omega)); (try (have hy5w43 : w4.heap.size + 1 + 1 + 1 < w5.heap.size := by omega)); (try (have hy5w44 : w4.heap.size + 1 + 1 + 1 + 1 < w5.heap.size := by omega)); have r5_0 := keepC hb5 sr0; have t5_0 := keepF hb5 (b := w.heap.size + 1 + 1 + 1) (o := 0) (by first | exact BX.lt | go_size) sf0; have r5_1 := keepC hb5 sr1; have t5_1 := keepF hb5 (b := w.heap.size + 1 + 1 + 1) (o := 1) (by first | exact BX.lt | go_size) sf1; have r5_2 := keepC hb5 sr2; have t5_2 := keepF hb5 (b := w.heap.size + 1 + 1 + 1) (o := 2) (by first | exact BX.lt | go_size) sf2)
          (try simp only [Exit.inBlock, Exit.then]); refine bodyPost_ret (by simp [results, Try.results33, go_sem, *]; try rfl) rfl ?_
          exact ⟨by rw [hE.out]; try rfl, by (repeat' (first | (with_reducible exact Below.refl _ _) | (with_reducible assumption) | (with_reducible refine Below.alloc ?_ ?_ _) | (with_reducible refine Below.drew ?_) | (with_reducible refine below_drewN ?_ _) | (with_reducible refine Below.setCell ?_ ?_ _) | (refine Below.step ?_ (by with_reducible assumption) ?_) | go_size))⟩
set_option maxHeartbeats 8000000 in
theorem SecondPoint_spec (p c0 c1 c2 c3 c4 c5 d0 d1 d2 d3 d4 d5 a0 a1 a2 : Int) (w : World) :
    Calls Try.prog 32 #[.int .i64 p, .agg #[.int .i64 c0, .int .i64 c1, .int .i64 c2, .int .i64 c3, .int .i64 c4, .int .i64 c5], .agg #[.int .i64 d0, .int .i64 d1, .int .i64 d2, .int .i64 d3, .int .i64 d4, .int .i64 d5], .agg #[.int .i64 a0, .int .i64 a1, .int .i64 a2]] w fun e w' => e = .returned (.tuple #[.agg #[.int .i64 ((spR p ⟨c0, c1, c2, c3, c4, c5⟩ ⟨d0, d1, d2, d3, d4, d5⟩ ⟨a0, a1, a2⟩).1).x, .int .i64 ((spR p ⟨c0, c1, c2, c3, c4, c5⟩ ⟨d0, d1, d2, d3, d4, d5⟩ ⟨a0, a1, a2⟩).1).y, .int .i64 ((spR p ⟨c0, c1, c2, c3, c4, c5⟩ ⟨d0, d1, d2, d3, d4, d5⟩ ⟨a0, a1, a2⟩).1).z], .int .i64 (spR p ⟨c0, c1, c2, c3, c4, c5⟩ ⟨d0, d1, d2, d3, d4, d5⟩ ⟨a0, a1, a2⟩).2]) ∧ Below w.heap.size w w' := by
  go_enter Try.func32, Try.ntmps32
  go_upto_region 1 with fail
  refine wp_name (fun w' => Box 24 w' (w.heap.size) [c0, c1, c2, c3, c4, c5] ∧ Box 24 w' (w.heap.size + 1) [d0, d1, d2, d3, d4, d5] ∧ Box 35 w' (w.heap.size + 1 + 1) [a0, a1, a2] ∧ Box 35 w' (w.heap.size + 1 + 1 + 1) [0, 0, 0] ∧ Below w.heap.size w w') ⟨Box.alloc (Box.alloc (Box.alloc (Box.new [c0, c1, c2, c3, c4, c5] (by simp)) _) _) _, Box.alloc (Box.alloc (Box.new [d0, d1, d2, d3, d4, d5] (by simp)) _) _, Box.alloc (Box.new [a0, a1, a2] (by simp)) _, Box.new [0, 0, 0] (by simp), by (repeat' (first | (with_reducible exact Below.refl _ _) | (with_reducible assumption) | (with_reducible refine Below.alloc ?_ ?_ _) | (with_reducible refine Below.drew ?_) | (with_reducible refine below_drewN ?_ _) | (with_reducible refine Below.setCell ?_ ?_ _) | (refine Below.step ?_ (by with_reducible assumption) ?_) | go_size))⟩ ?_
  rintro wq ⟨Bc, Bd, Ba, BR, hB⟩
  have hz := hB.size
  have qc0 := Bc.cell 0 rfl
  have qc1 := Bc.cell 1 rfl
  have qc2 := Bc.cell 2 rfl
  have qc3 := Bc.cell 3 rfl
  have qc4 := Bc.cell 4 rfl
  have qc5 := Bc.cell 5 rfl
  have ltc := Bc.lt
  have qd0 := Bd.cell 0 rfl
  have qd1 := Bd.cell 1 rfl
  have qd2 := Bd.cell 2 rfl
  have qd3 := Bd.cell 3 rfl
  have qd4 := Bd.cell 4 rfl
  have qd5 := Bd.cell 5 rfl
  have ltd := Bd.lt
  have qa0 := Ba.cell 0 rfl
  have qa1 := Ba.cell 1 rfl
  have qa2 := Ba.cell 2 rfl
  have lta := Ba.lt
  have ltR := BR.lt
  go_upto_region 2 with (go_at_call 68; refine (l04Pencil_any p c0 c1 c2 c3 c4 c5 d0 d1 d2 d3 d4 d5 _ _ [⟨a0, a1, a2⟩] _ (rdp1 (by go_cell) (by go_cell) (by go_cell)) (by go_size) (by simp)).mono ?_; rintro e w1 ⟨rfl, hb1⟩)
  have hz1 := hb1.size
  refine wp_name (fun w' => Box 24 w' (w.heap.size) [c0, c1, c2, c3, c4, c5] ∧ Box 24 w' (w.heap.size + 1) [d0, d1, d2, d3, d4, d5] ∧ Box 35 w' (w.heap.size + 1 + 1) [a0, a1, a2] ∧ Box 35 w' (w.heap.size + 1 + 1 + 1) [0, 0, 0] ∧ Below w.heap.size w w') ⟨Box.below hb1 (Box.alloc Bc _), Box.below hb1 (Box.alloc Bd _), Box.below hb1 (Box.alloc Ba _), Box.below hb1 (Box.alloc BR _), by (repeat' (first | (with_reducible exact Below.refl _ _) | (with_reducible assumption) | (with_reducible refine Below.alloc ?_ ?_ _) | (with_reducible refine Below.drew ?_) | (with_reducible refine below_drewN ?_ _) | (with_reducible refine Below.setCell ?_ ?_ _) | (refine Below.step ?_ (by with_reducible assumption) ?_) | go_size))⟩ ?_
  clear Bc ltc qc0 qc1 qc2 qc3 qc4 qc5 Bd ltd qd0 qd1 qd2 qd3 qd4 qd5 Ba lta qa0 qa1 qa2 BR hB hz ltR hb1 hz1
  rintro wc ⟨Bc, Bd, Ba, BR, hB⟩
  have hz := hB.size
  have sr0 := BR.cell 0 rfl; have sf0 := BR.frz 0
  have sr1 := BR.cell 1 rfl; have sf1 := BR.frz 1
  have sr2 := BR.cell 2 rfl; have sf2 := BR.frz 2
  have qc0 := Bc.cell 0 rfl
  have qc1 := Bc.cell 1 rfl
  have qc2 := Bc.cell 2 rfl
  have qc3 := Bc.cell 3 rfl
  have qc4 := Bc.cell 4 rfl
  have qc5 := Bc.cell 5 rfl
  have ltc := Bc.lt
  have qd0 := Bd.cell 0 rfl
  have qd1 := Bd.cell 1 rfl
  have qd2 := Bd.cell 2 rfl
  have qd3 := Bd.cell 3 rfl
  have qd4 := Bd.cell 4 rfl
  have qd5 := Bd.cell 5 rfl
  have ltd := Bd.lt
  have qa0 := Ba.cell 0 rfl
  have qa1 := Ba.cell 1 rfl
  have qa2 := Ba.cell 2 rfl
  have lta := Ba.lt
  have hsp : pcCode p (allPt p [⟨a0, a1, a2⟩]) ⟨c0, c1, c2, c3, c4, c5⟩ ⟨d0, d1, d2, d3, d4, d5⟩ = spCode p ⟨c0, c1, c2, c3, c4, c5⟩ ⟨d0, d1, d2, d3, d4, d5⟩ ⟨a0, a1, a2⟩ := rfl
  rw [hsp]
  rcases spCode3 p ⟨c0, c1, c2, c3, c4, c5⟩ ⟨d0, d1, d2, d3, d4, d5⟩ ⟨a0, a1, a2⟩ with hk | hk | hk | ⟨hp, hpts, hc, hd, hk⟩
  · have hE : Hid (spR p ⟨c0, c1, c2, c3, c4, c5⟩ ⟨d0, d1, d2, d3, d4, d5⟩ ⟨a0, a1, a2⟩ = (⟨0, 0, 0⟩, 2)) := by show _ = _; unfold spR; rw [hk]; rfl
    rw [hk]
    go_wp2_with fail
    (try simp only [Exit.inBlock, Exit.then]); refine bodyPost_ret (by simp [results, Try.results32, go_sem, *]; try rfl) rfl ?_
    exact ⟨by rw [hE.out]; try rfl, by (repeat' (first | (with_reducible exact Below.refl _ _) | (with_reducible assumption) | (with_reducible refine Below.alloc ?_ ?_ _) | (with_reducible refine Below.drew ?_) | (with_reducible refine below_drewN ?_ _) | (with_reducible refine Below.setCell ?_ ?_ _) | (refine Below.step ?_ (by with_reducible assumption) ?_) | go_size))⟩
  · have hE : Hid (spR p ⟨c0, c1, c2, c3, c4, c5⟩ ⟨d0, d1, d2, d3, d4, d5⟩ ⟨a0, a1, a2⟩ = (⟨0, 0, 0⟩, 1)) := by show _ = _; unfold spR; rw [hk]; rfl
    rw [hk]
    go_wp2_with fail
    (try simp only [Exit.inBlock, Exit.then]); refine bodyPost_ret (by simp [results, Try.results32, go_sem, *]; try rfl) rfl ?_
    exact ⟨by rw [hE.out]; try rfl, by (repeat' (first | (with_reducible exact Below.refl _ _) | (with_reducible assumption) | (with_reducible refine Below.alloc ?_ ?_ _) | (with_reducible refine Below.drew ?_) | (with_reducible refine below_drewN ?_ _) | (with_reducible refine Below.setCell ?_ ?_ _) | (refine Below.step ?_ (by with_reducible assumption) ?_) | go_size))⟩
  · have hE : Hid (spR p ⟨c0, c1, c2, c3, c4, c5⟩ ⟨d0, d1, d2, d3, d4, d5⟩ ⟨a0, a1, a2⟩ = (⟨0, 0, 0⟩, 5)) := by show _ = _; unfold spR; rw [hk]; rfl
    rw [hk]
    go_wp2_with fail
    (try simp only [Exit.inBlock, Exit.then]); refine bodyPost_ret (by simp [results, Try.results32, go_sem, *]; try rfl) rfl ?_
    exact ⟨by rw [hE.out]; try rfl, by (repeat' (first | (with_reducible exact Below.refl _ _) | (with_reducible assumption) | (with_reducible refine Below.alloc ?_ ?_ _) | (with_reducible refine Below.drew ?_) | (with_reducible refine below_drewN ?_ _) | (with_reducible refine Below.setCell ?_ ?_ _) | (refine Below.step ?_ (by with_reducible assumption) ?_) | go_size))⟩
  · obtain ⟨sa0, sa1, sa2⟩ := pts1 hpts
    have hpl := fun w' => l03Polar_any p c0 c1 c2 c3 c4 c5 a0 a1 a2 w' hp hc sa0 sa1 sa2
    have hpm := fun w' => l03Polar_any p d0 d1 d2 d3 d4 d5 a0 a1 a2 w' hp hd sa0 sa1 sa2
    have k2 := isP_hi hp
    have HC0 := Lib.hid hk
    rw [hk]
    have hR0 : spR p ⟨c0, c1, c2, c3, c4, c5⟩ ⟨d0, d1, d2, d3, d4, d5⟩ ⟨a0, a1, a2⟩ = if spOk p ⟨c0, c1, c2, c3, c4, c5⟩ ⟨d0, d1, d2, d3, d4, d5⟩ ⟨a0, a1, a2⟩ then (crs p (plL p ⟨c0, c1, c2, c3, c4, c5⟩ ⟨a0, a1, a2⟩) (plL p ⟨d0, d1, d2, d3, d4, d5⟩ ⟨a0, a1, a2⟩), 0) else (⟨0, 0, 0⟩, 5) := by unfold spR; rw [hk]; rfl
    unfold spOk at hR0
    have hsl := plL_sm hp ⟨c0, c1, c2, c3, c4, c5⟩ ⟨a0, a1, a2⟩
    have hsm := plL_sm hp ⟨d0, d1, d2, d3, d4, d5⟩ ⟨a0, a1, a2⟩
    have hql := fun hb : plB p ⟨c0, c1, c2, c3, c4, c5⟩ ⟨a0, a1, a2⟩ = true => plL_pt hp hb
    have hqm := fun hb : plB p ⟨d0, d1, d2, d3, d4, d5⟩ ⟨a0, a1, a2⟩ = true => plL_pt hp hb
    clear hk hpts hc hd sa0 sa1 sa2
    cases hb1 : plB p ⟨c0, c1, c2, c3, c4, c5⟩ ⟨a0, a1, a2⟩
    · have hE0 : spR p ⟨c0, c1, c2, c3, c4, c5⟩ ⟨d0, d1, d2, d3, d4, d5⟩ ⟨a0, a1, a2⟩ = (⟨0, 0, 0⟩, 5) := by rw [hR0]; simp [hb1]
      rw [plM_no hb1] at hpl
      dsimp only at hpl hpm
      obtain ⟨lm, hlm⟩ : ∃ x, plM p ⟨d0, d1, d2, d3, d4, d5⟩ ⟨a0, a1, a2⟩ = x := ⟨_, rfl⟩
      rw [hlm] at hpm
      obtain ⟨⟨m0, m1, m2⟩, bb⟩ := lm
      dsimp only at hpm
      have hE := Lib.hid hE0
      have HPL := Lib.hid hpl; have HPM := Lib.hid hpm
      clear hpl hpm hE0 hR0 hql hqm hp k2 hsl hsm hb1
      go_upto_region 6 with (first | (go_at_call_of 62 (Value.agg #[.int .i64 c0, .int .i64 c1, .int .i64 c2, .int .i64 c3, .int .i64 c4, .int .i64 c5]); refine (HPL.out _).mono ?_; rintro e w3 ⟨rfl, hb3⟩; obtain ⟨hc3, hf3⟩ := bcell hb3; have hz3 := hb3.size; (try simp only [World.size_alloc, World.size_setCell, World.size_drew] at hz3); (try (have hy3w0 : w.heap.size < w3.heap.size := by omega)); (try (have hy3w1 : w.heap.size + 1 < w3.heap.size := by omega)); (try (have hy3w2 : w.heap.size + 1 + 1 < w3.heap.size := by omega)); (try (have hy3w3 : w.heap.size + 1 + 1 + 1 < w3.heap.size := by omega)); (try (have hy3w4 : w.heap.size + 1 + 1 + 1 + 1 < w3.heap.size := by omega)); (try (have hy3wc0 : wc.heap.size < w3.heap.size := by omega)); (try (have hy3wc1 : wc.heap.size + 1 < w3.heap.size := by omega)); (try (have hy3wc2 : wc.heap.size + 1 + 1 < w3.heap.size := by omega)); (try (have hy3wc3 : wc.heap.size + 1 + 1 + 1 < w3.heap.size := by omega)); (try (have hy3wc4 : wc.heap.size + 1 + 1 + 1 + 1 < w3.heap.size := by omega)); (try (have hy3w10 : w1.heap.size < w3.heap.size := by omega)); (try (have hy3w11 : w1.heap.size + 1 < w3.heap.size := by omega)); (try (have hy3w12 : w1.heap.size + 1 + 1 < w3.heap.size := by omega)); (try (have hy3w13 : w1.heap.size + 1 + 1 + 1 < w3.heap.size := by omega)); (try (have hy3w14 : w1.heap.size + 1 + 1 + 1 + 1 < w3.heap.size := by omega)); (try (have hy3w20 : w2.heap.size < w3.heap.size := by omega)); (try (have hy3w21 : w2.heap.size + 1 < w3.heap.size := by omega)); (try (have hy3w22 : w2.heap.size + 1 + 1 < w3.heap.size := by omega)); (try (have hy3w23 : w2.heap.size + 1 + 1 + 1 < w3.heap.size := by omega)); (try (have hy3w24 : w2.heap.size + 1 + 1 + 1 + 1 < w3.heap.size := by omega))) | (go_at_call_of 62 (Value.agg #[.int .i64 d0, .int .i64 d1, .int .i64 d2, .int .i64 d3, .int .i64 d4, .int .i64 d5]); refine (HPM.out _).mono ?_; rintro e w4 ⟨rfl, hb4⟩; obtain ⟨hc4, hf4⟩ := bcell hb4; have hz4 := hb4.size; (try simp only [World.size_alloc, World.size_setCell, World.size_drew] at hz4); (try (have hy4w0 : w.heap.size < w4.heap.size := by omega)); (try (have hy4w1 : w.heap.size + 1 < w4.heap.size := by omega)); (try (have hy4w2 : w.heap.size + 1 + 1 < w4.heap.size := by omega)); (try (have hy4w3 : w.heap.size + 1 + 1 + 1 < w4.heap.size := by omega)); (try (have hy4w4 : w.heap.size + 1 + 1 + 1 + 1 < w4.heap.size := by omega)); (try (have hy4wc0 : wc.heap.size < w4.heap.size := by omega)); (try (have hy4wc1 : wc.heap.size + 1 < w4.heap.size := by omega)); (try (have hy4wc2 : wc.heap.size + 1 + 1 < w4.heap.size := by omega)); (try (have hy4wc3 : wc.heap.size + 1 + 1 + 1 < w4.heap.size := by omega)); (try (have hy4wc4 : wc.heap.size + 1 + 1 + 1 + 1 < w4.heap.size := by omega)); (try (have hy4w10 : w1.heap.size < w4.heap.size := by omega)); (try (have hy4w11 : w1.heap.size + 1 < w4.heap.size := by omega)); (try (have hy4w12 : w1.heap.size + 1 + 1 < w4.heap.size := by omega)); (try (have hy4w13 : w1.heap.size + 1 + 1 + 1 < w4.heap.size := by omega)); (try (have hy4w14 : w1.heap.size + 1 + 1 + 1 + 1 < w4.heap.size := by omega)); (try (have hy4w20 : w2.heap.size < w4.heap.size := by omega)); (try (have hy4w21 : w2.heap.size + 1 < w4.heap.size := by omega)); (try (have hy4w22 : w2.heap.size + 1 + 1 < w4.heap.size := by omega)); (try (have hy4w23 : w2.heap.size + 1 + 1 + 1 < w4.heap.size := by omega)); (try (have hy4w24 : w2.heap.size + 1 + 1 + 1 + 1 < w4.heap.size := by omega)); (try (have hy4w30 : w3.heap.size < w4.heap.size := by omega)); (try (have hy4w31 : w3.heap.size + 1 < w4.heap.size := by omega)); (try (have hy4w32 : w3.heap.size + 1 + 1 < w4.heap.size := by omega)); (try (have hy4w33 : w3.heap.size + 1 + 1 + 1 < w4.heap.size := by omega)); (try (have hy4w34 : w3.heap.size + 1 + 1 + 1 + 1 < w4.heap.size := by omega))))
      have ltr := BR.lt
      refine wp_name (fun w' => Box 38 w' w3.heap.size [0, 0, 0] ∧ Box 38 w' w4.heap.size [m0, m1, m2] ∧ Box 35 w' (w.heap.size + 1 + 1 + 1) [0, 0, 0] ∧ Below w.heap.size w w') ⟨Box.alloc (Box.below hb4 (Box.new [0, 0, 0] rfl)) _, Box.new [m0, m1, m2] rfl, Box.alloc (Box.below hb4 (Box.alloc (Box.below hb3 BR) _)) _, by (repeat' (first | (with_reducible exact Below.refl _ _) | (with_reducible assumption) | (with_reducible refine Below.alloc ?_ ?_ _) | (with_reducible refine Below.drew ?_) | (with_reducible refine below_drewN ?_ _) | (with_reducible refine Below.setCell ?_ ?_ _) | (refine Below.step ?_ (by with_reducible assumption) ?_) | go_size))⟩ ?_
      rintro wd ⟨BG, BH, BX, hBd⟩
      have hzd := hBd.size
      have hw3 : w.heap.size + 1 + 1 + 1 + 1 ≤ w3.heap.size := by omega
      have hw4 : w3.heap.size + 1 ≤ w4.heap.size := by omega
      clear BR hB ltr hb3 hb4 hc3 hc4 hf3 hf4
      have sg0 := BG.cell 0 rfl; have sh0 := BH.cell 0 rfl; have sr0 := BX.cell 0 rfl; have sf0 := BX.frz 0
      have sg1 := BG.cell 1 rfl; have sh1 := BH.cell 1 rfl; have sr1 := BX.cell 1 rfl; have sf1 := BX.frz 1
      have sg2 := BG.cell 2 rfl; have sh2 := BH.cell 2 rfl; have sr2 := BX.cell 2 rfl; have sf2 := BX.frz 2
      go_wp2_with fail
      (try simp only [Exit.inBlock, Exit.then]); refine bodyPost_ret (by simp [results, Try.results32, go_sem, *]; try rfl) rfl ?_
      exact ⟨by rw [hE.out]; try rfl, by (repeat' (first | (with_reducible exact Below.refl _ _) | (with_reducible assumption) | (with_reducible refine Below.alloc ?_ ?_ _) | (with_reducible refine Below.drew ?_) | (with_reducible refine below_drewN ?_ _) | (with_reducible refine Below.setCell ?_ ?_ _) | (refine Below.step ?_ (by with_reducible assumption) ?_) | go_size))⟩
    · cases hb2 : plB p ⟨d0, d1, d2, d3, d4, d5⟩ ⟨a0, a1, a2⟩
      · have hE0 : spR p ⟨c0, c1, c2, c3, c4, c5⟩ ⟨d0, d1, d2, d3, d4, d5⟩ ⟨a0, a1, a2⟩ = (⟨0, 0, 0⟩, 5) := by rw [hR0]; simp [hb1, hb2]
        rw [plM_ok hb1] at hpl
        rw [plM_no hb2] at hpm
        dsimp only at hpl hpm
        obtain ⟨l0, l1, l2, hl⟩ : ∃ l0 l1 l2, plL p ⟨c0, c1, c2, c3, c4, c5⟩ ⟨a0, a1, a2⟩ = ⟨l0, l1, l2⟩ := ⟨_, _, _, rfl⟩
        rw [hl] at hpl hsl
        dsimp only at hpl hsl
        have hE := Lib.hid hE0
        have HPL := Lib.hid hpl; have HPM := Lib.hid hpm
        clear hpl hpm hE0 hR0 hql hqm hp k2 hsl hsm hb1 hb2 hl
        go_upto_region 6 with (first | (go_at_call_of 62 (Value.agg #[.int .i64 c0, .int .i64 c1, .int .i64 c2, .int .i64 c3, .int .i64 c4, .int .i64 c5]); refine (HPL.out _).mono ?_; rintro e w3 ⟨rfl, hb3⟩; obtain ⟨hc3, hf3⟩ := bcell hb3; have hz3 := hb3.size; (try simp only [World.size_alloc, World.size_setCell, World.size_drew] at hz3); (try (have hy3w0 : w.heap.size < w3.heap.size := by omega)); (try (have hy3w1 : w.heap.size + 1 < w3.heap.size := by omega)); (try (have hy3w2 : w.heap.size + 1 + 1 < w3.heap.size := by omega)); (try (have hy3w3 : w.heap.size + 1 + 1 + 1 < w3.heap.size := by omega)); (try (have hy3w4 : w.heap.size + 1 + 1 + 1 + 1 < w3.heap.size := by omega)); (try (have hy3wc0 : wc.heap.size < w3.heap.size := by omega)); (try (have hy3wc1 : wc.heap.size + 1 < w3.heap.size := by omega)); (try (have hy3wc2 : wc.heap.size + 1 + 1 < w3.heap.size := by omega)); (try (have hy3wc3 : wc.heap.size + 1 + 1 + 1 < w3.heap.size := by omega)); (try (have hy3wc4 : wc.heap.size + 1 + 1 + 1 + 1 < w3.heap.size := by omega)); (try (have hy3w10 : w1.heap.size < w3.heap.size := by omega)); (try (have hy3w11 : w1.heap.size + 1 < w3.heap.size := by omega)); (try (have hy3w12 : w1.heap.size + 1 + 1 < w3.heap.size := by omega)); (try (have hy3w13 : w1.heap.size + 1 + 1 + 1 < w3.heap.size := by omega)); (try (have hy3w14 : w1.heap.size + 1 + 1 + 1 + 1 < w3.heap.size := by omega)); (try (have hy3w20 : w2.heap.size < w3.heap.size := by omega)); (try (have hy3w21 : w2.heap.size + 1 < w3.heap.size := by omega)); (try (have hy3w22 : w2.heap.size + 1 + 1 < w3.heap.size := by omega)); (try (have hy3w23 : w2.heap.size + 1 + 1 + 1 < w3.heap.size := by omega)); (try (have hy3w24 : w2.heap.size + 1 + 1 + 1 + 1 < w3.heap.size := by omega))) | (go_at_call_of 62 (Value.agg #[.int .i64 d0, .int .i64 d1, .int .i64 d2, .int .i64 d3, .int .i64 d4, .int .i64 d5]); refine (HPM.out _).mono ?_; rintro e w4 ⟨rfl, hb4⟩; obtain ⟨hc4, hf4⟩ := bcell hb4; have hz4 := hb4.size; (try simp only [World.size_alloc, World.size_setCell, World.size_drew] at hz4); (try (have hy4w0 : w.heap.size < w4.heap.size := by omega)); (try (have hy4w1 : w.heap.size + 1 < w4.heap.size := by omega)); (try (have hy4w2 : w.heap.size + 1 + 1 < w4.heap.size := by omega)); (try (have hy4w3 : w.heap.size + 1 + 1 + 1 < w4.heap.size := by omega)); (try (have hy4w4 : w.heap.size + 1 + 1 + 1 + 1 < w4.heap.size := by omega)); (try (have hy4wc0 : wc.heap.size < w4.heap.size := by omega)); (try (have hy4wc1 : wc.heap.size + 1 < w4.heap.size := by omega)); (try (have hy4wc2 : wc.heap.size + 1 + 1 < w4.heap.size := by omega)); (try (have hy4wc3 : wc.heap.size + 1 + 1 + 1 < w4.heap.size := by omega)); (try (have hy4wc4 : wc.heap.size + 1 + 1 + 1 + 1 < w4.heap.size := by omega)); (try (have hy4w10 : w1.heap.size < w4.heap.size := by omega)); (try (have hy4w11 : w1.heap.size + 1 < w4.heap.size := by omega)); (try (have hy4w12 : w1.heap.size + 1 + 1 < w4.heap.size := by omega)); (try (have hy4w13 : w1.heap.size + 1 + 1 + 1 < w4.heap.size := by omega)); (try (have hy4w14 : w1.heap.size + 1 + 1 + 1 + 1 < w4.heap.size := by omega)); (try (have hy4w20 : w2.heap.size < w4.heap.size := by omega)); (try (have hy4w21 : w2.heap.size + 1 < w4.heap.size := by omega)); (try (have hy4w22 : w2.heap.size + 1 + 1 < w4.heap.size := by omega)); (try (have hy4w23 : w2.heap.size + 1 + 1 + 1 < w4.heap.size := by omega)); (try (have hy4w24 : w2.heap.size + 1 + 1 + 1 + 1 < w4.heap.size := by omega)); (try (have hy4w30 : w3.heap.size < w4.heap.size := by omega)); (try (have hy4w31 : w3.heap.size + 1 < w4.heap.size := by omega)); (try (have hy4w32 : w3.heap.size + 1 + 1 < w4.heap.size := by omega)); (try (have hy4w33 : w3.heap.size + 1 + 1 + 1 < w4.heap.size := by omega)); (try (have hy4w34 : w3.heap.size + 1 + 1 + 1 + 1 < w4.heap.size := by omega))))
        have ltr := BR.lt
        refine wp_name (fun w' => Box 38 w' w3.heap.size [l0, l1, l2] ∧ Box 38 w' w4.heap.size [0, 0, 0] ∧ Box 35 w' (w.heap.size + 1 + 1 + 1) [0, 0, 0] ∧ Below w.heap.size w w') ⟨Box.alloc (Box.below hb4 (Box.new [l0, l1, l2] rfl)) _, Box.new [0, 0, 0] rfl, Box.alloc (Box.below hb4 (Box.alloc (Box.below hb3 BR) _)) _, by (repeat' (first | (with_reducible exact Below.refl _ _) | (with_reducible assumption) | (with_reducible refine Below.alloc ?_ ?_ _) | (with_reducible refine Below.drew ?_) | (with_reducible refine below_drewN ?_ _) | (with_reducible refine Below.setCell ?_ ?_ _) | (refine Below.step ?_ (by with_reducible assumption) ?_) | go_size))⟩ ?_
        rintro wd ⟨BG, BH, BX, hBd⟩
        have hzd := hBd.size
        have hw3 : w.heap.size + 1 + 1 + 1 + 1 ≤ w3.heap.size := by omega
        have hw4 : w3.heap.size + 1 ≤ w4.heap.size := by omega
        clear BR hB ltr hb3 hb4 hc3 hc4 hf3 hf4
        have sg0 := BG.cell 0 rfl; have sh0 := BH.cell 0 rfl; have sr0 := BX.cell 0 rfl; have sf0 := BX.frz 0
        have sg1 := BG.cell 1 rfl; have sh1 := BH.cell 1 rfl; have sr1 := BX.cell 1 rfl; have sf1 := BX.frz 1
        have sg2 := BG.cell 2 rfl; have sh2 := BH.cell 2 rfl; have sr2 := BX.cell 2 rfl; have sf2 := BX.frz 2
        go_wp2_with fail
        (try simp only [Exit.inBlock, Exit.then]); refine bodyPost_ret (by simp [results, Try.results32, go_sem, *]; try rfl) rfl ?_
        exact ⟨by rw [hE.out]; try rfl, by (repeat' (first | (with_reducible exact Below.refl _ _) | (with_reducible assumption) | (with_reducible refine Below.alloc ?_ ?_ _) | (with_reducible refine Below.drew ?_) | (with_reducible refine below_drewN ?_ _) | (with_reducible refine Below.setCell ?_ ?_ _) | (refine Below.step ?_ (by with_reducible assumption) ?_) | go_size))⟩
      · by_cases heq : plL p ⟨c0, c1, c2, c3, c4, c5⟩ ⟨a0, a1, a2⟩ = plL p ⟨d0, d1, d2, d3, d4, d5⟩ ⟨a0, a1, a2⟩
        · have hE0 : spR p ⟨c0, c1, c2, c3, c4, c5⟩ ⟨d0, d1, d2, d3, d4, d5⟩ ⟨a0, a1, a2⟩ = (⟨0, 0, 0⟩, 5) := by rw [hR0]; simp [hb1, hb2, heq]
          rw [plM_ok hb1] at hpl
          rw [plM_ok hb2] at hpm
          dsimp only at hpl hpm
          obtain ⟨l0, l1, l2, hl⟩ : ∃ l0 l1 l2, plL p ⟨c0, c1, c2, c3, c4, c5⟩ ⟨a0, a1, a2⟩ = ⟨l0, l1, l2⟩ := ⟨_, _, _, rfl⟩
          rw [hl] at hpl hsl heq
          dsimp only at hpl hsl
          obtain ⟨m0, m1, m2, hm⟩ : ∃ m0 m1 m2, plL p ⟨d0, d1, d2, d3, d4, d5⟩ ⟨a0, a1, a2⟩ = ⟨m0, m1, m2⟩ := ⟨_, _, _, rfl⟩
          rw [hm] at hpm hsm heq
          dsimp only at hpm hsm
          have hq := fun w' => (eqP3 (t := 38) Try.underlying38 ⟨l0, l1, l2⟩ ⟨m0, m1, m2⟩ w').1
          simp only [heq, decide_true] at hq
          have hE := Lib.hid hE0
          have HPL := Lib.hid hpl; have HPM := Lib.hid hpm
          clear hpl hpm hE0 hR0 hql hqm hp k2 hsl hsm hb1 hb2 hl hm heq
          go_upto_region 6 with (first | (go_at_call_of 62 (Value.agg #[.int .i64 c0, .int .i64 c1, .int .i64 c2, .int .i64 c3, .int .i64 c4, .int .i64 c5]); refine (HPL.out _).mono ?_; rintro e w3 ⟨rfl, hb3⟩; obtain ⟨hc3, hf3⟩ := bcell hb3; have hz3 := hb3.size; (try simp only [World.size_alloc, World.size_setCell, World.size_drew] at hz3); (try (have hy3w0 : w.heap.size < w3.heap.size := by omega)); (try (have hy3w1 : w.heap.size + 1 < w3.heap.size := by omega)); (try (have hy3w2 : w.heap.size + 1 + 1 < w3.heap.size := by omega)); (try (have hy3w3 : w.heap.size + 1 + 1 + 1 < w3.heap.size := by omega)); (try (have hy3w4 : w.heap.size + 1 + 1 + 1 + 1 < w3.heap.size := by omega)); (try (have hy3wc0 : wc.heap.size < w3.heap.size := by omega)); (try (have hy3wc1 : wc.heap.size + 1 < w3.heap.size := by omega)); (try (have hy3wc2 : wc.heap.size + 1 + 1 < w3.heap.size := by omega)); (try (have hy3wc3 : wc.heap.size + 1 + 1 + 1 < w3.heap.size := by omega)); (try (have hy3wc4 : wc.heap.size + 1 + 1 + 1 + 1 < w3.heap.size := by omega)); (try (have hy3w10 : w1.heap.size < w3.heap.size := by omega)); (try (have hy3w11 : w1.heap.size + 1 < w3.heap.size := by omega)); (try (have hy3w12 : w1.heap.size + 1 + 1 < w3.heap.size := by omega)); (try (have hy3w13 : w1.heap.size + 1 + 1 + 1 < w3.heap.size := by omega)); (try (have hy3w14 : w1.heap.size + 1 + 1 + 1 + 1 < w3.heap.size := by omega)); (try (have hy3w20 : w2.heap.size < w3.heap.size := by omega)); (try (have hy3w21 : w2.heap.size + 1 < w3.heap.size := by omega)); (try (have hy3w22 : w2.heap.size + 1 + 1 < w3.heap.size := by omega)); (try (have hy3w23 : w2.heap.size + 1 + 1 + 1 < w3.heap.size := by omega)); (try (have hy3w24 : w2.heap.size + 1 + 1 + 1 + 1 < w3.heap.size := by omega))) | (go_at_call_of 62 (Value.agg #[.int .i64 d0, .int .i64 d1, .int .i64 d2, .int .i64 d3, .int .i64 d4, .int .i64 d5]); refine (HPM.out _).mono ?_; rintro e w4 ⟨rfl, hb4⟩; obtain ⟨hc4, hf4⟩ := bcell hb4; have hz4 := hb4.size; (try simp only [World.size_alloc, World.size_setCell, World.size_drew] at hz4); (try (have hy4w0 : w.heap.size < w4.heap.size := by omega)); (try (have hy4w1 : w.heap.size + 1 < w4.heap.size := by omega)); (try (have hy4w2 : w.heap.size + 1 + 1 < w4.heap.size := by omega)); (try (have hy4w3 : w.heap.size + 1 + 1 + 1 < w4.heap.size := by omega)); (try (have hy4w4 : w.heap.size + 1 + 1 + 1 + 1 < w4.heap.size := by omega)); (try (have hy4wc0 : wc.heap.size < w4.heap.size := by omega)); (try (have hy4wc1 : wc.heap.size + 1 < w4.heap.size := by omega)); (try (have hy4wc2 : wc.heap.size + 1 + 1 < w4.heap.size := by omega)); (try (have hy4wc3 : wc.heap.size + 1 + 1 + 1 < w4.heap.size := by omega)); (try (have hy4wc4 : wc.heap.size + 1 + 1 + 1 + 1 < w4.heap.size := by omega)); (try (have hy4w10 : w1.heap.size < w4.heap.size := by omega)); (try (have hy4w11 : w1.heap.size + 1 < w4.heap.size := by omega)); (try (have hy4w12 : w1.heap.size + 1 + 1 < w4.heap.size := by omega)); (try (have hy4w13 : w1.heap.size + 1 + 1 + 1 < w4.heap.size := by omega)); (try (have hy4w14 : w1.heap.size + 1 + 1 + 1 + 1 < w4.heap.size := by omega)); (try (have hy4w20 : w2.heap.size < w4.heap.size := by omega)); (try (have hy4w21 : w2.heap.size + 1 < w4.heap.size := by omega)); (try (have hy4w22 : w2.heap.size + 1 + 1 < w4.heap.size := by omega)); (try (have hy4w23 : w2.heap.size + 1 + 1 + 1 < w4.heap.size := by omega)); (try (have hy4w24 : w2.heap.size + 1 + 1 + 1 + 1 < w4.heap.size := by omega)); (try (have hy4w30 : w3.heap.size < w4.heap.size := by omega)); (try (have hy4w31 : w3.heap.size + 1 < w4.heap.size := by omega)); (try (have hy4w32 : w3.heap.size + 1 + 1 < w4.heap.size := by omega)); (try (have hy4w33 : w3.heap.size + 1 + 1 + 1 < w4.heap.size := by omega)); (try (have hy4w34 : w3.heap.size + 1 + 1 + 1 + 1 < w4.heap.size := by omega))))
          have ltr := BR.lt
          refine wp_name (fun w' => Box 38 w' w3.heap.size [l0, l1, l2] ∧ Box 38 w' w4.heap.size [m0, m1, m2] ∧ Box 35 w' (w.heap.size + 1 + 1 + 1) [0, 0, 0] ∧ Below w.heap.size w w') ⟨Box.alloc (Box.below hb4 (Box.new [l0, l1, l2] rfl)) _, Box.new [m0, m1, m2] rfl, Box.alloc (Box.below hb4 (Box.alloc (Box.below hb3 BR) _)) _, by (repeat' (first | (with_reducible exact Below.refl _ _) | (with_reducible assumption) | (with_reducible refine Below.alloc ?_ ?_ _) | (with_reducible refine Below.drew ?_) | (with_reducible refine below_drewN ?_ _) | (with_reducible refine Below.setCell ?_ ?_ _) | (refine Below.step ?_ (by with_reducible assumption) ?_) | go_size))⟩ ?_
          rintro wd ⟨BG, BH, BX, hBd⟩
          have hzd := hBd.size
          have hw3 : w.heap.size + 1 + 1 + 1 + 1 ≤ w3.heap.size := by omega
          have hw4 : w3.heap.size + 1 ≤ w4.heap.size := by omega
          clear BR hB ltr hb3 hb4 hc3 hc4 hf3 hf4
          have sg0 := BG.cell 0 rfl; have sh0 := BH.cell 0 rfl; have sr0 := BX.cell 0 rfl; have sf0 := BX.frz 0
          have sg1 := BG.cell 1 rfl; have sh1 := BH.cell 1 rfl; have sr1 := BX.cell 1 rfl; have sf1 := BX.frz 1
          have sg2 := BG.cell 2 rfl; have sh2 := BH.cell 2 rfl; have sr2 := BX.cell 2 rfl; have sf2 := BX.frz 2
          go_wp2_with fail
          (try simp only [Exit.inBlock, Exit.then]); refine bodyPost_ret (by simp [results, Try.results32, go_sem, *]; try rfl) rfl ?_
          exact ⟨by rw [hE.out]; try rfl, by (repeat' (first | (with_reducible exact Below.refl _ _) | (with_reducible assumption) | (with_reducible refine Below.alloc ?_ ?_ _) | (with_reducible refine Below.drew ?_) | (with_reducible refine below_drewN ?_ _) | (with_reducible refine Below.setCell ?_ ?_ _) | (refine Below.step ?_ (by with_reducible assumption) ?_) | go_size))⟩
        · have hE0 : spR p ⟨c0, c1, c2, c3, c4, c5⟩ ⟨d0, d1, d2, d3, d4, d5⟩ ⟨a0, a1, a2⟩ = (crs p (plL p ⟨c0, c1, c2, c3, c4, c5⟩ ⟨a0, a1, a2⟩) (plL p ⟨d0, d1, d2, d3, d4, d5⟩ ⟨a0, a1, a2⟩), 0) := by rw [hR0]; simp [hb1, hb2, heq]
          rw [plM_ok hb1] at hpl
          rw [plM_ok hb2] at hpm
          dsimp only at hpl hpm
          have hpa := hql hb1; have hpb := hqm hb2
          have hcm := crs_made hpa hpb heq
          obtain ⟨l0, l1, l2, hl⟩ : ∃ l0 l1 l2, plL p ⟨c0, c1, c2, c3, c4, c5⟩ ⟨a0, a1, a2⟩ = ⟨l0, l1, l2⟩ := ⟨_, _, _, rfl⟩
          rw [hl] at hpl hsl hE0 heq hcm
          dsimp only at hpl hsl
          obtain ⟨m0, m1, m2, hm⟩ : ∃ m0 m1 m2, plL p ⟨d0, d1, d2, d3, d4, d5⟩ ⟨a0, a1, a2⟩ = ⟨m0, m1, m2⟩ := ⟨_, _, _, rfl⟩
          rw [hm] at hpm hsm hE0 heq hcm
          dsimp only at hpm hsm
          have hq := fun w' => (eqP3 (t := 38) Try.underlying38 ⟨l0, l1, l2⟩ ⟨m0, m1, m2⟩ w').1
          simp only [heq, decide_false] at hq
          obtain ⟨x0, x1, x2, hx⟩ : ∃ x0 x1 x2, crs p ⟨l0, l1, l2⟩ ⟨m0, m1, m2⟩ = ⟨x0, x1, x2⟩ := ⟨_, _, _, rfl⟩
          obtain ⟨sl0, sl1, sl2⟩ := hsl
          obtain ⟨sm0, sm1, sm2⟩ := hsm
          have hmt := fun w' => l01Meet_any p l0 l1 l2 m0 m1 m2 w' hp k2 sl0 sl1 sl2 sm0 sm1 sm2
          dsimp only at hcm
          rw [hcm, hx] at hmt
          rw [hx] at hE0
          dsimp only at hmt
          have HMT := Lib.hid hmt
          clear hmt hcm hx hpa hpb
          have hE := Lib.hid hE0
          have HPL := Lib.hid hpl; have HPM := Lib.hid hpm
          clear hpl hpm hE0 hR0 hql hqm hp k2 hb1 hb2 hl hm heq sl0 sl1 sl2 sm0 sm1 sm2
          go_upto_region 6 with (first | (go_at_call_of 62 (Value.agg #[.int .i64 c0, .int .i64 c1, .int .i64 c2, .int .i64 c3, .int .i64 c4, .int .i64 c5]); refine (HPL.out _).mono ?_; rintro e w3 ⟨rfl, hb3⟩; obtain ⟨hc3, hf3⟩ := bcell hb3; have hz3 := hb3.size; (try simp only [World.size_alloc, World.size_setCell, World.size_drew] at hz3); (try (have hy3w0 : w.heap.size < w3.heap.size := by omega)); (try (have hy3w1 : w.heap.size + 1 < w3.heap.size := by omega)); (try (have hy3w2 : w.heap.size + 1 + 1 < w3.heap.size := by omega)); (try (have hy3w3 : w.heap.size + 1 + 1 + 1 < w3.heap.size := by omega)); (try (have hy3w4 : w.heap.size + 1 + 1 + 1 + 1 < w3.heap.size := by omega)); (try (have hy3wc0 : wc.heap.size < w3.heap.size := by omega)); (try (have hy3wc1 : wc.heap.size + 1 < w3.heap.size := by omega)); (try (have hy3wc2 : wc.heap.size + 1 + 1 < w3.heap.size := by omega)); (try (have hy3wc3 : wc.heap.size + 1 + 1 + 1 < w3.heap.size := by omega)); (try (have hy3wc4 : wc.heap.size + 1 + 1 + 1 + 1 < w3.heap.size := by omega)); (try (have hy3w10 : w1.heap.size < w3.heap.size := by omega)); (try (have hy3w11 : w1.heap.size + 1 < w3.heap.size := by omega)); (try (have hy3w12 : w1.heap.size + 1 + 1 < w3.heap.size := by omega)); (try (have hy3w13 : w1.heap.size + 1 + 1 + 1 < w3.heap.size := by omega)); (try (have hy3w14 : w1.heap.size + 1 + 1 + 1 + 1 < w3.heap.size := by omega)); (try (have hy3w20 : w2.heap.size < w3.heap.size := by omega)); (try (have hy3w21 : w2.heap.size + 1 < w3.heap.size := by omega)); (try (have hy3w22 : w2.heap.size + 1 + 1 < w3.heap.size := by omega)); (try (have hy3w23 : w2.heap.size + 1 + 1 + 1 < w3.heap.size := by omega)); (try (have hy3w24 : w2.heap.size + 1 + 1 + 1 + 1 < w3.heap.size := by omega))) | (go_at_call_of 62 (Value.agg #[.int .i64 d0, .int .i64 d1, .int .i64 d2, .int .i64 d3, .int .i64 d4, .int .i64 d5]); refine (HPM.out _).mono ?_; rintro e w4 ⟨rfl, hb4⟩; obtain ⟨hc4, hf4⟩ := bcell hb4; have hz4 := hb4.size; (try simp only [World.size_alloc, World.size_setCell, World.size_drew] at hz4); (try (have hy4w0 : w.heap.size < w4.heap.size := by omega)); (try (have hy4w1 : w.heap.size + 1 < w4.heap.size := by omega)); (try (have hy4w2 : w.heap.size + 1 + 1 < w4.heap.size := by omega)); (try (have hy4w3 : w.heap.size + 1 + 1 + 1 < w4.heap.size := by omega)); (try (have hy4w4 : w.heap.size + 1 + 1 + 1 + 1 < w4.heap.size := by omega)); (try (have hy4wc0 : wc.heap.size < w4.heap.size := by omega)); (try (have hy4wc1 : wc.heap.size + 1 < w4.heap.size := by omega)); (try (have hy4wc2 : wc.heap.size + 1 + 1 < w4.heap.size := by omega)); (try (have hy4wc3 : wc.heap.size + 1 + 1 + 1 < w4.heap.size := by omega)); (try (have hy4wc4 : wc.heap.size + 1 + 1 + 1 + 1 < w4.heap.size := by omega)); (try (have hy4w10 : w1.heap.size < w4.heap.size := by omega)); (try (have hy4w11 : w1.heap.size + 1 < w4.heap.size := by omega)); (try (have hy4w12 : w1.heap.size + 1 + 1 < w4.heap.size := by omega)); (try (have hy4w13 : w1.heap.size + 1 + 1 + 1 < w4.heap.size := by omega)); (try (have hy4w14 : w1.heap.size + 1 + 1 + 1 + 1 < w4.heap.size := by omega)); (try (have hy4w20 : w2.heap.size < w4.heap.size := by omega)); (try (have hy4w21 : w2.heap.size + 1 < w4.heap.size := by omega)); (try (have hy4w22 : w2.heap.size + 1 + 1 < w4.heap.size := by omega)); (try (have hy4w23 : w2.heap.size + 1 + 1 + 1 < w4.heap.size := by omega)); (try (have hy4w24 : w2.heap.size + 1 + 1 + 1 + 1 < w4.heap.size := by omega)); (try (have hy4w30 : w3.heap.size < w4.heap.size := by omega)); (try (have hy4w31 : w3.heap.size + 1 < w4.heap.size := by omega)); (try (have hy4w32 : w3.heap.size + 1 + 1 < w4.heap.size := by omega)); (try (have hy4w33 : w3.heap.size + 1 + 1 + 1 < w4.heap.size := by omega)); (try (have hy4w34 : w3.heap.size + 1 + 1 + 1 + 1 < w4.heap.size := by omega))))
          have ltr := BR.lt
          refine wp_name (fun w' => Box 38 w' w3.heap.size [l0, l1, l2] ∧ Box 38 w' w4.heap.size [m0, m1, m2] ∧ Box 35 w' (w.heap.size + 1 + 1 + 1) [0, 0, 0] ∧ Below w.heap.size w w') ⟨Box.alloc (Box.below hb4 (Box.new [l0, l1, l2] rfl)) _, Box.new [m0, m1, m2] rfl, Box.alloc (Box.below hb4 (Box.alloc (Box.below hb3 BR) _)) _, by (repeat' (first | (with_reducible exact Below.refl _ _) | (with_reducible assumption) | (with_reducible refine Below.alloc ?_ ?_ _) | (with_reducible refine Below.drew ?_) | (with_reducible refine below_drewN ?_ _) | (with_reducible refine Below.setCell ?_ ?_ _) | (refine Below.step ?_ (by with_reducible assumption) ?_) | go_size))⟩ ?_
          rintro wd ⟨BG, BH, BX, hBd⟩
          have hzd := hBd.size
          have hw3 : w.heap.size + 1 + 1 + 1 + 1 ≤ w3.heap.size := by omega
          have hw4 : w3.heap.size + 1 ≤ w4.heap.size := by omega
          clear BR hB ltr hb3 hb4 hc3 hc4 hf3 hf4
          have sg0 := BG.cell 0 rfl; have sh0 := BH.cell 0 rfl; have sr0 := BX.cell 0 rfl; have sf0 := BX.frz 0
          have sg1 := BG.cell 1 rfl; have sh1 := BH.cell 1 rfl; have sr1 := BX.cell 1 rfl; have sf1 := BX.frz 1
          have sg2 := BG.cell 2 rfl; have sh2 := BH.cell 2 rfl; have sr2 := BX.cell 2 rfl; have sf2 := BX.frz 2
          go_upto_region 9 with (go_at_call 74; refine (HMT.out _).mono ?_; rintro e w5 ⟨rfl, hb5⟩)
          have hz5 := hb5.size
          refine wp_name (fun w' => Box 35 w' w5.heap.size [x0, x1, x2] ∧ Box 35 w' (w.heap.size + 1 + 1 + 1) [0, 0, 0] ∧ Below w.heap.size w w') ⟨Box.new [x0, x1, x2] rfl, Box.alloc (Box.below hb5 BX) _, by (repeat' (first | (with_reducible exact Below.refl _ _) | (with_reducible assumption) | (with_reducible refine Below.alloc ?_ ?_ _) | (with_reducible refine Below.drew ?_) | (with_reducible refine below_drewN ?_ _) | (with_reducible refine Below.setCell ?_ ?_ _) | (refine Below.step ?_ (by with_reducible assumption) ?_) | go_size))⟩ ?_
          rintro we ⟨BK, BY, hBe⟩
          have hze := hBe.size
          clear sr0 sr1 sr2 sf0 sf1 sf2 sg0 sg1 sg2 sh0 sh1 sh2 hb5 BX BG BH
          have sg0 := BK.cell 0 rfl; have sr0 := BY.cell 0 rfl; have sf0 := BY.frz 0
          have sg1 := BK.cell 1 rfl; have sr1 := BY.cell 1 rfl; have sf1 := BY.frz 1
          have sg2 := BK.cell 2 rfl; have sr2 := BY.cell 2 rfl; have sf2 := BY.frz 2
          go_wp2_with fail
          (try simp only [Exit.inBlock, Exit.then]); refine bodyPost_ret (by simp [results, Try.results32, go_sem, *]; try rfl) rfl ?_
          exact ⟨by rw [hE.out]; try rfl, by (repeat' (first | (with_reducible exact Below.refl _ _) | (with_reducible assumption) | (with_reducible refine Below.alloc ?_ ?_ _) | (with_reducible refine Below.drew ?_) | (with_reducible refine below_drewN ?_ _) | (with_reducible refine Below.setCell ?_ ?_ _) | (refine Below.step ?_ (by with_reducible assumption) ?_) | go_size))⟩
end Go.Proofs.Ytemimkbngfbomaa
