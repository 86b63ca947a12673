/- PolarOf: what the two functions return; no condition. -/
import Derived.Test.YtemimkbngfbomaaW55
import Derived.Deep.RegionWith
import Derived.Deep.RegionHeld3
import Derived.Deep.DeepCutAuto
namespace Go.Proofs.Ytemimkbngfbomaa
open Go.RowKit
set_option linter.unusedSimpArgs false
set_option linter.unusedVariables false
set_option maxRecDepth 100000

def poCode (p : Int) (c : C6) (a : P3) : Int := coCode p (allPt p [a]) [c]
def poLR (p : Int) (c : C6) (a : P3) : P3 × Int := if poCode p c a = 0 then (if plB p c a then (plL p c a, 0) else (⟨0, 0, 0⟩, 5)) else (⟨0, 0, 0⟩, poCode p c a)
set_option maxHeartbeats 4000000 in
theorem PolarOf_any (p c0 c1 c2 c3 c4 c5 a0 a1 a2 : Int) (w : World) :
    Calls Try.prog 23 #[.int .i64 p, .agg #[.int .i64 c0, .int .i64 c1, .int .i64 c2, .int .i64 c3, .int .i64 c4, .int .i64 c5], .agg #[.int .i64 a0, .int .i64 a1, .int .i64 a2]] w fun e w' => e = .returned (.tuple #[.agg #[.int .i64 ((poLR p ⟨c0, c1, c2, c3, c4, c5⟩ ⟨a0, a1, a2⟩).1).x, .int .i64 ((poLR p ⟨c0, c1, c2, c3, c4, c5⟩ ⟨a0, a1, a2⟩).1).y, .int .i64 ((poLR p ⟨c0, c1, c2, c3, c4, c5⟩ ⟨a0, a1, a2⟩).1).z], .int .i64 (poLR p ⟨c0, c1, c2, c3, c4, c5⟩ ⟨a0, a1, a2⟩).2]) ∧ Below w.heap.size w w' := by
  go_enter Try.func23, Try.ntmps23
  go_upto_region 1 with fail
  refine wp_name (fun w' => Box 24 w' (w.heap.size) [c0, c1, c2, c3, c4, c5] ∧ Box 35 w' (w.heap.size + 1) [a0, a1, a2] ∧ Box 38 w' (w.heap.size + 1 + 1) [0, 0, 0] ∧ Below w.heap.size w w') ⟨Box.alloc (Box.alloc (Box.new [c0, c1, c2, c3, c4, c5] (by simp)) _) _, Box.alloc (Box.new [a0, a1, a2] (by simp)) _, Box.new [0, 0, 0] (by simp), by (repeat' (first | (with_reducible exact Below.refl _ _) | (with_reducible assumption) | (with_reducible refine Below.alloc ?_ ?_ _) | (with_reducible refine Below.drew ?_) | (with_reducible refine below_drewN ?_ _) | (with_reducible refine Below.setCell ?_ ?_ _) | (refine Below.step ?_ (by with_reducible assumption) ?_) | go_size))⟩ ?_
  rintro wq ⟨Bc, Ba, BR, hB⟩
  have hz := hB.size
  have qc0 := Bc.cell 0 rfl
  have qc1 := Bc.cell 1 rfl
  have qc2 := Bc.cell 2 rfl
  have qc3 := Bc.cell 3 rfl
  have qc4 := Bc.cell 4 rfl
  have qc5 := Bc.cell 5 rfl
  have ltc := Bc.lt
  have qa0 := Ba.cell 0 rfl
  have qa1 := Ba.cell 1 rfl
  have qa2 := Ba.cell 2 rfl
  have lta := Ba.lt
  have hsz : w.heap.size + 1 + 1 + 1 ≤ wq.heap.size := BR.lt
  go_cut [8] (fun s8 w' => s8 = .int .i64 (poCode p ⟨c0, c1, c2, c3, c4, c5⟩ ⟨a0, a1, a2⟩) ∧ Box 24 w' (w.heap.size) [c0, c1, c2, c3, c4, c5] ∧ Box 35 w' (w.heap.size + 1) [a0, a1, a2] ∧ Box 38 w' (w.heap.size + 1 + 1) [0, 0, 0] ∧ Below w.heap.size w w')
  case first =>
    go_region_held3 (fun w' => w'.cell? ⟨w.heap.size, 0, none⟩ = some (.int .i64 c0) ∧ w'.cell? ⟨w.heap.size, 1, none⟩ = some (.int .i64 c1) ∧ w'.cell? ⟨w.heap.size, 2, none⟩ = some (.int .i64 c2) ∧ w'.cell? ⟨w.heap.size, 3, none⟩ = some (.int .i64 c3) ∧ w'.cell? ⟨w.heap.size, 4, none⟩ = some (.int .i64 c4) ∧ w'.cell? ⟨w.heap.size, 5, none⟩ = some (.int .i64 c5) ∧ w'.cell? ⟨w.heap.size + 1, 0, none⟩ = some (.int .i64 a0) ∧ w'.cell? ⟨w.heap.size + 1, 1, none⟩ = some (.int .i64 a1) ∧ w'.cell? ⟨w.heap.size + 1, 2, none⟩ = some (.int .i64 a2) ∧ Box 24 w' (w.heap.size) [c0, c1, c2, c3, c4, c5] ∧ Box 35 w' (w.heap.size + 1) [a0, a1, a2] ∧ Box 38 w' (w.heap.size + 1 + 1) [0, 0, 0] ∧ Below w.heap.size w w' ∧ w.heap.size + 1 + 1 + 1 ≤ w'.heap.size) ((go_split_ands; (repeat (any_goals (with_reducible apply And.intro))) <;> ((repeat (first | (with_reducible assumption) | (with_reducible exact Below.refl _ _) | (with_reducible refine keepD ?_) | (with_reducible refine Below.drew ?_) | (with_reducible refine Box.drew ?_) | (with_reducible refine sizeD ?_) | (with_reducible exact keepC (by with_reducible assumption) (by with_reducible assumption)) | (with_reducible exact Box.below (by with_reducible assumption) (by with_reducible assumption)) | (with_reducible exact keepB (by with_reducible assumption) (by with_reducible assumption) (Nat.le_refl _)) | (with_reducible exact sizeC (by with_reducible assumption) (by with_reducible assumption)) | (with_reducible refine keepA _ ?_) | (with_reducible refine Box.alloc ?_ _) | (with_reducible refine allocB ?_ (Nat.le_refl _) _) | (with_reducible refine sizeA ?_ _))); done))) ((first | (go_at_call 59; refine (arePoints_any p _ 0 _ [⟨a0, a1, a2⟩] _ (rdp1 (by go_cell) (by go_cell) (by go_cell)) (by go_size) (by simp)).mono ?_; rintro e w1 ⟨rfl, hb1⟩; obtain ⟨hc1, hf1⟩ := bcell hb1; have hz1 := hb1.size; (try simp only [World.size_alloc, World.size_setCell, World.size_drew] at hz1); (try (have hy1w0 : w.heap.size < w1.heap.size := by omega)); (try (have hy1w1 : w.heap.size + 1 < w1.heap.size := by omega)); (try (have hy1w2 : w.heap.size + 1 + 1 < w1.heap.size := by omega)); (try (have hy1w3 : w.heap.size + 1 + 1 + 1 < w1.heap.size := by omega)); (try (have hy1w4 : w.heap.size + 1 + 1 + 1 + 1 < w1.heap.size := by omega)); (try (have hy1wc0 : wc.heap.size < w1.heap.size := by omega)); (try (have hy1wc1 : wc.heap.size + 1 < w1.heap.size := by omega)); (try (have hy1wc2 : wc.heap.size + 1 + 1 < w1.heap.size := by omega)); (try (have hy1wc3 : wc.heap.size + 1 + 1 + 1 < w1.heap.size := by omega)); (try (have hy1wc4 : wc.heap.size + 1 + 1 + 1 + 1 < w1.heap.size := by omega))) | (go_at_call 58; refine (conicsCode_any p _ _ _ [⟨c0, c1, c2, c3, c4, c5⟩] _ (rdC6_1 (by go_cell) (by go_cell) (by go_cell) (by go_cell) (by go_cell) (by go_cell)) (by go_size) (by simp)).mono ?_; rintro e w2 ⟨rfl, hb2⟩; obtain ⟨hc2, hf2⟩ := bcell hb2; have hz2 := hb2.size; (try simp only [World.size_alloc, World.size_setCell, World.size_drew] at hz2); (try (have hy2w0 : w.heap.size < w2.heap.size := by omega)); (try (have hy2w1 : w.heap.size + 1 < w2.heap.size := by omega)); (try (have hy2w2 : w.heap.size + 1 + 1 < w2.heap.size := by omega)); (try (have hy2w3 : w.heap.size + 1 + 1 + 1 < w2.heap.size := by omega)); (try (have hy2w4 : w.heap.size + 1 + 1 + 1 + 1 < w2.heap.size := by omega)); (try (have hy2wc0 : wc.heap.size < w2.heap.size := by omega)); (try (have hy2wc1 : wc.heap.size + 1 < w2.heap.size := by omega)); (try (have hy2wc2 : wc.heap.size + 1 + 1 < w2.heap.size := by omega)); (try (have hy2wc3 : wc.heap.size + 1 + 1 + 1 < w2.heap.size := by omega)); (try (have hy2wc4 : wc.heap.size + 1 + 1 + 1 + 1 < w2.heap.size := by omega)); (try (have hy2w10 : w1.heap.size < w2.heap.size := by omega)); (try (have hy2w11 : w1.heap.size + 1 < w2.heap.size := by omega)); (try (have hy2w12 : w1.heap.size + 1 + 1 < w2.heap.size := by omega)); (try (have hy2w13 : w1.heap.size + 1 + 1 + 1 < w2.heap.size := by omega)); (try (have hy2w14 : w1.heap.size + 1 + 1 + 1 + 1 < w2.heap.size := by omega)))))
    all_goals (go_wp2_with fail; go_meet; refine And.intro rfl ?_; ((go_split_ands; (repeat (any_goals (with_reducible apply And.intro))) <;> ((repeat (first | (with_reducible assumption) | (with_reducible exact Below.refl _ _) | (with_reducible refine keepD ?_) | (with_reducible refine Below.drew ?_) | (with_reducible refine Box.drew ?_) | (with_reducible refine sizeD ?_) | (with_reducible exact keepC (by with_reducible assumption) (by with_reducible assumption)) | (with_reducible exact Box.below (by with_reducible assumption) (by with_reducible assumption)) | (with_reducible exact keepB (by with_reducible assumption) (by with_reducible assumption) (Nat.le_refl _)) | (with_reducible exact sizeC (by with_reducible assumption) (by with_reducible assumption)) | (with_reducible refine keepA _ ?_) | (with_reducible refine Box.alloc ?_ _) | (with_reducible refine allocB ?_ (Nat.le_refl _) _) | (with_reducible refine sizeA ?_ _))); done))))
  clear hB hz Bc ltc qc0 qc1 qc2 qc3 qc4 qc5 Ba lta qa0 qa1 qa2 hsz BR
  case' rest => obtain ⟨rfl, Bc, Ba, BR, hB⟩ := hcut; have hz := hB.size
  have sr0 := BR.cell 0 rfl; have sf0 := BR.frz 0
  have sr1 := BR.cell 1 rfl; have sf1 := BR.frz 1
  have sr2 := BR.cell 2 rfl; have sf2 := BR.frz 2
  have qc0 := Bc.cell 0 rfl
  have qc1 := Bc.cell 1 rfl
  have qc2 := Bc.cell 2 rfl
  have qc3 := Bc.cell 3 rfl
  have qc4 := Bc.cell 4 rfl
  have qc5 := Bc.cell 5 rfl
  have ltc := Bc.lt
  have qa0 := Ba.cell 0 rfl
  have qa1 := Ba.cell 1 rfl
  have qa2 := Ba.cell 2 rfl
  have lta := Ba.lt
  rcases coCode3 p (allPt p [⟨a0, a1, a2⟩]) [⟨c0, c1, c2, c3, c4, c5⟩] with hk | hk | ⟨hp, hok, hk⟩
  · have hE : Hid (poLR p ⟨c0, c1, c2, c3, c4, c5⟩ ⟨a0, a1, a2⟩ = (⟨0, 0, 0⟩, 2)) := by show _ = _; unfold poLR; rw [show poCode p ⟨c0, c1, c2, c3, c4, c5⟩ ⟨a0, a1, a2⟩ = 2 from hk]; rfl
    rw [show poCode p ⟨c0, c1, c2, c3, c4, c5⟩ ⟨a0, a1, a2⟩ = 2 from hk]
    go_wp2_with fail
    (try simp only [Exit.inBlock, Exit.then]); refine bodyPost_ret (by simp [results, Try.results23, go_sem, *]; try rfl) rfl ?_
    exact ⟨by rw [hE.out]; try rfl, by (repeat' (first | (with_reducible exact Below.refl _ _) | (with_reducible assumption) | (with_reducible refine Below.alloc ?_ ?_ _) | (with_reducible refine Below.drew ?_) | (with_reducible refine below_drewN ?_ _) | (with_reducible refine Below.setCell ?_ ?_ _) | (refine Below.step ?_ (by with_reducible assumption) ?_) | go_size))⟩
  · have hE : Hid (poLR p ⟨c0, c1, c2, c3, c4, c5⟩ ⟨a0, a1, a2⟩ = (⟨0, 0, 0⟩, 1)) := by show _ = _; unfold poLR; rw [show poCode p ⟨c0, c1, c2, c3, c4, c5⟩ ⟨a0, a1, a2⟩ = 1 from hk]; rfl
    rw [show poCode p ⟨c0, c1, c2, c3, c4, c5⟩ ⟨a0, a1, a2⟩ = 1 from hk]
    go_wp2_with fail
    (try simp only [Exit.inBlock, Exit.then]); refine bodyPost_ret (by simp [results, Try.results23, go_sem, *]; try rfl) rfl ?_
    exact ⟨by rw [hE.out]; try rfl, by (repeat' (first | (with_reducible exact Below.refl _ _) | (with_reducible assumption) | (with_reducible refine Below.alloc ?_ ?_ _) | (with_reducible refine Below.drew ?_) | (with_reducible refine below_drewN ?_ _) | (with_reducible refine Below.setCell ?_ ?_ _) | (refine Below.step ?_ (by with_reducible assumption) ?_) | go_size))⟩
  · obtain ⟨hpts, hco⟩ := cj_ok hok
    obtain ⟨sa0, sa1, sa2⟩ := pts1 hpts
    have hpl := fun w' => polar_any p c0 c1 c2 c3 c4 c5 a0 a1 a2 w' hp hco sa0 sa1 sa2
    rw [show poCode p ⟨c0, c1, c2, c3, c4, c5⟩ ⟨a0, a1, a2⟩ = 0 from hk]
    have HC0 : Hid (poCode p ⟨c0, c1, c2, c3, c4, c5⟩ ⟨a0, a1, a2⟩ = 0) := hk
    clear hk hok hpts hp hco sa0 sa1 sa2
    cases hb : plB p ⟨c0, c1, c2, c3, c4, c5⟩ ⟨a0, a1, a2⟩
    · have hE : Hid (poLR p ⟨c0, c1, c2, c3, c4, c5⟩ ⟨a0, a1, a2⟩ = (⟨0, 0, 0⟩, 5)) := by show _ = _; unfold poLR; rw [if_pos HC0.out, hb]; rfl
      rw [hb] at hpl
      obtain ⟨l0, l1, l2, hl⟩ : ∃ l0 l1 l2, plL p ⟨c0, c1, c2, c3, c4, c5⟩ ⟨a0, a1, a2⟩ = ⟨l0, l1, l2⟩ := ⟨_, _, _, rfl⟩
      rw [hl] at hpl
      dsimp only at hpl
      have HPL := Lib.hid hpl; clear hpl hb hl
      go_upto_region 5 with (go_at_call 63; refine (HPL.out _).mono ?_; rintro e w3 ⟨rfl, hb3⟩)
      have hz3 := hb3.size
      have ltr := BR.lt
      refine wp_name (fun w' => Box 38 w' w3.heap.size [l0, l1, l2] ∧ Box 38 w' (w.heap.size + 1 + 1) [0, 0, 0] ∧ Below w.heap.size w w') ⟨Box.new [l0, l1, l2] rfl, Box.alloc (Box.below hb3 BR) _, by (repeat' (first | (with_reducible exact Below.refl _ _) | (with_reducible assumption) | (with_reducible refine Below.alloc ?_ ?_ _) | (with_reducible refine Below.drew ?_) | (with_reducible refine below_drewN ?_ _) | (with_reducible refine Below.setCell ?_ ?_ _) | (refine Below.step ?_ (by with_reducible assumption) ?_) | go_size))⟩ ?_
      rintro wd ⟨BG, BX, hBd⟩
      clear BR hB ltr hb3
      have sg0 := BG.cell 0 rfl; have sr0 := BX.cell 0 rfl; have sf0 := BX.frz 0
      have sg1 := BG.cell 1 rfl; have sr1 := BX.cell 1 rfl; have sf1 := BX.frz 1
      have sg2 := BG.cell 2 rfl; have sr2 := BX.cell 2 rfl; have sf2 := BX.frz 2
      go_wp2_with fail
      (try simp only [Exit.inBlock, Exit.then]); refine bodyPost_ret (by simp [results, Try.results23, go_sem, *]; try rfl) rfl ?_
      exact ⟨by rw [hE.out]; try rfl, by (repeat' (first | (with_reducible exact Below.refl _ _) | (with_reducible assumption) | (with_reducible refine Below.alloc ?_ ?_ _) | (with_reducible refine Below.drew ?_) | (with_reducible refine below_drewN ?_ _) | (with_reducible refine Below.setCell ?_ ?_ _) | (refine Below.step ?_ (by with_reducible assumption) ?_) | go_size))⟩
    · have hE : Hid (poLR p ⟨c0, c1, c2, c3, c4, c5⟩ ⟨a0, a1, a2⟩ = (plL p ⟨c0, c1, c2, c3, c4, c5⟩ ⟨a0, a1, a2⟩, 0)) := by show _ = _; unfold poLR; rw [if_pos HC0.out, hb]; rfl
      rw [hb] at hpl
      obtain ⟨l0, l1, l2, hl⟩ : ∃ l0 l1 l2, plL p ⟨c0, c1, c2, c3, c4, c5⟩ ⟨a0, a1, a2⟩ = ⟨l0, l1, l2⟩ := ⟨_, _, _, rfl⟩
      rw [hl] at hpl hE
      dsimp only at hpl
      have HPL := Lib.hid hpl; clear hpl hb hl
      go_upto_region 5 with (go_at_call 63; refine (HPL.out _).mono ?_; rintro e w3 ⟨rfl, hb3⟩)
      have hz3 := hb3.size
      have ltr := BR.lt
      refine wp_name (fun w' => Box 38 w' w3.heap.size [l0, l1, l2] ∧ Box 38 w' (w.heap.size + 1 + 1) [0, 0, 0] ∧ Below w.heap.size w w') ⟨Box.new [l0, l1, l2] rfl, Box.alloc (Box.below hb3 BR) _, by (repeat' (first | (with_reducible exact Below.refl _ _) | (with_reducible assumption) | (with_reducible refine Below.alloc ?_ ?_ _) | (with_reducible refine Below.drew ?_) | (with_reducible refine below_drewN ?_ _) | (with_reducible refine Below.setCell ?_ ?_ _) | (refine Below.step ?_ (by with_reducible assumption) ?_) | go_size))⟩ ?_
      rintro wd ⟨BG, BX, hBd⟩
      clear BR hB ltr hb3
      have sg0 := BG.cell 0 rfl; have sr0 := BX.cell 0 rfl; have sf0 := BX.frz 0
      have sg1 := BG.cell 1 rfl; have sr1 := BX.cell 1 rfl; have sf1 := BX.frz 1
      have sg2 := BG.cell 2 rfl; have sr2 := BX.cell 2 rfl; have sf2 := BX.frz 2
      go_wp2_with fail
      (try simp only [Exit.inBlock, Exit.then]); refine bodyPost_ret (by simp [results, Try.results23, go_sem, *]; try rfl) rfl ?_
      exact ⟨by rw [hE.out]; try rfl, by (repeat' (first | (with_reducible exact Below.refl _ _) | (with_reducible assumption) | (with_reducible refine Below.alloc ?_ ?_ _) | (with_reducible refine Below.drew ?_) | (with_reducible refine below_drewN ?_ _) | (with_reducible refine Below.setCell ?_ ?_ _) | (refine Below.step ?_ (by with_reducible assumption) ?_) | go_size))⟩
set_option maxHeartbeats 4000000 in
theorem PolarOf_spec (p c0 c1 c2 c3 c4 c5 a0 a1 a2 : Int) (w : World) :
    Calls Try.prog 22 #[.int .i64 p, .agg #[.int .i64 c0, .int .i64 c1, .int .i64 c2, .int .i64 c3, .int .i64 c4, .int .i64 c5], .agg #[.int .i64 a0, .int .i64 a1, .int .i64 a2]] w fun e w' => e = .returned (.tuple #[.agg #[.int .i64 ((poLR p ⟨c0, c1, c2, c3, c4, c5⟩ ⟨a0, a1, a2⟩).1).x, .int .i64 ((poLR p ⟨c0, c1, c2, c3, c4, c5⟩ ⟨a0, a1, a2⟩).1).y, .int .i64 ((poLR p ⟨c0, c1, c2, c3, c4, c5⟩ ⟨a0, a1, a2⟩).1).z], .int .i64 (poLR p ⟨c0, c1, c2, c3, c4, c5⟩ ⟨a0, a1, a2⟩).2]) ∧ Below w.heap.size w w' := by
  go_enter Try.func22, Try.ntmps22
  go_upto_region 1 with fail
  refine wp_name (fun w' => Box 24 w' (w.heap.size) [c0, c1, c2, c3, c4, c5] ∧ Box 35 w' (w.heap.size + 1) [a0, a1, a2] ∧ Box 38 w' (w.heap.size + 1 + 1) [0, 0, 0] ∧ Below w.heap.size w w') ⟨Box.alloc (Box.alloc (Box.new [c0, c1, c2, c3, c4, c5] (by simp)) _) _, Box.alloc (Box.new [a0, a1, a2] (by simp)) _, Box.new [0, 0, 0] (by simp), by (repeat' (first | (with_reducible exact Below.refl _ _) | (with_reducible assumption) | (with_reducible refine Below.alloc ?_ ?_ _) | (with_reducible refine Below.drew ?_) | (with_reducible refine below_drewN ?_ _) | (with_reducible refine Below.setCell ?_ ?_ _) | (refine Below.step ?_ (by with_reducible assumption) ?_) | go_size))⟩ ?_
  rintro wq ⟨Bc, Ba, BR, hB⟩
  have hz := hB.size
  have qc0 := Bc.cell 0 rfl
  have qc1 := Bc.cell 1 rfl
  have qc2 := Bc.cell 2 rfl
  have qc3 := Bc.cell 3 rfl
  have qc4 := Bc.cell 4 rfl
  have qc5 := Bc.cell 5 rfl
  have ltc := Bc.lt
  have qa0 := Ba.cell 0 rfl
  have qa1 := Ba.cell 1 rfl
  have qa2 := Ba.cell 2 rfl
  have lta := Ba.lt
  have ltR := BR.lt
  go_upto_region 2 with (go_at_call 56; refine (l03Code_any p c0 c1 c2 c3 c4 c5 _ _ [⟨a0, a1, a2⟩] _ (rdp1 (by go_cell) (by go_cell) (by go_cell)) (by go_size) (by simp)).mono ?_; rintro e w1 ⟨rfl, hb1⟩)
  have hz1 := hb1.size
  refine wp_name (fun w' => Box 24 w' w.heap.size [c0, c1, c2, c3, c4, c5] ∧ Box 35 w' (w.heap.size + 1) [a0, a1, a2] ∧ Box 38 w' (w.heap.size + 1 + 1) [0, 0, 0] ∧ Below w.heap.size w w') ⟨Box.below hb1 (Box.alloc Bc _), Box.below hb1 (Box.alloc Ba _), Box.below hb1 (Box.alloc BR _), by (repeat' (first | (with_reducible exact Below.refl _ _) | (with_reducible assumption) | (with_reducible refine Below.alloc ?_ ?_ _) | (with_reducible refine Below.drew ?_) | (with_reducible refine below_drewN ?_ _) | (with_reducible refine Below.setCell ?_ ?_ _) | (refine Below.step ?_ (by with_reducible assumption) ?_) | go_size))⟩ ?_
  clear Bc ltc qc0 qc1 qc2 qc3 qc4 qc5 Ba lta qa0 qa1 qa2 BR hB hz ltR hb1 hz1
  rintro wc ⟨Bc, Ba, BR, hB⟩
  have hz := hB.size
  have sr0 := BR.cell 0 rfl; have sf0 := BR.frz 0
  have sr1 := BR.cell 1 rfl; have sf1 := BR.frz 1
  have sr2 := BR.cell 2 rfl; have sf2 := BR.frz 2
  have qc0 := Bc.cell 0 rfl
  have qc1 := Bc.cell 1 rfl
  have qc2 := Bc.cell 2 rfl
  have qc3 := Bc.cell 3 rfl
  have qc4 := Bc.cell 4 rfl
  have qc5 := Bc.cell 5 rfl
  have ltc := Bc.lt
  have qa0 := Ba.cell 0 rfl
  have qa1 := Ba.cell 1 rfl
  have qa2 := Ba.cell 2 rfl
  have lta := Ba.lt
  rcases coCode3 p (allPt p [⟨a0, a1, a2⟩]) [⟨c0, c1, c2, c3, c4, c5⟩] with hk | hk | ⟨hp, hok, hk⟩
  · have hE : Hid (poLR p ⟨c0, c1, c2, c3, c4, c5⟩ ⟨a0, a1, a2⟩ = (⟨0, 0, 0⟩, 2)) := by show _ = _; unfold poLR; rw [show poCode p ⟨c0, c1, c2, c3, c4, c5⟩ ⟨a0, a1, a2⟩ = 2 from hk]; rfl
    rw [hk]
    go_wp2_with fail
    (try simp only [Exit.inBlock, Exit.then]); refine bodyPost_ret (by simp [results, Try.results22, go_sem, *]; try rfl) rfl ?_
    exact ⟨by rw [hE.out]; try rfl, by (repeat' (first | (with_reducible exact Below.refl _ _) | (with_reducible assumption) | (with_reducible refine Below.alloc ?_ ?_ _) | (with_reducible refine Below.drew ?_) | (with_reducible refine below_drewN ?_ _) | (with_reducible refine Below.setCell ?_ ?_ _) | (refine Below.step ?_ (by with_reducible assumption) ?_) | go_size))⟩
  · have hE : Hid (poLR p ⟨c0, c1, c2, c3, c4, c5⟩ ⟨a0, a1, a2⟩ = (⟨0, 0, 0⟩, 1)) := by show _ = _; unfold poLR; rw [show poCode p ⟨c0, c1, c2, c3, c4, c5⟩ ⟨a0, a1, a2⟩ = 1 from hk]; rfl
    rw [hk]
    go_wp2_with fail
    (try simp only [Exit.inBlock, Exit.then]); refine bodyPost_ret (by simp [results, Try.results22, go_sem, *]; try rfl) rfl ?_
    exact ⟨by rw [hE.out]; try rfl, by (repeat' (first | (with_reducible exact Below.refl _ _) | (with_reducible assumption) | (with_reducible refine Below.alloc ?_ ?_ _) | (with_reducible refine Below.drew ?_) | (with_reducible refine below_drewN ?_ _) | (with_reducible refine Below.setCell ?_ ?_ _) | (refine Below.step ?_ (by with_reducible assumption) ?_) | go_size))⟩
  · obtain ⟨hpts, hco⟩ := cj_ok hok
    obtain ⟨sa0, sa1, sa2⟩ := pts1 hpts
    have hpl := fun w' => l03Polar_any p c0 c1 c2 c3 c4 c5 a0 a1 a2 w' hp hco sa0 sa1 sa2
    rw [hk]
    have HC0 : Hid (poCode p ⟨c0, c1, c2, c3, c4, c5⟩ ⟨a0, a1, a2⟩ = 0) := hk
    clear hk hok hpts hp hco sa0 sa1 sa2
    cases hb : plB p ⟨c0, c1, c2, c3, c4, c5⟩ ⟨a0, a1, a2⟩
    · have hE : Hid (poLR p ⟨c0, c1, c2, c3, c4, c5⟩ ⟨a0, a1, a2⟩ = (⟨0, 0, 0⟩, 5)) := by show _ = _; unfold poLR; rw [if_pos HC0.out, hb]; rfl
      rw [plM_no hb] at hpl
      dsimp only at hpl
      have HPL := Lib.hid hpl; clear hpl hb
      go_upto_region 5 with (go_at_call 62; refine (HPL.out _).mono ?_; rintro e w3 ⟨rfl, hb3⟩)
      have hz3 := hb3.size
      have ltr := BR.lt
      refine wp_name (fun w' => Box 38 w' w3.heap.size [0, 0, 0] ∧ Box 38 w' (w.heap.size + 1 + 1) [0, 0, 0] ∧ Below w.heap.size w w') ⟨Box.new [0, 0, 0] rfl, Box.alloc (Box.below hb3 BR) _, by (repeat' (first | (with_reducible exact Below.refl _ _) | (with_reducible assumption) | (with_reducible refine Below.alloc ?_ ?_ _) | (with_reducible refine Below.drew ?_) | (with_reducible refine below_drewN ?_ _) | (with_reducible refine Below.setCell ?_ ?_ _) | (refine Below.step ?_ (by with_reducible assumption) ?_) | go_size))⟩ ?_
      rintro wd ⟨BG, BX, hBd⟩
      clear BR hB ltr hb3
      have sg0 := BG.cell 0 rfl; have sr0 := BX.cell 0 rfl; have sf0 := BX.frz 0
      have sg1 := BG.cell 1 rfl; have sr1 := BX.cell 1 rfl; have sf1 := BX.frz 1
      have sg2 := BG.cell 2 rfl; have sr2 := BX.cell 2 rfl; have sf2 := BX.frz 2
      go_wp2_with fail
      (try simp only [Exit.inBlock, Exit.then]); refine bodyPost_ret (by simp [results, Try.results22, go_sem, *]; try rfl) rfl ?_
      exact ⟨by rw [hE.out]; try rfl, by (repeat' (first | (with_reducible exact Below.refl _ _) | (with_reducible assumption) | (with_reducible refine Below.alloc ?_ ?_ _) | (with_reducible refine Below.drew ?_) | (with_reducible refine below_drewN ?_ _) | (with_reducible refine Below.setCell ?_ ?_ _) | (refine Below.step ?_ (by with_reducible assumption) ?_) | go_size))⟩
    · have hE : Hid (poLR p ⟨c0, c1, c2, c3, c4, c5⟩ ⟨a0, a1, a2⟩ = (plL p ⟨c0, c1, c2, c3, c4, c5⟩ ⟨a0, a1, a2⟩, 0)) := by show _ = _; unfold poLR; rw [if_pos HC0.out, hb]; rfl
      rw [plM_ok hb] at hpl
      dsimp only at hpl
      obtain ⟨l0, l1, l2, hl⟩ : ∃ l0 l1 l2, plL p ⟨c0, c1, c2, c3, c4, c5⟩ ⟨a0, a1, a2⟩ = ⟨l0, l1, l2⟩ := ⟨_, _, _, rfl⟩
      rw [hl] at hpl hE
      dsimp only at hpl
      have HPL := Lib.hid hpl; clear hpl hb hl
      go_upto_region 5 with (go_at_call 62; refine (HPL.out _).mono ?_; rintro e w3 ⟨rfl, hb3⟩)
      have hz3 := hb3.size
      have ltr := BR.lt
      refine wp_name (fun w' => Box 38 w' w3.heap.size [l0, l1, l2] ∧ Box 38 w' (w.heap.size + 1 + 1) [0, 0, 0] ∧ Below w.heap.size w w') ⟨Box.new [l0, l1, l2] rfl, Box.alloc (Box.below hb3 BR) _, by (repeat' (first | (with_reducible exact Below.refl _ _) | (with_reducible assumption) | (with_reducible refine Below.alloc ?_ ?_ _) | (with_reducible refine Below.drew ?_) | (with_reducible refine below_drewN ?_ _) | (with_reducible refine Below.setCell ?_ ?_ _) | (refine Below.step ?_ (by with_reducible assumption) ?_) | go_size))⟩ ?_
      rintro wd ⟨BG, BX, hBd⟩
      clear BR hB ltr hb3
      have sg0 := BG.cell 0 rfl; have sr0 := BX.cell 0 rfl; have sf0 := BX.frz 0
      have sg1 := BG.cell 1 rfl; have sr1 := BX.cell 1 rfl; have sf1 := BX.frz 1
      have sg2 := BG.cell 2 rfl; have sr2 := BX.cell 2 rfl; have sf2 := BX.frz 2
      go_wp2_with fail
      (try simp only [Exit.inBlock, Exit.then]); refine bodyPost_ret (by simp [results, Try.results22, go_sem, *]; try rfl) rfl ?_
      exact ⟨by rw [hE.out]; try rfl, by (repeat' (first | (with_reducible exact Below.refl _ _) | (with_reducible assumption) | (with_reducible refine Below.alloc ?_ ?_ _) | (with_reducible refine Below.drew ?_) | (with_reducible refine below_drewN ?_ _) | (with_reducible refine Below.setCell ?_ ?_ _) | (refine Below.step ?_ (by with_reducible assumption) ?_) | go_size))⟩
end Go.Proofs.Ytemimkbngfbomaa
