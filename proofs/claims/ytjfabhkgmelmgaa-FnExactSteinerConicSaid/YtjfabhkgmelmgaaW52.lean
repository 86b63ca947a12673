/- ConicOf: what the two functions return, for a slice of at most a million numbers; conics of six numbers. -/
import Derived.Test.YtjfabhkgmelmgaaW51
import Derived.Test.YtjfabhkgmelmgaaI3
import Derived.Laws.Cover3
import Derived.Test.YtjfabhkgmelmgaaH2
import Derived.Deep.RegionWith
import Derived.Deep.RegionHeld3
namespace Go.Proofs.Ytjfabhkgmelmgaa
open Go.RowKit
set_option linter.unusedSimpArgs false
set_option linter.unusedVariables false
set_option maxRecDepth 100000

/-- The conic with the normal list of six numbers. -/
def nmC (p x0 x1 x2 x3 x4 x5 : Int) : C6 := ⟨nr p (fac p [x0, x1, x2, x3, x4, x5]) x0, nr p (fac p [x0, x1, x2, x3, x4, x5]) x1, nr p (fac p [x0, x1, x2, x3, x4, x5]) x2, nr p (fac p [x0, x1, x2, x3, x4, x5]) x3, nr p (fac p [x0, x1, x2, x3, x4, x5]) x4, nr p (fac p [x0, x1, x2, x3, x4, x5]) x5⟩
def mdC (p x0 x1 x2 x3 x4 x5 : Int) : C6 × Bool := if fac p [x0, x1, x2, x3, x4, x5] = 0 then (⟨0, 0, 0, 0, 0, 0⟩, false) else (nmC p x0 x1 x2 x3 x4 x5, true)
def coR (p : Int) (zs : List Int) : C6 × Int :=
  match zs with
  | [x0, x1, x2, x3, x4, x5] => if isP p && small [x0, x1, x2, x3, x4, x5] then (if fac p [x0, x1, x2, x3, x4, x5] = 0 then (⟨0, 0, 0, 0, 0, 0⟩, 5) else (nmC p x0 x1 x2 x3 x4 x5, 0)) else (⟨0, 0, 0, 0, 0, 0⟩, 2)
  | _ => (⟨0, 0, 0, 0, 0, 0⟩, 2)
theorem coR_len {p : Int} {zs : List Int} (h : zs.length ≠ 6) : coR p zs = (⟨0, 0, 0, 0, 0, 0⟩, 2) := by
  unfold coR
  split
  · simp at h
  · rfl
theorem coR_pr {p : Int} {zs : List Int} (h : isP p = false) : coR p zs = (⟨0, 0, 0, 0, 0, 0⟩, 2) := by
  unfold coR
  split
  · rw [h]; rfl
  · rfl
theorem coR_sm {p x0 x1 x2 x3 x4 x5 : Int} (h : small [x0, x1, x2, x3, x4, x5] = false) : coR p [x0, x1, x2, x3, x4, x5] = (⟨0, 0, 0, 0, 0, 0⟩, 2) := by
  show (if isP p && small [x0, x1, x2, x3, x4, x5] then _ else _) = _
  rw [h, Bool.and_false]; rfl
theorem coR_5 {p x0 x1 x2 x3 x4 x5 : Int} (hp : isP p = true) (h : small [x0, x1, x2, x3, x4, x5] = true) (hf : fac p [x0, x1, x2, x3, x4, x5] = 0) : coR p [x0, x1, x2, x3, x4, x5] = (⟨0, 0, 0, 0, 0, 0⟩, 5) := by
  show (if isP p && small [x0, x1, x2, x3, x4, x5] then _ else _) = _
  rw [h, hp, if_pos hf]; rfl
theorem coR_0 {p x0 x1 x2 x3 x4 x5 : Int} (hp : isP p = true) (h : small [x0, x1, x2, x3, x4, x5] = true) (hf : ¬ fac p [x0, x1, x2, x3, x4, x5] = 0) : coR p [x0, x1, x2, x3, x4, x5] = (nmC p x0 x1 x2 x3 x4 x5, 0) := by
  show (if isP p && small [x0, x1, x2, x3, x4, x5] then _ else _) = _
  rw [h, hp, if_neg hf]; rfl
theorem SlI.six {w : World} {v : Value} {x0 x1 x2 x3 x4 x5 : Int} (h : SlI w v [x0, x1, x2, x3, x4, x5]) : ∃ b off cap, v = .slice (some ⟨b, off, none⟩) 6 cap ∧ b < w.heap.size ∧ Rd w b off [x0, x1, x2, x3, x4, x5] ∧ 6 ≤ cap := by
  obtain ⟨a, cap, rfl, hc, h⟩ := h
  rcases h with h | ⟨b, off, rfl, hl, hr⟩
  · cases h
  · exact ⟨b, off, cap, rfl, hl, hr, hc⟩
theorem SlI.shape6 {w : World} {v : Value} {zs : List Int} (h : SlI w v zs) : ∃ a cap, v = .slice a zs.length cap := by
  obtain ⟨a, cap, h, _⟩ := h
  exact ⟨a, cap, h⟩
theorem arr_six (w : World) (b off cap : Nat) : (Instr.arrayAt 44 (.slice (some ⟨b, off, none⟩) 6 cap)).run Try.prog w = .ok (.pointer (some ⟨b, off, none⟩)) w :=
  run_arrayAt w 44 2 6 (some ⟨b, off, none⟩) 6 cap Try.underlying44 (Nat.le_refl _)
def part6 (V : List Int) (k : Nat) : List Int := V.take k ++ List.replicate (6 - k) 0
theorem lt6 {k : Nat} (hk : k < 6) : k = 0 ∨ k = 1 ∨ k = 2 ∨ k = 3 ∨ k = 4 ∨ k = 5 := by omega
theorem part6_get {V : List Int} (hV : V.length = 6) {k : Nat} (hk : k < 6) : (part6 V k)[k]? = some 0 := by
  obtain ⟨a, b, c, d, e, f, rfl⟩ := len6 hV
  rcases lt6 hk with rfl | rfl | rfl | rfl | rfl | rfl <;> rfl
theorem part6_set {V : List Int} (hV : V.length = 6) {k : Nat} (hk : k < 6) {x : Int} (hx : V[k]? = some x) : (part6 V k).set k x = part6 V (k + 1) := by
  obtain ⟨a, b, c, d, e, f, rfl⟩ := len6 hV
  rcases lt6 hk with rfl | rfl | rfl | rfl | rfl | rfl <;> (injection hx with hx; subst hx; rfl)
theorem part6_all {V : List Int} (hV : V.length = 6) : part6 V 6 = V := by
  obtain ⟨a, b, c, d, e, f, rfl⟩ := len6 hV
  rfl
theorem Box.fill6 {E : Nat} {w : World} {b : Nat} {u0 u1 u2 u3 u4 u5 x0 x1 x2 x3 x4 x5 : Int} (h : Box E w b [u0, u1, u2, u3, u4, u5]) : Box E ((((((w.setCell ⟨b, 0, none⟩ (.int .i64 x0)).setCell ⟨b, 1, none⟩ (.int .i64 x1)).setCell ⟨b, 2, none⟩ (.int .i64 x2)).setCell ⟨b, 3, none⟩ (.int .i64 x3)).setCell ⟨b, 4, none⟩ (.int .i64 x4)).setCell ⟨b, 5, none⟩ (.int .i64 x5)) b [x0, x1, x2, x3, x4, x5] :=
  ((((((h.set 0 x0).set 1 x1).set 2 x2).set 3 x3).set 4 x4).set 5 x5).cast rfl
theorem Box.far6 {E : Nat} {w : World} {b c : Nat} {vs : List Int} {x0 x1 x2 x3 x4 x5 : Value} (h : Box E w b vs) (hn : b ≠ c) : Box E ((((((w.setCell ⟨c, 0, none⟩ x0).setCell ⟨c, 1, none⟩ x1).setCell ⟨c, 2, none⟩ x2).setCell ⟨c, 3, none⟩ x3).setCell ⟨c, 4, none⟩ x4).setCell ⟨c, 5, none⟩ x5) b vs := (((((h.far hn).far hn).far hn).far hn).far hn).far hn
theorem Rd.behind {w w' : World} {b off : Nat} {zs : List Int} (h : Rd w b off zs) (hb : Below w.heap.size w w') (hlt : b < w.heap.size) : Rd w' b off zs := fun i x hx => by rw [hb.cell (p := ⟨b, _, none⟩) hlt]; exact h i x hx
set_option maxHeartbeats 2000000 in
theorem l03Made_any (p x0 x1 x2 x3 x4 x5 : Int) (b off cap : Nat) (w : World) (hp : isP p = true) (hc : Rd w b off [x0, x1, x2, x3, x4, x5]) (hbl : b < w.heap.size) :
    Calls Try.prog 87 #[.int .i64 p, .slice (some ⟨b, off, none⟩) 6 cap] w fun e w' => e = .returned (.tuple #[.agg #[.int .i64 ((mdC p x0 x1 x2 x3 x4 x5).1).c0, .int .i64 ((mdC p x0 x1 x2 x3 x4 x5).1).c1, .int .i64 ((mdC p x0 x1 x2 x3 x4 x5).1).c2, .int .i64 ((mdC p x0 x1 x2 x3 x4 x5).1).c3, .int .i64 ((mdC p x0 x1 x2 x3 x4 x5).1).c4, .int .i64 ((mdC p x0 x1 x2 x3 x4 x5).1).c5], .bool (mdC p x0 x1 x2 x3 x4 x5).2]) ∧ Below w.heap.size w w' := by
  have HN : Hid (∀ w' : World, Below w.heap.size w w' → Calls Try.prog 131 #[.int .i64 p, .slice (some ⟨b, off, none⟩) 6 cap] w' (NormNe p [x0, x1, x2, x3, x4, x5] w')) := fun w' hb => l01Norm_ne p b off cap [x0, x1, x2, x3, x4, x5] w' hp (fun i x hx => by rw [hb.cell (p := ⟨b, _, none⟩) hbl]; exact hc i x hx) (Nat.lt_of_lt_of_le hbl hb.size) (by simp) (by simp)
  clear hc
  by_cases hf : fac p [x0, x1, x2, x3, x4, x5] = 0
  · have hE : Hid (mdC p x0 x1 x2 x3 x4 x5 = (⟨0, 0, 0, 0, 0, 0⟩, false)) := by show _ = _; unfold mdC; rw [if_pos hf]
    have hf' : (fac p [x0, x1, x2, x3, x4, x5] == 0) = true := by simpa using hf
    clear hf
    go_enter Try.func87, Try.ntmps87
    go_wp2_with fail
    refine (HN.out _ (by (repeat' (first | (with_reducible exact Below.refl _ _) | (with_reducible assumption) | (with_reducible refine Below.alloc ?_ ?_ _) | (with_reducible refine Below.drew ?_) | (with_reducible refine below_drewN ?_ _) | (with_reducible refine Below.setCell ?_ ?_ _) | (refine Below.step ?_ (by with_reducible assumption) ?_) | go_size)))).mono ?_
    rintro e w1 ⟨g, gc, rfl, hg, hg2, hR, hfr, hb1⟩
    obtain ⟨hc1, hf1⟩ := bcell hb1; have hz1 := hb1.size; (try simp only [World.size_alloc, World.size_setCell, World.size_drew] at hz1); (try (have hy1w0 : w.heap.size < w1.heap.size := by omega)); (try (have hy1w1 : w.heap.size + 1 < w1.heap.size := by omega)); (try (have hy1w2 : w.heap.size + 1 + 1 < w1.heap.size := by omega)); (try (have hy1w3 : w.heap.size + 1 + 1 + 1 < w1.heap.size := by omega)); (try (have hy1w4 : w.heap.size + 1 + 1 + 1 + 1 < w1.heap.size := by omega))
    have r1_0 := keepC hb1 (b := w.heap.size) (o := 0) (v := .int .i64 0) (by go_cell); have r1_1 := keepC hb1 (b := w.heap.size) (o := 1) (v := .int .i64 0) (by go_cell); have r1_2 := keepC hb1 (b := w.heap.size) (o := 2) (v := .int .i64 0) (by go_cell); have r1_3 := keepC hb1 (b := w.heap.size) (o := 3) (v := .int .i64 0) (by go_cell); have r1_4 := keepC hb1 (b := w.heap.size) (o := 4) (v := .int .i64 0) (by go_cell); have r1_5 := keepC hb1 (b := w.heap.size) (o := 5) (v := .int .i64 0) (by go_cell)
    go_wp2
    (try simp only [Exit.inBlock, Exit.then]); refine bodyPost_ret (by simp [results, Try.results87, go_sem, *]; try rfl) rfl ?_
    exact ⟨by rw [hE.out]; try rfl, by (repeat' (first | (with_reducible exact Below.refl _ _) | (with_reducible assumption) | (with_reducible refine Below.alloc ?_ ?_ _) | (with_reducible refine Below.drew ?_) | (with_reducible refine below_drewN ?_ _) | (with_reducible refine Below.setCell ?_ ?_ _) | (refine Below.step ?_ (by with_reducible assumption) ?_) | go_size))⟩
  · have hE : Hid (mdC p x0 x1 x2 x3 x4 x5 = (nmC p x0 x1 x2 x3 x4 x5, true)) := by show _ = _; unfold mdC; rw [if_neg hf]
    have hf' : (fac p [x0, x1, x2, x3, x4, x5] == 0) = false := by simpa using hf
    have hV : (nrm p [x0, x1, x2, x3, x4, x5]).length = 6 := nrm_len p _
    have hVe : Hid (nrm p [x0, x1, x2, x3, x4, x5] = [(nmC p x0 x1 x2 x3 x4 x5).c0, (nmC p x0 x1 x2 x3 x4 x5).c1, (nmC p x0 x1 x2 x3 x4 x5).c2, (nmC p x0 x1 x2 x3 x4 x5).c3, (nmC p x0 x1 x2 x3 x4 x5).c4, (nmC p x0 x1 x2 x3 x4 x5).c5]) := rfl
    clear hf
    go_enter Try.func87, Try.ntmps87
    go_wp2_with fail
    refine (HN.out _ (by (repeat' (first | (with_reducible exact Below.refl _ _) | (with_reducible assumption) | (with_reducible refine Below.alloc ?_ ?_ _) | (with_reducible refine Below.drew ?_) | (with_reducible refine below_drewN ?_ _) | (with_reducible refine Below.setCell ?_ ?_ _) | (refine Below.step ?_ (by with_reducible assumption) ?_) | go_size)))).mono ?_
    rintro e w1 ⟨g, gc, rfl, hg, hg2, hR, hfr, hb1⟩
    generalize nrm p [x0, x1, x2, x3, x4, x5] = V at *
    have BR1 : Box 44 w1 w.heap.size [0, 0, 0, 0, 0, 0] := Box.below hb1 (Box.new [0, 0, 0, 0, 0, 0] rfl)
    have hB1 : Below w.heap.size w w1 := by (repeat' (first | (with_reducible exact Below.refl _ _) | (with_reducible assumption) | (with_reducible refine Below.alloc ?_ ?_ _) | (with_reducible refine Below.drew ?_) | (with_reducible refine below_drewN ?_ _) | (with_reducible refine Below.setCell ?_ ?_ _) | (refine Below.step ?_ (by with_reducible assumption) ?_) | go_size))
    have hz1 := hb1.size
    simp only [World.size_alloc] at hz1 hg
    clear hb1 hfr
    go_wp2_with fail
    go_loopw [9] (fun i wr => ∃ k : Nat, k ≤ 6 ∧ i = .int .i64 k ∧ Box 44 wr w.heap.size [0, 0, 0, 0, 0, 0] ∧ Box 44 wr w1.heap.size (part6 V k) ∧ Rd wr g 0 V ∧ Below w.heap.size w wr) (fun i _ => 6 - (intOf i).toNat)
    case atStart => exact ⟨0, by omega, rfl, Box.alloc BR1 _, Box.new [0, 0, 0, 0, 0, 0] rfl, hR.behind (by (repeat' (first | (with_reducible exact Below.refl _ _) | (with_reducible assumption) | (with_reducible refine Below.alloc ?_ ?_ _) | (with_reducible refine Below.drew ?_) | (with_reducible refine below_drewN ?_ _) | (with_reducible refine Below.setCell ?_ ?_ _) | (refine Below.step ?_ (by with_reducible assumption) ?_) | go_size))) hg2, by (repeat' (first | (with_reducible exact Below.refl _ _) | (with_reducible assumption) | (with_reducible refine Below.alloc ?_ ?_ _) | (with_reducible refine Below.drew ?_) | (with_reducible refine below_drewN ?_ _) | (with_reducible refine Below.setCell ?_ ?_ _) | (refine Below.step ?_ (by with_reducible assumption) ?_) | go_size))⟩
    case round =>
      obtain ⟨k, hk, rfl, BR, BO, hR2, hB⟩ := hrel
      have hBz := hB.size
      have lto := BO.lt
      by_cases hlt : k < 6
      · obtain ⟨x, hcell, hx⟩ := hR2.get (k := k) (by omega)
        have st := BO.cell k (part6_get hV hlt)
        have sf := BO.frz k
        simp only [Nat.zero_add] at hcell
        have hi0 : (0 : Int) ≤ (k : Int) := by omega
        have hi1 : (k : Int) < 6 := by omega
        go_wp2_with fail
        go_roundw
        case rel => exact ⟨k + 1, by omega, by go_num, Box.far BR (by omega), (Box.set BO k x).cast (part6_set hV hlt hx.out), fun i y hy => keepS2 (hR2 i y hy) (by omega), by (repeat' (first | (with_reducible exact Below.refl _ _) | (with_reducible assumption) | (with_reducible refine Below.alloc ?_ ?_ _) | (with_reducible refine Below.drew ?_) | (with_reducible refine below_drewN ?_ _) | (with_reducible refine Below.setCell ?_ ?_ _) | (refine Below.step ?_ (by with_reducible assumption) ?_) | go_size))⟩
        case measure => simp [intOf]; omega
      · obtain rfl : k = 6 := by omega
        rw [part6_all hV, hVe.out] at BO
        have st0 := BO.cell 0 rfl; have sr0 := BR.cell 0 rfl; have sf0 := BR.frz 0
        have st1 := BO.cell 1 rfl; have sr1 := BR.cell 1 rfl; have sf1 := BR.frz 1
        have st2 := BO.cell 2 rfl; have sr2 := BR.cell 2 rfl; have sf2 := BR.frz 2
        have st3 := BO.cell 3 rfl; have sr3 := BR.cell 3 rfl; have sf3 := BR.frz 3
        have st4 := BO.cell 4 rfl; have sr4 := BR.cell 4 rfl; have sf4 := BR.frz 4
        have st5 := BO.cell 5 rfl; have sr5 := BR.cell 5 rfl; have sf5 := BR.frz 5
        clear hR hR2 hVe hV
        go_wp2_with fail
        (try simp only [Exit.inBlock, Exit.then]); refine bodyPost_ret (by simp [results, Try.results87, go_sem, *]; try rfl) rfl ?_
        exact ⟨by rw [hE.out]; try rfl, by (repeat' (first | (with_reducible exact Below.refl _ _) | (with_reducible assumption) | (with_reducible refine Below.alloc ?_ ?_ _) | (with_reducible refine Below.drew ?_) | (with_reducible refine below_drewN ?_ _) | (with_reducible refine Below.setCell ?_ ?_ _) | (refine Below.step ?_ (by with_reducible assumption) ?_) | go_size))⟩