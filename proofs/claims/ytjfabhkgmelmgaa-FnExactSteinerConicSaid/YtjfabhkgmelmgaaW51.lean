/- Conics: slices of them, their codes; no condition. -/
import Derived.Test.YtjfabhkgmelmgaaW7
import Derived.Test.YtjfabhkgmelmgaaE1
import Derived.Test.YtjfabhkgmelmgaaX1
namespace Go.Proofs.Ytjfabhkgmelmgaa
open Go.RowKit
set_option linter.unusedSimpArgs false
set_option linter.unusedVariables false
set_option maxRecDepth 100000

structure C6 where
  c0 : Int
  c1 : Int
  c2 : Int
  c3 : Int
  c4 : Int
  c5 : Int
  deriving DecidableEq
def C6.l (e : C6) : List Int := [e.c0, e.c1, e.c2, e.c3, e.c4, e.c5]
/-- A slice of impl.Conic. -/
def RdC6 (w : World) (b off : Nat) (es : List C6) : Prop := ∀ i e, es[i]? = some e → w.cell? ⟨b, off + i * 6, none⟩ = some (.int .i64 e.c0) ∧ w.cell? ⟨b, off + i * 6 + 1, none⟩ = some (.int .i64 e.c1) ∧ w.cell? ⟨b, off + i * 6 + 2, none⟩ = some (.int .i64 e.c2) ∧ w.cell? ⟨b, off + i * 6 + 3, none⟩ = some (.int .i64 e.c3) ∧ w.cell? ⟨b, off + i * 6 + 4, none⟩ = some (.int .i64 e.c4) ∧ w.cell? ⟨b, off + i * 6 + 5, none⟩ = some (.int .i64 e.c5)
theorem RdC6.below {w w' : World} {b off : Nat} {es : List C6} (h : RdC6 w b off es) (hb : Below w.heap.size w w') (hlt : b < w.heap.size) : RdC6 w' b off es := by
  intro i e he
  obtain ⟨h0, h1, h2, h3, h4, h5⟩ := h i e he
  exact ⟨by rw [hb.cell (p := ⟨b, _, none⟩) hlt]; exact h0, by rw [hb.cell (p := ⟨b, _, none⟩) hlt]; exact h1, by rw [hb.cell (p := ⟨b, _, none⟩) hlt]; exact h2, by rw [hb.cell (p := ⟨b, _, none⟩) hlt]; exact h3, by rw [hb.cell (p := ⟨b, _, none⟩) hlt]; exact h4, by rw [hb.cell (p := ⟨b, _, none⟩) hlt]; exact h5⟩
theorem RdC6.alloc {w : World} {b off : Nat} {es : List C6} (h : RdC6 w b off es) (hlt : b < w.heap.size) (o : Obj) : RdC6 (w.alloc o) b off es :=
  h.below ((Below.refl _ _).alloc (Nat.le_refl _) _) hlt
theorem RdC6.get {w : World} {b off : Nat} {es : List C6} (h : RdC6 w b off es) {k : Nat} (hk : k < es.length) :
    ∃ x0 x1 x2 x3 x4 x5, w.cell? ⟨b, off + k * 6, none⟩ = some (.int .i64 x0) ∧ w.cell? ⟨b, off + k * 6 + 1, none⟩ = some (.int .i64 x1) ∧ w.cell? ⟨b, off + k * 6 + 2, none⟩ = some (.int .i64 x2) ∧ w.cell? ⟨b, off + k * 6 + 3, none⟩ = some (.int .i64 x3) ∧ w.cell? ⟨b, off + k * 6 + 4, none⟩ = some (.int .i64 x4) ∧ w.cell? ⟨b, off + k * 6 + 5, none⟩ = some (.int .i64 x5) ∧ Hid (es[k]? = some ⟨x0, x1, x2, x3, x4, x5⟩) :=
  let ⟨h0, h1, h2, h3, h4, h5⟩ := h k es[k] (List.getElem?_eq_getElem hk)
  ⟨_, _, _, _, _, _, h0, h1, h2, h3, h4, h5, Lib.hid (List.getElem?_eq_getElem hk)⟩
theorem rdC6_1 {w : World} {b off : Nat} {x0_0 x0_1 x0_2 x0_3 x0_4 x0_5 : Int} (h0_0 : w.cell? ⟨b, off + 0 * 6, none⟩ = some (.int .i64 x0_0)) (h0_1 : w.cell? ⟨b, off + 0 * 6 + 1, none⟩ = some (.int .i64 x0_1)) (h0_2 : w.cell? ⟨b, off + 0 * 6 + 2, none⟩ = some (.int .i64 x0_2)) (h0_3 : w.cell? ⟨b, off + 0 * 6 + 3, none⟩ = some (.int .i64 x0_3)) (h0_4 : w.cell? ⟨b, off + 0 * 6 + 4, none⟩ = some (.int .i64 x0_4)) (h0_5 : w.cell? ⟨b, off + 0 * 6 + 5, none⟩ = some (.int .i64 x0_5)) : RdC6 w b off [⟨x0_0, x0_1, x0_2, x0_3, x0_4, x0_5⟩] := by
  intro i e he
  match i, he with
  | 0, he => simp at he; subst he; exact ⟨h0_0, h0_1, h0_2, h0_3, h0_4, h0_5⟩
  | i + 1, he => simp at he
theorem rdC6_2 {w : World} {b off : Nat} {x0_0 x0_1 x0_2 x0_3 x0_4 x0_5 x1_0 x1_1 x1_2 x1_3 x1_4 x1_5 : Int} (h0_0 : w.cell? ⟨b, off + 0 * 6, none⟩ = some (.int .i64 x0_0)) (h0_1 : w.cell? ⟨b, off + 0 * 6 + 1, none⟩ = some (.int .i64 x0_1)) (h0_2 : w.cell? ⟨b, off + 0 * 6 + 2, none⟩ = some (.int .i64 x0_2)) (h0_3 : w.cell? ⟨b, off + 0 * 6 + 3, none⟩ = some (.int .i64 x0_3)) (h0_4 : w.cell? ⟨b, off + 0 * 6 + 4, none⟩ = some (.int .i64 x0_4)) (h0_5 : w.cell? ⟨b, off + 0 * 6 + 5, none⟩ = some (.int .i64 x0_5)) (h1_0 : w.cell? ⟨b, off + 1 * 6, none⟩ = some (.int .i64 x1_0)) (h1_1 : w.cell? ⟨b, off + 1 * 6 + 1, none⟩ = some (.int .i64 x1_1)) (h1_2 : w.cell? ⟨b, off + 1 * 6 + 2, none⟩ = some (.int .i64 x1_2)) (h1_3 : w.cell? ⟨b, off + 1 * 6 + 3, none⟩ = some (.int .i64 x1_3)) (h1_4 : w.cell? ⟨b, off + 1 * 6 + 4, none⟩ = some (.int .i64 x1_4)) (h1_5 : w.cell? ⟨b, off + 1 * 6 + 5, none⟩ = some (.int .i64 x1_5)) : RdC6 w b off [⟨x0_0, x0_1, x0_2, x0_3, x0_4, x0_5⟩, ⟨x1_0, x1_1, x1_2, x1_3, x1_4, x1_5⟩] := by
  intro i e he
  match i, he with
  | 0, he => simp at he; subst he; exact ⟨h0_0, h0_1, h0_2, h0_3, h0_4, h0_5⟩
  | 1, he => simp at he; subst he; exact ⟨h1_0, h1_1, h1_2, h1_3, h1_4, h1_5⟩
  | i + 2, he => simp at he
theorem rdC6_4 {w : World} {b off : Nat} {x0_0 x0_1 x0_2 x0_3 x0_4 x0_5 x1_0 x1_1 x1_2 x1_3 x1_4 x1_5 x2_0 x2_1 x2_2 x2_3 x2_4 x2_5 x3_0 x3_1 x3_2 x3_3 x3_4 x3_5 : Int} (h0_0 : w.cell? ⟨b, off + 0 * 6, none⟩ = some (.int .i64 x0_0)) (h0_1 : w.cell? ⟨b, off + 0 * 6 + 1, none⟩ = some (.int .i64 x0_1)) (h0_2 : w.cell? ⟨b, off + 0 * 6 + 2, none⟩ = some (.int .i64 x0_2)) (h0_3 : w.cell? ⟨b, off + 0 * 6 + 3, none⟩ = some (.int .i64 x0_3)) (h0_4 : w.cell? ⟨b, off + 0 * 6 + 4, none⟩ = some (.int .i64 x0_4)) (h0_5 : w.cell? ⟨b, off + 0 * 6 + 5, none⟩ = some (.int .i64 x0_5)) (h1_0 : w.cell? ⟨b, off + 1 * 6, none⟩ = some (.int .i64 x1_0)) (h1_1 : w.cell? ⟨b, off + 1 * 6 + 1, none⟩ = some (.int .i64 x1_1)) (h1_2 : w.cell? ⟨b, off + 1 * 6 + 2, none⟩ = some (.int .i64 x1_2)) (h1_3 : w.cell? ⟨b, off + 1 * 6 + 3, none⟩ = some (.int .i64 x1_3)) (h1_4 : w.cell? ⟨b, off + 1 * 6 + 4, none⟩ = some (.int .i64 x1_4)) (h1_5 : w.cell? ⟨b, off + 1 * 6 + 5, none⟩ = some (.int .i64 x1_5)) (h2_0 : w.cell? ⟨b, off + 2 * 6, none⟩ = some (.int .i64 x2_0)) (h2_1 : w.cell? ⟨b, off + 2 * 6 + 1, none⟩ = some (.int .i64 x2_1)) (h2_2 : w.cell? ⟨b, off + 2 * 6 + 2, none⟩ = some (.int .i64 x2_2)) (h2_3 : w.cell? ⟨b, off + 2 * 6 + 3, none⟩ = some (.int .i64 x2_3)) (h2_4 : w.cell? ⟨b, off + 2 * 6 + 4, none⟩ = some (.int .i64 x2_4)) (h2_5 : w.cell? ⟨b, off + 2 * 6 + 5, none⟩ = some (.int .i64 x2_5)) (h3_0 : w.cell? ⟨b, off + 3 * 6, none⟩ = some (.int .i64 x3_0)) (h3_1 : w.cell? ⟨b, off + 3 * 6 + 1, none⟩ = some (.int .i64 x3_1)) (h3_2 : w.cell? ⟨b, off + 3 * 6 + 2, none⟩ = some (.int .i64 x3_2)) (h3_3 : w.cell? ⟨b, off + 3 * 6 + 3, none⟩ = some (.int .i64 x3_3)) (h3_4 : w.cell? ⟨b, off + 3 * 6 + 4, none⟩ = some (.int .i64 x3_4)) (h3_5 : w.cell? ⟨b, off + 3 * 6 + 5, none⟩ = some (.int .i64 x3_5)) : RdC6 w b off [⟨x0_0, x0_1, x0_2, x0_3, x0_4, x0_5⟩, ⟨x1_0, x1_1, x1_2, x1_3, x1_4, x1_5⟩, ⟨x2_0, x2_1, x2_2, x2_3, x2_4, x2_5⟩, ⟨x3_0, x3_1, x3_2, x3_3, x3_4, x3_5⟩] := by
  intro i e he
  match i, he with
  | 0, he => simp at he; subst he; exact ⟨h0_0, h0_1, h0_2, h0_3, h0_4, h0_5⟩
  | 1, he => simp at he; subst he; exact ⟨h1_0, h1_1, h1_2, h1_3, h1_4, h1_5⟩
  | 2, he => simp at he; subst he; exact ⟨h2_0, h2_1, h2_2, h2_3, h2_4, h2_5⟩
  | 3, he => simp at he; subst he; exact ⟨h3_0, h3_1, h3_2, h3_3, h3_4, h3_5⟩
  | i + 4, he => simp at he
def isCo (p : Int) (e : C6) : Bool := isP p && isN p e.l
theorem IsCo_any (p x0 x1 x2 x3 x4 x5 : Int) (w : World) : Calls Try.prog 172 #[.int .i64 p, .agg #[.int .i64 x0, .int .i64 x1, .int .i64 x2, .int .i64 x3, .int .i64 x4, .int .i64 x5]] w fun e w' => e = .returned (.bool (isCo p ⟨x0, x1, x2, x3, x4, x5⟩)) ∧ Below w.heap.size w w' := IsConic_any p x0 x1 x2 x3 x4 x5 w
set_option maxHeartbeats 600000 in
theorem conicsCode11 (p x0 x1 x2 x3 x4 x5 : Int) (u : Nat) (w : World)  (hu : w.cell? ⟨u, 0, none⟩ = some (.int .i64 p)) :
    Calls Try.prog 171 #[.agg #[.int .i64 x0, .int .i64 x1, .int .i64 x2, .int .i64 x3, .int .i64 x4, .int .i64 x5], .pointer (some ⟨u, 0, none⟩)] w fun e w' => e = .returned (.bool (!(isCo p ⟨x0, x1, x2, x3, x4, x5⟩))) ∧ Below w.heap.size w w' := by
  have hul : u < w.heap.size := World.block_lt_of_cell? w _ hu
  go_enter Try.func171, Try.ntmps171
  go_wp2_with (go_at_call 172; refine (IsCo_any _ _ _ _ _ _ _ _).mono ?_; rintro e w1 ⟨rfl, hb1⟩; obtain ⟨hc1, hf1⟩ := bcell hb1; have hz1 := hb1.size; (try simp only [World.size_alloc, World.size_setCell, World.size_drew] at hz1); (try (have hy1w0 : w.heap.size < w1.heap.size := by omega)); (try (have hy1w1 : w.heap.size + 1 < w1.heap.size := by omega)); (try (have hy1w2 : w.heap.size + 1 + 1 < w1.heap.size := by omega)); (try (have hy1w3 : w.heap.size + 1 + 1 + 1 < w1.heap.size := by omega)); (try (have hy1w4 : w.heap.size + 1 + 1 + 1 + 1 < w1.heap.size := by omega)))
  go_returns
  exact ⟨rfl, by (repeat' (first | (with_reducible exact Below.refl _ _) | (with_reducible assumption) | (with_reducible refine Below.alloc ?_ ?_ _) | (with_reducible refine Below.drew ?_) | (with_reducible refine below_drewN ?_ _) | (with_reducible refine Below.setCell ?_ ?_ _) | (refine Below.step ?_ (by with_reducible assumption) ?_) | go_size))⟩
set_option maxHeartbeats 600000 in
theorem conicsCode_index (p : Int) (b off cap u : Nat) (es : List C6) (w : World)  (hc : RdC6 w b off es) (hbl : b < w.heap.size) (hu : w.cell? ⟨u, 0, none⟩ = some (.int .i64 p)) (hm : es.length ≤ 1000000) :
    Calls Try.prog 185 #[.slice (some ⟨b, off, none⟩) es.length cap, .func (.func 171) #[] #[.pointer (some ⟨u, 0, none⟩)]] w fun e w' => e = .returned (.int .i64 (idxL (fun e => !(isCo p e)) es 0)) ∧ Below w.heap.size w w' := by
  go_enter Try.func185, Try.ntmps185
  go_wp2
  go_loopw [8] (fun i wr => ∃ k : Nat, k ≤ es.length ∧ i = .int .i64 k ∧ Below w.heap.size w wr ∧ Hid (idxL (fun e => !(isCo p e)) es 0 = idxL (fun e => !(isCo p e)) (es.drop k) k)) (fun i _ => es.length - (intOf i).toNat)
  case atStart => exact ⟨0, Nat.zero_le _, rfl, Below.refl _ _, rfl⟩
  case round =>
    obtain ⟨k, hk, rfl, hB, hR⟩ := hrel
    have hBz := hB.size
    have hu' := keepC2 hB hu
    by_cases hlt : k < es.length
    · obtain ⟨x0, x1, x2, x3, x4, x5, hx0, hx1, hx2, hx3, hx4, hx5, hg⟩ := (hc.below hB hbl).get hlt
      cases hgood : isCo p ⟨x0, x1, x2, x3, x4, x5⟩
      · have hn : Hid (idxL (fun e => !(isCo p e)) es 0 = (k : Int)) := by show _ = _; rw [hR.out, drop_cons hg.out, idxL, if_pos (by simp [hgood])]
        clear hc hR
        go_wp2_with (go_at_call 171; refine (conicsCode11 _ _ _ _ _ _ _ _ _  hu').mono ?_; rintro e w1 ⟨rfl, hb1⟩; obtain ⟨hc1, hf1⟩ := bcell hb1; have hz1 := hb1.size; (try simp only [World.size_alloc, World.size_setCell, World.size_drew] at hz1); (try (have hy1w0 : w.heap.size < w1.heap.size := by omega)); (try (have hy1w1 : w.heap.size + 1 < w1.heap.size := by omega)); (try (have hy1w2 : w.heap.size + 1 + 1 < w1.heap.size := by omega)); (try (have hy1w3 : w.heap.size + 1 + 1 + 1 < w1.heap.size := by omega)); (try (have hy1w4 : w.heap.size + 1 + 1 + 1 + 1 < w1.heap.size := by omega)))
        go_ret
        exact ⟨ret_int hn.out.symm, by (repeat' (first | (with_reducible exact Below.refl _ _) | (with_reducible assumption) | (with_reducible refine Below.alloc ?_ ?_ _) | (with_reducible refine Below.drew ?_) | (with_reducible refine below_drewN ?_ _) | (with_reducible refine Below.setCell ?_ ?_ _) | (refine Below.step ?_ (by with_reducible assumption) ?_) | go_size))⟩
      · have hn : Hid (idxL (fun e => !(isCo p e)) es 0 = idxL (fun e => !(isCo p e)) (es.drop (k + 1)) ((k + 1 : Nat) : Int)) := by show _ = _; rw [hR.out, drop_cons hg.out, idxL, if_neg (by simp [hgood])]; rfl
        clear hc hR
        go_wp2_with (go_at_call 171; refine (conicsCode11 _ _ _ _ _ _ _ _ _  hu').mono ?_; rintro e w1 ⟨rfl, hb1⟩; obtain ⟨hc1, hf1⟩ := bcell hb1; have hz1 := hb1.size; (try simp only [World.size_alloc, World.size_setCell, World.size_drew] at hz1); (try (have hy1w0 : w.heap.size < w1.heap.size := by omega)); (try (have hy1w1 : w.heap.size + 1 < w1.heap.size := by omega)); (try (have hy1w2 : w.heap.size + 1 + 1 < w1.heap.size := by omega)); (try (have hy1w3 : w.heap.size + 1 + 1 + 1 < w1.heap.size := by omega)); (try (have hy1w4 : w.heap.size + 1 + 1 + 1 + 1 < w1.heap.size := by omega)))
        go_roundw
        case rel => exact ⟨k + 1, by omega, by go_num, by (repeat' (first | (with_reducible exact Below.refl _ _) | (with_reducible assumption) | (with_reducible refine Below.alloc ?_ ?_ _) | (with_reducible refine Below.drew ?_) | (with_reducible refine below_drewN ?_ _) | (with_reducible refine Below.setCell ?_ ?_ _) | (refine Below.step ?_ (by with_reducible assumption) ?_) | go_size)), hn⟩
        case measure => simp [intOf]; omega
    · have hn : Hid (idxL (fun e => !(isCo p e)) es 0 = -1) := by show _ = _; rw [hR.out, List.drop_of_length_le (by omega)]; rfl
      clear hc hR
      go_wp2
      go_ret
      exact ⟨ret_int hn.out.symm, hB⟩
set_option maxHeartbeats 600000 in
theorem conicsCode_contains (p : Int) (b off cap u : Nat) (es : List C6) (w : World)  (hc : RdC6 w b off es) (hbl : b < w.heap.size) (hu : w.cell? ⟨u, 0, none⟩ = some (.int .i64 p)) (hm : es.length ≤ 1000000) :
    Calls Try.prog 170 #[.slice (some ⟨b, off, none⟩) es.length cap, .func (.func 171) #[] #[.pointer (some ⟨u, 0, none⟩)]] w fun e w' => e = .returned (.bool (!(es.all (isCo p)))) ∧ Below w.heap.size w w' := by
  have hE : Hid (decide (0 ≤ idxL (fun e => !(isCo p e)) es 0) = !(es.all (isCo p))) := by
    show _ = _
    rw [List.not_all_eq_any_not, Bool.eq_iff_iff, decide_eq_true_eq]
    exact idxL_iff _ es 0 (by omega)
  go_enter Try.func170, Try.ntmps170
  go_wp2_with (go_at_call 185; refine (conicsCode_index p b off cap u es _  hc hbl hu hm).mono ?_; rintro e w1 ⟨rfl, hb1⟩; obtain ⟨hc1, hf1⟩ := bcell hb1; have hz1 := hb1.size; (try simp only [World.size_alloc, World.size_setCell, World.size_drew] at hz1); (try (have hy1w0 : w.heap.size < w1.heap.size := by omega)); (try (have hy1w1 : w.heap.size + 1 < w1.heap.size := by omega)); (try (have hy1w2 : w.heap.size + 1 + 1 < w1.heap.size := by omega)); (try (have hy1w3 : w.heap.size + 1 + 1 + 1 < w1.heap.size := by omega)); (try (have hy1w4 : w.heap.size + 1 + 1 + 1 + 1 < w1.heap.size := by omega)))
  go_returns
  exact ⟨ret_bool hE.out, by (repeat' (first | (with_reducible exact Below.refl _ _) | (with_reducible assumption) | (with_reducible refine Below.alloc ?_ ?_ _) | (with_reducible refine Below.drew ?_) | (with_reducible refine below_drewN ?_ _) | (with_reducible refine Below.setCell ?_ ?_ _) | (refine Below.step ?_ (by with_reducible assumption) ?_) | go_size))⟩

/-- The code of conics and of what else has to be valid. -/
def coCode (p : Int) (ok : Bool) (es : List C6) : Int := codeOf p (ok && es.all (isCo p))
theorem coCode3 (p : Int) (ok : Bool) (es : List C6) : coCode p ok es = 2 ∨ coCode p ok es = 1 ∨ (isP p = true ∧ (ok && es.all (isCo p)) = true ∧ coCode p ok es = 0) := code3 p _
theorem co1 {p : Int} {e : C6} {es : List C6} (h : (e :: es).all (isCo p) = true) : isCo p e = true ∧ es.all (isCo p) = true := by
  rw [List.all_cons, Bool.and_eq_true] at h
  exact h
theorem isCo_rng {p x0 x1 x2 x3 x4 x5 : Int} (h : isCo p ⟨x0, x1, x2, x3, x4, x5⟩ = true) : (0 ≤ x0 ∧ x0 ≤ p - 1) ∧ (0 ≤ x1 ∧ x1 ≤ p - 1) ∧ (0 ≤ x2 ∧ x2 ≤ p - 1) ∧ (0 ≤ x3 ∧ x3 ≤ p - 1) ∧ (0 ≤ x4 ∧ x4 ≤ p - 1) ∧ (0 ≤ x5 ∧ x5 ≤ p - 1) := by
  unfold isCo at h
  rw [Bool.and_eq_true] at h
  have := isN_mem h.2
  have hm : ∀ v ∈ [x0, x1, x2, x3, x4, x5], 0 ≤ v ∧ v ≤ p - 1 := this
  exact ⟨hm x0 (by simp), hm x1 (by simp), hm x2 (by simp), hm x3 (by simp), hm x4 (by simp), hm x5 (by simp)⟩
theorem isCo_sm {p x0 x1 x2 x3 x4 x5 : Int} (h : isCo p ⟨x0, x1, x2, x3, x4, x5⟩ = true) : sm x0 ∧ sm x1 ∧ sm x2 ∧ sm x3 ∧ sm x4 ∧ sm x5 := by
  have hh2 : p ≤ 13 := isP_hi (by unfold isCo at h; rw [Bool.and_eq_true] at h; exact h.1)
  obtain ⟨h0, h1, h2, h3, h4, h5⟩ := isCo_rng h
  exact ⟨sm_of hh2 h0, sm_of hh2 h1, sm_of hh2 h2, sm_of hh2 h3, sm_of hh2 h4, sm_of hh2 h5⟩
set_option maxHeartbeats 600000 in
theorem conicsCode1_any (p : Int) (ok : Bool) (b cap t u v : Nat) (es : List C6) (w : World) (hc : RdC6 w b 0 es) (hbl : b < w.heap.size) (hm : es.length ≤ 1000000)
    (ht : w.cell? ⟨t, 0, none⟩ = some (.bool ok)) (hv : w.cell? ⟨v, 0, none⟩ = some (.slice (some ⟨b, 0, none⟩) es.length cap)) (hu : w.cell? ⟨u, 0, none⟩ = some (.int .i64 p)) :
    ClB Try.prog 169 #[.pointer (some ⟨t, 0, none⟩), .pointer (some ⟨v, 0, none⟩), .pointer (some ⟨u, 0, none⟩)] w (ok && es.all (isCo p)) := by
  unfold ClB
  cases ok
  · go_enter Try.func169, Try.ntmps169
    go_wp2
    go_returns
    exact ⟨rfl, by (repeat' (first | (with_reducible exact Below.refl _ _) | (with_reducible assumption) | (with_reducible refine Below.alloc ?_ ?_ _) | (with_reducible refine Below.drew ?_) | (with_reducible refine below_drewN ?_ _) | (with_reducible refine Below.setCell ?_ ?_ _) | (refine Below.step ?_ (by with_reducible assumption) ?_) | go_size))⟩
  · go_enter Try.func169, Try.ntmps169
    go_wp2_with (go_at_call 170; refine (conicsCode_contains p b 0 cap u es _ hc hbl hu hm).mono ?_; rintro e w1 ⟨rfl, hb1⟩; obtain ⟨hc1, hf1⟩ := bcell hb1; have hz1 := hb1.size; (try simp only [World.size_alloc, World.size_setCell, World.size_drew] at hz1); (try (have hy1w0 : w.heap.size < w1.heap.size := by omega)); (try (have hy1w1 : w.heap.size + 1 < w1.heap.size := by omega)); (try (have hy1w2 : w.heap.size + 1 + 1 < w1.heap.size := by omega)); (try (have hy1w3 : w.heap.size + 1 + 1 + 1 < w1.heap.size := by omega)); (try (have hy1w4 : w.heap.size + 1 + 1 + 1 + 1 < w1.heap.size := by omega)))
    go_returns
    exact ⟨ret_bool (by simp), by (repeat' (first | (with_reducible exact Below.refl _ _) | (with_reducible assumption) | (with_reducible refine Below.alloc ?_ ?_ _) | (with_reducible refine Below.drew ?_) | (with_reducible refine below_drewN ?_ _) | (with_reducible refine Below.setCell ?_ ?_ _) | (refine Below.step ?_ (by with_reducible assumption) ?_) | go_size))⟩
set_option maxHeartbeats 600000 in
theorem conicsCode_any (p : Int) (ok : Bool) (b cap : Nat) (es : List C6) (w : World) (hc : RdC6 w b 0 es) (hbl : b < w.heap.size) (hm : es.length ≤ 1000000) :
    Calls Try.prog 125 #[.int .i64 p, .bool ok, .slice (some ⟨b, 0, none⟩) es.length cap] w fun e w' => e = .returned (.int .i64 (coCode p ok es)) ∧ Below w.heap.size w w' := by
  have hE : Hid (coCode p ok es = codeOf p (ok && es.all (isCo p))) := rfl
  go_enter Try.func125, Try.ntmps125
  go_wp2_with (go_at_call 96; refine (planeCode3 _ _ _ _ _ _ _ (fun _ _ => by kernel_rfl) (fun hp => conicsCode1_any p ok b cap _ _ _ es _ (((hc.alloc hbl _).alloc (by simp; omega) _).alloc (by simp; omega) _) (by simp; omega) hm (by go_cell) (by go_cell) (by go_cell))).mono ?_; rintro e w1 ⟨rfl, hb1⟩; obtain ⟨hc1, hf1⟩ := bcell hb1; have hz1 := hb1.size; (try simp only [World.size_alloc, World.size_setCell, World.size_drew] at hz1); (try (have hy1w0 : w.heap.size < w1.heap.size := by omega)); (try (have hy1w1 : w.heap.size + 1 < w1.heap.size := by omega)); (try (have hy1w2 : w.heap.size + 1 + 1 < w1.heap.size := by omega)); (try (have hy1w3 : w.heap.size + 1 + 1 + 1 < w1.heap.size := by omega)); (try (have hy1w4 : w.heap.size + 1 + 1 + 1 + 1 < w1.heap.size := by omega)))
  go_returns
  exact ⟨ret_int (by rw [hE.out]), by (repeat' (first | (with_reducible exact Below.refl _ _) | (with_reducible assumption) | (with_reducible refine Below.alloc ?_ ?_ _) | (with_reducible refine Below.drew ?_) | (with_reducible refine below_drewN ?_ _) | (with_reducible refine Below.setCell ?_ ?_ _) | (refine Below.step ?_ (by with_reducible assumption) ?_) | go_size))⟩
set_option maxHeartbeats 600000 in
theorem l01Code_nil (p : Int) (w : World) :
    Calls Try.prog 76 #[.int .i64 p, .slice none 0 0] w fun e w' => e = .returned (.int .i64 (codeOf p true)) ∧ w = w' := by
  cases hp : isP p
  · have hE : Hid (codeOf p true = 2) := by show _ = _; unfold codeOf; rw [hp]; rfl
    go_enter Try.func76, Try.ntmps76
    go_wp2_with (go_at_call 56; refine (l01Prime_any _ _).mono ?_; rintro e w' ⟨rfl, rfl⟩)
    go_returns
    exact ⟨ret_int hE.out.symm, rfl⟩
  · have hE : Hid (codeOf p true = 0) := by show _ = _; unfold codeOf; rw [hp]; rfl
    go_enter Try.func76, Try.ntmps76
    go_wp2_with (go_at_call 56; refine (l01Prime_any _ _).mono ?_; rintro e w' ⟨rfl, rfl⟩)
    go_rounds 1
    go_ret
    exact ⟨ret_int hE.out.symm, rfl⟩
theorem l03Code_of (p : Int) (ok1 ok2 : Bool) : codeOf p (ok1 && ok2) = (if codeOf p ok1 = 0 then (if ok2 then 0 else 1) else codeOf p ok1) := by
  unfold codeOf
  cases isP p <;> cases ok1 <;> cases ok2 <;> rfl
set_option maxHeartbeats 600000 in
theorem l03Code_go (p x0 x1 x2 x3 x4 x5 : Int) (ok : Bool) (vp : Value) (w : World)
    (hcall : ∀ w', Below w.heap.size w w' → Calls Try.prog 76 #[.int .i64 p, vp] w' fun e w'' => e = .returned (.int .i64 (codeOf p ok)) ∧ Below w'.heap.size w' w'') (hvp : ∃ a n cap, vp = .slice a n cap) :
    Calls Try.prog 166 #[.int .i64 p, .agg #[.int .i64 x0, .int .i64 x1, .int .i64 x2, .int .i64 x3, .int .i64 x4, .int .i64 x5], vp] w fun e w' => e = .returned (.int .i64 (codeOf p (ok && isCo p ⟨x0, x1, x2, x3, x4, x5⟩))) ∧ Below w.heap.size w w' := by
  have hE : Hid (codeOf p (ok && isCo p ⟨x0, x1, x2, x3, x4, x5⟩) = (if codeOf p ok = 0 then (if isCo p ⟨x0, x1, x2, x3, x4, x5⟩ then 0 else 1) else codeOf p ok)) := l03Code_of p ok _
  have HC := Lib.hid hcall; clear hcall
  obtain ⟨a, n, cap, rfl⟩ := hvp
  have hI : ∀ w', Calls Try.prog 184 #[.int .i64 p, .agg #[.int .i64 x0, .int .i64 x1, .int .i64 x2, .int .i64 x3, .int .i64 x4, .int .i64 x5]] w' fun e w'' => e = .returned (.bool (isCo p ⟨x0, x1, x2, x3, x4, x5⟩)) ∧ Below w'.heap.size w' w'' := fun w' => l03Is_any p x0 x1 x2 x3 x4 x5 w'
  have HI := Lib.hid hI; clear hI
  rcases code3 p ok with hk | hk | ⟨hp, hok, hk⟩
  · have hE2 : Hid (codeOf p (ok && isCo p ⟨x0, x1, x2, x3, x4, x5⟩) = 2) := by show _ = _; rw [hE.out, hk]; rfl
    rw [hk] at HC
    clear hE hk
    go_enter Try.func166, Try.ntmps166
    go_wp2_with (go_at_call 76; refine (HC.out _ (by (repeat' (first | (with_reducible exact Below.refl _ _) | (with_reducible assumption) | (with_reducible refine Below.alloc ?_ ?_ _) | (with_reducible refine Below.drew ?_) | (with_reducible refine below_drewN ?_ _) | (with_reducible refine Below.setCell ?_ ?_ _) | (refine Below.step ?_ (by with_reducible assumption) ?_) | go_size)))).mono ?_; rintro e w1 ⟨rfl, hb1⟩; obtain ⟨hc1, hf1⟩ := bcell hb1; have hz1 := hb1.size; (try simp only [World.size_alloc, World.size_setCell, World.size_drew] at hz1); (try (have hy1w0 : w.heap.size < w1.heap.size := by omega)); (try (have hy1w1 : w.heap.size + 1 < w1.heap.size := by omega)); (try (have hy1w2 : w.heap.size + 1 + 1 < w1.heap.size := by omega)); (try (have hy1w3 : w.heap.size + 1 + 1 + 1 < w1.heap.size := by omega)); (try (have hy1w4 : w.heap.size + 1 + 1 + 1 + 1 < w1.heap.size := by omega)))
    go_returns
    exact ⟨ret_int hE2.out.symm, by (repeat' (first | (with_reducible exact Below.refl _ _) | (with_reducible assumption) | (with_reducible refine Below.alloc ?_ ?_ _) | (with_reducible refine Below.drew ?_) | (with_reducible refine below_drewN ?_ _) | (with_reducible refine Below.setCell ?_ ?_ _) | (refine Below.step ?_ (by with_reducible assumption) ?_) | go_size))⟩
  · have hE2 : Hid (codeOf p (ok && isCo p ⟨x0, x1, x2, x3, x4, x5⟩) = 1) := by show _ = _; rw [hE.out, hk]; rfl
    rw [hk] at HC
    clear hE hk
    go_enter Try.func166, Try.ntmps166
    go_wp2_with (go_at_call 76; refine (HC.out _ (by (repeat' (first | (with_reducible exact Below.refl _ _) | (with_reducible assumption) | (with_reducible refine Below.alloc ?_ ?_ _) | (with_reducible refine Below.drew ?_) | (with_reducible refine below_drewN ?_ _) | (with_reducible refine Below.setCell ?_ ?_ _) | (refine Below.step ?_ (by with_reducible assumption) ?_) | go_size)))).mono ?_; rintro e w1 ⟨rfl, hb1⟩; obtain ⟨hc1, hf1⟩ := bcell hb1; have hz1 := hb1.size; (try simp only [World.size_alloc, World.size_setCell, World.size_drew] at hz1); (try (have hy1w0 : w.heap.size < w1.heap.size := by omega)); (try (have hy1w1 : w.heap.size + 1 < w1.heap.size := by omega)); (try (have hy1w2 : w.heap.size + 1 + 1 < w1.heap.size := by omega)); (try (have hy1w3 : w.heap.size + 1 + 1 + 1 < w1.heap.size := by omega)); (try (have hy1w4 : w.heap.size + 1 + 1 + 1 + 1 < w1.heap.size := by omega)))
    go_returns
    exact ⟨ret_int hE2.out.symm, by (repeat' (first | (with_reducible exact Below.refl _ _) | (with_reducible assumption) | (with_reducible refine Below.alloc ?_ ?_ _) | (with_reducible refine Below.drew ?_) | (with_reducible refine below_drewN ?_ _) | (with_reducible refine Below.setCell ?_ ?_ _) | (refine Below.step ?_ (by with_reducible assumption) ?_) | go_size))⟩
  · rw [hk] at HC
    cases hc : isCo p ⟨x0, x1, x2, x3, x4, x5⟩
    · have hE2 : Hid (codeOf p (ok && isCo p ⟨x0, x1, x2, x3, x4, x5⟩) = 1) := by show _ = _; rw [hE.out, hk, hc]; rfl
      rw [hc] at HI hE2
      clear hE hk hc hp hok
      go_enter Try.func166, Try.ntmps166
      go_wp2_with (first | (go_at_call 76; refine (HC.out _ (by (repeat' (first | (with_reducible exact Below.refl _ _) | (with_reducible assumption) | (with_reducible refine Below.alloc ?_ ?_ _) | (with_reducible refine Below.drew ?_) | (with_reducible refine below_drewN ?_ _) | (with_reducible refine Below.setCell ?_ ?_ _) | (refine Below.step ?_ (by with_reducible assumption) ?_) | go_size)))).mono ?_; rintro e w1 ⟨rfl, hb1⟩; obtain ⟨hc1, hf1⟩ := bcell hb1; have hz1 := hb1.size; (try simp only [World.size_alloc, World.size_setCell, World.size_drew] at hz1); (try (have hy1w0 : w.heap.size < w1.heap.size := by omega)); (try (have hy1w1 : w.heap.size + 1 < w1.heap.size := by omega)); (try (have hy1w2 : w.heap.size + 1 + 1 < w1.heap.size := by omega)); (try (have hy1w3 : w.heap.size + 1 + 1 + 1 < w1.heap.size := by omega)); (try (have hy1w4 : w.heap.size + 1 + 1 + 1 + 1 < w1.heap.size := by omega))) | (go_at_call 184; refine (HI.out _).mono ?_; rintro e w2 ⟨rfl, hb2⟩; obtain ⟨hc2, hf2⟩ := bcell hb2; have hz2 := hb2.size; (try simp only [World.size_alloc, World.size_setCell, World.size_drew] at hz2); (try (have hy2w0 : w.heap.size < w2.heap.size := by omega)); (try (have hy2w1 : w.heap.size + 1 < w2.heap.size := by omega)); (try (have hy2w2 : w.heap.size + 1 + 1 < w2.heap.size := by omega)); (try (have hy2w3 : w.heap.size + 1 + 1 + 1 < w2.heap.size := by omega)); (try (have hy2w4 : w.heap.size + 1 + 1 + 1 + 1 < w2.heap.size := by omega)); (try (have hy2w10 : w1.heap.size < w2.heap.size := by omega)); (try (have hy2w11 : w1.heap.size + 1 < w2.heap.size := by omega)); (try (have hy2w12 : w1.heap.size + 1 + 1 < w2.heap.size := by omega)); (try (have hy2w13 : w1.heap.size + 1 + 1 + 1 < w2.heap.size := by omega)); (try (have hy2w14 : w1.heap.size + 1 + 1 + 1 + 1 < w2.heap.size := by omega))))
      go_returns
      exact ⟨ret_int hE2.out.symm, by (repeat' (first | (with_reducible exact Below.refl _ _) | (with_reducible assumption) | (with_reducible refine Below.alloc ?_ ?_ _) | (with_reducible refine Below.drew ?_) | (with_reducible refine below_drewN ?_ _) | (with_reducible refine Below.setCell ?_ ?_ _) | (refine Below.step ?_ (by with_reducible assumption) ?_) | go_size))⟩
    · have hE2 : Hid (codeOf p (ok && isCo p ⟨x0, x1, x2, x3, x4, x5⟩) = 0) := by show _ = _; rw [hE.out, hk, hc]; rfl
      rw [hc] at HI hE2
      clear hE hk hc hp hok
      go_enter Try.func166, Try.ntmps166
      go_wp2_with (first | (go_at_call 76; refine (HC.out _ (by (repeat' (first | (with_reducible exact Below.refl _ _) | (with_reducible assumption) | (with_reducible refine Below.alloc ?_ ?_ _) | (with_reducible refine Below.drew ?_) | (with_reducible refine below_drewN ?_ _) | (with_reducible refine Below.setCell ?_ ?_ _) | (refine Below.step ?_ (by with_reducible assumption) ?_) | go_size)))).mono ?_; rintro e w1 ⟨rfl, hb1⟩; obtain ⟨hc1, hf1⟩ := bcell hb1; have hz1 := hb1.size; (try simp only [World.size_alloc, World.size_setCell, World.size_drew] at hz1); (try (have hy1w0 : w.heap.size < w1.heap.size := by omega)); (try (have hy1w1 : w.heap.size + 1 < w1.heap.size := by omega)); (try (have hy1w2 : w.heap.size + 1 + 1 < w1.heap.size := by omega)); (try (have hy1w3 : w.heap.size + 1 + 1 + 1 < w1.heap.size := by omega)); (try (have hy1w4 : w.heap.size + 1 + 1 + 1 + 1 < w1.heap.size := by omega))) | (go_at_call 184; refine (HI.out _).mono ?_; rintro e w2 ⟨rfl, hb2⟩; obtain ⟨hc2, hf2⟩ := bcell hb2; have hz2 := hb2.size; (try simp only [World.size_alloc, World.size_setCell, World.size_drew] at hz2); (try (have hy2w0 : w.heap.size < w2.heap.size := by omega)); (try (have hy2w1 : w.heap.size + 1 < w2.heap.size := by omega)); (try (have hy2w2 : w.heap.size + 1 + 1 < w2.heap.size := by omega)); (try (have hy2w3 : w.heap.size + 1 + 1 + 1 < w2.heap.size := by omega)); (try (have hy2w4 : w.heap.size + 1 + 1 + 1 + 1 < w2.heap.size := by omega)); (try (have hy2w10 : w1.heap.size < w2.heap.size := by omega)); (try (have hy2w11 : w1.heap.size + 1 < w2.heap.size := by omega)); (try (have hy2w12 : w1.heap.size + 1 + 1 < w2.heap.size := by omega)); (try (have hy2w13 : w1.heap.size + 1 + 1 + 1 < w2.heap.size := by omega)); (try (have hy2w14 : w1.heap.size + 1 + 1 + 1 + 1 < w2.heap.size := by omega))))
      go_returns
      exact ⟨ret_int hE2.out.symm, by (repeat' (first | (with_reducible exact Below.refl _ _) | (with_reducible assumption) | (with_reducible refine Below.alloc ?_ ?_ _) | (with_reducible refine Below.drew ?_) | (with_reducible refine below_drewN ?_ _) | (with_reducible refine Below.setCell ?_ ?_ _) | (refine Below.step ?_ (by with_reducible assumption) ?_) | go_size))⟩
theorem l03Code_nil (p x0 x1 x2 x3 x4 x5 : Int) (w : World) :
    Calls Try.prog 166 #[.int .i64 p, .agg #[.int .i64 x0, .int .i64 x1, .int .i64 x2, .int .i64 x3, .int .i64 x4, .int .i64 x5], .slice none 0 0] w fun e w' => e = .returned (.int .i64 (coCode p true [⟨x0, x1, x2, x3, x4, x5⟩])) ∧ Below w.heap.size w w' :=
  (l03Code_go p x0 x1 x2 x3 x4 x5 true _ w (fun w' _ => (l01Code_nil p w').mono fun _ _ h => ⟨h.1, by rw [h.2]; exact Below.refl _ _⟩) ⟨none, 0, 0, rfl⟩).mono fun _ _ h => ⟨by rw [h.1]; unfold coCode; simp, h.2⟩
theorem l03Code_any (p x0 x1 x2 x3 x4 x5 : Int) (b cap : Nat) (ps : List P3) (w : World) (hc : RdP w b 0 ps) (hbl : b < w.heap.size) (hm : ps.length ≤ 1000000) :
    Calls Try.prog 166 #[.int .i64 p, .agg #[.int .i64 x0, .int .i64 x1, .int .i64 x2, .int .i64 x3, .int .i64 x4, .int .i64 x5], .slice (some ⟨b, 0, none⟩) ps.length cap] w fun e w' => e = .returned (.int .i64 (coCode p (allPt p ps) [⟨x0, x1, x2, x3, x4, x5⟩])) ∧ Below w.heap.size w w' :=
  (l03Code_go p x0 x1 x2 x3 x4 x5 (allPt p ps) _ w (fun w' hb => l01Code_any p b 0 cap ps w' (hc.below hb hbl) (Nat.lt_of_lt_of_le hbl hb.size) hm) ⟨_, _, _, rfl⟩).mono fun _ _ h => ⟨by rw [h.1]; unfold coCode; simp, h.2⟩
end Go.Proofs.Ytjfabhkgmelmgaa
