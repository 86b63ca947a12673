/- Moebius maps in slices, their codes; p is a prime where it says so. -/
import Derived.Test.YtemimkbngfbomaaW7
import Derived.Test.YtemimkbngfbomaaE1
import Derived.Test.YtemimkbngfbomaaX1
namespace Go.Proofs.Ytemimkbngfbomaa
open Go.RowKit
set_option linter.unusedSimpArgs false
set_option linter.unusedVariables false
set_option maxRecDepth 100000

structure M4 where
  a : Int
  b : Int
  c : Int
  d : Int
  deriving DecidableEq
def M4.l (e : M4) : List Int := [e.a, e.b, e.c, e.d]
/-- A slice of impl.Moebius. -/
def RdM4 (w : World) (b off : Nat) (es : List M4) : Prop := ∀ i e, es[i]? = some e → w.cell? ⟨b, off + i * 4, none⟩ = some (.int .i64 e.a) ∧ w.cell? ⟨b, off + i * 4 + 1, none⟩ = some (.int .i64 e.b) ∧ w.cell? ⟨b, off + i * 4 + 2, none⟩ = some (.int .i64 e.c) ∧ w.cell? ⟨b, off + i * 4 + 3, none⟩ = some (.int .i64 e.d)
theorem RdM4.below {w w' : World} {b off : Nat} {es : List M4} (h : RdM4 w b off es) (hb : Below w.heap.size w w') (hlt : b < w.heap.size) : RdM4 w' b off es := by
  intro i e he
  obtain ⟨h0, h1, h2, h3⟩ := h i e he
  exact ⟨by rw [hb.cell (p := ⟨b, _, none⟩) hlt]; exact h0, by rw [hb.cell (p := ⟨b, _, none⟩) hlt]; exact h1, by rw [hb.cell (p := ⟨b, _, none⟩) hlt]; exact h2, by rw [hb.cell (p := ⟨b, _, none⟩) hlt]; exact h3⟩
theorem RdM4.alloc {w : World} {b off : Nat} {es : List M4} (h : RdM4 w b off es) (hlt : b < w.heap.size) (o : Obj) : RdM4 (w.alloc o) b off es :=
  h.below ((Below.refl _ _).alloc (Nat.le_refl _) _) hlt
theorem RdM4.get {w : World} {b off : Nat} {es : List M4} (h : RdM4 w b off es) {k : Nat} (hk : k < es.length) :
    ∃ x0 x1 x2 x3, w.cell? ⟨b, off + k * 4, none⟩ = some (.int .i64 x0) ∧ w.cell? ⟨b, off + k * 4 + 1, none⟩ = some (.int .i64 x1) ∧ w.cell? ⟨b, off + k * 4 + 2, none⟩ = some (.int .i64 x2) ∧ w.cell? ⟨b, off + k * 4 + 3, none⟩ = some (.int .i64 x3) ∧ Hid (es[k]? = some ⟨x0, x1, x2, x3⟩) :=
  let ⟨h0, h1, h2, h3⟩ := h k es[k] (List.getElem?_eq_getElem hk)
  ⟨_, _, _, _, h0, h1, h2, h3, Lib.hid (List.getElem?_eq_getElem hk)⟩
theorem rdM4_1 {w : World} {b off : Nat} {x0_0 x0_1 x0_2 x0_3 : Int} (h0_0 : w.cell? ⟨b, off + 0 * 4, none⟩ = some (.int .i64 x0_0)) (h0_1 : w.cell? ⟨b, off + 0 * 4 + 1, none⟩ = some (.int .i64 x0_1)) (h0_2 : w.cell? ⟨b, off + 0 * 4 + 2, none⟩ = some (.int .i64 x0_2)) (h0_3 : w.cell? ⟨b, off + 0 * 4 + 3, none⟩ = some (.int .i64 x0_3)) : RdM4 w b off [⟨x0_0, x0_1, x0_2, x0_3⟩] := by
  intro i e he
  match i, he with
  | 0, he => simp at he; subst he; exact ⟨h0_0, h0_1, h0_2, h0_3⟩
  | i + 1, he => simp at he
theorem rdM4_2 {w : World} {b off : Nat} {x0_0 x0_1 x0_2 x0_3 x1_0 x1_1 x1_2 x1_3 : Int} (h0_0 : w.cell? ⟨b, off + 0 * 4, none⟩ = some (.int .i64 x0_0)) (h0_1 : w.cell? ⟨b, off + 0 * 4 + 1, none⟩ = some (.int .i64 x0_1)) (h0_2 : w.cell? ⟨b, off + 0 * 4 + 2, none⟩ = some (.int .i64 x0_2)) (h0_3 : w.cell? ⟨b, off + 0 * 4 + 3, none⟩ = some (.int .i64 x0_3)) (h1_0 : w.cell? ⟨b, off + 1 * 4, none⟩ = some (.int .i64 x1_0)) (h1_1 : w.cell? ⟨b, off + 1 * 4 + 1, none⟩ = some (.int .i64 x1_1)) (h1_2 : w.cell? ⟨b, off + 1 * 4 + 2, none⟩ = some (.int .i64 x1_2)) (h1_3 : w.cell? ⟨b, off + 1 * 4 + 3, none⟩ = some (.int .i64 x1_3)) : RdM4 w b off [⟨x0_0, x0_1, x0_2, x0_3⟩, ⟨x1_0, x1_1, x1_2, x1_3⟩] := by
  intro i e he
  match i, he with
  | 0, he => simp at he; subst he; exact ⟨h0_0, h0_1, h0_2, h0_3⟩
  | 1, he => simp at he; subst he; exact ⟨h1_0, h1_1, h1_2, h1_3⟩
  | i + 2, he => simp at he
theorem rdM4_4 {w : World} {b off : Nat} {x0_0 x0_1 x0_2 x0_3 x1_0 x1_1 x1_2 x1_3 x2_0 x2_1 x2_2 x2_3 x3_0 x3_1 x3_2 x3_3 : Int} (h0_0 : w.cell? ⟨b, off + 0 * 4, none⟩ = some (.int .i64 x0_0)) (h0_1 : w.cell? ⟨b, off + 0 * 4 + 1, none⟩ = some (.int .i64 x0_1)) (h0_2 : w.cell? ⟨b, off + 0 * 4 + 2, none⟩ = some (.int .i64 x0_2)) (h0_3 : w.cell? ⟨b, off + 0 * 4 + 3, none⟩ = some (.int .i64 x0_3)) (h1_0 : w.cell? ⟨b, off + 1 * 4, none⟩ = some (.int .i64 x1_0)) (h1_1 : w.cell? ⟨b, off + 1 * 4 + 1, none⟩ = some (.int .i64 x1_1)) (h1_2 : w.cell? ⟨b, off + 1 * 4 + 2, none⟩ = some (.int .i64 x1_2)) (h1_3 : w.cell? ⟨b, off + 1 * 4 + 3, none⟩ = some (.int .i64 x1_3)) (h2_0 : w.cell? ⟨b, off + 2 * 4, none⟩ = some (.int .i64 x2_0)) (h2_1 : w.cell? ⟨b, off + 2 * 4 + 1, none⟩ = some (.int .i64 x2_1)) (h2_2 : w.cell? ⟨b, off + 2 * 4 + 2, none⟩ = some (.int .i64 x2_2)) (h2_3 : w.cell? ⟨b, off + 2 * 4 + 3, none⟩ = some (.int .i64 x2_3)) (h3_0 : w.cell? ⟨b, off + 3 * 4, none⟩ = some (.int .i64 x3_0)) (h3_1 : w.cell? ⟨b, off + 3 * 4 + 1, none⟩ = some (.int .i64 x3_1)) (h3_2 : w.cell? ⟨b, off + 3 * 4 + 2, none⟩ = some (.int .i64 x3_2)) (h3_3 : w.cell? ⟨b, off + 3 * 4 + 3, none⟩ = some (.int .i64 x3_3)) : RdM4 w b off [⟨x0_0, x0_1, x0_2, x0_3⟩, ⟨x1_0, x1_1, x1_2, x1_3⟩, ⟨x2_0, x2_1, x2_2, x2_3⟩, ⟨x3_0, x3_1, x3_2, x3_3⟩] := by
  intro i e he
  match i, he with
  | 0, he => simp at he; subst he; exact ⟨h0_0, h0_1, h0_2, h0_3⟩
  | 1, he => simp at he; subst he; exact ⟨h1_0, h1_1, h1_2, h1_3⟩
  | 2, he => simp at he; subst he; exact ⟨h2_0, h2_1, h2_2, h2_3⟩
  | 3, he => simp at he; subst he; exact ⟨h3_0, h3_1, h3_2, h3_3⟩
  | i + 4, he => simp at he
def isMoE (p : Int) (e : M4) : Bool := isMo p e.a e.b e.c e.d
set_option maxHeartbeats 600000 in
theorem moebiusCode11 (p x0 x1 x2 x3 : Int) (u : Nat) (w : World) (k1 : 3 ≤ p) (k2 : p ≤ 13) (hu : w.cell? ⟨u, 0, none⟩ = some (.int .i64 p)) :
    Calls Try.prog 125 #[.agg #[.int .i64 x0, .int .i64 x1, .int .i64 x2, .int .i64 x3], .pointer (some ⟨u, 0, none⟩)] w fun e w' => e = .returned (.bool (!(isMoE p ⟨x0, x1, x2, x3⟩))) ∧ Below w.heap.size w w' := by
  have hul : u < w.heap.size := World.block_lt_of_cell? w _ hu
  go_enter Try.func125, Try.ntmps125
  go_wp2_with (go_at_call 126; refine (isMoebius_any _ _ _ _ _ _ k1 k2).mono ?_; rintro e w1 ⟨rfl, hb1⟩; obtain ⟨hc1, hf1⟩ := bcell hb1; have hz1 := hb1.size; (try simp only [World.size_alloc, World.size_setCell, World.size_drew] at hz1); (try (have hy1w0 : w.heap.size < w1.heap.size := by omega)); (try (have hy1w1 : w.heap.size + 1 < w1.heap.size := by omega)); (try (have hy1w2 : w.heap.size + 1 + 1 < w1.heap.size := by omega)); (try (have hy1w3 : w.heap.size + 1 + 1 + 1 < w1.heap.size := by omega)); (try (have hy1w4 : w.heap.size + 1 + 1 + 1 + 1 < w1.heap.size := by omega)))
  go_returns
  exact ⟨rfl, by (repeat' (first | (with_reducible exact Below.refl _ _) | (with_reducible assumption) | (with_reducible refine Below.alloc ?_ ?_ _) | (with_reducible refine Below.drew ?_) | (with_reducible refine below_drewN ?_ _) | (with_reducible refine Below.setCell ?_ ?_ _) | (refine Below.step ?_ (by with_reducible assumption) ?_) | go_size))⟩
set_option maxHeartbeats 600000 in
theorem moebiusCode_index (p : Int) (b off cap u : Nat) (es : List M4) (w : World) (k1 : 3 ≤ p) (k2 : p ≤ 13) (hc : RdM4 w b off es) (hbl : b < w.heap.size) (hu : w.cell? ⟨u, 0, none⟩ = some (.int .i64 p)) (hm : es.length ≤ 1000000) :
    Calls Try.prog 141 #[.slice (some ⟨b, off, none⟩) es.length cap, .func (.func 125) #[] #[.pointer (some ⟨u, 0, none⟩)]] w fun e w' => e = .returned (.int .i64 (idxL (fun e => !(isMoE p e)) es 0)) ∧ Below w.heap.size w w' := by
  go_enter Try.func141, Try.ntmps141
  go_wp2
  go_loopw [8] (fun i wr => ∃ k : Nat, k ≤ es.length ∧ i = .int .i64 k ∧ Below w.heap.size w wr ∧ Hid (idxL (fun e => !(isMoE p e)) es 0 = idxL (fun e => !(isMoE p e)) (es.drop k) k)) (fun i _ => es.length - (intOf i).toNat)
  case atStart => exact ⟨0, Nat.zero_le _, rfl, Below.refl _ _, rfl⟩
  case round =>
    obtain ⟨k, hk, rfl, hB, hR⟩ := hrel
    have hBz := hB.size
    have hu' := keepC2 hB hu
    by_cases hlt : k < es.length
    · obtain ⟨x0, x1, x2, x3, hx0, hx1, hx2, hx3, hg⟩ := (hc.below hB hbl).get hlt
      cases hgood : isMoE p ⟨x0, x1, x2, x3⟩
      · have hn : Hid (idxL (fun e => !(isMoE p e)) es 0 = (k : Int)) := by show _ = _; rw [hR.out, drop_cons hg.out, idxL, if_pos (by simp [hgood])]
        clear hc hR
        go_wp2_with (go_at_call 125; refine (moebiusCode11 _ _ _ _ _ _ _ k1 k2 hu').mono ?_; rintro e w1 ⟨rfl, hb1⟩; obtain ⟨hc1, hf1⟩ := bcell hb1; have hz1 := hb1.size; (try simp only [World.size_alloc, World.size_setCell, World.size_drew] at hz1); (try (have hy1w0 : w.heap.size < w1.heap.size := by omega)); (try (have hy1w1 : w.heap.size + 1 < w1.heap.size := by omega)); (try (have hy1w2 : w.heap.size + 1 + 1 < w1.heap.size := by omega)); (try (have hy1w3 : w.heap.size + 1 + 1 + 1 < w1.heap.size := by omega)); (try (have hy1w4 : w.heap.size + 1 + 1 + 1 + 1 < w1.heap.size := by omega)))
        go_ret
        exact ⟨ret_int hn.out.symm, by (repeat' (first | (with_reducible exact Below.refl _ _) | (with_reducible assumption) | (with_reducible refine Below.alloc ?_ ?_ _) | (with_reducible refine Below.drew ?_) | (with_reducible refine below_drewN ?_ _) | (with_reducible refine Below.setCell ?_ ?_ _) | (refine Below.step ?_ (by with_reducible assumption) ?_) | go_size))⟩
      · have hn : Hid (idxL (fun e => !(isMoE p e)) es 0 = idxL (fun e => !(isMoE p e)) (es.drop (k + 1)) ((k + 1 : Nat) : Int)) := by show _ = _; rw [hR.out, drop_cons hg.out, idxL, if_neg (by simp [hgood])]; rfl
        clear hc hR
        go_wp2_with (go_at_call 125; refine (moebiusCode11 _ _ _ _ _ _ _ k1 k2 hu').mono ?_; rintro e w1 ⟨rfl, hb1⟩; obtain ⟨hc1, hf1⟩ := bcell hb1; have hz1 := hb1.size; (try simp only [World.size_alloc, World.size_setCell, World.size_drew] at hz1); (try (have hy1w0 : w.heap.size < w1.heap.size := by omega)); (try (have hy1w1 : w.heap.size + 1 < w1.heap.size := by omega)); (try (have hy1w2 : w.heap.size + 1 + 1 < w1.heap.size := by omega)); (try (have hy1w3 : w.heap.size + 1 + 1 + 1 < w1.heap.size := by omega)); (try (have hy1w4 : w.heap.size + 1 + 1 + 1 + 1 < w1.heap.size := by omega)))
        go_roundw
        case rel => exact ⟨k + 1, by omega, by go_num, by (repeat' (first | (with_reducible exact Below.refl _ _) | (with_reducible assumption) | (with_reducible refine Below.alloc ?_ ?_ _) | (with_reducible refine Below.drew ?_) | (with_reducible refine below_drewN ?_ _) | (with_reducible refine Below.setCell ?_ ?_ _) | (refine Below.step ?_ (by with_reducible assumption) ?_) | go_size)), hn⟩
        case measure => simp [intOf]; omega
    · have hn : Hid (idxL (fun e => !(isMoE p e)) es 0 = -1) := by show _ = _; rw [hR.out, List.drop_of_length_le (by omega)]; rfl
      clear hc hR
      go_wp2
      go_ret
      exact ⟨ret_int hn.out.symm, hB⟩
set_option maxHeartbeats 600000 in
theorem moebiusCode_contains (p : Int) (b off cap u : Nat) (es : List M4) (w : World) (k1 : 3 ≤ p) (k2 : p ≤ 13) (hc : RdM4 w b off es) (hbl : b < w.heap.size) (hu : w.cell? ⟨u, 0, none⟩ = some (.int .i64 p)) (hm : es.length ≤ 1000000) :
    Calls Try.prog 124 #[.slice (some ⟨b, off, none⟩) es.length cap, .func (.func 125) #[] #[.pointer (some ⟨u, 0, none⟩)]] w fun e w' => e = .returned (.bool (!(es.all (isMoE p)))) ∧ Below w.heap.size w w' := by
  have hE : Hid (decide (0 ≤ idxL (fun e => !(isMoE p e)) es 0) = !(es.all (isMoE p))) := by
    show _ = _
    rw [List.not_all_eq_any_not, Bool.eq_iff_iff, decide_eq_true_eq]
    exact idxL_iff _ es 0 (by omega)
  go_enter Try.func124, Try.ntmps124
  go_wp2_with (go_at_call 141; refine (moebiusCode_index p b off cap u es _ k1 k2 hc hbl hu hm).mono ?_; rintro e w1 ⟨rfl, hb1⟩; obtain ⟨hc1, hf1⟩ := bcell hb1; have hz1 := hb1.size; (try simp only [World.size_alloc, World.size_setCell, World.size_drew] at hz1); (try (have hy1w0 : w.heap.size < w1.heap.size := by omega)); (try (have hy1w1 : w.heap.size + 1 < w1.heap.size := by omega)); (try (have hy1w2 : w.heap.size + 1 + 1 < w1.heap.size := by omega)); (try (have hy1w3 : w.heap.size + 1 + 1 + 1 < w1.heap.size := by omega)); (try (have hy1w4 : w.heap.size + 1 + 1 + 1 + 1 < w1.heap.size := by omega)))
  go_returns
  exact ⟨ret_bool hE.out, by (repeat' (first | (with_reducible exact Below.refl _ _) | (with_reducible assumption) | (with_reducible refine Below.alloc ?_ ?_ _) | (with_reducible refine Below.drew ?_) | (with_reducible refine below_drewN ?_ _) | (with_reducible refine Below.setCell ?_ ?_ _) | (refine Below.step ?_ (by with_reducible assumption) ?_) | go_size))⟩

end Go.Proofs.Ytemimkbngfbomaa
