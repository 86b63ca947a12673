/- Maps in slices, their codes; no condition. -/
import Derived.Test.YtemimkbngfbomaaW27
import Derived.Test.YtemimkbngfbomaaX1
namespace Go.Proofs.Ytemimkbngfbomaa
open Go.RowKit
set_option linter.unusedSimpArgs false
set_option linter.unusedVariables false
set_option maxRecDepth 100000

/-- A slice of impl.Map. -/
def RdM9 (w : World) (b off : Nat) (es : List M9) : Prop := ∀ i e, es[i]? = some e → w.cell? ⟨b, off + i * 9, none⟩ = some (.int .i64 e.m0) ∧ w.cell? ⟨b, off + i * 9 + 1, none⟩ = some (.int .i64 e.m1) ∧ w.cell? ⟨b, off + i * 9 + 2, none⟩ = some (.int .i64 e.m2) ∧ w.cell? ⟨b, off + i * 9 + 3, none⟩ = some (.int .i64 e.m3) ∧ w.cell? ⟨b, off + i * 9 + 4, none⟩ = some (.int .i64 e.m4) ∧ w.cell? ⟨b, off + i * 9 + 5, none⟩ = some (.int .i64 e.m5) ∧ w.cell? ⟨b, off + i * 9 + 6, none⟩ = some (.int .i64 e.m6) ∧ w.cell? ⟨b, off + i * 9 + 7, none⟩ = some (.int .i64 e.m7) ∧ w.cell? ⟨b, off + i * 9 + 8, none⟩ = some (.int .i64 e.m8)
theorem RdM9.below {w w' : World} {b off : Nat} {es : List M9} (h : RdM9 w b off es) (hb : Below w.heap.size w w') (hlt : b < w.heap.size) : RdM9 w' b off es := by
  intro i e he
  obtain ⟨h0, h1, h2, h3, h4, h5, h6, h7, h8⟩ := h i e he
  exact ⟨by rw [hb.cell (p := ⟨b, _, none⟩) hlt]; exact h0, by rw [hb.cell (p := ⟨b, _, none⟩) hlt]; exact h1, by rw [hb.cell (p := ⟨b, _, none⟩) hlt]; exact h2, by rw [hb.cell (p := ⟨b, _, none⟩) hlt]; exact h3, by rw [hb.cell (p := ⟨b, _, none⟩) hlt]; exact h4, by rw [hb.cell (p := ⟨b, _, none⟩) hlt]; exact h5, by rw [hb.cell (p := ⟨b, _, none⟩) hlt]; exact h6, by rw [hb.cell (p := ⟨b, _, none⟩) hlt]; exact h7, by rw [hb.cell (p := ⟨b, _, none⟩) hlt]; exact h8⟩
theorem RdM9.alloc {w : World} {b off : Nat} {es : List M9} (h : RdM9 w b off es) (hlt : b < w.heap.size) (o : Obj) : RdM9 (w.alloc o) b off es :=
  h.below ((Below.refl _ _).alloc (Nat.le_refl _) _) hlt
theorem RdM9.get {w : World} {b off : Nat} {es : List M9} (h : RdM9 w b off es) {k : Nat} (hk : k < es.length) :
    ∃ x0 x1 x2 x3 x4 x5 x6 x7 x8, w.cell? ⟨b, off + k * 9, none⟩ = some (.int .i64 x0) ∧ w.cell? ⟨b, off + k * 9 + 1, none⟩ = some (.int .i64 x1) ∧ w.cell? ⟨b, off + k * 9 + 2, none⟩ = some (.int .i64 x2) ∧ w.cell? ⟨b, off + k * 9 + 3, none⟩ = some (.int .i64 x3) ∧ w.cell? ⟨b, off + k * 9 + 4, none⟩ = some (.int .i64 x4) ∧ w.cell? ⟨b, off + k * 9 + 5, none⟩ = some (.int .i64 x5) ∧ w.cell? ⟨b, off + k * 9 + 6, none⟩ = some (.int .i64 x6) ∧ w.cell? ⟨b, off + k * 9 + 7, none⟩ = some (.int .i64 x7) ∧ w.cell? ⟨b, off + k * 9 + 8, none⟩ = some (.int .i64 x8) ∧ Hid (es[k]? = some ⟨x0, x1, x2, x3, x4, x5, x6, x7, x8⟩) :=
  let ⟨h0, h1, h2, h3, h4, h5, h6, h7, h8⟩ := h k es[k] (List.getElem?_eq_getElem hk)
  ⟨_, _, _, _, _, _, _, _, _, h0, h1, h2, h3, h4, h5, h6, h7, h8, Lib.hid (List.getElem?_eq_getElem hk)⟩
theorem rdM9_1 {w : World} {b off : Nat} {x0_0 x0_1 x0_2 x0_3 x0_4 x0_5 x0_6 x0_7 x0_8 : Int} (h0_0 : w.cell? ⟨b, off + 0 * 9, none⟩ = some (.int .i64 x0_0)) (h0_1 : w.cell? ⟨b, off + 0 * 9 + 1, none⟩ = some (.int .i64 x0_1)) (h0_2 : w.cell? ⟨b, off + 0 * 9 + 2, none⟩ = some (.int .i64 x0_2)) (h0_3 : w.cell? ⟨b, off + 0 * 9 + 3, none⟩ = some (.int .i64 x0_3)) (h0_4 : w.cell? ⟨b, off + 0 * 9 + 4, none⟩ = some (.int .i64 x0_4)) (h0_5 : w.cell? ⟨b, off + 0 * 9 + 5, none⟩ = some (.int .i64 x0_5)) (h0_6 : w.cell? ⟨b, off + 0 * 9 + 6, none⟩ = some (.int .i64 x0_6)) (h0_7 : w.cell? ⟨b, off + 0 * 9 + 7, none⟩ = some (.int .i64 x0_7)) (h0_8 : w.cell? ⟨b, off + 0 * 9 + 8, none⟩ = some (.int .i64 x0_8)) : RdM9 w b off [⟨x0_0, x0_1, x0_2, x0_3, x0_4, x0_5, x0_6, x0_7, x0_8⟩] := by
  intro i e he
  match i, he with
  | 0, he => simp at he; subst he; exact ⟨h0_0, h0_1, h0_2, h0_3, h0_4, h0_5, h0_6, h0_7, h0_8⟩
  | i + 1, he => simp at he
theorem rdM9_2 {w : World} {b off : Nat} {x0_0 x0_1 x0_2 x0_3 x0_4 x0_5 x0_6 x0_7 x0_8 x1_0 x1_1 x1_2 x1_3 x1_4 x1_5 x1_6 x1_7 x1_8 : Int} (h0_0 : w.cell? ⟨b, off + 0 * 9, none⟩ = some (.int .i64 x0_0)) (h0_1 : w.cell? ⟨b, off + 0 * 9 + 1, none⟩ = some (.int .i64 x0_1)) (h0_2 : w.cell? ⟨b, off + 0 * 9 + 2, none⟩ = some (.int .i64 x0_2)) (h0_3 : w.cell? ⟨b, off + 0 * 9 + 3, none⟩ = some (.int .i64 x0_3)) (h0_4 : w.cell? ⟨b, off + 0 * 9 + 4, none⟩ = some (.int .i64 x0_4)) (h0_5 : w.cell? ⟨b, off + 0 * 9 + 5, none⟩ = some (.int .i64 x0_5)) (h0_6 : w.cell? ⟨b, off + 0 * 9 + 6, none⟩ = some (.int .i64 x0_6)) (h0_7 : w.cell? ⟨b, off + 0 * 9 + 7, none⟩ = some (.int .i64 x0_7)) (h0_8 : w.cell? ⟨b, off + 0 * 9 + 8, none⟩ = some (.int .i64 x0_8)) (h1_0 : w.cell? ⟨b, off + 1 * 9, none⟩ = some (.int .i64 x1_0)) (h1_1 : w.cell? ⟨b, off + 1 * 9 + 1, none⟩ = some (.int .i64 x1_1)) (h1_2 : w.cell? ⟨b, off + 1 * 9 + 2, none⟩ = some (.int .i64 x1_2)) (h1_3 : w.cell? ⟨b, off + 1 * 9 + 3, none⟩ = some (.int .i64 x1_3)) (h1_4 : w.cell? ⟨b, off + 1 * 9 + 4, none⟩ = some (.int .i64 x1_4)) (h1_5 : w.cell? ⟨b, off + 1 * 9 + 5, none⟩ = some (.int .i64 x1_5)) (h1_6 : w.cell? ⟨b, off + 1 * 9 + 6, none⟩ = some (.int .i64 x1_6)) (h1_7 : w.cell? ⟨b, off + 1 * 9 + 7, none⟩ = some (.int .i64 x1_7)) (h1_8 : w.cell? ⟨b, off + 1 * 9 + 8, none⟩ = some (.int .i64 x1_8)) : RdM9 w b off [⟨x0_0, x0_1, x0_2, x0_3, x0_4, x0_5, x0_6, x0_7, x0_8⟩, ⟨x1_0, x1_1, x1_2, x1_3, x1_4, x1_5, x1_6, x1_7, x1_8⟩] := by
  intro i e he
  match i, he with
  | 0, he => simp at he; subst he; exact ⟨h0_0, h0_1, h0_2, h0_3, h0_4, h0_5, h0_6, h0_7, h0_8⟩
  | 1, he => simp at he; subst he; exact ⟨h1_0, h1_1, h1_2, h1_3, h1_4, h1_5, h1_6, h1_7, h1_8⟩
  | i + 2, he => simp at he
theorem rdM9_4 {w : World} {b off : Nat} {x0_0 x0_1 x0_2 x0_3 x0_4 x0_5 x0_6 x0_7 x0_8 x1_0 x1_1 x1_2 x1_3 x1_4 x1_5 x1_6 x1_7 x1_8 x2_0 x2_1 x2_2 x2_3 x2_4 x2_5 x2_6 x2_7 x2_8 x3_0 x3_1 x3_2 x3_3 x3_4 x3_5 x3_6 x3_7 x3_8 : Int} (h0_0 : w.cell? ⟨b, off + 0 * 9, none⟩ = some (.int .i64 x0_0)) (h0_1 : w.cell? ⟨b, off + 0 * 9 + 1, none⟩ = some (.int .i64 x0_1)) (h0_2 : w.cell? ⟨b, off + 0 * 9 + 2, none⟩ = some (.int .i64 x0_2)) (h0_3 : w.cell? ⟨b, off + 0 * 9 + 3, none⟩ = some (.int .i64 x0_3)) (h0_4 : w.cell? ⟨b, off + 0 * 9 + 4, none⟩ = some (.int .i64 x0_4)) (h0_5 : w.cell? ⟨b, off + 0 * 9 + 5, none⟩ = some (.int .i64 x0_5)) (h0_6 : w.cell? ⟨b, off + 0 * 9 + 6, none⟩ = some (.int .i64 x0_6)) (h0_7 : w.cell? ⟨b, off + 0 * 9 + 7, none⟩ = some (.int .i64 x0_7)) (h0_8 : w.cell? ⟨b, off + 0 * 9 + 8, none⟩ = some (.int .i64 x0_8)) (h1_0 : w.cell? ⟨b, off + 1 * 9, none⟩ = some (.int .i64 x1_0)) (h1_1 : w.cell? ⟨b, off + 1 * 9 + 1, none⟩ = some (.int .i64 x1_1)) (h1_2 : w.cell? ⟨b, off + 1 * 9 + 2, none⟩ = some (.int .i64 x1_2)) (h1_3 : w.cell? ⟨b, off + 1 * 9 + 3, none⟩ = some (.int .i64 x1_3)) (h1_4 : w.cell? ⟨b, off + 1 * 9 + 4, none⟩ = some (.int .i64 x1_4)) (h1_5 : w.cell? ⟨b, off + 1 * 9 + 5, none⟩ = some (.int .i64 x1_5)) (h1_6 : w.cell? ⟨b, off + 1 * 9 + 6, none⟩ = some (.int .i64 x1_6)) (h1_7 : w.cell? ⟨b, off + 1 * 9 + 7, none⟩ = some (.int .i64 x1_7)) (h1_8 : w.cell? ⟨b, off + 1 * 9 + 8, none⟩ = some (.int .i64 x1_8)) (h2_0 : w.cell? ⟨b, off + 2 * 9, none⟩ = some (.int .i64 x2_0)) (h2_1 : w.cell? ⟨b, off + 2 * 9 + 1, none⟩ = some (.int .i64 x2_1)) (h2_2 : w.cell? ⟨b, off + 2 * 9 + 2, none⟩ = some (.int .i64 x2_2)) (h2_3 : w.cell? ⟨b, off + 2 * 9 + 3, none⟩ = some (.int .i64 x2_3)) (h2_4 : w.cell? ⟨b, off + 2 * 9 + 4, none⟩ = some (.int .i64 x2_4)) (h2_5 : w.cell? ⟨b, off + 2 * 9 + 5, none⟩ = some (.int .i64 x2_5)) (h2_6 : w.cell? ⟨b, off + 2 * 9 + 6, none⟩ = some (.int .i64 x2_6)) (h2_7 : w.cell? ⟨b, off + 2 * 9 + 7, none⟩ = some (.int .i64 x2_7)) (h2_8 : w.cell? ⟨b, off + 2 * 9 + 8, none⟩ = some (.int .i64 x2_8)) (h3_0 : w.cell? ⟨b, off + 3 * 9, none⟩ = some (.int .i64 x3_0)) (h3_1 : w.cell? ⟨b, off + 3 * 9 + 1, none⟩ = some (.int .i64 x3_1)) (h3_2 : w.cell? ⟨b, off + 3 * 9 + 2, none⟩ = some (.int .i64 x3_2)) (h3_3 : w.cell? ⟨b, off + 3 * 9 + 3, none⟩ = some (.int .i64 x3_3)) (h3_4 : w.cell? ⟨b, off + 3 * 9 + 4, none⟩ = some (.int .i64 x3_4)) (h3_5 : w.cell? ⟨b, off + 3 * 9 + 5, none⟩ = some (.int .i64 x3_5)) (h3_6 : w.cell? ⟨b, off + 3 * 9 + 6, none⟩ = some (.int .i64 x3_6)) (h3_7 : w.cell? ⟨b, off + 3 * 9 + 7, none⟩ = some (.int .i64 x3_7)) (h3_8 : w.cell? ⟨b, off + 3 * 9 + 8, none⟩ = some (.int .i64 x3_8)) : RdM9 w b off [⟨x0_0, x0_1, x0_2, x0_3, x0_4, x0_5, x0_6, x0_7, x0_8⟩, ⟨x1_0, x1_1, x1_2, x1_3, x1_4, x1_5, x1_6, x1_7, x1_8⟩, ⟨x2_0, x2_1, x2_2, x2_3, x2_4, x2_5, x2_6, x2_7, x2_8⟩, ⟨x3_0, x3_1, x3_2, x3_3, x3_4, x3_5, x3_6, x3_7, x3_8⟩] := by
  intro i e he
  match i, he with
  | 0, he => simp at he; subst he; exact ⟨h0_0, h0_1, h0_2, h0_3, h0_4, h0_5, h0_6, h0_7, h0_8⟩
  | 1, he => simp at he; subst he; exact ⟨h1_0, h1_1, h1_2, h1_3, h1_4, h1_5, h1_6, h1_7, h1_8⟩
  | 2, he => simp at he; subst he; exact ⟨h2_0, h2_1, h2_2, h2_3, h2_4, h2_5, h2_6, h2_7, h2_8⟩
  | 3, he => simp at he; subst he; exact ⟨h3_0, h3_1, h3_2, h3_3, h3_4, h3_5, h3_6, h3_7, h3_8⟩
  | i + 4, he => simp at he
def mpCode (p : Int) (es : List M9) : Int := codeOf p (es.all (isMap p))
set_option maxHeartbeats 600000 in
theorem l02Code_any (p : Int) (b off cap : Nat) (es : List M9) (w : World) (hc : RdM9 w b off es) (hbl : b < w.heap.size) (hm : es.length ≤ 1000000) :
    Calls Try.prog 76 #[.int .i64 p, .slice (some ⟨b, off, none⟩) es.length cap] w fun e w' => e = .returned (.int .i64 (mpCode p es)) ∧ Below w.heap.size w w' := by
  cases hp : isP p
  · have hE : Hid (mpCode p es = 2) := by show _ = _; unfold mpCode codeOf; rw [hp]; rfl
    go_enter Try.func76, Try.ntmps76
    go_wp2_with (go_at_call 49; refine (l01Prime_any _ _).mono ?_; rintro e w' ⟨rfl, rfl⟩)
    go_returns
    exact ⟨ret_int hE.out.symm, by (repeat' (first | (with_reducible exact Below.refl _ _) | (with_reducible assumption) | (with_reducible refine Below.alloc ?_ ?_ _) | (with_reducible refine Below.drew ?_) | (with_reducible refine below_drewN ?_ _) | (with_reducible refine Below.setCell ?_ ?_ _) | (refine Below.step ?_ (by with_reducible assumption) ?_) | go_size))⟩
  · go_enter Try.func76, Try.ntmps76
    go_wp2_with (go_at_call 49; refine (l01Prime_any _ _).mono ?_; rintro e w' ⟨rfl, rfl⟩)
    go_loopw [5] (fun i wr => ∃ k : Nat, k ≤ es.length ∧ i = .int .i64 k ∧ Below w.heap.size w wr ∧ (es.take k).all (isMap p) = true) (fun i _ => es.length - (intOf i).toNat)
    case atStart => exact ⟨0, Nat.zero_le _, rfl, Below.refl _ _, rfl⟩
    case round =>
      obtain ⟨k, hk, rfl, hB, hrel⟩ := hrel
      have H := Lib.hid hrel; clear hrel
      have hBz := hB.size
      by_cases hlt : k < es.length
      · obtain ⟨x0, x1, x2, x3, x4, x5, x6, x7, x8, hx0, hx1, hx2, hx3, hx4, hx5, hx6, hx7, hx8, hg⟩ := (hc.below hB hbl).get hlt
        cases hi : isMap p ⟨x0, x1, x2, x3, x4, x5, x6, x7, x8⟩
        · have hn : Hid (mpCode p es = 1) := by
            have h1 : es.all (isMap p) = false := all_take (k := k + 1) (by rw [all_snoc hg.out, hi, Bool.and_false])
            show _ = _; unfold mpCode codeOf; rw [hp, h1]; rfl
          go_wp2_with (go_at_call 111; refine (l02Is_any _ _ _ _ _ _ _ _ _ _ _).mono ?_; rintro e w1 ⟨rfl, hb1⟩; obtain ⟨hc1, hf1⟩ := bcell hb1; have hz1 := hb1.size; (try simp only [World.size_alloc, World.size_setCell, World.size_drew] at hz1); (try (have hy1w0 : w.heap.size < w1.heap.size := by omega)); (try (have hy1w1 : w.heap.size + 1 < w1.heap.size := by omega)); (try (have hy1w2 : w.heap.size + 1 + 1 < w1.heap.size := by omega)); (try (have hy1w3 : w.heap.size + 1 + 1 + 1 < w1.heap.size := by omega)); (try (have hy1w4 : w.heap.size + 1 + 1 + 1 + 1 < w1.heap.size := by omega)))
          go_ret
          exact ⟨ret_int hn.out.symm, by (repeat' (first | (with_reducible exact Below.refl _ _) | (with_reducible assumption) | (with_reducible refine Below.alloc ?_ ?_ _) | (with_reducible refine Below.drew ?_) | (with_reducible refine below_drewN ?_ _) | (with_reducible refine Below.setCell ?_ ?_ _) | (refine Below.step ?_ (by with_reducible assumption) ?_) | go_size))⟩
        · have hn : Hid ((es.take (k + 1)).all (isMap p) = true) := by show _ = _; rw [all_snoc hg.out, hi, H.out]; rfl
          go_wp2_with (go_at_call 111; refine (l02Is_any _ _ _ _ _ _ _ _ _ _ _).mono ?_; rintro e w1 ⟨rfl, hb1⟩; obtain ⟨hc1, hf1⟩ := bcell hb1; have hz1 := hb1.size; (try simp only [World.size_alloc, World.size_setCell, World.size_drew] at hz1); (try (have hy1w0 : w.heap.size < w1.heap.size := by omega)); (try (have hy1w1 : w.heap.size + 1 < w1.heap.size := by omega)); (try (have hy1w2 : w.heap.size + 1 + 1 < w1.heap.size := by omega)); (try (have hy1w3 : w.heap.size + 1 + 1 + 1 < w1.heap.size := by omega)); (try (have hy1w4 : w.heap.size + 1 + 1 + 1 + 1 < w1.heap.size := by omega)))
          go_roundw
          case rel => exact ⟨k + 1, by omega, by go_num, by (repeat' (first | (with_reducible exact Below.refl _ _) | (with_reducible assumption) | (with_reducible refine Below.alloc ?_ ?_ _) | (with_reducible refine Below.drew ?_) | (with_reducible refine below_drewN ?_ _) | (with_reducible refine Below.setCell ?_ ?_ _) | (refine Below.step ?_ (by with_reducible assumption) ?_) | go_size)), hn.out⟩
          case measure => simp [intOf]; omega
      · have hn : Hid (mpCode p es = 0) := by
          show _ = _; have := H.out; rw [List.take_of_length_le (by omega)] at this; unfold mpCode codeOf; rw [hp, this]; rfl
        go_wp2
        go_ret
        exact ⟨ret_int hn.out.symm, hB⟩
end Go.Proofs.Ytemimkbngfbomaa
