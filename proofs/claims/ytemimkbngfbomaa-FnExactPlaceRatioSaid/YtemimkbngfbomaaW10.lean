/- Moebius maps: codes, products, inverses, in the program and in the reference. -/
import Derived.Test.YtemimkbngfbomaaW9
namespace Go.Proofs.Ytemimkbngfbomaa
open Go.RowKit
set_option linter.unusedSimpArgs false
set_option linter.unusedVariables false
set_option maxRecDepth 100000

/-- The code of Moebius maps. -/
def moCode (p : Int) (es : List M4) : Int := codeOf p (es.all (isMoE p))
theorem mo1 {p a b c d : Int} {es : List M4} (h : (⟨a, b, c, d⟩ :: es : List M4).all (isMoE p) = true) : isMo p a b c d = true ∧ es.all (isMoE p) = true := by
  rw [List.all_cons, Bool.and_eq_true] at h
  exact h
theorem isMo_sm {p a b c d : Int} (hp : isP p = true) (h : isMo p a b c d = true) : sm a ∧ sm b ∧ sm c ∧ sm d := by
  have h2 := isP_hi hp
  unfold isMo at h
  rw [Bool.and_eq_true] at h
  obtain ⟨q1, q2, q3, q4⟩ := isN4 h.1
  exact ⟨sm_of h2 q1, sm_of h2 q2, sm_of h2 q3, sm_of h2 q4⟩
set_option maxHeartbeats 600000 in
theorem moebiusCode1_any (p : Int) (b cap u v : Nat) (es : List M4) (w : World) (k1 : 3 ≤ p) (k2 : p ≤ 13) (hc : RdM4 w b 0 es) (hbl : b < w.heap.size) (hm : es.length ≤ 1000000)
    (hv : w.cell? ⟨v, 0, none⟩ = some (.slice (some ⟨b, 0, none⟩) es.length cap)) (hu : w.cell? ⟨u, 0, none⟩ = some (.int .i64 p)) :
    ClB Try.prog 123 #[.pointer (some ⟨v, 0, none⟩), .pointer (some ⟨u, 0, none⟩)] w (es.all (isMoE p)) := by
  unfold ClB
  go_enter Try.func123, Try.ntmps123
  go_wp2_with (go_at_call 124; refine (moebiusCode_contains p b 0 cap u es _ k1 k2 hc hbl hu hm).mono ?_; rintro e w1 ⟨rfl, hb1⟩; obtain ⟨hc1, hf1⟩ := bcell hb1; have hz1 := hb1.size; (try simp only [World.size_alloc, World.size_setCell, World.size_drew] at hz1); (try (have hy1w0 : w.heap.size < w1.heap.size := by omega)); (try (have hy1w1 : w.heap.size + 1 < w1.heap.size := by omega)); (try (have hy1w2 : w.heap.size + 1 + 1 < w1.heap.size := by omega)); (try (have hy1w3 : w.heap.size + 1 + 1 + 1 < w1.heap.size := by omega)); (try (have hy1w4 : w.heap.size + 1 + 1 + 1 + 1 < w1.heap.size := by omega)))
  go_returns
  exact ⟨ret_bool (by simp), by (repeat' (first | (with_reducible exact Below.refl _ _) | (with_reducible assumption) | (with_reducible refine Below.alloc ?_ ?_ _) | (with_reducible refine Below.drew ?_) | (with_reducible refine below_drewN ?_ _) | (with_reducible refine Below.setCell ?_ ?_ _) | (refine Below.step ?_ (by with_reducible assumption) ?_) | go_size))⟩

set_option maxHeartbeats 600000 in
theorem arePlaces_nil (p : Int) (w : World) :
    Calls Try.prog 88 #[.int .i64 p, .slice none 0 0] w fun e w' => e = .returned (.bool true) ∧ w = w' := by
  go_enter Try.func88, Try.ntmps88
  go_wp2
  go_rounds 1
  go_ret
  exact ⟨rfl, rfl⟩

set_option maxHeartbeats 600000 in
theorem moebiusCode_nil (p : Int) (b cap : Nat) (es : List M4) (w : World) (hc : RdM4 w b 0 es) (hbl : b < w.heap.size) (hm : es.length ≤ 1000000) :
    Calls Try.prog 83 #[.int .i64 p, .slice (some ⟨b, 0, none⟩) es.length cap, .slice none 0 0] w fun e w' => e = .returned (.int .i64 (moCode p es)) ∧ Below w.heap.size w w' := by
  rcases code3 p (es.all (isMoE p)) with hk | hk | ⟨_, hok, hk⟩
  all_goals
    have hE : Hid (moCode p es = codeOf p (es.all (isMoE p))) := rfl
    try clear hok
    go_enter Try.func83, Try.ntmps83
    go_wp2_with (first | (go_at_call 102; refine (planeCode2 _ _ _ _ _ _ (fun _ _ => by kernel_rfl) (fun hp => moebiusCode1_any p b cap _ _ es _ (isP_lo hp) (isP_hi hp) ((hc.alloc hbl _).alloc (by simp; omega) _) (by simp; omega) hm (by go_cell) (by go_cell))).mono ?_; rintro e w1 ⟨rfl, hb1⟩; obtain ⟨hc1, hf1⟩ := bcell hb1; have hz1 := hb1.size; (try simp only [World.size_alloc, World.size_setCell, World.size_drew] at hz1); (try (have hy1w0 : w.heap.size < w1.heap.size := by omega)); (try (have hy1w1 : w.heap.size + 1 < w1.heap.size := by omega)); (try (have hy1w2 : w.heap.size + 1 + 1 < w1.heap.size := by omega)); (try (have hy1w3 : w.heap.size + 1 + 1 + 1 < w1.heap.size := by omega)); (try (have hy1w4 : w.heap.size + 1 + 1 + 1 + 1 < w1.heap.size := by omega))) | (go_at_call 88; refine (arePlaces_nil _ _).mono ?_; rintro e w' ⟨rfl, rfl⟩))
    go_returns
    exact ⟨ret_int (by rw [hE.out, hk]), by (repeat' (first | (with_reducible exact Below.refl _ _) | (with_reducible assumption) | (with_reducible refine Below.alloc ?_ ?_ _) | (with_reducible refine Below.drew ?_) | (with_reducible refine below_drewN ?_ _) | (with_reducible refine Below.setCell ?_ ?_ _) | (refine Below.step ?_ (by with_reducible assumption) ?_) | go_size))⟩

set_option maxHeartbeats 600000 in
theorem l05Code_nil (p : Int) (b off cap : Nat) (es : List M4) (w : World) (hc : RdM4 w b off es) (hbl : b < w.heap.size) (hm : es.length ≤ 1000000) :
    Calls Try.prog 81 #[.int .i64 p, .slice (some ⟨b, off, none⟩) es.length cap, .slice none 0 0] w fun e w' => e = .returned (.int .i64 (moCode p es)) ∧ Below w.heap.size w w' := by
  cases hp : isP p
  · have hE : Hid (moCode p es = 2) := by show _ = _; unfold moCode codeOf; rw [hp]; rfl
    go_enter Try.func81, Try.ntmps81
    go_wp2_with (go_at_call 49; refine (l01Prime_any _ _).mono ?_; rintro e w' ⟨rfl, rfl⟩)
    go_returns
    exact ⟨ret_int hE.out.symm, by (repeat' (first | (with_reducible exact Below.refl _ _) | (with_reducible assumption) | (with_reducible refine Below.alloc ?_ ?_ _) | (with_reducible refine Below.drew ?_) | (with_reducible refine below_drewN ?_ _) | (with_reducible refine Below.setCell ?_ ?_ _) | (refine Below.step ?_ (by with_reducible assumption) ?_) | go_size))⟩
  · go_enter Try.func81, Try.ntmps81
    go_wp2_with (go_at_call 49; refine (l01Prime_any _ _).mono ?_; rintro e w' ⟨rfl, rfl⟩)
    go_loopw [7] (fun i wr => ∃ k : Nat, k ≤ es.length ∧ i = .int .i64 k ∧ Below w.heap.size w wr ∧ (es.take k).all (isMoE p) = true) (fun i _ => es.length - (intOf i).toNat)
    case atStart => exact ⟨0, Nat.zero_le _, rfl, Below.refl _ _, rfl⟩
    case round =>
      obtain ⟨k, hk, rfl, hB, hrel⟩ := hrel
      have H := Lib.hid hrel; clear hrel
      have hBz := hB.size
      by_cases hlt : k < es.length
      · obtain ⟨x0, x1, x2, x3, hx0, hx1, hx2, hx3, hg⟩ := (hc.below hB hbl).get hlt
        cases hi : isMo p x0 x1 x2 x3
        · have hn : Hid (moCode p es = 1) := by
            have h1 : es.all (isMoE p) = false := all_take (k := k + 1) (by rw [all_snoc hg.out, show isMoE p ⟨x0, x1, x2, x3⟩ = false from hi, Bool.and_false])
            show _ = _; unfold moCode codeOf; rw [hp, h1]; rfl
          go_wp2_with (go_at_call 121; refine (l05Is_any _ _ _ _ _ _).mono ?_; rintro e w1 ⟨rfl, hb1⟩; obtain ⟨hc1, hf1⟩ := bcell hb1; have hz1 := hb1.size; (try simp only [World.size_alloc, World.size_setCell, World.size_drew] at hz1); (try (have hy1w0 : w.heap.size < w1.heap.size := by omega)); (try (have hy1w1 : w.heap.size + 1 < w1.heap.size := by omega)); (try (have hy1w2 : w.heap.size + 1 + 1 < w1.heap.size := by omega)); (try (have hy1w3 : w.heap.size + 1 + 1 + 1 < w1.heap.size := by omega)); (try (have hy1w4 : w.heap.size + 1 + 1 + 1 + 1 < w1.heap.size := by omega)))
          go_ret
          exact ⟨ret_int hn.out.symm, by (repeat' (first | (with_reducible exact Below.refl _ _) | (with_reducible assumption) | (with_reducible refine Below.alloc ?_ ?_ _) | (with_reducible refine Below.drew ?_) | (with_reducible refine below_drewN ?_ _) | (with_reducible refine Below.setCell ?_ ?_ _) | (refine Below.step ?_ (by with_reducible assumption) ?_) | go_size))⟩
        · have hn : Hid ((es.take (k + 1)).all (isMoE p) = true) := by show _ = _; rw [all_snoc hg.out, show isMoE p ⟨x0, x1, x2, x3⟩ = true from hi, H.out]; rfl
          go_wp2_with (go_at_call 121; refine (l05Is_any _ _ _ _ _ _).mono ?_; rintro e w1 ⟨rfl, hb1⟩; obtain ⟨hc1, hf1⟩ := bcell hb1; have hz1 := hb1.size; (try simp only [World.size_alloc, World.size_setCell, World.size_drew] at hz1); (try (have hy1w0 : w.heap.size < w1.heap.size := by omega)); (try (have hy1w1 : w.heap.size + 1 < w1.heap.size := by omega)); (try (have hy1w2 : w.heap.size + 1 + 1 < w1.heap.size := by omega)); (try (have hy1w3 : w.heap.size + 1 + 1 + 1 < w1.heap.size := by omega)); (try (have hy1w4 : w.heap.size + 1 + 1 + 1 + 1 < w1.heap.size := by omega)))
          go_roundw
          case rel => exact ⟨k + 1, by omega, by go_num, by (repeat' (first | (with_reducible exact Below.refl _ _) | (with_reducible assumption) | (with_reducible refine Below.alloc ?_ ?_ _) | (with_reducible refine Below.drew ?_) | (with_reducible refine below_drewN ?_ _) | (with_reducible refine Below.setCell ?_ ?_ _) | (refine Below.step ?_ (by with_reducible assumption) ?_) | go_size)), hn.out⟩
          case measure => simp [intOf]; omega
      · have hn : Hid (moCode p es = 0) := by
          show _ = _; have := H.out; rw [List.take_of_length_le (by omega)] at this; unfold moCode codeOf; rw [hp, this]; rfl
        go_wp2
        go_rounds 1
        go_ret
        exact ⟨ret_int hn.out.symm, hB⟩

end Go.Proofs.Ytemimkbngfbomaa
