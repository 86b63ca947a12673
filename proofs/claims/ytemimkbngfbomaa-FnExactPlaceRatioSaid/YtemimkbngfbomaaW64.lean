/- PlaceRatio: what the two functions return; no condition on the exported ones. -/
import Derived.Test.YtemimkbngfbomaaP10
import Derived.Deep.RegionWith
namespace Go.Proofs.Ytemimkbngfbomaa
open Go.RowKit
set_option linter.unusedSimpArgs false
set_option linter.unusedVariables false
set_option maxRecDepth 100000

def plCode (p : Int) (zs : List Int) : Int := if isP p && isPl p zs then 0 else 2
/-- What PlaceRatio returns. -/
def plR (p a b c d : Int) : Int × Int := if (isP p && (difB [] [a, b, c] && isPl p [a, b, c, d])) = true then (prI p a b c d, 0) else (0, 2)
theorem isPl_mem {p : Int} {zs : List Int} (h : isPl p zs = true) : ∀ x ∈ zs, 0 ≤ x ∧ x ≤ p := fun x hx => inB_iff.1 (List.all_eq_true.1 h x hx)
theorem difB3 {a b c : Int} (h : difB [] [a, b, c] = true) : a ≠ b ∧ a ≠ c ∧ b ≠ c := by
  simp [difB] at h
  refine ⟨fun e => h.1 e.symm, fun e => h.2.1 e.symm, fun e => h.2.2 e.symm⟩
theorem rdI4 {w : World} {b off : Nat} {x0 x1 x2 x3 : Int} (h0 : w.cell? ⟨b, off + 0, none⟩ = some (.int .i64 x0)) (h1 : w.cell? ⟨b, off + 1, none⟩ = some (.int .i64 x1)) (h2 : w.cell? ⟨b, off + 2, none⟩ = some (.int .i64 x2)) (h3 : w.cell? ⟨b, off + 3, none⟩ = some (.int .i64 x3)) : Rd w b off [x0, x1, x2, x3] := rd4 h0 h1 h2 h3
theorem rdI1 {w : World} {b off : Nat} {x0 : Int} (h0 : w.cell? ⟨b, off + 0, none⟩ = some (.int .i64 x0)) : Rd w b off [x0] := by
  intro i x hx
  match i, hx with
  | 0, hx => simp at hx; subst hx; exact h0
  | i + 1, hx => simp at hx
set_option maxHeartbeats 1000000 in
theorem l05Code_pl (p : Int) (a : Option Addr) (c0 b cap : Nat) (zs : List Int) (w : World) (hc : Rd w b 0 zs) (hm : zs.length ≤ 1000000) :
    Calls Try.prog 81 #[.int .i64 p, .slice a 0 c0, .slice (some ⟨b, 0, none⟩) zs.length cap] w fun e w' => e = .returned (.int .i64 (plCode p zs)) ∧ w = w' := by
  cases hp : isP p
  · have hE : Hid (plCode p zs = 2) := by show _ = _; unfold plCode; rw [hp]; rfl
    go_enter Try.func81, Try.ntmps81
    go_wp2_with (go_at_call 49; refine (l01Prime_any _ _).mono ?_; rintro e w' ⟨rfl, rfl⟩)
    go_returns
    exact ⟨ret_int hE.out.symm, rfl⟩
  · have hE : Hid (plCode p zs = if isPl p zs then 0 else 2) := by show _ = _; unfold plCode; rw [hp]; rfl
    go_enter Try.func81, Try.ntmps81
    go_wp2_with (go_at_call 49; refine (l01Prime_any _ _).mono ?_; rintro e w' ⟨rfl, rfl⟩)
    go_rounds 1
    go_loop [8] (fun i => ∃ k : Nat, k ≤ zs.length ∧ i = .int .i64 k ∧ isPl p (zs.take k) = true) (fun i => zs.length - (intOf i).toNat)
    case atStart => exact ⟨0, Nat.zero_le _, rfl, rfl⟩
    case round =>
      obtain ⟨k, hk, rfl, hrel⟩ := hrel
      have H := Lib.hid hrel; clear hrel
      by_cases hlt : k < zs.length
      · obtain ⟨x, hcell, hx⟩ := hc.get hlt
        simp only [Nat.zero_add] at hcell
        cases hb : inB x 0 p
        · have hn : Hid (plCode p zs = 2) := by
            show _ = _
            have : isPl p zs = false := all_take (k := k + 1) (by rw [all_snoc hx.out, hb, Bool.and_false])
            rw [hE.out, this]; rfl
          go_wp2_with (go_at_call 50; refine (l01In_any _ _ _ _).mono ?_; rintro e w' ⟨rfl, rfl⟩; rw [hb])
          go_ret
          exact ⟨ret_int hn.out.symm, rfl⟩
        · have hn : Hid (isPl p (zs.take (k + 1)) = true) := by show _ = _; unfold isPl; rw [all_snoc hx.out, hb, Bool.and_true]; exact H.out
          go_wp2_with (go_at_call 50; refine (l01In_any _ _ _ _).mono ?_; rintro e w' ⟨rfl, rfl⟩; rw [hb])
          go_round
          case rel => exact ⟨k + 1, by omega, by go_num, hn.out⟩
          case measure => simp [intOf]; omega
      · have hn : Hid (plCode p zs = 0) := by show _ = _; have := H.out; rw [List.take_of_length_le (by omega)] at this; rw [hE.out, this]; rfl
        go_wp2
        go_ret
        exact ⟨ret_int hn.out.symm, rfl⟩
set_option maxHeartbeats 1000000 in
theorem l05Different3 (a b c : Int) (g cap : Nat) (w : World) (h0 : w.cell? ⟨g, 0, none⟩ = some (.int .i64 a)) (h1 : w.cell? ⟨g, 1, none⟩ = some (.int .i64 b)) (h2 : w.cell? ⟨g, 2, none⟩ = some (.int .i64 c)) :
    Calls Try.prog 85 #[.slice (some ⟨g, 0, none⟩) 3 cap] w fun e w' => e = .returned (.bool (difB [] [a, b, c])) ∧ Below w.heap.size w w' := by
  by_cases q1 : b = a
  · have hE : Hid (difB [] [a, b, c] = false) := by show _ = _; simp [difB, q1]
    go_enter Try.func85, Try.ntmps85
    go_wp2_with fail
    refine wp_loop_rounds 4 ?_
    rw [rounds_succ]
    go_wp2_with fail
    refine wp_loop_rounds 1 ?_
    rw [rounds_succ]
    go_wp2_with fail
    rw [rounds_succ]
    go_wp2_with fail
    refine wp_loop_rounds 2 ?_
    rw [rounds_succ]
    go_wp2_with fail
    go_region
    go_wp2_with fail
    go_returns
    exact ⟨ret_bool hE.out.symm, by (repeat' (first | (with_reducible exact Below.refl _ _) | (with_reducible assumption) | (with_reducible refine Below.alloc ?_ ?_ _) | (with_reducible refine Below.drew ?_) | (with_reducible refine below_drewN ?_ _) | (with_reducible refine Below.setCell ?_ ?_ _) | (refine Below.step ?_ (by with_reducible assumption) ?_) | go_size))⟩
  · by_cases q2 : c = a
    · have hE : Hid (difB [] [a, b, c] = false) := by show _ = _; simp [difB, q1, q2]
      go_enter Try.func85, Try.ntmps85
      go_wp2_with fail
      refine wp_loop_rounds 4 ?_
      rw [rounds_succ]
      go_wp2_with fail
      refine wp_loop_rounds 1 ?_
      rw [rounds_succ]
      go_wp2_with fail
      rw [rounds_succ]
      go_wp2_with fail
      refine wp_loop_rounds 2 ?_
      rw [rounds_succ]
      go_wp2_with fail
      go_region
      go_wp2_with fail
      rw [rounds_succ]
      go_wp2_with fail
      rw [rounds_succ]
      go_wp2_with fail
      refine wp_loop_rounds 3 ?_
      rw [rounds_succ]
      go_wp2_with fail
      go_region
      go_wp2_with fail
      go_returns
      exact ⟨ret_bool hE.out.symm, by (repeat' (first | (with_reducible exact Below.refl _ _) | (with_reducible assumption) | (with_reducible refine Below.alloc ?_ ?_ _) | (with_reducible refine Below.drew ?_) | (with_reducible refine below_drewN ?_ _) | (with_reducible refine Below.setCell ?_ ?_ _) | (refine Below.step ?_ (by with_reducible assumption) ?_) | go_size))⟩
    · by_cases q3 : c = b
      · have hE : Hid (difB [] [a, b, c] = false) := by show _ = _; simp [difB, q1, q2, q3]
        go_enter Try.func85, Try.ntmps85
        go_wp2_with fail
        refine wp_loop_rounds 4 ?_
        rw [rounds_succ]
        go_wp2_with fail
        refine wp_loop_rounds 1 ?_
        rw [rounds_succ]
        go_wp2_with fail
        rw [rounds_succ]
        go_wp2_with fail
        refine wp_loop_rounds 2 ?_
        rw [rounds_succ]
        go_wp2_with fail
        go_region
        go_wp2_with fail
        rw [rounds_succ]
        go_wp2_with fail
        rw [rounds_succ]
        go_wp2_with fail
        refine wp_loop_rounds 3 ?_
        rw [rounds_succ]
        go_wp2_with fail
        go_region
        go_wp2_with fail
        rw [rounds_succ]
        go_wp2_with fail
        go_region
        go_wp2_with fail
        go_returns
        exact ⟨ret_bool hE.out.symm, by (repeat' (first | (with_reducible exact Below.refl _ _) | (with_reducible assumption) | (with_reducible refine Below.alloc ?_ ?_ _) | (with_reducible refine Below.drew ?_) | (with_reducible refine below_drewN ?_ _) | (with_reducible refine Below.setCell ?_ ?_ _) | (refine Below.step ?_ (by with_reducible assumption) ?_) | go_size))⟩
      · have hE : Hid (difB [] [a, b, c] = true) := by show _ = _; simp [difB, q1, q2, q3]
        go_enter Try.func85, Try.ntmps85
        go_wp2_with fail
        refine wp_loop_rounds 4 ?_
        rw [rounds_succ]
        go_wp2_with fail
        refine wp_loop_rounds 1 ?_
        rw [rounds_succ]
        go_wp2_with fail
        rw [rounds_succ]
        go_wp2_with fail
        refine wp_loop_rounds 2 ?_
        rw [rounds_succ]
        go_wp2_with fail
        go_region
        go_wp2_with fail
        rw [rounds_succ]
        go_wp2_with fail
        rw [rounds_succ]
        go_wp2_with fail
        refine wp_loop_rounds 3 ?_
        rw [rounds_succ]
        go_wp2_with fail
        go_region
        go_wp2_with fail
        rw [rounds_succ]
        go_wp2_with fail
        go_region
        go_wp2_with fail
        rw [rounds_succ]
        go_wp2_with fail
        rw [rounds_succ]
        go_wp2_with fail
        go_returns
        exact ⟨ret_bool hE.out.symm, by (repeat' (first | (with_reducible exact Below.refl _ _) | (with_reducible assumption) | (with_reducible refine Below.alloc ?_ ?_ _) | (with_reducible refine Below.drew ?_) | (with_reducible refine below_drewN ?_ _) | (with_reducible refine Below.setCell ?_ ?_ _) | (refine Below.step ?_ (by with_reducible assumption) ?_) | go_size))⟩
set_option maxHeartbeats 1000000 in
theorem l05Ratio_any (p a b c d : Int) (w : World) (hp : isP p = true) (ha : 0 ≤ a ∧ a ≤ p) (hb : 0 ≤ b ∧ b ≤ p) (hc : 0 ≤ c ∧ c ≤ p) (hd : 0 ≤ d ∧ d ≤ p) :
    Calls Try.prog 86 #[.int .i64 p, .int .i64 a, .int .i64 b, .int .i64 c, .int .i64 d] w fun e w' => e = .returned (.int .i64 (prS p a b c d)) ∧ Below w.heap.size w w' := by
  have hE0 : prS p a b c d = atM p (moInv p (frmM p a b c)) d := rfl
  obtain ⟨s0, s1, s2, s3⟩ := frmM_sm hp a b c
  have hF := fun w' => l05Frame_any p a b c w' hp ha hb hc
  obtain ⟨⟨m0, m1, m2, m3⟩, hm⟩ : ∃ m, frmM p a b c = m := ⟨_, rfl⟩
  rw [hm] at hF hE0 s0 s1 s2 s3
  dsimp only at hF s0 s1 s2 s3
  have hB := fun w' => l05Back_any p m0 m1 m2 m3 w' hp s0 s1 s2 s3
  obtain ⟨t0, t1, t2, t3⟩ : sm (moInv p ⟨m0, m1, m2, m3⟩).a ∧ sm (moInv p ⟨m0, m1, m2, m3⟩).b ∧ sm (moInv p ⟨m0, m1, m2, m3⟩).c ∧ sm (moInv p ⟨m0, m1, m2, m3⟩).d := nm4_sm hp _ _ _ _
  obtain ⟨⟨n0, n1, n2, n3⟩, hn⟩ : ∃ m, moInv p ⟨m0, m1, m2, m3⟩ = m := ⟨_, rfl⟩
  rw [hn] at hB hE0 t0 t1 t2 t3
  dsimp only at hB t0 t1 t2 t3
  have hA := fun w' => l05At_any p n0 n1 n2 n3 d w' hp hd t0 t1 t2 t3
  rw [← hE0] at hA
  have HF := Lib.hid hF; have HB := Lib.hid hB; have HA := Lib.hid hA
  clear hF hB hA hE0 hm hn s0 s1 s2 s3 t0 t1 t2 t3
  go_enter Try.func86, Try.ntmps86
  go_wp2_with (first | (go_at_call 130; refine (HF.out _).mono ?_; rintro e w1 ⟨rfl, hb1⟩; have hz1 := hb1.size) | (go_at_call 129; refine (HB.out _).mono ?_; rintro e w2 ⟨rfl, hb2⟩; have hz2 := hb2.size) | (go_at_call 128; refine (HA.out _).mono ?_; rintro e w3 ⟨rfl, hb3⟩; have hz3 := hb3.size))
  go_returns
  exact ⟨rfl, by (repeat' (first | (with_reducible exact Below.refl _ _) | (with_reducible assumption) | (with_reducible refine Below.alloc ?_ ?_ _) | (with_reducible refine Below.drew ?_) | (with_reducible refine below_drewN ?_ _) | (with_reducible refine Below.setCell ?_ ?_ _) | (refine Below.step ?_ (by with_reducible assumption) ?_) | go_size))⟩
set_option maxHeartbeats 1000000 in
theorem PlaceRatio_any (p a b c d : Int) (w : World) :
    Calls Try.prog 42 #[.int .i64 p, .int .i64 a, .int .i64 b, .int .i64 c, .int .i64 d] w fun e w' => e = .returned (.tuple #[.int .i64 (plR p a b c d).1, .int .i64 (plR p a b c d).2]) ∧ Below w.heap.size w w' := by
  cases hp : isP p
  · have hE : Hid (plR p a b c d = (0, 2)) := by show _ = _; unfold plR; rw [hp]; rfl
    go_enter Try.func42, Try.ntmps42
    go_wp2_with (go_at_call 53; refine (isPrime_any _ _).mono ?_; rintro e w' ⟨rfl, rfl⟩)
    go_returns
    exact ⟨by rw [hE.out]; try rfl, by (repeat' (first | (with_reducible exact Below.refl _ _) | (with_reducible assumption) | (with_reducible refine Below.alloc ?_ ?_ _) | (with_reducible refine Below.drew ?_) | (with_reducible refine below_drewN ?_ _) | (with_reducible refine Below.setCell ?_ ?_ _) | (refine Below.step ?_ (by with_reducible assumption) ?_) | go_size))⟩
  · have HP := Lib.hid hp
    have hsplit : isPl p [a, b, c, d] = (isPl p [a, b, c] && isPl p [d]) := by simp [isPl, Bool.and_assoc]
    cases h1 : (difB [] [a, b, c] && isPl p [a, b, c])
    · have hE : Hid (plR p a b c d = (0, 2)) := by
        show _ = _; unfold plR; rw [hp, hsplit, ← Bool.and_assoc (difB [] [a, b, c]), h1]; rfl
      have H1 := Lib.hid h1
      clear h1 hsplit hp
      go_enter Try.func42, Try.ntmps42
      go_wp2_with (first | (go_at_call 53; refine (isPrime_any _ _).mono ?_; rintro e w' ⟨rfl, rfl⟩) | (go_at_call 87; refine (areDifferent_any p _ _ [a, b, c] _ (rd3 (by go_cell) (by go_cell) (by go_cell)) (by simp) (by simp)).mono ?_; rintro e w' ⟨rfl, rfl⟩; rw [H1.out]))
      go_returns
      exact ⟨by rw [hE.out]; try rfl, by (repeat' (first | (with_reducible exact Below.refl _ _) | (with_reducible assumption) | (with_reducible refine Below.alloc ?_ ?_ _) | (with_reducible refine Below.drew ?_) | (with_reducible refine below_drewN ?_ _) | (with_reducible refine Below.setCell ?_ ?_ _) | (refine Below.step ?_ (by with_reducible assumption) ?_) | go_size))⟩
    · have H1 := Lib.hid h1
      cases h2 : isPl p [d]
      · have hE : Hid (plR p a b c d = (0, 2)) := by
          show _ = _; unfold plR; rw [hp, hsplit, ← Bool.and_assoc (difB [] [a, b, c]), h1, h2]; rfl
        have H2 := Lib.hid h2
        clear h1 h2 hsplit hp
        go_enter Try.func42, Try.ntmps42
        go_wp2_with (first | (go_at_call 53; refine (isPrime_any _ _).mono ?_; rintro e w' ⟨rfl, rfl⟩) | (go_at_call 87; refine (areDifferent_any p _ _ [a, b, c] _ (rd3 (by go_cell) (by go_cell) (by go_cell)) (by simp) (by simp)).mono ?_; rintro e w' ⟨rfl, rfl⟩; rw [H1.out]) | (go_at_call 88; refine (arePlaces_any p _ 0 _ [d] _ (rdI1 (by go_cell)) (by simp)).mono ?_; rintro e w' ⟨rfl, rfl⟩; rw [H2.out]))
        go_returns
        exact ⟨by rw [hE.out]; try rfl, by (repeat' (first | (with_reducible exact Below.refl _ _) | (with_reducible assumption) | (with_reducible refine Below.alloc ?_ ?_ _) | (with_reducible refine Below.drew ?_) | (with_reducible refine below_drewN ?_ _) | (with_reducible refine Below.setCell ?_ ?_ _) | (refine Below.step ?_ (by with_reducible assumption) ?_) | go_size))⟩
      · have H2 := Lib.hid h2
        have hE : Hid (plR p a b c d = (prI p a b c d, 0)) := by
          show _ = _; unfold plR; rw [hp, hsplit, ← Bool.and_assoc (difB [] [a, b, c]), h1, h2]; rfl
        have hall : isPl p [a, b, c] = true := by rw [Bool.and_eq_true] at h1; exact h1.2
        have ha := isPl_mem hall a (by simp); have hb := isPl_mem hall b (by simp); have hc := isPl_mem hall c (by simp); have hd := isPl_mem h2 d (by simp)
        have hR := fun w' => placeRatio_any p a b c d w' hp ha hb hc hd
        have HR := Lib.hid hR
        clear h1 h2 hsplit hp hall ha hb hc hd hR
        go_enter Try.func42, Try.ntmps42
        go_wp2_with (first | (go_at_call 53; refine (isPrime_any _ _).mono ?_; rintro e w' ⟨rfl, rfl⟩) | (go_at_call 87; refine (areDifferent_any p _ _ [a, b, c] _ (rd3 (by go_cell) (by go_cell) (by go_cell)) (by simp) (by simp)).mono ?_; rintro e w' ⟨rfl, rfl⟩; rw [H1.out]) | (go_at_call 88; refine (arePlaces_any p _ 0 _ [d] _ (rdI1 (by go_cell)) (by simp)).mono ?_; rintro e w' ⟨rfl, rfl⟩; rw [H2.out]) | (go_at_call 89; refine (HR.out _).mono ?_; rintro e w1 ⟨rfl, hb1⟩; have hz1 := hb1.size; simp only [World.size_alloc] at hz1))
        go_returns
        exact ⟨by rw [hE.out]; try rfl, by (repeat' (first | (with_reducible exact Below.refl _ _) | (with_reducible assumption) | (with_reducible refine Below.alloc ?_ ?_ _) | (with_reducible refine Below.drew ?_) | (with_reducible refine below_drewN ?_ _) | (with_reducible refine Below.setCell ?_ ?_ _) | (refine Below.step ?_ (by with_reducible assumption) ?_) | go_size))⟩
set_option maxHeartbeats 1000000 in
theorem PlaceRatio_spec (p a b c d : Int) (w : World) :
    Calls Try.prog 41 #[.int .i64 p, .int .i64 a, .int .i64 b, .int .i64 c, .int .i64 d] w fun e w' => e = .returned (.tuple #[.int .i64 (plR p a b c d).1, .int .i64 (plR p a b c d).2]) ∧ Below w.heap.size w w' := by
  cases h1 : (isP p && isPl p [a, b, c, d])
  · have hE : Hid (plR p a b c d = (0, 2)) := by
      show _ = _; unfold plR
      rw [if_neg]
      intro h
      rw [Bool.and_eq_true, Bool.and_eq_true] at h
      rw [h.1, h.2.2] at h1
      cases h1
    have hk : plCode p [a, b, c, d] = 2 := by unfold plCode; rw [h1]; rfl
    have HK := Lib.hid hk
    clear h1 hk
    go_enter Try.func41, Try.ntmps41
    go_wp2_with (go_at_call 81; refine (l05Code_pl p _ _ _ _ [a, b, c, d] _ (rdI4 (by go_cell) (by go_cell) (by go_cell) (by go_cell)) (by simp)).mono ?_; rintro e w' ⟨rfl, rfl⟩; rw [HK.out])
    go_returns
    exact ⟨by rw [hE.out]; try rfl, by (repeat' (first | (with_reducible exact Below.refl _ _) | (with_reducible assumption) | (with_reducible refine Below.alloc ?_ ?_ _) | (with_reducible refine Below.drew ?_) | (with_reducible refine below_drewN ?_ _) | (with_reducible refine Below.setCell ?_ ?_ _) | (refine Below.step ?_ (by with_reducible assumption) ?_) | go_size))⟩
  · have hk : plCode p [a, b, c, d] = 0 := by unfold plCode; rw [h1]; rfl
    have HK := Lib.hid hk
    rw [Bool.and_eq_true] at h1
    obtain ⟨hp, hall⟩ := h1
    cases h2 : difB [] [a, b, c]
    · have hE : Hid (plR p a b c d = (0, 2)) := by show _ = _; unfold plR; rw [hp, h2]; rfl
      have H2 := Lib.hid h2
      clear hk hp hall h2
      go_enter Try.func41, Try.ntmps41
      go_wp2_with (first | (go_at_call 81; refine (l05Code_pl p _ _ _ _ [a, b, c, d] _ (rdI4 (by go_cell) (by go_cell) (by go_cell) (by go_cell)) (by simp)).mono ?_; rintro e w' ⟨rfl, rfl⟩; rw [HK.out]) | (go_at_call 85; refine (l05Different3 a b c _ _ _ (by go_cell) (by go_cell) (by go_cell)).mono ?_; rintro e w1 ⟨rfl, hb1⟩; have hz1 := hb1.size; simp only [World.size_alloc] at hz1; rw [H2.out]))
      go_returns
      exact ⟨by rw [hE.out]; try rfl, by (repeat' (first | (with_reducible exact Below.refl _ _) | (with_reducible assumption) | (with_reducible refine Below.alloc ?_ ?_ _) | (with_reducible refine Below.drew ?_) | (with_reducible refine below_drewN ?_ _) | (with_reducible refine Below.setCell ?_ ?_ _) | (refine Below.step ?_ (by with_reducible assumption) ?_) | go_size))⟩
    · have ha := isPl_mem hall a (by simp); have hb := isPl_mem hall b (by simp); have hc := isPl_mem hall c (by simp); have hd := isPl_mem hall d (by simp)
      obtain ⟨q1, q2, q3⟩ := difB3 h2
      have hE : Hid (plR p a b c d = (prS p a b c d, 0)) := by show _ = _; unfold plR; rw [hp, h2, hall, pr_eq hp ha hb hc q1 q2 q3]; rfl
      have hR := fun w' => l05Ratio_any p a b c d w' hp ha hb hc hd
      have HR := Lib.hid hR
      have H2 := Lib.hid h2
      clear hk hp hall h2 hR ha hb hc hd q1 q2 q3
      go_enter Try.func41, Try.ntmps41
      go_wp2_with (first | (go_at_call 81; refine (l05Code_pl p _ _ _ _ [a, b, c, d] _ (rdI4 (by go_cell) (by go_cell) (by go_cell) (by go_cell)) (by simp)).mono ?_; rintro e w' ⟨rfl, rfl⟩; rw [HK.out]) | (go_at_call 85; refine (l05Different3 a b c _ _ _ (by go_cell) (by go_cell) (by go_cell)).mono ?_; rintro e w1 ⟨rfl, hb1⟩; have hz1 := hb1.size; simp only [World.size_alloc] at hz1; rw [H2.out]) | (go_at_call 86; refine (HR.out _).mono ?_; rintro e w2 ⟨rfl, hb2⟩; have hz2 := hb2.size))
      go_returns
      exact ⟨by rw [hE.out]; try rfl, by (repeat' (first | (with_reducible exact Below.refl _ _) | (with_reducible assumption) | (with_reducible refine Below.alloc ?_ ?_ _) | (with_reducible refine Below.drew ?_) | (with_reducible refine below_drewN ?_ _) | (with_reducible refine Below.setCell ?_ ?_ _) | (refine Below.step ?_ (by with_reducible assumption) ?_) | go_size))⟩
end Go.Proofs.Ytemimkbngfbomaa
