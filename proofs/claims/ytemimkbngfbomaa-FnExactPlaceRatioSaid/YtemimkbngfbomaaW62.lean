/- Places: which numbers are places, which are different; pairs, brackets, frames, in the program and in the reference; p is a prime where it says so. -/
import Derived.Test.YtemimkbngfbomaaW11
import Derived.Test.YtemimkbngfbomaaX1
import Derived.Deep.RegionWith
namespace Go.Proofs.Ytemimkbngfbomaa
open Go.RowKit
set_option linter.unusedSimpArgs false
set_option linter.unusedVariables false
set_option maxRecDepth 100000

def prA (p x : Int) : Int := if x = p then 1 else x
def prB (p x : Int) : Int := if x = p then 0 else 1
def brk (p x y : Int) : Int := (prA p x * prB p y - prB p x * prA p y) % p
def plcI (p x y : Int) : Int := if y % p = 0 then p else x * inv p (y % p) % p
def plcS (p x y : Int) : Int := if y % p = 0 then p else x % p * inv p y % p
def isPl (p : Int) (zs : List Int) : Bool := zs.all fun x => inB x 0 p
/-- No number of the list stands among those ahead of it (or in pre). -/
def difB : List Int → List Int → Bool
  | _, [] => true
  | pre, x :: xs => !pre.contains x && difB (pre ++ [x]) xs
theorem prA_rng {p x : Int} (k1 : 3 ≤ p) (h : 0 ≤ x) (g : x ≤ p) : 0 ≤ prA p x ∧ prA p x ≤ p - 1 := by
  unfold prA; split <;> omega
theorem prB_rng (p x : Int) : 0 ≤ prB p x ∧ prB p x ≤ 1 := by unfold prB; split <;> omega
theorem contains_any (zs : List Int) (v : Int) : zs.contains v = zs.any (fun y => v == y) := by
  induction zs with
  | nil => rfl
  | cons y ys ih => rw [List.contains_cons, List.any_cons, ih]
theorem difB_take {zs : List Int} {k : Nat} {x : Int} (h : zs[k]? = some x) : difB (zs.take k) (zs.drop k) = (!(zs.take k).contains x && difB (zs.take (k + 1)) (zs.drop (k + 1))) := by
  rw [drop_cons h, difB, List.take_add_one, h]; rfl
set_option maxHeartbeats 400000 in
theorem IndexI_any (b off cap : Nat) (zs : List Int) (v : Int) (w : World) (hc : zs = [] ∨ Rd w b off zs) (hm : zs.length ≤ 1000000) :
    Calls Try.prog 144 #[.slice (some ⟨b, off, none⟩) zs.length cap, .int .i64 v] w fun e w' => e = .returned (.int .i64 (idxL (fun y => v == y) zs 0)) ∧ w = w' := by
  go_enter Try.func144, Try.ntmps144
  go_wp2
  go_loop [8, 5] (fun i j => ∃ k : Nat, k ≤ zs.length ∧ i = .int .i64 k ∧ Hid (idxL (fun y => v == y) zs 0 = idxL (fun y => v == y) (zs.drop k) k)) (fun i _ => zs.length - (intOf i).toNat)
  case atStart => exact ⟨0, Nat.zero_le _, rfl, rfl⟩
  case round =>
    obtain ⟨k, hk, rfl, hR⟩ := hrel
    by_cases hlt : k < zs.length
    · obtain ⟨x, hcell, hx⟩ := (hc.resolve_left (by rintro rfl; simp at hlt)).get hlt
      cases hb : (v == x)
      · have hn : Hid (idxL (fun y => v == y) zs 0 = idxL (fun y => v == y) (zs.drop (k + 1)) ((k + 1 : Nat) : Int)) := by show _ = _; rw [hR.out, drop_cons hx.out, idxL, if_neg (by simp [hb])]; rfl
        clear hc hR
        go_wp2
        go_round
        case rel => exact ⟨k + 1, by omega, by go_num, hn⟩
        case measure => simp [intOf]; omega
      · have hn : Hid (idxL (fun y => v == y) zs 0 = (k : Int)) := by show _ = _; rw [hR.out, drop_cons hx.out, idxL, if_pos (by simp [hb])]
        clear hc hR
        go_wp2
        go_ret
        exact ⟨ret_int hn.out.symm, rfl⟩
    · have hn : Hid (idxL (fun y => v == y) zs 0 = -1) := by show _ = _; rw [hR.out, List.drop_of_length_le (by omega)]; rfl
      clear hc hR
      go_wp2
      go_ret
      exact ⟨ret_int hn.out.symm, rfl⟩
set_option maxHeartbeats 400000 in
theorem ContainsI_any (b off cap : Nat) (zs : List Int) (n : Nat) (v : Int) (w : World) (hc : zs = [] ∨ Rd w b off zs) (hn : zs.length = n) (hm : n ≤ 1000000) :
    Calls Try.prog 131 #[.slice (some ⟨b, off, none⟩) n cap, .int .i64 v] w fun e w' => e = .returned (.bool (zs.contains v)) ∧ w = w' := by
  subst hn
  have hE : Hid (decide (0 ≤ idxL (fun y => v == y) zs 0) = zs.contains v) := by
    show _ = _
    rw [contains_any, Bool.eq_iff_iff, decide_eq_true_eq]
    exact idxL_iff _ zs 0 (by omega)
  go_enter Try.func131, Try.ntmps131
  go_wp2_with (go_at_call 144; refine (IndexI_any b off cap zs v _ hc hm).mono ?_; rintro e w' ⟨rfl, rfl⟩)
  go_returns
  exact ⟨ret_bool hE.out, rfl⟩
set_option maxHeartbeats 400000 in
theorem arePlaces_any (p : Int) (b off cap : Nat) (zs : List Int) (w : World) (hc : Rd w b off zs) (hm : zs.length ≤ 1000000) :
    Calls Try.prog 88 #[.int .i64 p, .slice (some ⟨b, off, none⟩) zs.length cap] w fun e w' => e = .returned (.bool (isPl p zs)) ∧ w = w' := by
  go_enter Try.func88, Try.ntmps88
  go_wp2
  go_loop [9, 6] (fun i _ => ∃ k : Nat, k ≤ zs.length ∧ i = .int .i64 k ∧ isPl p (zs.take k) = true) (fun i _ => zs.length - (intOf i).toNat)
  case atStart => exact ⟨0, Nat.zero_le _, rfl, rfl⟩
  case round =>
    obtain ⟨k, hk, rfl, hrel⟩ := hrel
    have H := Lib.hid hrel; clear hrel
    by_cases hlt : k < zs.length
    · obtain ⟨x, hcell, hx⟩ := hc.get hlt
      cases hb : inB x 0 p
      · have hn : Hid (isPl p zs = false) := by
          show _ = _
          exact all_take (k := k + 1) (by rw [all_snoc hx.out, hb, Bool.and_false])
        go_wp2_with (go_at_call 98; refine (within_any _ _ _ _).mono ?_; rintro e w' ⟨rfl, rfl⟩; rw [hb])
        go_ret
        exact ⟨ret_bool (by rw [hn.out]), rfl⟩
      · have hn : Hid (isPl p (zs.take (k + 1)) = true) := by show _ = _; unfold isPl; rw [all_snoc hx.out, hb, Bool.and_true]; exact H.out
        go_wp2_with (go_at_call 98; refine (within_any _ _ _ _).mono ?_; rintro e w' ⟨rfl, rfl⟩; rw [hb])
        go_round
        case rel => exact ⟨k + 1, by omega, by go_num, hn.out⟩
        case measure => simp [intOf]; omega
    · have hn : Hid (isPl p zs = true) := by show _ = _; have := H.out; rwa [List.take_of_length_le (by omega)] at this
      go_wp2
      go_ret
      exact ⟨ret_bool (by rw [hn.out]), rfl⟩
set_option maxHeartbeats 1000000 in
theorem areDifferent_any (p : Int) (b cap : Nat) (zs : List Int) (w : World) (hc : Rd w b 0 zs) (hcap : zs.length ≤ cap) (hm : zs.length ≤ 1000000) :
    Calls Try.prog 87 #[.int .i64 p, .slice (some ⟨b, 0, none⟩) zs.length cap] w fun e w' => e = .returned (.bool (difB [] zs && isPl p zs)) ∧ w = w' := by
  have HCT : Hid (∀ (k : Nat) (c : Nat) (x : Int) (w' : World), k ≤ zs.length → w = w' → Calls Try.prog 131 #[.slice (some ⟨b, 0, none⟩) k c, .int .i64 x] w' fun e w'' => e = .returned (.bool ((zs.take k).contains x)) ∧ w' = w'') := fun k c x w' hk hw => by
    subst hw
    exact ContainsI_any b 0 c (zs.take k) k x w (.inr (fun i y hy => hc i y (by rw [List.getElem?_take] at hy; split at hy; exact hy; cases hy))) (by rw [List.length_take]; omega) (by omega)
  go_enter Try.func87, Try.ntmps87
  go_wp2
  go_loop [9, 5, 6] (fun i _ _ => ∃ k : Nat, k ≤ zs.length ∧ i = .int .i64 k ∧ Hid (difB [] zs = difB (zs.take k) (zs.drop k))) (fun i _ _ => zs.length - (intOf i).toNat)
  case atStart => exact ⟨0, Nat.zero_le _, rfl, rfl⟩
  case round =>
    obtain ⟨k, hk, rfl, hR⟩ := hrel
    by_cases hlt : k < zs.length
    · obtain ⟨x, hcell, hx⟩ := hc.get hlt
      simp only [Nat.zero_add] at hcell
      have hs := difB_take hx.out
      have hi0 : (0 : Int) ≤ (k : Int) := by omega
      have hi1 : (k : Int) ≤ (cap : Int) := by omega
      have hi2 : (k : Int) < (zs.length : Int) := by omega
      have hi3 : k ≤ cap := by omega
      cases hb : (zs.take k).contains x
      · have hn : Hid (difB [] zs = difB (zs.take (k + 1)) (zs.drop (k + 1))) := by show _ = _; rw [hR.out, hs, hb]; rfl
        clear hc hR hs
        go_wp2_with (go_at_call 131; refine (HCT.out k _ x _ (by omega) rfl).mono ?_; rintro e w' ⟨rfl, rfl⟩; rw [hb])
        go_round
        case rel => exact ⟨k + 1, by omega, by go_num, hn⟩
        case measure => simp [intOf]; omega
      · have hn : Hid (difB [] zs = false) := by show _ = _; rw [hR.out, hs, hb]; rfl
        clear hc hR hs
        go_wp2_with (go_at_call 131; refine (HCT.out k _ x _ (by omega) rfl).mono ?_; rintro e w' ⟨rfl, rfl⟩; rw [hb])
        go_ret
        exact ⟨ret_bool (by rw [hn.out]; rfl), rfl⟩
    · have hn : Hid (difB [] zs = true) := by show _ = _; rw [hR.out, List.drop_of_length_le (by omega)]; rfl
      clear hR
      go_wp2_with (go_at_call 88; refine (arePlaces_any p b 0 cap zs _ hc hm).mono ?_; rintro e w' ⟨rfl, rfl⟩)
      go_ret
      exact ⟨ret_bool (by rw [hn.out]; rfl), rfl⟩
set_option maxHeartbeats 400000 in
theorem pair_any (p x : Int) (w : World) :
    Calls Try.prog 145 #[.int .i64 p, .int .i64 x] w fun e w' => e = .returned (.agg #[.int .i64 (prA p x), .int .i64 (prB p x)]) ∧ Below w.heap.size w w' := by
  by_cases h : x = p
  · have h1 : prA p x = 1 := by unfold prA; rw [if_pos h]
    have h2 : prB p x = 0 := by unfold prB; rw [if_pos h]
    rw [h1, h2]
    go_enter Try.func145, Try.ntmps145
    go_wp2
    (try simp only [Exit.inBlock, Exit.then]); refine bodyPost_ret (by simp [results, Try.results145, go_sem, *]; try rfl) rfl ?_
    exact ⟨rfl, by (repeat' (first | (with_reducible exact Below.refl _ _) | (with_reducible assumption) | (with_reducible refine Below.alloc ?_ ?_ _) | (with_reducible refine Below.drew ?_) | (with_reducible refine below_drewN ?_ _) | (with_reducible refine Below.setCell ?_ ?_ _) | (refine Below.step ?_ (by with_reducible assumption) ?_) | go_size))⟩
  · have h1 : prA p x = x := by unfold prA; rw [if_neg h]
    have h2 : prB p x = 1 := by unfold prB; rw [if_neg h]
    rw [h1, h2]
    go_enter Try.func145, Try.ntmps145
    go_wp2
    (try simp only [Exit.inBlock, Exit.then]); refine bodyPost_ret (by simp [results, Try.results145, go_sem, *]; try rfl) rfl ?_
    exact ⟨rfl, by (repeat' (first | (with_reducible exact Below.refl _ _) | (with_reducible assumption) | (with_reducible refine Below.alloc ?_ ?_ _) | (with_reducible refine Below.drew ?_) | (with_reducible refine below_drewN ?_ _) | (with_reducible refine Below.setCell ?_ ?_ _) | (refine Below.step ?_ (by with_reducible assumption) ?_) | go_size))⟩
set_option maxHeartbeats 1000000 in
theorem bracket_any (p x y : Int) (w : World) (k1 : 3 ≤ p) (k2 : p ≤ 13) (hx : 0 ≤ x ∧ x ≤ p) (hy : 0 ≤ y ∧ y ≤ p) :
    Calls Try.prog 133 #[.int .i64 p, .int .i64 x, .int .i64 y] w fun e w' => e = .returned (.int .i64 (brk p x y)) ∧ Below w.heap.size w w' := by
  have q1 := prA_rng k1 hx.1 hx.2
  have q2 := prA_rng k1 hy.1 hy.2
  have q3 := prB_rng p x
  have q4 := prB_rng p y
  have hE : Hid (brk p x y = (prA p x * prB p y - prB p x * prA p y) % p) := rfl
  have HX : Hid (∀ w', _) := fun w' => pair_any p x w'
  have HY : Hid (∀ w', _) := fun w' => pair_any p y w'
  generalize prA p x = a at *
  generalize prB p x = b at *
  generalize prA p y = c at *
  generalize prB p y = d at *
  obtain ⟨l1, l2⟩ := q1; obtain ⟨l3, l4⟩ := q2; obtain ⟨l5, l6⟩ := q3; obtain ⟨l7, l8⟩ := q4
  have ⟨e1, e2⟩ := mul_bd (a := a) (b := d) (A := 12) (B := 1) (by omega) (by omega) (by omega) (by omega)
  have ⟨e3, e4⟩ := mul_bd (a := b) (b := c) (A := 1) (B := 12) (by omega) (by omega) (by omega) (by omega)
  go_enter Try.func133, Try.ntmps133
  go_wp2_with (first | (go_at_call_of 145 (Value.int IntKind.i64 x); refine (HX.out _).mono ?_; rintro e w1 ⟨rfl, hb1⟩; obtain ⟨hc1, hf1⟩ := bcell hb1; have hz1 := hb1.size; (try simp only [World.size_alloc, World.size_setCell, World.size_drew] at hz1); (try (have hy1w0 : w.heap.size < w1.heap.size := by omega)); (try (have hy1w1 : w.heap.size + 1 < w1.heap.size := by omega)); (try (have hy1w2 : w.heap.size + 1 + 1 < w1.heap.size := by omega)); (try (have hy1w3 : w.heap.size + 1 + 1 + 1 < w1.heap.size := by omega)); (try (have hy1w4 : w.heap.size + 1 + 1 + 1 + 1 < w1.heap.size := by omega))) | (go_at_call_of 145 (Value.int IntKind.i64 y); refine (HY.out _).mono ?_; rintro e w2 ⟨rfl, hb2⟩; obtain ⟨hc2, hf2⟩ := bcell hb2; have hz2 := hb2.size; (try simp only [World.size_alloc, World.size_setCell, World.size_drew] at hz2); (try (have hy2w0 : w.heap.size < w2.heap.size := by omega)); (try (have hy2w1 : w.heap.size + 1 < w2.heap.size := by omega)); (try (have hy2w2 : w.heap.size + 1 + 1 < w2.heap.size := by omega)); (try (have hy2w3 : w.heap.size + 1 + 1 + 1 < w2.heap.size := by omega)); (try (have hy2w4 : w.heap.size + 1 + 1 + 1 + 1 < w2.heap.size := by omega)); (try (have hy2w10 : w1.heap.size < w2.heap.size := by omega)); (try (have hy2w11 : w1.heap.size + 1 < w2.heap.size := by omega)); (try (have hy2w12 : w1.heap.size + 1 + 1 < w2.heap.size := by omega)); (try (have hy2w13 : w1.heap.size + 1 + 1 + 1 < w2.heap.size := by omega)); (try (have hy2w14 : w1.heap.size + 1 + 1 + 1 + 1 < w2.heap.size := by omega))) | (go_at_call 72; refine (mod_any _ _ _ k1 k2).mono ?_; rintro e w' ⟨rfl, rfl⟩))
  go_returns
  exact ⟨ret_int hE.out.symm, by (repeat' (first | (with_reducible exact Below.refl _ _) | (with_reducible assumption) | (with_reducible refine Below.alloc ?_ ?_ _) | (with_reducible refine Below.drew ?_) | (with_reducible refine below_drewN ?_ _) | (with_reducible refine Below.setCell ?_ ?_ _) | (refine Below.step ?_ (by with_reducible assumption) ?_) | go_size))⟩
set_option maxHeartbeats 1000000 in
theorem place_any (p x y : Int) (w : World) (hp : isP p = true) (hx : 0 ≤ x ∧ x ≤ 144) :
    Calls Try.prog 132 #[.int .i64 p, .int .i64 x, .int .i64 y] w fun e w' => e = .returned (.int .i64 (plcI p x y)) ∧ w = w' := by
  have k1 := isP_lo hp
  have k2 := isP_hi hp
  have y0 : 0 ≤ y % p := Int.emod_nonneg _ (by omega)
  have y1 : y % p < p := Int.emod_lt_of_pos _ (by omega)
  obtain ⟨x0, x1⟩ := hx
  by_cases h : y % p = 0
  · have hE : Hid (plcI p x y = p) := by show _ = _; unfold plcI; rw [if_pos h]
    go_enter Try.func132, Try.ntmps132
    go_wp2_with (go_at_call 72; refine (mod_any _ _ _ k1 k2).mono ?_; rintro e w' ⟨rfl, rfl⟩)
    go_returns
    exact ⟨ret_int hE.out.symm, rfl⟩
  · have hE : Hid (plcI p x y = x * inv p (y % p) % p) := by show _ = _; unfold plcI; rw [if_neg h]
    have hne : y % p % p ≠ 0 := by rw [Int.emod_emod_of_dvd _ (Int.dvd_refl p)]; exact h
    have i0 := inv_lo (n := y % p) hp
    have i1 := inv_hi (n := y % p) hp
    have ⟨e1, e2⟩ := mul_bd (a := x) (b := inv p (y % p)) (A := 144) (B := 12) x0 x1 i0 (by omega)
    have HI : Hid (∀ w', _) := fun w' => inverse_any (y % p) p w' hp y0 (by omega) hne
    have HM : Hid (∀ w', _) := fun w' => mod_any y p w' k1 k2
    generalize y % p = z at *
    generalize inv p z = v at *
    go_enter Try.func132, Try.ntmps132
    go_wp2_with (first | (go_at_call_of 72 (Value.int IntKind.i64 y); refine (HM.out _).mono ?_; rintro e w' ⟨rfl, rfl⟩) | (go_at_call 99; refine (HI.out _).mono ?_; rintro e w' ⟨rfl, rfl⟩) | (go_at_call 72; refine (mod_any _ _ _ k1 k2).mono ?_; rintro e w' ⟨rfl, rfl⟩))
    go_returns
    exact ⟨ret_int hE.out.symm, rfl⟩
def prI (p a b c d : Int) : Int := plcI p (brk p a c * brk p d b) (brk p c b * brk p a d)
theorem brk_rng {p : Int} (k1 : 3 ≤ p) (x y : Int) : 0 ≤ brk p x y ∧ brk p x y ≤ p - 1 := ⟨Int.emod_nonneg _ (by omega), by have := Int.emod_lt_of_pos (prA p x * prB p y - prB p x * prA p y) (b := p) (by omega); unfold brk; omega⟩
set_option maxHeartbeats 1000000 in
theorem placeRatio_any (p a b c d : Int) (w : World) (hp : isP p = true) (ha : 0 ≤ a ∧ a ≤ p) (hb : 0 ≤ b ∧ b ≤ p) (hc : 0 ≤ c ∧ c ≤ p) (hd : 0 ≤ d ∧ d ≤ p) :
    Calls Try.prog 89 #[.int .i64 p, .int .i64 a, .int .i64 b, .int .i64 c, .int .i64 d] w fun e w' => e = .returned (.int .i64 (prI p a b c d)) ∧ Below w.heap.size w w' := by
  have k1 := isP_lo hp
  have k2 := isP_hi hp
  have q1 := brk_rng k1 a c
  have q2 := brk_rng k1 d b
  have q3 := brk_rng k1 c b
  have q4 := brk_rng k1 a d
  have hE : Hid (prI p a b c d = plcI p (brk p a c * brk p d b) (brk p c b * brk p a d)) := rfl
  obtain ⟨l1, l2⟩ := q1; obtain ⟨l3, l4⟩ := q2; obtain ⟨l5, l6⟩ := q3; obtain ⟨l7, l8⟩ := q4
  have e1 := mul_bd (a := brk p a c) (b := brk p d b) (A := 12) (B := 12) (by omega) (by omega) (by omega) (by omega)
  have e2 := mul_bd (a := brk p c b) (b := brk p a d) (A := 12) (B := 12) (by omega) (by omega) (by omega) (by omega)
  obtain ⟨m1, m2⟩ := e1; obtain ⟨m3, m4⟩ := e2
  go_enter Try.func89, Try.ntmps89
  go_wp2_with (first | (go_at_call 133; refine (bracket_any _ _ _ _ k1 k2 (by first | exact ha | exact hb | exact hc | exact hd) (by first | exact ha | exact hb | exact hc | exact hd)).mono ?_; rintro e w1 ⟨rfl, hb1⟩; have hz1 := hb1.size) | (go_at_call 132; refine (place_any _ _ _ _ hp ⟨by omega, by omega⟩).mono ?_; rintro e w' ⟨rfl, rfl⟩))
  go_returns
  exact ⟨ret_int hE.out.symm, by (repeat' (first | (with_reducible exact Below.refl _ _) | (with_reducible assumption) | (with_reducible refine Below.alloc ?_ ?_ _) | (with_reducible refine Below.drew ?_) | (with_reducible refine below_drewN ?_ _) | (with_reducible refine Below.setCell ?_ ?_ _) | (refine Below.step ?_ (by with_reducible assumption) ?_) | go_size))⟩
end Go.Proofs.Ytemimkbngfbomaa
