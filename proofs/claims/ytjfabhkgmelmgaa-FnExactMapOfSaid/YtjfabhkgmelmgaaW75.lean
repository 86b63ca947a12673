/- MapOf: what the two functions return; the argument's rows are not longer than a million numbers. -/
import Derived.Test.YtjfabhkgmelmgaaI6
import Derived.Test.YtjfabhkgmelmgaaW26
import Derived.Test.YtjfabhkgmelmgaaW25
import Derived.Test.YtjfabhkgmelmgaaW24
import Derived.Test.YtjfabhkgmelmgaaH3
import Derived.Test.YtjfabhkgmelmgaaW2
import Derived.BigRegion
import Derived.StillTailTactics
namespace Go.Proofs.Ytjfabhkgmelmgaa
open Go.RowKit
set_option linter.unusedSimpArgs false
set_option linter.unusedVariables false
set_option maxRecDepth 100000

def zM9 : M9 := ⟨0, 0, 0, 0, 0, 0, 0, 0, 0⟩
/-- Three small numbers. -/
def sm3 (r : List Int) : Bool := small r && decide (r.length = 3)
def mfG (p : Int) (m : M9) : M9 × Int := if M9.det p m = 0 then (zM9, 5) else (nmM p m, 0)
def mfM (p : Int) (a b c : List Int) : M9 := ⟨a.getD 0 0 % p, a.getD 1 0 % p, a.getD 2 0 % p, b.getD 0 0 % p, b.getD 1 0 % p, b.getD 2 0 % p, c.getD 0 0 % p, c.getD 1 0 % p, c.getD 2 0 % p⟩
def mfS (p : Int) : List (List Int) → M9 × Int
  | [a, b, c] => if sm3 a = true ∧ sm3 b = true ∧ sm3 c = true then mfG p (mfM p a b c) else (zM9, 2)
  | _ => (zM9, 2)
def mfR (p : Int) (rows : List (List Int)) : M9 × Int := if isP p = true then mfS p rows else (zM9, 2)
theorem small_all {x y z : Int} (h : small [x, y, z] = true) : inB x (-1000) 1000 = true ∧ inB y (-1000) 1000 = true ∧ inB z (-1000) 1000 = true := by
  unfold small at h
  simpa [and_assoc] using h
theorem sm3_of {x y z : Int} (hx : inB x (-1000) 1000 = true) (hy : inB y (-1000) 1000 = true) (hz : inB z (-1000) 1000 = true) : sm3 [x, y, z] = true := by
  unfold sm3 small
  simp [hx, hy, hz]
theorem sm3_no {r : List Int} (h : ¬ r.length = 3) : sm3 r = false := by
  unfold sm3
  simp [h]
theorem sm3_bad {x y z : Int} (h : inB x (-1000) 1000 = false ∨ inB y (-1000) 1000 = false ∨ inB z (-1000) 1000 = false) : sm3 [x, y, z] = false := by
  unfold sm3 small
  rcases h with h | h | h <;> simp [h]
theorem mfG_two (p : Int) (m : M9) : ((mfG p m).2 = 0) ∨ (mfG p m = (zM9, 5)) := by
  unfold mfG
  split
  · exact .inr rfl
  · exact .inl rfl
theorem emod_sm {p : Int} (k1 : 3 ≤ p) (k2 : p ≤ 13) (x : Int) : sm (x % p) := by
  have h1 := Int.emod_nonneg x (by omega : p ≠ 0)
  have h2 := Int.emod_lt_of_pos x (by omega : 0 < p)
  exact ⟨h1, by omega⟩
/-- A row of three numbers. -/
theorem SlI.three {w : World} {v : Value} {x y z : Int} (h : SlI w v [x, y, z]) : ∃ b o c, v = .slice (some ⟨b, o, none⟩) 3 c ∧ b < w.heap.size ∧ w.cell? ⟨b, o, none⟩ = some (.int .i64 x) ∧ w.cell? ⟨b, o + 1, none⟩ = some (.int .i64 y) ∧ w.cell? ⟨b, o + 2, none⟩ = some (.int .i64 z) := by
  obtain ⟨a, c, rfl, hc, h⟩ := h
  rcases h with h | ⟨b, o, rfl, hl, hr⟩
  · cases h
  · exact ⟨b, o, c, rfl, hl, hr 0 x rfl, hr 1 y rfl, hr 2 z rfl⟩
theorem len3r {r : List Int} (h : r.length = 3) : ∃ x y z, r = [x, y, z] := by
  match r, h with
  | [x, y, z], _ => exact ⟨x, y, z, rfl⟩
set_option maxHeartbeats 2000000 in
theorem mapOf_any (p m0 m1 m2 m3 m4 m5 m6 m7 m8 : Int) (w : World) (hp : isP p = true) (sm0 : sm m0) (sm1 : sm m1) (sm2 : sm m2) (sm3 : sm m3) (sm4 : sm m4) (sm5 : sm m5) (sm6 : sm m6) (sm7 : sm m7) (sm8 : sm m8) :
    Calls Try.prog 74 #[.int .i64 p, .agg #[.int .i64 m0, .int .i64 m1, .int .i64 m2, .int .i64 m3, .int .i64 m4, .int .i64 m5, .int .i64 m6, .int .i64 m7, .int .i64 m8]] w fun e w' => e = .returned (.tuple #[.agg #[.int .i64 ((mfG p ⟨m0, m1, m2, m3, m4, m5, m6, m7, m8⟩).1).m0, .int .i64 ((mfG p ⟨m0, m1, m2, m3, m4, m5, m6, m7, m8⟩).1).m1, .int .i64 ((mfG p ⟨m0, m1, m2, m3, m4, m5, m6, m7, m8⟩).1).m2, .int .i64 ((mfG p ⟨m0, m1, m2, m3, m4, m5, m6, m7, m8⟩).1).m3, .int .i64 ((mfG p ⟨m0, m1, m2, m3, m4, m5, m6, m7, m8⟩).1).m4, .int .i64 ((mfG p ⟨m0, m1, m2, m3, m4, m5, m6, m7, m8⟩).1).m5, .int .i64 ((mfG p ⟨m0, m1, m2, m3, m4, m5, m6, m7, m8⟩).1).m6, .int .i64 ((mfG p ⟨m0, m1, m2, m3, m4, m5, m6, m7, m8⟩).1).m7, .int .i64 ((mfG p ⟨m0, m1, m2, m3, m4, m5, m6, m7, m8⟩).1).m8], .bool (decide ((mfG p ⟨m0, m1, m2, m3, m4, m5, m6, m7, m8⟩).2 = 0))]) ∧ Below w.heap.size w w' := by
  have k1 := isP_lo hp; have k2 := isP_hi hp
  have hdet := fun w' => detM_any m0 m1 m2 m3 m4 m5 m6 m7 m8 p w' k1 k2 sm0 sm1 sm2 sm3 sm4 sm5 sm6 sm7 sm8
  have hnm := fun w' => normalMap_any p m0 m1 m2 m3 m4 m5 m6 m7 m8 w' hp
  have HP := Lib.hid hp
  by_cases hd : M9.det p ⟨m0, m1, m2, m3, m4, m5, m6, m7, m8⟩ = 0
  · have hE : Hid (mfG p ⟨m0, m1, m2, m3, m4, m5, m6, m7, m8⟩ = (zM9, 5)) := by show _ = _; unfold mfG; rw [if_pos hd]
    rw [hd] at hdet
    have HD := Lib.hid hdet
    clear hdet hnm hd hp
    go_enter Try.func74, Try.ntmps74
    go_wp2_with (go_at_call 134; refine (HD.out _).mono ?_; rintro e w1 ⟨rfl, hb1⟩; obtain ⟨hc1, hf1⟩ := bcell hb1; have hz1 := hb1.size; (try simp only [World.size_alloc, World.size_setCell, World.size_drew] at hz1); (try (have hy1w0 : w.heap.size < w1.heap.size := by omega)); (try (have hy1w1 : w.heap.size + 1 < w1.heap.size := by omega)); (try (have hy1w2 : w.heap.size + 1 + 1 < w1.heap.size := by omega)); (try (have hy1w3 : w.heap.size + 1 + 1 + 1 < w1.heap.size := by omega)); (try (have hy1w4 : w.heap.size + 1 + 1 + 1 + 1 < w1.heap.size := by omega)))
    (try simp only [Exit.inBlock, Exit.then]); refine bodyPost_ret (by simp [results, Try.results74, go_sem, *]; try rfl) rfl ?_
    exact ⟨by rw [hE.out]; try rfl, by (repeat' (first | (with_reducible exact Below.refl _ _) | (with_reducible assumption) | (with_reducible refine Below.alloc ?_ ?_ _) | (with_reducible refine Below.drew ?_) | (with_reducible refine below_drewN ?_ _) | (with_reducible refine Below.setCell ?_ ?_ _) | (refine Below.step ?_ (by with_reducible assumption) ?_) | go_size))⟩
  · have hE : Hid (mfG p ⟨m0, m1, m2, m3, m4, m5, m6, m7, m8⟩ = (nmM p ⟨m0, m1, m2, m3, m4, m5, m6, m7, m8⟩, 0)) := by show _ = _; unfold mfG; rw [if_neg hd]
    generalize M9.det p ⟨m0, m1, m2, m3, m4, m5, m6, m7, m8⟩ = d at *
    have hd' : ¬ d = 0 := hd
    have HD := Lib.hid hdet; have HN := Lib.hid hnm
    clear hdet hnm hp
    go_enter Try.func74, Try.ntmps74
    go_wp2_with (first | (go_at_call 134; refine (HD.out _).mono ?_; rintro e w1 ⟨rfl, hb1⟩; obtain ⟨hc1, hf1⟩ := bcell hb1; have hz1 := hb1.size; (try simp only [World.size_alloc, World.size_setCell, World.size_drew] at hz1); (try (have hy1w0 : w.heap.size < w1.heap.size := by omega)); (try (have hy1w1 : w.heap.size + 1 < w1.heap.size := by omega)); (try (have hy1w2 : w.heap.size + 1 + 1 < w1.heap.size := by omega)); (try (have hy1w3 : w.heap.size + 1 + 1 + 1 < w1.heap.size := by omega)); (try (have hy1w4 : w.heap.size + 1 + 1 + 1 + 1 < w1.heap.size := by omega))) | (go_at_call 122; refine (HN.out _).mono ?_; rintro e w2 ⟨rfl, hb2⟩; obtain ⟨hc2, hf2⟩ := bcell hb2; have hz2 := hb2.size; (try simp only [World.size_alloc, World.size_setCell, World.size_drew] at hz2); (try (have hy2w0 : w.heap.size < w2.heap.size := by omega)); (try (have hy2w1 : w.heap.size + 1 < w2.heap.size := by omega)); (try (have hy2w2 : w.heap.size + 1 + 1 < w2.heap.size := by omega)); (try (have hy2w3 : w.heap.size + 1 + 1 + 1 < w2.heap.size := by omega)); (try (have hy2w4 : w.heap.size + 1 + 1 + 1 + 1 < w2.heap.size := by omega)); (try (have hy2w10 : w1.heap.size < w2.heap.size := by omega)); (try (have hy2w11 : w1.heap.size + 1 < w2.heap.size := by omega)); (try (have hy2w12 : w1.heap.size + 1 + 1 < w2.heap.size := by omega)); (try (have hy2w13 : w1.heap.size + 1 + 1 + 1 < w2.heap.size := by omega)); (try (have hy2w14 : w1.heap.size + 1 + 1 + 1 + 1 < w2.heap.size := by omega))))
    (try simp only [Exit.inBlock, Exit.then]); refine bodyPost_ret (by simp [results, Try.results74, go_sem, *]; try rfl) rfl ?_
    exact ⟨by rw [hE.out]; try rfl, by (repeat' (first | (with_reducible exact Below.refl _ _) | (with_reducible assumption) | (with_reducible refine Below.alloc ?_ ?_ _) | (with_reducible refine Below.drew ?_) | (with_reducible refine below_drewN ?_ _) | (with_reducible refine Below.setCell ?_ ?_ _) | (refine Below.step ?_ (by with_reducible assumption) ?_) | go_size))⟩
set_option maxHeartbeats 8000000 in
theorem MapOf_any (p : Int) (v : Value) (rows : List (List Int)) (w : World) (h : SlSS w v rows) (hm : ∀ r ∈ rows, r.length ≤ 1000000) :
    Calls Try.prog 22 #[.int .i64 p, v] w fun e w' => e = .returned (.tuple #[.agg #[.int .i64 ((mfR p rows).1).m0, .int .i64 ((mfR p rows).1).m1, .int .i64 ((mfR p rows).1).m2, .int .i64 ((mfR p rows).1).m3, .int .i64 ((mfR p rows).1).m4, .int .i64 ((mfR p rows).1).m5, .int .i64 ((mfR p rows).1).m6, .int .i64 ((mfR p rows).1).m7, .int .i64 ((mfR p rows).1).m8], .int .i64 (mfR p rows).2]) ∧ Below w.heap.size w w' := by
  obtain ⟨a, cap, rfl, hcap, hrd⟩ := h.at_
  have HR := Lib.hid hrd; clear hrd h
  cases hpb : isP p
  · have HPB := Lib.hid hpb
    have hE : Hid (mfR p rows = (zM9, 2)) := by show _ = _; unfold mfR; rw [hpb]; rfl
    clear hpb
    generalize rows.length = n at *
    go_enter Try.func22, Try.ntmps22
    go_wp2_with (go_at_call 61; refine (isPrime_any p _).mono ?_; rintro e w' ⟨rfl, rfl⟩; rw [HPB.out])
    (try simp only [Exit.inBlock, Exit.then]); refine bodyPost_ret (by simp [results, Try.results22, go_sem, *]; try rfl) rfl ?_
    exact ⟨by rw [hE.out]; try rfl, by (repeat' (first | (with_reducible exact Below.refl _ _) | (with_reducible assumption) | (with_reducible refine Below.alloc ?_ ?_ _) | (with_reducible refine Below.drew ?_) | (with_reducible refine below_drewN ?_ _) | (with_reducible refine Below.setCell ?_ ?_ _) | (refine Below.step ?_ (by with_reducible assumption) ?_) | go_size))⟩
  · have HPB := Lib.hid hpb
    have k1 := isP_lo hpb; have k2 := isP_hi hpb
    by_cases h3 : rows.length = 3
    rotate_left
    · have hE : Hid (mfR p rows = (zM9, 2)) := by
        show _ = _; unfold mfR; rw [hpb, if_pos rfl]
        match rows, h3 with
        | [], _ => rfl
        | [_], _ => rfl
        | [_, _], _ => rfl
        | [_, _, _], h => exact absurd rfl h
        | _ :: _ :: _ :: _ :: _, _ => rfl
      clear hpb
      generalize rows.length = n at *
      have h3' : ¬ (n : Int) = 3 := by omega
      go_enter Try.func22, Try.ntmps22
      go_wp2_with (go_at_call 61; refine (isPrime_any p _).mono ?_; rintro e w' ⟨rfl, rfl⟩; rw [HPB.out])
      (try simp only [Exit.inBlock, Exit.then]); refine bodyPost_ret (by simp [results, Try.results22, go_sem, *]; try rfl) rfl ?_
      exact ⟨by rw [hE.out]; try rfl, by (repeat' (first | (with_reducible exact Below.refl _ _) | (with_reducible assumption) | (with_reducible refine Below.alloc ?_ ?_ _) | (with_reducible refine Below.drew ?_) | (with_reducible refine below_drewN ?_ _) | (with_reducible refine Below.setCell ?_ ?_ _) | (refine Below.step ?_ (by with_reducible assumption) ?_) | go_size))⟩
    · obtain ⟨r0, r1, r2, rfl⟩ : ∃ r0 r1 r2, rows = [r0, r1, r2] := by
        match rows, h3 with
        | [r0, r1, r2], _ => exact ⟨r0, r1, r2, rfl⟩
      have hE0 : mfR p [r0, r1, r2] = if sm3 r0 = true ∧ sm3 r1 = true ∧ sm3 r2 = true then mfG p (mfM p r0 r1 r2) else (zM9, 2) := by unfold mfR; rw [hpb, if_pos rfl]; rfl
      obtain ⟨b, off, u0, rfl, hbl, hc0, hs0⟩ := HR.out 0 r0 rfl
      obtain ⟨_, _, u1, hab, -, hc1, hs1⟩ := HR.out 1 r1 rfl
      injection hab with hab; injection hab with hab1 hab2; subst hab1 hab2
      obtain ⟨_, _, u2, hab, -, hc2, hs2⟩ := HR.out 2 r2 rfl
      injection hab with hab; injection hab with hab1 hab2; subst hab1 hab2
      rw [Nat.add_zero] at hc0
      clear HR h3
      simp only [List.length_cons, List.length_nil, Nat.zero_add, Nat.reduceAdd] at hcap ⊢
      have HE0 := Lib.hid hE0; clear hE0
      obtain ⟨a0, ca0, hsh0⟩ := hs0.shape
      obtain ⟨a1, ca1, hsh1⟩ := hs1.shape
      obtain ⟨a2, ca2, hsh2⟩ := hs2.shape
      have HS0 := Lib.hid hs0
      have HS1 := Lib.hid hs1
      have HS2 := Lib.hid hs2
      subst hsh0 hsh1 hsh2
      clear hs0 hs1 hs2
      have hl := fun i (h : i ≤ 3) => h
      have hl0 : IntKind.i64.wrap 0 = 0 := by decide
      have hl1 : IntKind.i64.wrap 1 = 1 := by decide
      have hl2 : IntKind.i64.wrap 2 = 2 := by decide
      have hl3 : IntKind.i64.wrap 3 = 3 := by decide
      have hl4 : IntKind.i64.wrap 4 = 4 := by decide
      have hmm := fun x w' => mod_any x p w' k1 k2
      have HMM := Lib.hid hmm
      clear hl hmm hpb
      have HAS0 : Hid (∀ w' : World, Below w.heap.size w w' → Calls Try.prog 72 #[.slice a0 r0.length ca0, .int .i64 3] w' fun e w'' => e = .returned (.bool (sm3 r0)) ∧ w' = w'') := fun w' hb => areSmall_any _ r0 3 w' (HS0.out.below hb) (hm r0 (by simp)) (by omega)
      have HAS1 : Hid (∀ w' : World, Below w.heap.size w w' → Calls Try.prog 72 #[.slice a1 r1.length ca1, .int .i64 3] w' fun e w'' => e = .returned (.bool (sm3 r1)) ∧ w' = w'') := fun w' hb => areSmall_any _ r1 3 w' (HS1.out.below hb) (hm r1 (by simp)) (by omega)
      have HAS2 : Hid (∀ w' : World, Below w.heap.size w w' → Calls Try.prog 72 #[.slice a2 r2.length ca2, .int .i64 3] w' fun e w'' => e = .returned (.bool (sm3 r2)) ∧ w' = w'') := fun w' hb => areSmall_any _ r2 3 w' (HS2.out.below hb) (hm r2 (by simp)) (by omega)
      go_enter Try.func22, Try.ntmps22
      go_wp2_with (go_at_call 61; refine (isPrime_any p _).mono ?_; rintro e w' ⟨rfl, rfl⟩; rw [HPB.out])
      refine wp_name (fun w' => Box 31 w' w.heap.size [0, 0, 0, 0, 0, 0, 0, 0, 0] ∧ Box 31 w' (w.heap.size + 1) [0, 0, 0, 0, 0, 0, 0, 0, 0] ∧ Below w.heap.size w w') ⟨Box.alloc (Box.new [0, 0, 0, 0, 0, 0, 0, 0, 0] rfl) _, Box.new [0, 0, 0, 0, 0, 0, 0, 0, 0] (by simp), by (repeat' (first | (with_reducible exact Below.refl _ _) | (with_reducible assumption) | (with_reducible refine Below.alloc ?_ ?_ _) | (with_reducible refine Below.drew ?_) | (with_reducible refine below_drewN ?_ _) | (with_reducible refine Below.setCell ?_ ?_ _) | (refine Below.step ?_ (by with_reducible assumption) ?_) | go_size))⟩ ?_
      rintro wa ⟨Bo, Bm, hB⟩
      have hwsz := Bm.lt
      refine wp_loop_rounds 4 ?_
      have q0 := keepC hB hc0
      cases hb0 : sm3 r0
      · have hE : Hid (mfR p [r0, r1, r2] = (zM9, 2)) := by show _ = _; rw [HE0.out, if_neg]; rintro ⟨h0, h1, h2⟩; rw [hb0] at h0; cases h0
        have HB0 := Lib.hid hb0; clear hb0
        have z0 := Bo.cell 0 rfl; have zf0 := Bo.frz 0; have z1 := Bo.cell 1 rfl; have zf1 := Bo.frz 1; have z2 := Bo.cell 2 rfl; have zf2 := Bo.frz 2; have z3 := Bo.cell 3 rfl; have zf3 := Bo.frz 3; have z4 := Bo.cell 4 rfl; have zf4 := Bo.frz 4; have z5 := Bo.cell 5 rfl; have zf5 := Bo.frz 5; have z6 := Bo.cell 6 rfl; have zf6 := Bo.frz 6; have z7 := Bo.cell 7 rfl; have zf7 := Bo.frz 7; have z8 := Bo.cell 8 rfl; have zf8 := Bo.frz 8
        rw [rounds_succ]
        go_wp2_with (go_at_call 72; refine (HAS0.out _ hB).mono ?_; rintro e w' ⟨rfl, rfl⟩; rw [HB0.out])
        (try simp only [Exit.inBlock, Exit.then]); refine bodyPost_ret (by simp [results, Try.results22, go_sem, cellSet_same, *]; try rfl) rfl ?_
        exact ⟨by rw [hE.out]; try rfl, by (repeat' (first | (with_reducible exact Below.refl _ _) | (with_reducible assumption) | (with_reducible refine Below.alloc ?_ ?_ _) | (with_reducible refine Below.drew ?_) | (with_reducible refine below_drewN ?_ _) | (with_reducible refine Below.setCell ?_ ?_ _) | (refine Below.step ?_ (by with_reducible assumption) ?_) | go_size))⟩
      have HB0 := Lib.hid hb0; clear hb0
      obtain ⟨x0, x1, x2, hr0⟩ := len3r (r := r0) (by have := HB0.out; unfold sm3 at this; simp at this; exact this.2)
      subst hr0
      obtain ⟨b0, o0, cc0, hv0, -, ce0, ce1, ce2⟩ := HS0.out.three
      injection hv0 with hva hvb hvc; subst hva hvc
      simp only [List.length_cons, List.length_nil, Nat.zero_add, Nat.reduceAdd] at q0 HAS0
      rw [rounds_succ]
      go_wp2_with (go_at_call 72; refine (HAS0.out _ hB).mono ?_; rintro e w' ⟨rfl, rfl⟩; rw [HB0.out])
      refine wp_loop_rounds 4 ?_
      have cf0 := keepC hB ce0; have cf1 := keepC hB ce1; have cf2 := keepC hB ce2
      rw [rounds_succ]
      go_wp2_with fail
      refine wp_region_tailS 7 (fun w' => w' = wa.drew) (by kernel_rfl) (by kernel_rfl) rfl ?_
      simp only [List.take_succ_cons, List.take_zero, List.drop_succ_cons, List.drop_zero]
      repeat (first
        | (refine stillS_read ?_ (by rfl) (fun w' hS => ?_) ?_; rotate_left; (focus (clear hS; go_simp; (try with_reducible rfl); done)); (try simp only [Act.put, List.setIfInBounds_toArray, List.set_cons_zero, List.set_cons_succ]))
        | (refine stillS_call (.int .i64 (x0 % p)) 73 ?_ (by rfl) (fun w' => ?_) (fun w' hS => ?_) ?_; rotate_left; (focus (go_simp; (try with_reducible rfl); done)); (focus (refine (HMM.out x0 _).mono ?_; rintro e w'' ⟨rfl, rfl⟩; exact ⟨rfl, hS⟩)); (try simp only [Act.put, List.setIfInBounds_toArray, List.set_cons_zero, List.set_cons_succ])))
      refine stillS_nil ?_
      rintro w' rfl
      have st := Bm.cell 0 rfl
      have sf := Bm.frz 0
      go_wp2_with fail
      replace Bm : Box 31 (wa.setCell ⟨w.heap.size + 1, 0, none⟩ (.int .i64 (x0 % p))).drew (w.heap.size + 1) [x0 % p, 0, 0, 0, 0, 0, 0, 0, 0] := Box.drew (Bm.set 0 (x0 % p))
      replace Bo : Box 31 (wa.setCell ⟨w.heap.size + 1, 0, none⟩ (.int .i64 (x0 % p))).drew w.heap.size [0, 0, 0, 0, 0, 0, 0, 0, 0] := Box.drew (Bo.far (by omega))
      replace hB : Below w.heap.size w (wa.setCell ⟨w.heap.size + 1, 0, none⟩ (.int .i64 (x0 % p))).drew := Below.drew (Below.setCell (p := ⟨w.heap.size + 1, 0, none⟩) hB (Nat.le_succ _) _)
      clear st sf cf0 cf1 cf2
      generalize (wa.setCell ⟨w.heap.size + 1, 0, none⟩ (.int .i64 (x0 % p))).drew = wa at *
      have cf0 := keepC hB ce0; have cf1 := keepC hB ce1; have cf2 := keepC hB ce2
      rw [rounds_succ]
      go_wp2_with fail
      refine wp_region_tailS 7 (fun w' => w' = wa.drew) (by kernel_rfl) (by kernel_rfl) rfl ?_
      simp only [List.take_succ_cons, List.take_zero, List.drop_succ_cons, List.drop_zero]
      repeat (first
        | (refine stillS_read ?_ (by rfl) (fun w' hS => ?_) ?_; rotate_left; (focus (clear hS; go_simp; (try with_reducible rfl); done)); (try simp only [Act.put, List.setIfInBounds_toArray, List.set_cons_zero, List.set_cons_succ]))
        | (refine stillS_call (.int .i64 (x1 % p)) 73 ?_ (by rfl) (fun w' => ?_) (fun w' hS => ?_) ?_; rotate_left; (focus (go_simp; (try with_reducible rfl); done)); (focus (refine (HMM.out x1 _).mono ?_; rintro e w'' ⟨rfl, rfl⟩; exact ⟨rfl, hS⟩)); (try simp only [Act.put, List.setIfInBounds_toArray, List.set_cons_zero, List.set_cons_succ])))
      refine stillS_nil ?_
      rintro w' rfl
      have st := Bm.cell 1 rfl
      have sf := Bm.frz 1
      go_wp2_with fail
      replace Bm : Box 31 (wa.setCell ⟨w.heap.size + 1, 1, none⟩ (.int .i64 (x1 % p))).drew (w.heap.size + 1) [x0 % p, x1 % p, 0, 0, 0, 0, 0, 0, 0] := Box.drew (Bm.set 1 (x1 % p))
      replace Bo : Box 31 (wa.setCell ⟨w.heap.size + 1, 1, none⟩ (.int .i64 (x1 % p))).drew w.heap.size [0, 0, 0, 0, 0, 0, 0, 0, 0] := Box.drew (Bo.far (by omega))
      replace hB : Below w.heap.size w (wa.setCell ⟨w.heap.size + 1, 1, none⟩ (.int .i64 (x1 % p))).drew := Below.drew (Below.setCell (p := ⟨w.heap.size + 1, 1, none⟩) hB (Nat.le_succ _) _)
      clear st sf cf0 cf1 cf2
      generalize (wa.setCell ⟨w.heap.size + 1, 1, none⟩ (.int .i64 (x1 % p))).drew = wa at *
      have cf0 := keepC hB ce0; have cf1 := keepC hB ce1; have cf2 := keepC hB ce2
      rw [rounds_succ]
      go_wp2_with fail
      refine wp_region_tailS 7 (fun w' => w' = wa.drew) (by kernel_rfl) (by kernel_rfl) rfl ?_
      simp only [List.take_succ_cons, List.take_zero, List.drop_succ_cons, List.drop_zero]
      repeat (first
        | (refine stillS_read ?_ (by rfl) (fun w' hS => ?_) ?_; rotate_left; (focus (clear hS; go_simp; (try with_reducible rfl); done)); (try simp only [Act.put, List.setIfInBounds_toArray, List.set_cons_zero, List.set_cons_succ]))
        | (refine stillS_call (.int .i64 (x2 % p)) 73 ?_ (by rfl) (fun w' => ?_) (fun w' hS => ?_) ?_; rotate_left; (focus (go_simp; (try with_reducible rfl); done)); (focus (refine (HMM.out x2 _).mono ?_; rintro e w'' ⟨rfl, rfl⟩; exact ⟨rfl, hS⟩)); (try simp only [Act.put, List.setIfInBounds_toArray, List.set_cons_zero, List.set_cons_succ])))
      refine stillS_nil ?_
      rintro w' rfl
      have st := Bm.cell 2 rfl
      have sf := Bm.frz 2
      go_wp2_with fail
      replace Bm : Box 31 (wa.setCell ⟨w.heap.size + 1, 2, none⟩ (.int .i64 (x2 % p))).drew (w.heap.size + 1) [x0 % p, x1 % p, x2 % p, 0, 0, 0, 0, 0, 0] := Box.drew (Bm.set 2 (x2 % p))
      replace Bo : Box 31 (wa.setCell ⟨w.heap.size + 1, 2, none⟩ (.int .i64 (x2 % p))).drew w.heap.size [0, 0, 0, 0, 0, 0, 0, 0, 0] := Box.drew (Bo.far (by omega))
      replace hB : Below w.heap.size w (wa.setCell ⟨w.heap.size + 1, 2, none⟩ (.int .i64 (x2 % p))).drew := Below.drew (Below.setCell (p := ⟨w.heap.size + 1, 2, none⟩) hB (Nat.le_succ _) _)
      clear st sf cf0 cf1 cf2
      generalize (wa.setCell ⟨w.heap.size + 1, 2, none⟩ (.int .i64 (x2 % p))).drew = wa at *
      rw [rounds_succ]
      clear ce0 ce1 ce2 q0
      go_wp2_with fail
      have q1 := keepC hB hc1
      cases hb1 : sm3 r1
      · have hE : Hid (mfR p [[x0, x1, x2], r1, r2] = (zM9, 2)) := by show _ = _; rw [HE0.out, if_neg]; rintro ⟨h0, h1, h2⟩; rw [hb1] at h1; cases h1
        have HB1 := Lib.hid hb1; clear hb1
        have z0 := Bo.cell 0 rfl; have zf0 := Bo.frz 0; have z1 := Bo.cell 1 rfl; have zf1 := Bo.frz 1; have z2 := Bo.cell 2 rfl; have zf2 := Bo.frz 2; have z3 := Bo.cell 3 rfl; have zf3 := Bo.frz 3; have z4 := Bo.cell 4 rfl; have zf4 := Bo.frz 4; have z5 := Bo.cell 5 rfl; have zf5 := Bo.frz 5; have z6 := Bo.cell 6 rfl; have zf6 := Bo.frz 6; have z7 := Bo.cell 7 rfl; have zf7 := Bo.frz 7; have z8 := Bo.cell 8 rfl; have zf8 := Bo.frz 8
        rw [rounds_succ]
        go_wp2_with (go_at_call 72; refine (HAS1.out _ hB).mono ?_; rintro e w' ⟨rfl, rfl⟩; rw [HB1.out])
        (try simp only [Exit.inBlock, Exit.then]); refine bodyPost_ret (by simp [results, Try.results22, go_sem, cellSet_same, *]; try rfl) rfl ?_
        exact ⟨by rw [hE.out]; try rfl, by (repeat' (first | (with_reducible exact Below.refl _ _) | (with_reducible assumption) | (with_reducible refine Below.alloc ?_ ?_ _) | (with_reducible refine Below.drew ?_) | (with_reducible refine below_drewN ?_ _) | (with_reducible refine Below.setCell ?_ ?_ _) | (refine Below.step ?_ (by with_reducible assumption) ?_) | go_size))⟩
      have HB1 := Lib.hid hb1; clear hb1
      obtain ⟨x3, x4, x5, hr1⟩ := len3r (r := r1) (by have := HB1.out; unfold sm3 at this; simp at this; exact this.2)
      subst hr1
      obtain ⟨b1, o1, cc1, hv1, -, ce0, ce1, ce2⟩ := HS1.out.three
      injection hv1 with hva hvb hvc; subst hva hvc
      simp only [List.length_cons, List.length_nil, Nat.zero_add, Nat.reduceAdd] at q1 HAS1
      rw [rounds_succ]
      go_wp2_with (go_at_call 72; refine (HAS1.out _ hB).mono ?_; rintro e w' ⟨rfl, rfl⟩; rw [HB1.out])
      refine wp_loop_rounds 4 ?_
      have cf0 := keepC hB ce0; have cf1 := keepC hB ce1; have cf2 := keepC hB ce2
      rw [rounds_succ]
      go_wp2_with fail
      refine wp_region_tailS 7 (fun w' => w' = wa.drew) (by kernel_rfl) (by kernel_rfl) rfl ?_
      simp only [List.take_succ_cons, List.take_zero, List.drop_succ_cons, List.drop_zero]
      repeat (first
        | (refine stillS_read ?_ (by rfl) (fun w' hS => ?_) ?_; rotate_left; (focus (clear hS; go_simp; (try with_reducible rfl); done)); (try simp only [Act.put, List.setIfInBounds_toArray, List.set_cons_zero, List.set_cons_succ]))
        | (refine stillS_call (.int .i64 (x3 % p)) 73 ?_ (by rfl) (fun w' => ?_) (fun w' hS => ?_) ?_; rotate_left; (focus (go_simp; (try with_reducible rfl); done)); (focus (refine (HMM.out x3 _).mono ?_; rintro e w'' ⟨rfl, rfl⟩; exact ⟨rfl, hS⟩)); (try simp only [Act.put, List.setIfInBounds_toArray, List.set_cons_zero, List.set_cons_succ])))
      refine stillS_nil ?_
      rintro w' rfl
      have st := Bm.cell 3 rfl
      have sf := Bm.frz 3
      go_wp2_with fail
      replace Bm : Box 31 (wa.setCell ⟨w.heap.size + 1, 3, none⟩ (.int .i64 (x3 % p))).drew (w.heap.size + 1) [x0 % p, x1 % p, x2 % p, x3 % p, 0, 0, 0, 0, 0] := Box.drew (Bm.set 3 (x3 % p))
      replace Bo : Box 31 (wa.setCell ⟨w.heap.size + 1, 3, none⟩ (.int .i64 (x3 % p))).drew w.heap.size [0, 0, 0, 0, 0, 0, 0, 0, 0] := Box.drew (Bo.far (by omega))
      replace hB : Below w.heap.size w (wa.setCell ⟨w.heap.size + 1, 3, none⟩ (.int .i64 (x3 % p))).drew := Below.drew (Below.setCell (p := ⟨w.heap.size + 1, 3, none⟩) hB (Nat.le_succ _) _)
      clear st sf cf0 cf1 cf2
      generalize (wa.setCell ⟨w.heap.size + 1, 3, none⟩ (.int .i64 (x3 % p))).drew = wa at *
      have cf0 := keepC hB ce0; have cf1 := keepC hB ce1; have cf2 := keepC hB ce2
      rw [rounds_succ]
      go_wp2_with fail
      refine wp_region_tailS 7 (fun w' => w' = wa.drew) (by kernel_rfl) (by kernel_rfl) rfl ?_
      simp only [List.take_succ_cons, List.take_zero, List.drop_succ_cons, List.drop_zero]
      repeat (first
        | (refine stillS_read ?_ (by rfl) (fun w' hS => ?_) ?_; rotate_left; (focus (clear hS; go_simp; (try with_reducible rfl); done)); (try simp only [Act.put, List.setIfInBounds_toArray, List.set_cons_zero, List.set_cons_succ]))
        | (refine stillS_call (.int .i64 (x4 % p)) 73 ?_ (by rfl) (fun w' => ?_) (fun w' hS => ?_) ?_; rotate_left; (focus (go_simp; (try with_reducible rfl); done)); (focus (refine (HMM.out x4 _).mono ?_; rintro e w'' ⟨rfl, rfl⟩; exact ⟨rfl, hS⟩)); (try simp only [Act.put, List.setIfInBounds_toArray, List.set_cons_zero, List.set_cons_succ])))
      refine stillS_nil ?_
      rintro w' rfl
      have st := Bm.cell 4 rfl
      have sf := Bm.frz 4
      go_wp2_with fail
      replace Bm : Box 31 (wa.setCell ⟨w.heap.size + 1, 4, none⟩ (.int .i64 (x4 % p))).drew (w.heap.size + 1) [x0 % p, x1 % p, x2 % p, x3 % p, x4 % p, 0, 0, 0, 0] := Box.drew (Bm.set 4 (x4 % p))
      replace Bo : Box 31 (wa.setCell ⟨w.heap.size + 1, 4, none⟩ (.int .i64 (x4 % p))).drew w.heap.size [0, 0, 0, 0, 0, 0, 0, 0, 0] := Box.drew (Bo.far (by omega))
      replace hB : Below w.heap.size w (wa.setCell ⟨w.heap.size + 1, 4, none⟩ (.int .i64 (x4 % p))).drew := Below.drew (Below.setCell (p := ⟨w.heap.size + 1, 4, none⟩) hB (Nat.le_succ _) _)
      clear st sf cf0 cf1 cf2
      generalize (wa.setCell ⟨w.heap.size + 1, 4, none⟩ (.int .i64 (x4 % p))).drew = wa at *
      have cf0 := keepC hB ce0; have cf1 := keepC hB ce1; have cf2 := keepC hB ce2
      rw [rounds_succ]
      go_wp2_with fail
      refine wp_region_tailS 7 (fun w' => w' = wa.drew) (by kernel_rfl) (by kernel_rfl) rfl ?_
      simp only [List.take_succ_cons, List.take_zero, List.drop_succ_cons, List.drop_zero]
      repeat (first
        | (refine stillS_read ?_ (by rfl) (fun w' hS => ?_) ?_; rotate_left; (focus (clear hS; go_simp; (try with_reducible rfl); done)); (try simp only [Act.put, List.setIfInBounds_toArray, List.set_cons_zero, List.set_cons_succ]))
        | (refine stillS_call (.int .i64 (x5 % p)) 73 ?_ (by rfl) (fun w' => ?_) (fun w' hS => ?_) ?_; rotate_left; (focus (go_simp; (try with_reducible rfl); done)); (focus (refine (HMM.out x5 _).mono ?_; rintro e w'' ⟨rfl, rfl⟩; exact ⟨rfl, hS⟩)); (try simp only [Act.put, List.setIfInBounds_toArray, List.set_cons_zero, List.set_cons_succ])))
      refine stillS_nil ?_
      rintro w' rfl
      have st := Bm.cell 5 rfl
      have sf := Bm.frz 5
      go_wp2_with fail
      replace Bm : Box 31 (wa.setCell ⟨w.heap.size + 1, 5, none⟩ (.int .i64 (x5 % p))).drew (w.heap.size + 1) [x0 % p, x1 % p, x2 % p, x3 % p, x4 % p, x5 % p, 0, 0, 0] := Box.drew (Bm.set 5 (x5 % p))
      replace Bo : Box 31 (wa.setCell ⟨w.heap.size + 1, 5, none⟩ (.int .i64 (x5 % p))).drew w.heap.size [0, 0, 0, 0, 0, 0, 0, 0, 0] := Box.drew (Bo.far (by omega))
      replace hB : Below w.heap.size w (wa.setCell ⟨w.heap.size + 1, 5, none⟩ (.int .i64 (x5 % p))).drew := Below.drew (Below.setCell (p := ⟨w.heap.size + 1, 5, none⟩) hB (Nat.le_succ _) _)
      clear st sf cf0 cf1 cf2
      generalize (wa.setCell ⟨w.heap.size + 1, 5, none⟩ (.int .i64 (x5 % p))).drew = wa at *
      rw [rounds_succ]
      clear ce0 ce1 ce2 q1
      go_wp2_with fail
      have q2 := keepC hB hc2
      cases hb2 : sm3 r2
      · have hE : Hid (mfR p [[x0, x1, x2], [x3, x4, x5], r2] = (zM9, 2)) := by show _ = _; rw [HE0.out, if_neg]; rintro ⟨h0, h1, h2⟩; rw [hb2] at h2; cases h2
        have HB2 := Lib.hid hb2; clear hb2
        have z0 := Bo.cell 0 rfl; have zf0 := Bo.frz 0; have z1 := Bo.cell 1 rfl; have zf1 := Bo.frz 1; have z2 := Bo.cell 2 rfl; have zf2 := Bo.frz 2; have z3 := Bo.cell 3 rfl; have zf3 := Bo.frz 3; have z4 := Bo.cell 4 rfl; have zf4 := Bo.frz 4; have z5 := Bo.cell 5 rfl; have zf5 := Bo.frz 5; have z6 := Bo.cell 6 rfl; have zf6 := Bo.frz 6; have z7 := Bo.cell 7 rfl; have zf7 := Bo.frz 7; have z8 := Bo.cell 8 rfl; have zf8 := Bo.frz 8
        rw [rounds_succ]
        go_wp2_with (go_at_call 72; refine (HAS2.out _ hB).mono ?_; rintro e w' ⟨rfl, rfl⟩; rw [HB2.out])
        (try simp only [Exit.inBlock, Exit.then]); refine bodyPost_ret (by simp [results, Try.results22, go_sem, cellSet_same, *]; try rfl) rfl ?_
        exact ⟨by rw [hE.out]; try rfl, by (repeat' (first | (with_reducible exact Below.refl _ _) | (with_reducible assumption) | (with_reducible refine Below.alloc ?_ ?_ _) | (with_reducible refine Below.drew ?_) | (with_reducible refine below_drewN ?_ _) | (with_reducible refine Below.setCell ?_ ?_ _) | (refine Below.step ?_ (by with_reducible assumption) ?_) | go_size))⟩
      have HB2 := Lib.hid hb2; clear hb2
      obtain ⟨x6, x7, x8, hr2⟩ := len3r (r := r2) (by have := HB2.out; unfold sm3 at this; simp at this; exact this.2)
      subst hr2
      obtain ⟨b2, o2, cc2, hv2, -, ce0, ce1, ce2⟩ := HS2.out.three
      injection hv2 with hva hvb hvc; subst hva hvc
      simp only [List.length_cons, List.length_nil, Nat.zero_add, Nat.reduceAdd] at q2 HAS2
      rw [rounds_succ]
      go_wp2_with (go_at_call 72; refine (HAS2.out _ hB).mono ?_; rintro e w' ⟨rfl, rfl⟩; rw [HB2.out])
      refine wp_loop_rounds 4 ?_
      have cf0 := keepC hB ce0; have cf1 := keepC hB ce1; have cf2 := keepC hB ce2
      rw [rounds_succ]
      go_wp2_with fail
      refine wp_region_tailS 7 (fun w' => w' = wa.drew) (by kernel_rfl) (by kernel_rfl) rfl ?_
      simp only [List.take_succ_cons, List.take_zero, List.drop_succ_cons, List.drop_zero]
      repeat (first
        | (refine stillS_read ?_ (by rfl) (fun w' hS => ?_) ?_; rotate_left; (focus (clear hS; go_simp; (try with_reducible rfl); done)); (try simp only [Act.put, List.setIfInBounds_toArray, List.set_cons_zero, List.set_cons_succ]))
        | (refine stillS_call (.int .i64 (x6 % p)) 73 ?_ (by rfl) (fun w' => ?_) (fun w' hS => ?_) ?_; rotate_left; (focus (go_simp; (try with_reducible rfl); done)); (focus (refine (HMM.out x6 _).mono ?_; rintro e w'' ⟨rfl, rfl⟩; exact ⟨rfl, hS⟩)); (try simp only [Act.put, List.setIfInBounds_toArray, List.set_cons_zero, List.set_cons_succ])))
      refine stillS_nil ?_
      rintro w' rfl
      have st := Bm.cell 6 rfl
      have sf := Bm.frz 6
      go_wp2_with fail
      replace Bm : Box 31 (wa.setCell ⟨w.heap.size + 1, 6, none⟩ (.int .i64 (x6 % p))).drew (w.heap.size + 1) [x0 % p, x1 % p, x2 % p, x3 % p, x4 % p, x5 % p, x6 % p, 0, 0] := Box.drew (Bm.set 6 (x6 % p))
      replace Bo : Box 31 (wa.setCell ⟨w.heap.size + 1, 6, none⟩ (.int .i64 (x6 % p))).drew w.heap.size [0, 0, 0, 0, 0, 0, 0, 0, 0] := Box.drew (Bo.far (by omega))
      replace hB : Below w.heap.size w (wa.setCell ⟨w.heap.size + 1, 6, none⟩ (.int .i64 (x6 % p))).drew := Below.drew (Below.setCell (p := ⟨w.heap.size + 1, 6, none⟩) hB (Nat.le_succ _) _)
      clear st sf cf0 cf1 cf2
      generalize (wa.setCell ⟨w.heap.size + 1, 6, none⟩ (.int .i64 (x6 % p))).drew = wa at *
      have cf0 := keepC hB ce0; have cf1 := keepC hB ce1; have cf2 := keepC hB ce2
      rw [rounds_succ]
      go_wp2_with fail
      refine wp_region_tailS 7 (fun w' => w' = wa.drew) (by kernel_rfl) (by kernel_rfl) rfl ?_
      simp only [List.take_succ_cons, List.take_zero, List.drop_succ_cons, List.drop_zero]
      repeat (first
        | (refine stillS_read ?_ (by rfl) (fun w' hS => ?_) ?_; rotate_left; (focus (clear hS; go_simp; (try with_reducible rfl); done)); (try simp only [Act.put, List.setIfInBounds_toArray, List.set_cons_zero, List.set_cons_succ]))
        | (refine stillS_call (.int .i64 (x7 % p)) 73 ?_ (by rfl) (fun w' => ?_) (fun w' hS => ?_) ?_; rotate_left; (focus (go_simp; (try with_reducible rfl); done)); (focus (refine (HMM.out x7 _).mono ?_; rintro e w'' ⟨rfl, rfl⟩; exact ⟨rfl, hS⟩)); (try simp only [Act.put, List.setIfInBounds_toArray, List.set_cons_zero, List.set_cons_succ])))
      refine stillS_nil ?_
      rintro w' rfl
      have st := Bm.cell 7 rfl
      have sf := Bm.frz 7
      go_wp2_with fail
      replace Bm : Box 31 (wa.setCell ⟨w.heap.size + 1, 7, none⟩ (.int .i64 (x7 % p))).drew (w.heap.size + 1) [x0 % p, x1 % p, x2 % p, x3 % p, x4 % p, x5 % p, x6 % p, x7 % p, 0] := Box.drew (Bm.set 7 (x7 % p))
      replace Bo : Box 31 (wa.setCell ⟨w.heap.size + 1, 7, none⟩ (.int .i64 (x7 % p))).drew w.heap.size [0, 0, 0, 0, 0, 0, 0, 0, 0] := Box.drew (Bo.far (by omega))
      replace hB : Below w.heap.size w (wa.setCell ⟨w.heap.size + 1, 7, none⟩ (.int .i64 (x7 % p))).drew := Below.drew (Below.setCell (p := ⟨w.heap.size + 1, 7, none⟩) hB (Nat.le_succ _) _)
      clear st sf cf0 cf1 cf2
      generalize (wa.setCell ⟨w.heap.size + 1, 7, none⟩ (.int .i64 (x7 % p))).drew = wa at *
      have cf0 := keepC hB ce0; have cf1 := keepC hB ce1; have cf2 := keepC hB ce2
      rw [rounds_succ]
      go_wp2_with fail
      refine wp_region_tailS 7 (fun w' => w' = wa.drew) (by kernel_rfl) (by kernel_rfl) rfl ?_
      simp only [List.take_succ_cons, List.take_zero, List.drop_succ_cons, List.drop_zero]
      repeat (first
        | (refine stillS_read ?_ (by rfl) (fun w' hS => ?_) ?_; rotate_left; (focus (clear hS; go_simp; (try with_reducible rfl); done)); (try simp only [Act.put, List.setIfInBounds_toArray, List.set_cons_zero, List.set_cons_succ]))
        | (refine stillS_call (.int .i64 (x8 % p)) 73 ?_ (by rfl) (fun w' => ?_) (fun w' hS => ?_) ?_; rotate_left; (focus (go_simp; (try with_reducible rfl); done)); (focus (refine (HMM.out x8 _).mono ?_; rintro e w'' ⟨rfl, rfl⟩; exact ⟨rfl, hS⟩)); (try simp only [Act.put, List.setIfInBounds_toArray, List.set_cons_zero, List.set_cons_succ])))
      refine stillS_nil ?_
      rintro w' rfl
      have st := Bm.cell 8 rfl
      have sf := Bm.frz 8
      go_wp2_with fail
      replace Bm : Box 31 (wa.setCell ⟨w.heap.size + 1, 8, none⟩ (.int .i64 (x8 % p))).drew (w.heap.size + 1) [x0 % p, x1 % p, x2 % p, x3 % p, x4 % p, x5 % p, x6 % p, x7 % p, x8 % p] := Box.drew (Bm.set 8 (x8 % p))
      replace Bo : Box 31 (wa.setCell ⟨w.heap.size + 1, 8, none⟩ (.int .i64 (x8 % p))).drew w.heap.size [0, 0, 0, 0, 0, 0, 0, 0, 0] := Box.drew (Bo.far (by omega))
      replace hB : Below w.heap.size w (wa.setCell ⟨w.heap.size + 1, 8, none⟩ (.int .i64 (x8 % p))).drew := Below.drew (Below.setCell (p := ⟨w.heap.size + 1, 8, none⟩) hB (Nat.le_succ _) _)
      clear st sf cf0 cf1 cf2
      generalize (wa.setCell ⟨w.heap.size + 1, 8, none⟩ (.int .i64 (x8 % p))).drew = wa at *
      rw [rounds_succ]
      clear ce0 ce1 ce2 q2
      go_wp2_with fail
      have hmp := fun w' => mapOf_any p (x0 % p) (x1 % p) (x2 % p) (x3 % p) (x4 % p) (x5 % p) (x6 % p) (x7 % p) (x8 % p) w' HPB.out (emod_sm k1 k2 x0) (emod_sm k1 k2 x1) (emod_sm k1 k2 x2) (emod_sm k1 k2 x3) (emod_sm k1 k2 x4) (emod_sm k1 k2 x5) (emod_sm k1 k2 x6) (emod_sm k1 k2 x7) (emod_sm k1 k2 x8)
      have hE : mfR p [[x0, x1, x2], [x3, x4, x5], [x6, x7, x8]] = mfG p ⟨x0 % p, x1 % p, x2 % p, x3 % p, x4 % p, x5 % p, x6 % p, x7 % p, x8 % p⟩ := by rw [HE0.out, if_pos ⟨HB0.out, HB1.out, HB2.out⟩]; rfl
      have h2 := mfG_two p ⟨x0 % p, x1 % p, x2 % p, x3 % p, x4 % p, x5 % p, x6 % p, x7 % p, x8 % p⟩
      generalize mfG p ⟨x0 % p, x1 % p, x2 % p, x3 % p, x4 % p, x5 % p, x6 % p, x7 % p, x8 % p⟩ = G at hmp hE h2
      obtain ⟨⟨g0, g1, g2, g3, g4, g5, g6, g7, g8⟩, gc⟩ := G
      rcases h2 with h2 | h2
      · have h2 : gc = 0 := h2
        subst h2
        have HMP : Hid (∀ w' : World, Calls Try.prog 74 #[.int .i64 p, .agg #[.int .i64 (x0 % p), .int .i64 (x1 % p), .int .i64 (x2 % p), .int .i64 (x3 % p), .int .i64 (x4 % p), .int .i64 (x5 % p), .int .i64 (x6 % p), .int .i64 (x7 % p), .int .i64 (x8 % p)]] w' fun e w'' => e = .returned (.tuple #[.agg #[.int .i64 g0, .int .i64 g1, .int .i64 g2, .int .i64 g3, .int .i64 g4, .int .i64 g5, .int .i64 g6, .int .i64 g7, .int .i64 g8], .bool true]) ∧ Below w'.heap.size w' w'') := hmp
        have HE := Lib.hid hE; clear hE hmp
        have bm0 := Bm.cell 0 rfl; have bm1 := Bm.cell 1 rfl; have bm2 := Bm.cell 2 rfl; have bm3 := Bm.cell 3 rfl; have bm4 := Bm.cell 4 rfl; have bm5 := Bm.cell 5 rfl; have bm6 := Bm.cell 6 rfl; have bm7 := Bm.cell 7 rfl; have bm8 := Bm.cell 8 rfl
        have hwz := hB.size
        rw [rounds_succ]
        repeat ((fail_if_success guard_target = (_ : Exit → Act → World → Prop) Exit.ret _ _); (first | (go_big_may; go_at_call 74; refine (HMP.out _).mono ?_; rintro e w3 ⟨rfl, hb3⟩; have hz3 := hb3.size; have Bo3 := Box.below hb3 Bo; have hlt3 := Bo3.lt; have hne3 : ¬ w.heap.size = w3.heap.size := (by omega); have z0 := Bo3.cell 0 rfl; have zf0 := Bo3.frz 0; have z1 := Bo3.cell 1 rfl; have zf1 := Bo3.frz 1; have z2 := Bo3.cell 2 rfl; have zf2 := Bo3.frz 2; have z3 := Bo3.cell 3 rfl; have zf3 := Bo3.frz 3; have z4 := Bo3.cell 4 rfl; have zf4 := Bo3.frz 4; have z5 := Bo3.cell 5 rfl; have zf5 := Bo3.frz 5; have z6 := Bo3.cell 6 rfl; have zf6 := Bo3.frz 6; have z7 := Bo3.cell 7 rfl; have zf7 := Bo3.frz 7; have z8 := Bo3.cell 8 rfl; have zf8 := Bo3.frz 8; dsimp only) | go_values | go_skip | go_guarded | go_step | go_upon | go_back))
        (try simp only [Exit.inBlock, Exit.then]); refine bodyPost_ret (by simp [results, Try.results22, go_sem, cellSet_same, *]; try rfl) rfl ?_
        exact ⟨by rw [HE.out], by (repeat' (first | (with_reducible exact Below.refl _ _) | (with_reducible assumption) | (with_reducible refine Below.alloc ?_ ?_ _) | (with_reducible refine Below.drew ?_) | (with_reducible refine below_drewN ?_ _) | (with_reducible refine Below.setCell ?_ ?_ _) | (refine Below.step ?_ (by with_reducible assumption) ?_) | go_size))⟩
      · obtain ⟨h2a, h2b⟩ := Prod.mk.inj h2
        subst h2b
        have HMP : Hid (∀ w' : World, Calls Try.prog 74 #[.int .i64 p, .agg #[.int .i64 (x0 % p), .int .i64 (x1 % p), .int .i64 (x2 % p), .int .i64 (x3 % p), .int .i64 (x4 % p), .int .i64 (x5 % p), .int .i64 (x6 % p), .int .i64 (x7 % p), .int .i64 (x8 % p)]] w' fun e w'' => e = .returned (.tuple #[.agg #[.int .i64 g0, .int .i64 g1, .int .i64 g2, .int .i64 g3, .int .i64 g4, .int .i64 g5, .int .i64 g6, .int .i64 g7, .int .i64 g8], .bool false]) ∧ Below w'.heap.size w' w'') := hmp
        have HE : Hid (mfR p [[x0, x1, x2], [x3, x4, x5], [x6, x7, x8]] = (zM9, 5)) := by rw [hE]; exact h2
        clear hE hmp h2 h2a
        have bm0 := Bm.cell 0 rfl; have bm1 := Bm.cell 1 rfl; have bm2 := Bm.cell 2 rfl; have bm3 := Bm.cell 3 rfl; have bm4 := Bm.cell 4 rfl; have bm5 := Bm.cell 5 rfl; have bm6 := Bm.cell 6 rfl; have bm7 := Bm.cell 7 rfl; have bm8 := Bm.cell 8 rfl
        have hwz := hB.size
        rw [rounds_succ]
        repeat ((fail_if_success guard_target = (_ : Exit → Act → World → Prop) Exit.ret _ _); (first | (go_big_may; go_at_call 74; refine (HMP.out _).mono ?_; rintro e w3 ⟨rfl, hb3⟩; have hz3 := hb3.size; have Bo3 := Box.below hb3 Bo; have hlt3 := Bo3.lt; have hne3 : ¬ w.heap.size = w3.heap.size := (by omega); have z0 := Bo3.cell 0 rfl; have zf0 := Bo3.frz 0; have z1 := Bo3.cell 1 rfl; have zf1 := Bo3.frz 1; have z2 := Bo3.cell 2 rfl; have zf2 := Bo3.frz 2; have z3 := Bo3.cell 3 rfl; have zf3 := Bo3.frz 3; have z4 := Bo3.cell 4 rfl; have zf4 := Bo3.frz 4; have z5 := Bo3.cell 5 rfl; have zf5 := Bo3.frz 5; have z6 := Bo3.cell 6 rfl; have zf6 := Bo3.frz 6; have z7 := Bo3.cell 7 rfl; have zf7 := Bo3.frz 7; have z8 := Bo3.cell 8 rfl; have zf8 := Bo3.frz 8; dsimp only) | go_values | go_skip | go_guarded | go_step | go_upon | go_back))
        (try simp only [Exit.inBlock, Exit.then]); refine bodyPost_ret (by simp [results, Try.results22, go_sem, cellSet_same, *]; try rfl) rfl ?_
        exact ⟨by rw [HE.out]; try rfl, by (repeat' (first | (with_reducible exact Below.refl _ _) | (with_reducible assumption) | (with_reducible refine Below.alloc ?_ ?_ _) | (with_reducible refine Below.drew ?_) | (with_reducible refine below_drewN ?_ _) | (with_reducible refine Below.setCell ?_ ?_ _) | (refine Below.step ?_ (by with_reducible assumption) ?_) | go_size))⟩
set_option maxHeartbeats 8000000 in
theorem MapOf_spec (p : Int) (v : Value) (rows : List (List Int)) (w : World) (h : SlSS w v rows) :
    Calls Try.prog 21 #[.int .i64 p, v] w fun e w' => e = .returned (.tuple #[.agg #[.int .i64 ((mfR p rows).1).m0, .int .i64 ((mfR p rows).1).m1, .int .i64 ((mfR p rows).1).m2, .int .i64 ((mfR p rows).1).m3, .int .i64 ((mfR p rows).1).m4, .int .i64 ((mfR p rows).1).m5, .int .i64 ((mfR p rows).1).m6, .int .i64 ((mfR p rows).1).m7, .int .i64 ((mfR p rows).1).m8], .int .i64 (mfR p rows).2]) ∧ Below w.heap.size w w' := by
  obtain ⟨a, cap, rfl, hcap, hrd⟩ := h.at_
  have HR := Lib.hid hrd; clear hrd h
  cases hpb : isP p
  · have HPB := Lib.hid hpb
    have hE : Hid (mfR p rows = (zM9, 2)) := by show _ = _; unfold mfR; rw [hpb]; rfl
    clear hpb
    generalize rows.length = n at *
    go_enter Try.func21, Try.ntmps21
    go_wp2_with (go_at_call 56; refine (l01Prime_any p _).mono ?_; rintro e w' ⟨rfl, rfl⟩; rw [HPB.out])
    (try simp only [Exit.inBlock, Exit.then]); refine bodyPost_ret (by simp [results, Try.results21, go_sem, *]; try rfl) rfl ?_
    exact ⟨by rw [hE.out]; try rfl, by (repeat' (first | (with_reducible exact Below.refl _ _) | (with_reducible assumption) | (with_reducible refine Below.alloc ?_ ?_ _) | (with_reducible refine Below.drew ?_) | (with_reducible refine below_drewN ?_ _) | (with_reducible refine Below.setCell ?_ ?_ _) | (refine Below.step ?_ (by with_reducible assumption) ?_) | go_size))⟩
  · have HPB := Lib.hid hpb
    have k1 := isP_lo hpb; have k2 := isP_hi hpb
    by_cases h3 : rows.length = 3
    rotate_left
    · have hE : Hid (mfR p rows = (zM9, 2)) := by
        show _ = _; unfold mfR; rw [hpb, if_pos rfl]
        match rows, h3 with
        | [], _ => rfl
        | [_], _ => rfl
        | [_, _], _ => rfl
        | [_, _, _], h => exact absurd rfl h
        | _ :: _ :: _ :: _ :: _, _ => rfl
      clear hpb
      generalize rows.length = n at *
      have h3' : ¬ (n : Int) = 3 := by omega
      go_enter Try.func21, Try.ntmps21
      go_wp2_with (go_at_call 56; refine (l01Prime_any p _).mono ?_; rintro e w' ⟨rfl, rfl⟩; rw [HPB.out])
      (try simp only [Exit.inBlock, Exit.then]); refine bodyPost_ret (by simp [results, Try.results21, go_sem, *]; try rfl) rfl ?_
      exact ⟨by rw [hE.out]; try rfl, by (repeat' (first | (with_reducible exact Below.refl _ _) | (with_reducible assumption) | (with_reducible refine Below.alloc ?_ ?_ _) | (with_reducible refine Below.drew ?_) | (with_reducible refine below_drewN ?_ _) | (with_reducible refine Below.setCell ?_ ?_ _) | (refine Below.step ?_ (by with_reducible assumption) ?_) | go_size))⟩
    · obtain ⟨r0, r1, r2, rfl⟩ : ∃ r0 r1 r2, rows = [r0, r1, r2] := by
        match rows, h3 with
        | [r0, r1, r2], _ => exact ⟨r0, r1, r2, rfl⟩
      have hE0 : mfR p [r0, r1, r2] = if sm3 r0 = true ∧ sm3 r1 = true ∧ sm3 r2 = true then mfG p (mfM p r0 r1 r2) else (zM9, 2) := by unfold mfR; rw [hpb, if_pos rfl]; rfl
      obtain ⟨b, off, u0, rfl, hbl, hc0, hs0⟩ := HR.out 0 r0 rfl
      obtain ⟨_, _, u1, hab, -, hc1, hs1⟩ := HR.out 1 r1 rfl
      injection hab with hab; injection hab with hab1 hab2; subst hab1 hab2
      obtain ⟨_, _, u2, hab, -, hc2, hs2⟩ := HR.out 2 r2 rfl
      injection hab with hab; injection hab with hab1 hab2; subst hab1 hab2
      rw [Nat.add_zero] at hc0
      clear HR h3
      simp only [List.length_cons, List.length_nil, Nat.zero_add, Nat.reduceAdd] at hcap ⊢
      have HE0 := Lib.hid hE0; clear hE0
      have HS0 := Lib.hid hs0
      have HS1 := Lib.hid hs1
      have HS2 := Lib.hid hs2
      obtain ⟨a0, ca0, hsh0⟩ := hs0.shape
      obtain ⟨a1, ca1, hsh1⟩ := hs1.shape
      obtain ⟨a2, ca2, hsh2⟩ := hs2.shape
      subst hsh0 hsh1 hsh2
      clear hs0 hs1 hs2
      have hl0 : IntKind.i64.wrap 0 = 0 := by decide
      have hl1 : IntKind.i64.wrap 1 = 1 := by decide
      have hl2 : IntKind.i64.wrap 2 = 2 := by decide
      have hl3 : IntKind.i64.wrap 3 = 3 := by decide
      have hl4 : IntKind.i64.wrap 4 = 4 := by decide
      have HMM : Hid (∀ x w', Calls Try.prog 69 #[.int .i64 p, .int .i64 x] w' fun e w'' => e = .returned (.int .i64 (x % p)) ∧ w' = w'') := fun x w' => l01Mod_any p x w' k1 k2
      clear hpb
      go_enter Try.func21, Try.ntmps21
      go_wp2_with (go_at_call 56; refine (l01Prime_any p _).mono ?_; rintro e w' ⟨rfl, rfl⟩; rw [HPB.out])
      refine wp_name (fun w' => Box 31 w' w.heap.size [0, 0, 0, 0, 0, 0, 0, 0, 0] ∧ Box 31 w' (w.heap.size + 1) [0, 0, 0, 0, 0, 0, 0, 0, 0] ∧ Below w.heap.size w w') ⟨Box.alloc (Box.new [0, 0, 0, 0, 0, 0, 0, 0, 0] rfl) _, Box.new [0, 0, 0, 0, 0, 0, 0, 0, 0] (by simp), by (repeat' (first | (with_reducible exact Below.refl _ _) | (with_reducible assumption) | (with_reducible refine Below.alloc ?_ ?_ _) | (with_reducible refine Below.drew ?_) | (with_reducible refine below_drewN ?_ _) | (with_reducible refine Below.setCell ?_ ?_ _) | (refine Below.step ?_ (by with_reducible assumption) ?_) | go_size))⟩ ?_
      rintro wa ⟨Bo, Bm, hB⟩
      have hwsz := Bm.lt
      refine wp_loop_rounds 4 ?_
      have q0 := keepC hB hc0
      by_cases hn0 : r0.length = 3
      rotate_left
      · have hE : Hid (mfR p [r0, r1, r2] = (zM9, 2)) := by show _ = _; rw [HE0.out, if_neg]; rintro ⟨h0, h1, h2⟩; rw [sm3_no hn0] at h0; cases h0
        have z0 := Bo.cell 0 rfl; have zf0 := Bo.frz 0; have z1 := Bo.cell 1 rfl; have zf1 := Bo.frz 1; have z2 := Bo.cell 2 rfl; have zf2 := Bo.frz 2; have z3 := Bo.cell 3 rfl; have zf3 := Bo.frz 3; have z4 := Bo.cell 4 rfl; have zf4 := Bo.frz 4; have z5 := Bo.cell 5 rfl; have zf5 := Bo.frz 5; have z6 := Bo.cell 6 rfl; have zf6 := Bo.frz 6; have z7 := Bo.cell 7 rfl; have zf7 := Bo.frz 7; have z8 := Bo.cell 8 rfl; have zf8 := Bo.frz 8
        have hnn : ¬ ((r0.length : Nat) : Int) = 3 := by omega
        generalize r0.length = ln at *
        rw [rounds_succ]
        go_wp2_with fail
        (try simp only [Exit.inBlock, Exit.then]); refine bodyPost_ret (by simp [results, Try.results21, go_sem, cellSet_same, *]; try rfl) rfl ?_
        exact ⟨by rw [hE.out]; try rfl, by (repeat' (first | (with_reducible exact Below.refl _ _) | (with_reducible assumption) | (with_reducible refine Below.alloc ?_ ?_ _) | (with_reducible refine Below.drew ?_) | (with_reducible refine below_drewN ?_ _) | (with_reducible refine Below.setCell ?_ ?_ _) | (refine Below.step ?_ (by with_reducible assumption) ?_) | go_size))⟩
      obtain ⟨x0, x1, x2, hr0⟩ := len3r (r := r0) hn0
      subst hr0
      clear hn0
      obtain ⟨b0, o0, cc0, hv0, -, ce0, ce1, ce2⟩ := HS0.out.three
      injection hv0 with hva hvb hvc; subst hva hvc
      simp only [List.length_cons, List.length_nil, Nat.zero_add, Nat.reduceAdd] at q0 hc0
      rw [rounds_succ]
      go_wp2_with fail
      refine wp_loop_rounds 4 ?_
      have q0 := keepC hB hc0
      have cf0 := keepC hB ce0; have cf1 := keepC hB ce1; have cf2 := keepC hB ce2
      cases hi0 : inB x0 (-1000) 1000
      · have hE : Hid (mfR p [[x0, x1, x2], r1, r2] = (zM9, 2)) := by show _ = _; rw [HE0.out, if_neg]; rintro ⟨h0, h1, h2⟩; rw [sm3_bad (.inl hi0)] at h0; cases h0
        have HI0 := Lib.hid hi0; clear hi0
        have z0 := Bo.cell 0 rfl; have zf0 := Bo.frz 0; have z1 := Bo.cell 1 rfl; have zf1 := Bo.frz 1; have z2 := Bo.cell 2 rfl; have zf2 := Bo.frz 2; have z3 := Bo.cell 3 rfl; have zf3 := Bo.frz 3; have z4 := Bo.cell 4 rfl; have zf4 := Bo.frz 4; have z5 := Bo.cell 5 rfl; have zf5 := Bo.frz 5; have z6 := Bo.cell 6 rfl; have zf6 := Bo.frz 6; have z7 := Bo.cell 7 rfl; have zf7 := Bo.frz 7; have z8 := Bo.cell 8 rfl; have zf8 := Bo.frz 8
        rw [rounds_succ]
        go_wp2_with (go_at_call 57; refine (l01In_any _ _ _ _).mono ?_; rintro e w' ⟨rfl, rfl⟩; rw [HI0.out])
        (try simp only [Exit.inBlock, Exit.then]); refine bodyPost_ret (by simp [results, Try.results21, go_sem, cellSet_same, *]; try rfl) rfl ?_
        exact ⟨by rw [hE.out]; try rfl, by (repeat' (first | (with_reducible exact Below.refl _ _) | (with_reducible assumption) | (with_reducible refine Below.alloc ?_ ?_ _) | (with_reducible refine Below.drew ?_) | (with_reducible refine below_drewN ?_ _) | (with_reducible refine Below.setCell ?_ ?_ _) | (refine Below.step ?_ (by with_reducible assumption) ?_) | go_size))⟩
      have HI0 := Lib.hid hi0; clear hi0
      rw [rounds_succ]
      go_wp2_with (go_at_call 57; refine (l01In_any _ _ _ _).mono ?_; rintro e w' ⟨rfl, rfl⟩; rw [HI0.out])
      refine wp_region_tailS 13 (fun w' => w' = wa.drew) (by kernel_rfl) (by kernel_rfl) rfl ?_
      simp only [List.take_succ_cons, List.take_zero, List.drop_succ_cons, List.drop_zero]
      repeat (first
        | (refine stillS_read ?_ (by rfl) (fun w' hS => ?_) ?_; rotate_left; (focus (subst hS; go_simp; (try with_reducible rfl); done)); (try simp only [Act.put, List.setIfInBounds_toArray, List.set_cons_zero, List.set_cons_succ]))
        | (refine stillS_call (.int .i64 (x0 % p)) 69 ?_ (by rfl) (fun w' => ?_) (fun w' hS => ?_) ?_; rotate_left; (focus (go_simp; (try with_reducible rfl); done)); (focus (refine (HMM.out x0 _).mono ?_; rintro e w'' ⟨rfl, rfl⟩; exact ⟨rfl, hS⟩)); (try simp only [Act.put, List.setIfInBounds_toArray, List.set_cons_zero, List.set_cons_succ])))
      refine stillS_nil ?_
      rintro w' rfl
      have st := Bm.cell 0 rfl
      have sf := Bm.frz 0
      go_wp2_with fail
      replace Bm : Box 31 (wa.setCell ⟨w.heap.size + 1, 0, none⟩ (.int .i64 (x0 % p))).drew (w.heap.size + 1) [x0 % p, 0, 0, 0, 0, 0, 0, 0, 0] := Box.drew (Bm.set 0 (x0 % p))
      replace Bo : Box 31 (wa.setCell ⟨w.heap.size + 1, 0, none⟩ (.int .i64 (x0 % p))).drew w.heap.size [0, 0, 0, 0, 0, 0, 0, 0, 0] := Box.drew (Bo.far (by omega))
      replace hB : Below w.heap.size w (wa.setCell ⟨w.heap.size + 1, 0, none⟩ (.int .i64 (x0 % p))).drew := Below.drew (Below.setCell (p := ⟨w.heap.size + 1, 0, none⟩) hB (Nat.le_succ _) _)
      clear st sf cf0 cf1 cf2 q0
      generalize (wa.setCell ⟨w.heap.size + 1, 0, none⟩ (.int .i64 (x0 % p))).drew = wa at *
      have q0 := keepC hB hc0
      have cf0 := keepC hB ce0; have cf1 := keepC hB ce1; have cf2 := keepC hB ce2
      cases hi1 : inB x1 (-1000) 1000
      · have hE : Hid (mfR p [[x0, x1, x2], r1, r2] = (zM9, 2)) := by show _ = _; rw [HE0.out, if_neg]; rintro ⟨h0, h1, h2⟩; rw [sm3_bad (.inr (.inl hi1))] at h0; cases h0
        have HI1 := Lib.hid hi1; clear hi1
        have z0 := Bo.cell 0 rfl; have zf0 := Bo.frz 0; have z1 := Bo.cell 1 rfl; have zf1 := Bo.frz 1; have z2 := Bo.cell 2 rfl; have zf2 := Bo.frz 2; have z3 := Bo.cell 3 rfl; have zf3 := Bo.frz 3; have z4 := Bo.cell 4 rfl; have zf4 := Bo.frz 4; have z5 := Bo.cell 5 rfl; have zf5 := Bo.frz 5; have z6 := Bo.cell 6 rfl; have zf6 := Bo.frz 6; have z7 := Bo.cell 7 rfl; have zf7 := Bo.frz 7; have z8 := Bo.cell 8 rfl; have zf8 := Bo.frz 8
        rw [rounds_succ]
        go_wp2_with (go_at_call 57; refine (l01In_any _ _ _ _).mono ?_; rintro e w' ⟨rfl, rfl⟩; rw [HI1.out])
        (try simp only [Exit.inBlock, Exit.then]); refine bodyPost_ret (by simp [results, Try.results21, go_sem, cellSet_same, *]; try rfl) rfl ?_
        exact ⟨by rw [hE.out]; try rfl, by (repeat' (first | (with_reducible exact Below.refl _ _) | (with_reducible assumption) | (with_reducible refine Below.alloc ?_ ?_ _) | (with_reducible refine Below.drew ?_) | (with_reducible refine below_drewN ?_ _) | (with_reducible refine Below.setCell ?_ ?_ _) | (refine Below.step ?_ (by with_reducible assumption) ?_) | go_size))⟩
      have HI1 := Lib.hid hi1; clear hi1
      rw [rounds_succ]
      go_wp2_with (go_at_call 57; refine (l01In_any _ _ _ _).mono ?_; rintro e w' ⟨rfl, rfl⟩; rw [HI1.out])
      refine wp_region_tailS 13 (fun w' => w' = wa.drew) (by kernel_rfl) (by kernel_rfl) rfl ?_
      simp only [List.take_succ_cons, List.take_zero, List.drop_succ_cons, List.drop_zero]
      repeat (first
        | (refine stillS_read ?_ (by rfl) (fun w' hS => ?_) ?_; rotate_left; (focus (subst hS; go_simp; (try with_reducible rfl); done)); (try simp only [Act.put, List.setIfInBounds_toArray, List.set_cons_zero, List.set_cons_succ]))
        | (refine stillS_call (.int .i64 (x1 % p)) 69 ?_ (by rfl) (fun w' => ?_) (fun w' hS => ?_) ?_; rotate_left; (focus (go_simp; (try with_reducible rfl); done)); (focus (refine (HMM.out x1 _).mono ?_; rintro e w'' ⟨rfl, rfl⟩; exact ⟨rfl, hS⟩)); (try simp only [Act.put, List.setIfInBounds_toArray, List.set_cons_zero, List.set_cons_succ])))
      refine stillS_nil ?_
      rintro w' rfl
      have st := Bm.cell 1 rfl
      have sf := Bm.frz 1
      go_wp2_with fail
      replace Bm : Box 31 (wa.setCell ⟨w.heap.size + 1, 1, none⟩ (.int .i64 (x1 % p))).drew (w.heap.size + 1) [x0 % p, x1 % p, 0, 0, 0, 0, 0, 0, 0] := Box.drew (Bm.set 1 (x1 % p))
      replace Bo : Box 31 (wa.setCell ⟨w.heap.size + 1, 1, none⟩ (.int .i64 (x1 % p))).drew w.heap.size [0, 0, 0, 0, 0, 0, 0, 0, 0] := Box.drew (Bo.far (by omega))
      replace hB : Below w.heap.size w (wa.setCell ⟨w.heap.size + 1, 1, none⟩ (.int .i64 (x1 % p))).drew := Below.drew (Below.setCell (p := ⟨w.heap.size + 1, 1, none⟩) hB (Nat.le_succ _) _)
      clear st sf cf0 cf1 cf2 q0
      generalize (wa.setCell ⟨w.heap.size + 1, 1, none⟩ (.int .i64 (x1 % p))).drew = wa at *
      have q0 := keepC hB hc0
      have cf0 := keepC hB ce0; have cf1 := keepC hB ce1; have cf2 := keepC hB ce2
      cases hi2 : inB x2 (-1000) 1000
      · have hE : Hid (mfR p [[x0, x1, x2], r1, r2] = (zM9, 2)) := by show _ = _; rw [HE0.out, if_neg]; rintro ⟨h0, h1, h2⟩; rw [sm3_bad (.inr (.inr hi2))] at h0; cases h0
        have HI2 := Lib.hid hi2; clear hi2
        have z0 := Bo.cell 0 rfl; have zf0 := Bo.frz 0; have z1 := Bo.cell 1 rfl; have zf1 := Bo.frz 1; have z2 := Bo.cell 2 rfl; have zf2 := Bo.frz 2; have z3 := Bo.cell 3 rfl; have zf3 := Bo.frz 3; have z4 := Bo.cell 4 rfl; have zf4 := Bo.frz 4; have z5 := Bo.cell 5 rfl; have zf5 := Bo.frz 5; have z6 := Bo.cell 6 rfl; have zf6 := Bo.frz 6; have z7 := Bo.cell 7 rfl; have zf7 := Bo.frz 7; have z8 := Bo.cell 8 rfl; have zf8 := Bo.frz 8
        rw [rounds_succ]
        go_wp2_with (go_at_call 57; refine (l01In_any _ _ _ _).mono ?_; rintro e w' ⟨rfl, rfl⟩; rw [HI2.out])
        (try simp only [Exit.inBlock, Exit.then]); refine bodyPost_ret (by simp [results, Try.results21, go_sem, cellSet_same, *]; try rfl) rfl ?_
        exact ⟨by rw [hE.out]; try rfl, by (repeat' (first | (with_reducible exact Below.refl _ _) | (with_reducible assumption) | (with_reducible refine Below.alloc ?_ ?_ _) | (with_reducible refine Below.drew ?_) | (with_reducible refine below_drewN ?_ _) | (with_reducible refine Below.setCell ?_ ?_ _) | (refine Below.step ?_ (by with_reducible assumption) ?_) | go_size))⟩
      have HI2 := Lib.hid hi2; clear hi2
      rw [rounds_succ]
      go_wp2_with (go_at_call 57; refine (l01In_any _ _ _ _).mono ?_; rintro e w' ⟨rfl, rfl⟩; rw [HI2.out])
      refine wp_region_tailS 13 (fun w' => w' = wa.drew) (by kernel_rfl) (by kernel_rfl) rfl ?_
      simp only [List.take_succ_cons, List.take_zero, List.drop_succ_cons, List.drop_zero]
      repeat (first
        | (refine stillS_read ?_ (by rfl) (fun w' hS => ?_) ?_; rotate_left; (focus (subst hS; go_simp; (try with_reducible rfl); done)); (try simp only [Act.put, List.setIfInBounds_toArray, List.set_cons_zero, List.set_cons_succ]))
        | (refine stillS_call (.int .i64 (x2 % p)) 69 ?_ (by rfl) (fun w' => ?_) (fun w' hS => ?_) ?_; rotate_left; (focus (go_simp; (try with_reducible rfl); done)); (focus (refine (HMM.out x2 _).mono ?_; rintro e w'' ⟨rfl, rfl⟩; exact ⟨rfl, hS⟩)); (try simp only [Act.put, List.setIfInBounds_toArray, List.set_cons_zero, List.set_cons_succ])))
      refine stillS_nil ?_
      rintro w' rfl
      have st := Bm.cell 2 rfl
      have sf := Bm.frz 2
      go_wp2_with fail
      replace Bm : Box 31 (wa.setCell ⟨w.heap.size + 1, 2, none⟩ (.int .i64 (x2 % p))).drew (w.heap.size + 1) [x0 % p, x1 % p, x2 % p, 0, 0, 0, 0, 0, 0] := Box.drew (Bm.set 2 (x2 % p))
      replace Bo : Box 31 (wa.setCell ⟨w.heap.size + 1, 2, none⟩ (.int .i64 (x2 % p))).drew w.heap.size [0, 0, 0, 0, 0, 0, 0, 0, 0] := Box.drew (Bo.far (by omega))
      replace hB : Below w.heap.size w (wa.setCell ⟨w.heap.size + 1, 2, none⟩ (.int .i64 (x2 % p))).drew := Below.drew (Below.setCell (p := ⟨w.heap.size + 1, 2, none⟩) hB (Nat.le_succ _) _)
      clear st sf cf0 cf1 cf2 q0
      generalize (wa.setCell ⟨w.heap.size + 1, 2, none⟩ (.int .i64 (x2 % p))).drew = wa at *
      rw [rounds_succ]
      clear ce0 ce1 ce2
      go_wp2_with fail
      have q1 := keepC hB hc1
      by_cases hn1 : r1.length = 3
      rotate_left
      · have hE : Hid (mfR p [[x0, x1, x2], r1, r2] = (zM9, 2)) := by show _ = _; rw [HE0.out, if_neg]; rintro ⟨h0, h1, h2⟩; rw [sm3_no hn1] at h1; cases h1
        have z0 := Bo.cell 0 rfl; have zf0 := Bo.frz 0; have z1 := Bo.cell 1 rfl; have zf1 := Bo.frz 1; have z2 := Bo.cell 2 rfl; have zf2 := Bo.frz 2; have z3 := Bo.cell 3 rfl; have zf3 := Bo.frz 3; have z4 := Bo.cell 4 rfl; have zf4 := Bo.frz 4; have z5 := Bo.cell 5 rfl; have zf5 := Bo.frz 5; have z6 := Bo.cell 6 rfl; have zf6 := Bo.frz 6; have z7 := Bo.cell 7 rfl; have zf7 := Bo.frz 7; have z8 := Bo.cell 8 rfl; have zf8 := Bo.frz 8
        have hnn : ¬ ((r1.length : Nat) : Int) = 3 := by omega
        generalize r1.length = ln at *
        rw [rounds_succ]
        go_wp2_with fail
        (try simp only [Exit.inBlock, Exit.then]); refine bodyPost_ret (by simp [results, Try.results21, go_sem, cellSet_same, *]; try rfl) rfl ?_
        exact ⟨by rw [hE.out]; try rfl, by (repeat' (first | (with_reducible exact Below.refl _ _) | (with_reducible assumption) | (with_reducible refine Below.alloc ?_ ?_ _) | (with_reducible refine Below.drew ?_) | (with_reducible refine below_drewN ?_ _) | (with_reducible refine Below.setCell ?_ ?_ _) | (refine Below.step ?_ (by with_reducible assumption) ?_) | go_size))⟩
      obtain ⟨x3, x4, x5, hr1⟩ := len3r (r := r1) hn1
      subst hr1
      clear hn1
      obtain ⟨b1, o1, cc1, hv1, -, ce0, ce1, ce2⟩ := HS1.out.three
      injection hv1 with hva hvb hvc; subst hva hvc
      simp only [List.length_cons, List.length_nil, Nat.zero_add, Nat.reduceAdd] at q1 hc1
      rw [rounds_succ]
      go_wp2_with fail
      refine wp_loop_rounds 4 ?_
      have q1 := keepC hB hc1
      have cf0 := keepC hB ce0; have cf1 := keepC hB ce1; have cf2 := keepC hB ce2
      cases hi3 : inB x3 (-1000) 1000
      · have hE : Hid (mfR p [[x0, x1, x2], [x3, x4, x5], r2] = (zM9, 2)) := by show _ = _; rw [HE0.out, if_neg]; rintro ⟨h0, h1, h2⟩; rw [sm3_bad (.inl hi3)] at h1; cases h1
        have HI3 := Lib.hid hi3; clear hi3
        have z0 := Bo.cell 0 rfl; have zf0 := Bo.frz 0; have z1 := Bo.cell 1 rfl; have zf1 := Bo.frz 1; have z2 := Bo.cell 2 rfl; have zf2 := Bo.frz 2; have z3 := Bo.cell 3 rfl; have zf3 := Bo.frz 3; have z4 := Bo.cell 4 rfl; have zf4 := Bo.frz 4; have z5 := Bo.cell 5 rfl; have zf5 := Bo.frz 5; have z6 := Bo.cell 6 rfl; have zf6 := Bo.frz 6; have z7 := Bo.cell 7 rfl; have zf7 := Bo.frz 7; have z8 := Bo.cell 8 rfl; have zf8 := Bo.frz 8
        rw [rounds_succ]
        go_wp2_with (go_at_call 57; refine (l01In_any _ _ _ _).mono ?_; rintro e w' ⟨rfl, rfl⟩; rw [HI3.out])
        (try simp only [Exit.inBlock, Exit.then]); refine bodyPost_ret (by simp [results, Try.results21, go_sem, cellSet_same, *]; try rfl) rfl ?_
        exact ⟨by rw [hE.out]; try rfl, by (repeat' (first | (with_reducible exact Below.refl _ _) | (with_reducible assumption) | (with_reducible refine Below.alloc ?_ ?_ _) | (with_reducible refine Below.drew ?_) | (with_reducible refine below_drewN ?_ _) | (with_reducible refine Below.setCell ?_ ?_ _) | (refine Below.step ?_ (by with_reducible assumption) ?_) | go_size))⟩
      have HI3 := Lib.hid hi3; clear hi3
      rw [rounds_succ]
      go_wp2_with (go_at_call 57; refine (l01In_any _ _ _ _).mono ?_; rintro e w' ⟨rfl, rfl⟩; rw [HI3.out])
      refine wp_region_tailS 13 (fun w' => w' = wa.drew) (by kernel_rfl) (by kernel_rfl) rfl ?_
      simp only [List.take_succ_cons, List.take_zero, List.drop_succ_cons, List.drop_zero]
      repeat (first
        | (refine stillS_read ?_ (by rfl) (fun w' hS => ?_) ?_; rotate_left; (focus (subst hS; go_simp; (try with_reducible rfl); done)); (try simp only [Act.put, List.setIfInBounds_toArray, List.set_cons_zero, List.set_cons_succ]))
        | (refine stillS_call (.int .i64 (x3 % p)) 69 ?_ (by rfl) (fun w' => ?_) (fun w' hS => ?_) ?_; rotate_left; (focus (go_simp; (try with_reducible rfl); done)); (focus (refine (HMM.out x3 _).mono ?_; rintro e w'' ⟨rfl, rfl⟩; exact ⟨rfl, hS⟩)); (try simp only [Act.put, List.setIfInBounds_toArray, List.set_cons_zero, List.set_cons_succ])))
      refine stillS_nil ?_
      rintro w' rfl
      have st := Bm.cell 3 rfl
      have sf := Bm.frz 3
      go_wp2_with fail
      replace Bm : Box 31 (wa.setCell ⟨w.heap.size + 1, 3, none⟩ (.int .i64 (x3 % p))).drew (w.heap.size + 1) [x0 % p, x1 % p, x2 % p, x3 % p, 0, 0, 0, 0, 0] := Box.drew (Bm.set 3 (x3 % p))
      replace Bo : Box 31 (wa.setCell ⟨w.heap.size + 1, 3, none⟩ (.int .i64 (x3 % p))).drew w.heap.size [0, 0, 0, 0, 0, 0, 0, 0, 0] := Box.drew (Bo.far (by omega))
      replace hB : Below w.heap.size w (wa.setCell ⟨w.heap.size + 1, 3, none⟩ (.int .i64 (x3 % p))).drew := Below.drew (Below.setCell (p := ⟨w.heap.size + 1, 3, none⟩) hB (Nat.le_succ _) _)
      clear st sf cf0 cf1 cf2 q1
      generalize (wa.setCell ⟨w.heap.size + 1, 3, none⟩ (.int .i64 (x3 % p))).drew = wa at *
      have q1 := keepC hB hc1
      have cf0 := keepC hB ce0; have cf1 := keepC hB ce1; have cf2 := keepC hB ce2
      cases hi4 : inB x4 (-1000) 1000
      · have hE : Hid (mfR p [[x0, x1, x2], [x3, x4, x5], r2] = (zM9, 2)) := by show _ = _; rw [HE0.out, if_neg]; rintro ⟨h0, h1, h2⟩; rw [sm3_bad (.inr (.inl hi4))] at h1; cases h1
        have HI4 := Lib.hid hi4; clear hi4
        have z0 := Bo.cell 0 rfl; have zf0 := Bo.frz 0; have z1 := Bo.cell 1 rfl; have zf1 := Bo.frz 1; have z2 := Bo.cell 2 rfl; have zf2 := Bo.frz 2; have z3 := Bo.cell 3 rfl; have zf3 := Bo.frz 3; have z4 := Bo.cell 4 rfl; have zf4 := Bo.frz 4; have z5 := Bo.cell 5 rfl; have zf5 := Bo.frz 5; have z6 := Bo.cell 6 rfl; have zf6 := Bo.frz 6; have z7 := Bo.cell 7 rfl; have zf7 := Bo.frz 7; have z8 := Bo.cell 8 rfl; have zf8 := Bo.frz 8
        rw [rounds_succ]
        go_wp2_with (go_at_call 57; refine (l01In_any _ _ _ _).mono ?_; rintro e w' ⟨rfl, rfl⟩; rw [HI4.out])
        (try simp only [Exit.inBlock, Exit.then]); refine bodyPost_ret (by simp [results, Try.results21, go_sem, cellSet_same, *]; try rfl) rfl ?_
        exact ⟨by rw [hE.out]; try rfl, by (repeat' (first | (with_reducible exact Below.refl _ _) | (with_reducible assumption) | (with_reducible refine Below.alloc ?_ ?_ _) | (with_reducible refine Below.drew ?_) | (with_reducible refine below_drewN ?_ _) | (with_reducible refine Below.setCell ?_ ?_ _) | (refine Below.step ?_ (by with_reducible assumption) ?_) | go_size))⟩
      have HI4 := Lib.hid hi4; clear hi4
      rw [rounds_succ]
      go_wp2_with (go_at_call 57; refine (l01In_any _ _ _ _).mono ?_; rintro e w' ⟨rfl, rfl⟩; rw [HI4.out])
      refine wp_region_tailS 13 (fun w' => w' = wa.drew) (by kernel_rfl) (by kernel_rfl) rfl ?_
      simp only [List.take_succ_cons, List.take_zero, List.drop_succ_cons, List.drop_zero]
      repeat (first
        | (refine stillS_read ?_ (by rfl) (fun w' hS => ?_) ?_; rotate_left; (focus (subst hS; go_simp; (try with_reducible rfl); done)); (try simp only [Act.put, List.setIfInBounds_toArray, List.set_cons_zero, List.set_cons_succ]))
        | (refine stillS_call (.int .i64 (x4 % p)) 69 ?_ (by rfl) (fun w' => ?_) (fun w' hS => ?_) ?_; rotate_left; (focus (go_simp; (try with_reducible rfl); done)); (focus (refine (HMM.out x4 _).mono ?_; rintro e w'' ⟨rfl, rfl⟩; exact ⟨rfl, hS⟩)); (try simp only [Act.put, List.setIfInBounds_toArray, List.set_cons_zero, List.set_cons_succ])))
      refine stillS_nil ?_
      rintro w' rfl
      have st := Bm.cell 4 rfl
      have sf := Bm.frz 4
      go_wp2_with fail
      replace Bm : Box 31 (wa.setCell ⟨w.heap.size + 1, 4, none⟩ (.int .i64 (x4 % p))).drew (w.heap.size + 1) [x0 % p, x1 % p, x2 % p, x3 % p, x4 % p, 0, 0, 0, 0] := Box.drew (Bm.set 4 (x4 % p))
      replace Bo : Box 31 (wa.setCell ⟨w.heap.size + 1, 4, none⟩ (.int .i64 (x4 % p))).drew w.heap.size [0, 0, 0, 0, 0, 0, 0, 0, 0] := Box.drew (Bo.far (by omega))
      replace hB : Below w.heap.size w (wa.setCell ⟨w.heap.size + 1, 4, none⟩ (.int .i64 (x4 % p))).drew := Below.drew (Below.setCell (p := ⟨w.heap.size + 1, 4, none⟩) hB (Nat.le_succ _) _)
      clear st sf cf0 cf1 cf2 q1
      generalize (wa.setCell ⟨w.heap.size + 1, 4, none⟩ (.int .i64 (x4 % p))).drew = wa at *
      have q1 := keepC hB hc1
      have cf0 := keepC hB ce0; have cf1 := keepC hB ce1; have cf2 := keepC hB ce2
      cases hi5 : inB x5 (-1000) 1000
      · have hE : Hid (mfR p [[x0, x1, x2], [x3, x4, x5], r2] = (zM9, 2)) := by show _ = _; rw [HE0.out, if_neg]; rintro ⟨h0, h1, h2⟩; rw [sm3_bad (.inr (.inr hi5))] at h1; cases h1
        have HI5 := Lib.hid hi5; clear hi5
        have z0 := Bo.cell 0 rfl; have zf0 := Bo.frz 0; have z1 := Bo.cell 1 rfl; have zf1 := Bo.frz 1; have z2 := Bo.cell 2 rfl; have zf2 := Bo.frz 2; have z3 := Bo.cell 3 rfl; have zf3 := Bo.frz 3; have z4 := Bo.cell 4 rfl; have zf4 := Bo.frz 4; have z5 := Bo.cell 5 rfl; have zf5 := Bo.frz 5; have z6 := Bo.cell 6 rfl; have zf6 := Bo.frz 6; have z7 := Bo.cell 7 rfl; have zf7 := Bo.frz 7; have z8 := Bo.cell 8 rfl; have zf8 := Bo.frz 8
        rw [rounds_succ]
        go_wp2_with (go_at_call 57; refine (l01In_any _ _ _ _).mono ?_; rintro e w' ⟨rfl, rfl⟩; rw [HI5.out])
        (try simp only [Exit.inBlock, Exit.then]); refine bodyPost_ret (by simp [results, Try.results21, go_sem, cellSet_same, *]; try rfl) rfl ?_
        exact ⟨by rw [hE.out]; try rfl, by (repeat' (first | (with_reducible exact Below.refl _ _) | (with_reducible assumption) | (with_reducible refine Below.alloc ?_ ?_ _) | (with_reducible refine Below.drew ?_) | (with_reducible refine below_drewN ?_ _) | (with_reducible refine Below.setCell ?_ ?_ _) | (refine Below.step ?_ (by with_reducible assumption) ?_) | go_size))⟩
      have HI5 := Lib.hid hi5; clear hi5
      rw [rounds_succ]
      go_wp2_with (go_at_call 57; refine (l01In_any _ _ _ _).mono ?_; rintro e w' ⟨rfl, rfl⟩; rw [HI5.out])
      refine wp_region_tailS 13 (fun w' => w' = wa.drew) (by kernel_rfl) (by kernel_rfl) rfl ?_
      simp only [List.take_succ_cons, List.take_zero, List.drop_succ_cons, List.drop_zero]
      repeat (first
        | (refine stillS_read ?_ (by rfl) (fun w' hS => ?_) ?_; rotate_left; (focus (subst hS; go_simp; (try with_reducible rfl); done)); (try simp only [Act.put, List.setIfInBounds_toArray, List.set_cons_zero, List.set_cons_succ]))
        | (refine stillS_call (.int .i64 (x5 % p)) 69 ?_ (by rfl) (fun w' => ?_) (fun w' hS => ?_) ?_; rotate_left; (focus (go_simp; (try with_reducible rfl); done)); (focus (refine (HMM.out x5 _).mono ?_; rintro e w'' ⟨rfl, rfl⟩; exact ⟨rfl, hS⟩)); (try simp only [Act.put, List.setIfInBounds_toArray, List.set_cons_zero, List.set_cons_succ])))
      refine stillS_nil ?_
      rintro w' rfl
      have st := Bm.cell 5 rfl
      have sf := Bm.frz 5
      go_wp2_with fail
      replace Bm : Box 31 (wa.setCell ⟨w.heap.size + 1, 5, none⟩ (.int .i64 (x5 % p))).drew (w.heap.size + 1) [x0 % p, x1 % p, x2 % p, x3 % p, x4 % p, x5 % p, 0, 0, 0] := Box.drew (Bm.set 5 (x5 % p))
      replace Bo : Box 31 (wa.setCell ⟨w.heap.size + 1, 5, none⟩ (.int .i64 (x5 % p))).drew w.heap.size [0, 0, 0, 0, 0, 0, 0, 0, 0] := Box.drew (Bo.far (by omega))
      replace hB : Below w.heap.size w (wa.setCell ⟨w.heap.size + 1, 5, none⟩ (.int .i64 (x5 % p))).drew := Below.drew (Below.setCell (p := ⟨w.heap.size + 1, 5, none⟩) hB (Nat.le_succ _) _)
      clear st sf cf0 cf1 cf2 q1
      generalize (wa.setCell ⟨w.heap.size + 1, 5, none⟩ (.int .i64 (x5 % p))).drew = wa at *
      rw [rounds_succ]
      clear ce0 ce1 ce2
      go_wp2_with fail
      have q2 := keepC hB hc2
      by_cases hn2 : r2.length = 3
      rotate_left
      · have hE : Hid (mfR p [[x0, x1, x2], [x3, x4, x5], r2] = (zM9, 2)) := by show _ = _; rw [HE0.out, if_neg]; rintro ⟨h0, h1, h2⟩; rw [sm3_no hn2] at h2; cases h2
        have z0 := Bo.cell 0 rfl; have zf0 := Bo.frz 0; have z1 := Bo.cell 1 rfl; have zf1 := Bo.frz 1; have z2 := Bo.cell 2 rfl; have zf2 := Bo.frz 2; have z3 := Bo.cell 3 rfl; have zf3 := Bo.frz 3; have z4 := Bo.cell 4 rfl; have zf4 := Bo.frz 4; have z5 := Bo.cell 5 rfl; have zf5 := Bo.frz 5; have z6 := Bo.cell 6 rfl; have zf6 := Bo.frz 6; have z7 := Bo.cell 7 rfl; have zf7 := Bo.frz 7; have z8 := Bo.cell 8 rfl; have zf8 := Bo.frz 8
        have hnn : ¬ ((r2.length : Nat) : Int) = 3 := by omega
        generalize r2.length = ln at *
        rw [rounds_succ]
        go_wp2_with fail
        (try simp only [Exit.inBlock, Exit.then]); refine bodyPost_ret (by simp [results, Try.results21, go_sem, cellSet_same, *]; try rfl) rfl ?_
        exact ⟨by rw [hE.out]; try rfl, by (repeat' (first | (with_reducible exact Below.refl _ _) | (with_reducible assumption) | (with_reducible refine Below.alloc ?_ ?_ _) | (with_reducible refine Below.drew ?_) | (with_reducible refine below_drewN ?_ _) | (with_reducible refine Below.setCell ?_ ?_ _) | (refine Below.step ?_ (by with_reducible assumption) ?_) | go_size))⟩
      obtain ⟨x6, x7, x8, hr2⟩ := len3r (r := r2) hn2
      subst hr2
      clear hn2
      obtain ⟨b2, o2, cc2, hv2, -, ce0, ce1, ce2⟩ := HS2.out.three
      injection hv2 with hva hvb hvc; subst hva hvc
      simp only [List.length_cons, List.length_nil, Nat.zero_add, Nat.reduceAdd] at q2 hc2
      rw [rounds_succ]
      go_wp2_with fail
      refine wp_loop_rounds 4 ?_
      have q2 := keepC hB hc2
      have cf0 := keepC hB ce0; have cf1 := keepC hB ce1; have cf2 := keepC hB ce2
      cases hi6 : inB x6 (-1000) 1000
      · have hE : Hid (mfR p [[x0, x1, x2], [x3, x4, x5], [x6, x7, x8]] = (zM9, 2)) := by show _ = _; rw [HE0.out, if_neg]; rintro ⟨h0, h1, h2⟩; rw [sm3_bad (.inl hi6)] at h2; cases h2
        have HI6 := Lib.hid hi6; clear hi6
        have z0 := Bo.cell 0 rfl; have zf0 := Bo.frz 0; have z1 := Bo.cell 1 rfl; have zf1 := Bo.frz 1; have z2 := Bo.cell 2 rfl; have zf2 := Bo.frz 2; have z3 := Bo.cell 3 rfl; have zf3 := Bo.frz 3; have z4 := Bo.cell 4 rfl; have zf4 := Bo.frz 4; have z5 := Bo.cell 5 rfl; have zf5 := Bo.frz 5; have z6 := Bo.cell 6 rfl; have zf6 := Bo.frz 6; have z7 := Bo.cell 7 rfl; have zf7 := Bo.frz 7; have z8 := Bo.cell 8 rfl; have zf8 := Bo.frz 8
        rw [rounds_succ]
        go_wp2_with (go_at_call 57; refine (l01In_any _ _ _ _).mono ?_; rintro e w' ⟨rfl, rfl⟩; rw [HI6.out])
        (try simp only [Exit.inBlock, Exit.then]); refine bodyPost_ret (by simp [results, Try.results21, go_sem, cellSet_same, *]; try rfl) rfl ?_
        exact ⟨by rw [hE.out]; try rfl, by (repeat' (first | (with_reducible exact Below.refl _ _) | (with_reducible assumption) | (with_reducible refine Below.alloc ?_ ?_ _) | (with_reducible refine Below.drew ?_) | (with_reducible refine below_drewN ?_ _) | (with_reducible refine Below.setCell ?_ ?_ _) | (refine Below.step ?_ (by with_reducible assumption) ?_) | go_size))⟩
      have HI6 := Lib.hid hi6; clear hi6
      rw [rounds_succ]
      go_wp2_with (go_at_call 57; refine (l01In_any _ _ _ _).mono ?_; rintro e w' ⟨rfl, rfl⟩; rw [HI6.out])
      refine wp_region_tailS 13 (fun w' => w' = wa.drew) (by kernel_rfl) (by kernel_rfl) rfl ?_
      simp only [List.take_succ_cons, List.take_zero, List.drop_succ_cons, List.drop_zero]
      repeat (first
        | (refine stillS_read ?_ (by rfl) (fun w' hS => ?_) ?_; rotate_left; (focus (subst hS; go_simp; (try with_reducible rfl); done)); (try simp only [Act.put, List.setIfInBounds_toArray, List.set_cons_zero, List.set_cons_succ]))
        | (refine stillS_call (.int .i64 (x6 % p)) 69 ?_ (by rfl) (fun w' => ?_) (fun w' hS => ?_) ?_; rotate_left; (focus (go_simp; (try with_reducible rfl); done)); (focus (refine (HMM.out x6 _).mono ?_; rintro e w'' ⟨rfl, rfl⟩; exact ⟨rfl, hS⟩)); (try simp only [Act.put, List.setIfInBounds_toArray, List.set_cons_zero, List.set_cons_succ])))
      refine stillS_nil ?_
      rintro w' rfl
      have st := Bm.cell 6 rfl
      have sf := Bm.frz 6
      go_wp2_with fail
      replace Bm : Box 31 (wa.setCell ⟨w.heap.size + 1, 6, none⟩ (.int .i64 (x6 % p))).drew (w.heap.size + 1) [x0 % p, x1 % p, x2 % p, x3 % p, x4 % p, x5 % p, x6 % p, 0, 0] := Box.drew (Bm.set 6 (x6 % p))
      replace Bo : Box 31 (wa.setCell ⟨w.heap.size + 1, 6, none⟩ (.int .i64 (x6 % p))).drew w.heap.size [0, 0, 0, 0, 0, 0, 0, 0, 0] := Box.drew (Bo.far (by omega))
      replace hB : Below w.heap.size w (wa.setCell ⟨w.heap.size + 1, 6, none⟩ (.int .i64 (x6 % p))).drew := Below.drew (Below.setCell (p := ⟨w.heap.size + 1, 6, none⟩) hB (Nat.le_succ _) _)
      clear st sf cf0 cf1 cf2 q2
      generalize (wa.setCell ⟨w.heap.size + 1, 6, none⟩ (.int .i64 (x6 % p))).drew = wa at *
      have q2 := keepC hB hc2
      have cf0 := keepC hB ce0; have cf1 := keepC hB ce1; have cf2 := keepC hB ce2
      cases hi7 : inB x7 (-1000) 1000
      · have hE : Hid (mfR p [[x0, x1, x2], [x3, x4, x5], [x6, x7, x8]] = (zM9, 2)) := by show _ = _; rw [HE0.out, if_neg]; rintro ⟨h0, h1, h2⟩; rw [sm3_bad (.inr (.inl hi7))] at h2; cases h2
        have HI7 := Lib.hid hi7; clear hi7
        have z0 := Bo.cell 0 rfl; have zf0 := Bo.frz 0; have z1 := Bo.cell 1 rfl; have zf1 := Bo.frz 1; have z2 := Bo.cell 2 rfl; have zf2 := Bo.frz 2; have z3 := Bo.cell 3 rfl; have zf3 := Bo.frz 3; have z4 := Bo.cell 4 rfl; have zf4 := Bo.frz 4; have z5 := Bo.cell 5 rfl; have zf5 := Bo.frz 5; have z6 := Bo.cell 6 rfl; have zf6 := Bo.frz 6; have z7 := Bo.cell 7 rfl; have zf7 := Bo.frz 7; have z8 := Bo.cell 8 rfl; have zf8 := Bo.frz 8
        rw [rounds_succ]
        go_wp2_with (go_at_call 57; refine (l01In_any _ _ _ _).mono ?_; rintro e w' ⟨rfl, rfl⟩; rw [HI7.out])
        (try simp only [Exit.inBlock, Exit.then]); refine bodyPost_ret (by simp [results, Try.results21, go_sem, cellSet_same, *]; try rfl) rfl ?_
        exact ⟨by rw [hE.out]; try rfl, by (repeat' (first | (with_reducible exact Below.refl _ _) | (with_reducible assumption) | (with_reducible refine Below.alloc ?_ ?_ _) | (with_reducible refine Below.drew ?_) | (with_reducible refine below_drewN ?_ _) | (with_reducible refine Below.setCell ?_ ?_ _) | (refine Below.step ?_ (by with_reducible assumption) ?_) | go_size))⟩
      have HI7 := Lib.hid hi7; clear hi7
      rw [rounds_succ]
      go_wp2_with (go_at_call 57; refine (l01In_any _ _ _ _).mono ?_; rintro e w' ⟨rfl, rfl⟩; rw [HI7.out])
      refine wp_region_tailS 13 (fun w' => w' = wa.drew) (by kernel_rfl) (by kernel_rfl) rfl ?_
      simp only [List.take_succ_cons, List.take_zero, List.drop_succ_cons, List.drop_zero]
      repeat (first
        | (refine stillS_read ?_ (by rfl) (fun w' hS => ?_) ?_; rotate_left; (focus (subst hS; go_simp; (try with_reducible rfl); done)); (try simp only [Act.put, List.setIfInBounds_toArray, List.set_cons_zero, List.set_cons_succ]))
        | (refine stillS_call (.int .i64 (x7 % p)) 69 ?_ (by rfl) (fun w' => ?_) (fun w' hS => ?_) ?_; rotate_left; (focus (go_simp; (try with_reducible rfl); done)); (focus (refine (HMM.out x7 _).mono ?_; rintro e w'' ⟨rfl, rfl⟩; exact ⟨rfl, hS⟩)); (try simp only [Act.put, List.setIfInBounds_toArray, List.set_cons_zero, List.set_cons_succ])))
      refine stillS_nil ?_
      rintro w' rfl
      have st := Bm.cell 7 rfl
      have sf := Bm.frz 7
      go_wp2_with fail
      replace Bm : Box 31 (wa.setCell ⟨w.heap.size + 1, 7, none⟩ (.int .i64 (x7 % p))).drew (w.heap.size + 1) [x0 % p, x1 % p, x2 % p, x3 % p, x4 % p, x5 % p, x6 % p, x7 % p, 0] := Box.drew (Bm.set 7 (x7 % p))
      replace Bo : Box 31 (wa.setCell ⟨w.heap.size + 1, 7, none⟩ (.int .i64 (x7 % p))).drew w.heap.size [0, 0, 0, 0, 0, 0, 0, 0, 0] := Box.drew (Bo.far (by omega))
      replace hB : Below w.heap.size w (wa.setCell ⟨w.heap.size + 1, 7, none⟩ (.int .i64 (x7 % p))).drew := Below.drew (Below.setCell (p := ⟨w.heap.size + 1, 7, none⟩) hB (Nat.le_succ _) _)
      clear st sf cf0 cf1 cf2 q2
      generalize (wa.setCell ⟨w.heap.size + 1, 7, none⟩ (.int .i64 (x7 % p))).drew = wa at *
      have q2 := keepC hB hc2
      have cf0 := keepC hB ce0; have cf1 := keepC hB ce1; have cf2 := keepC hB ce2
      cases hi8 : inB x8 (-1000) 1000
      · have hE : Hid (mfR p [[x0, x1, x2], [x3, x4, x5], [x6, x7, x8]] = (zM9, 2)) := by show _ = _; rw [HE0.out, if_neg]; rintro ⟨h0, h1, h2⟩; rw [sm3_bad (.inr (.inr hi8))] at h2; cases h2
        have HI8 := Lib.hid hi8; clear hi8
        have z0 := Bo.cell 0 rfl; have zf0 := Bo.frz 0; have z1 := Bo.cell 1 rfl; have zf1 := Bo.frz 1; have z2 := Bo.cell 2 rfl; have zf2 := Bo.frz 2; have z3 := Bo.cell 3 rfl; have zf3 := Bo.frz 3; have z4 := Bo.cell 4 rfl; have zf4 := Bo.frz 4; have z5 := Bo.cell 5 rfl; have zf5 := Bo.frz 5; have z6 := Bo.cell 6 rfl; have zf6 := Bo.frz 6; have z7 := Bo.cell 7 rfl; have zf7 := Bo.frz 7; have z8 := Bo.cell 8 rfl; have zf8 := Bo.frz 8
        rw [rounds_succ]
        go_wp2_with (go_at_call 57; refine (l01In_any _ _ _ _).mono ?_; rintro e w' ⟨rfl, rfl⟩; rw [HI8.out])
        (try simp only [Exit.inBlock, Exit.then]); refine bodyPost_ret (by simp [results, Try.results21, go_sem, cellSet_same, *]; try rfl) rfl ?_
        exact ⟨by rw [hE.out]; try rfl, by (repeat' (first | (with_reducible exact Below.refl _ _) | (with_reducible assumption) | (with_reducible refine Below.alloc ?_ ?_ _) | (with_reducible refine Below.drew ?_) | (with_reducible refine below_drewN ?_ _) | (with_reducible refine Below.setCell ?_ ?_ _) | (refine Below.step ?_ (by with_reducible assumption) ?_) | go_size))⟩
      have HI8 := Lib.hid hi8; clear hi8
      rw [rounds_succ]
      go_wp2_with (go_at_call 57; refine (l01In_any _ _ _ _).mono ?_; rintro e w' ⟨rfl, rfl⟩; rw [HI8.out])
      refine wp_region_tailS 13 (fun w' => w' = wa.drew) (by kernel_rfl) (by kernel_rfl) rfl ?_
      simp only [List.take_succ_cons, List.take_zero, List.drop_succ_cons, List.drop_zero]
      repeat (first
        | (refine stillS_read ?_ (by rfl) (fun w' hS => ?_) ?_; rotate_left; (focus (subst hS; go_simp; (try with_reducible rfl); done)); (try simp only [Act.put, List.setIfInBounds_toArray, List.set_cons_zero, List.set_cons_succ]))
        | (refine stillS_call (.int .i64 (x8 % p)) 69 ?_ (by rfl) (fun w' => ?_) (fun w' hS => ?_) ?_; rotate_left; (focus (go_simp; (try with_reducible rfl); done)); (focus (refine (HMM.out x8 _).mono ?_; rintro e w'' ⟨rfl, rfl⟩; exact ⟨rfl, hS⟩)); (try simp only [Act.put, List.setIfInBounds_toArray, List.set_cons_zero, List.set_cons_succ])))
      refine stillS_nil ?_
      rintro w' rfl
      have st := Bm.cell 8 rfl
      have sf := Bm.frz 8
      go_wp2_with fail
      replace Bm : Box 31 (wa.setCell ⟨w.heap.size + 1, 8, none⟩ (.int .i64 (x8 % p))).drew (w.heap.size + 1) [x0 % p, x1 % p, x2 % p, x3 % p, x4 % p, x5 % p, x6 % p, x7 % p, x8 % p] := Box.drew (Bm.set 8 (x8 % p))
      replace Bo : Box 31 (wa.setCell ⟨w.heap.size + 1, 8, none⟩ (.int .i64 (x8 % p))).drew w.heap.size [0, 0, 0, 0, 0, 0, 0, 0, 0] := Box.drew (Bo.far (by omega))
      replace hB : Below w.heap.size w (wa.setCell ⟨w.heap.size + 1, 8, none⟩ (.int .i64 (x8 % p))).drew := Below.drew (Below.setCell (p := ⟨w.heap.size + 1, 8, none⟩) hB (Nat.le_succ _) _)
      clear st sf cf0 cf1 cf2 q2
      generalize (wa.setCell ⟨w.heap.size + 1, 8, none⟩ (.int .i64 (x8 % p))).drew = wa at *
      rw [rounds_succ]
      clear ce0 ce1 ce2
      go_wp2_with fail
      have hE : mfR p [[x0, x1, x2], [x3, x4, x5], [x6, x7, x8]] = mfG p ⟨x0 % p, x1 % p, x2 % p, x3 % p, x4 % p, x5 % p, x6 % p, x7 % p, x8 % p⟩ := by
        rw [HE0.out, if_pos ⟨sm3_of HI0.out HI1.out HI2.out, sm3_of HI3.out HI4.out HI5.out, sm3_of HI6.out HI7.out HI8.out⟩]; rfl
      have hdet := fun w' => l02Det_any p (x0 % p) (x1 % p) (x2 % p) (x3 % p) (x4 % p) (x5 % p) (x6 % p) (x7 % p) (x8 % p) w' k1 k2 (emod_sm k1 k2 x0) (emod_sm k1 k2 x1) (emod_sm k1 k2 x2) (emod_sm k1 k2 x3) (emod_sm k1 k2 x4) (emod_sm k1 k2 x5) (emod_sm k1 k2 x6) (emod_sm k1 k2 x7) (emod_sm k1 k2 x8)
      have hnm := fun w' => l02Normal_any p (x0 % p) (x1 % p) (x2 % p) (x3 % p) (x4 % p) (x5 % p) (x6 % p) (x7 % p) (x8 % p) w' HPB.out
      have bm0 := Bm.cell 0 rfl; have bm1 := Bm.cell 1 rfl; have bm2 := Bm.cell 2 rfl; have bm3 := Bm.cell 3 rfl; have bm4 := Bm.cell 4 rfl; have bm5 := Bm.cell 5 rfl; have bm6 := Bm.cell 6 rfl; have bm7 := Bm.cell 7 rfl; have bm8 := Bm.cell 8 rfl
      have hwz := hB.size
      rw [rounds_succ]
      by_cases hd : M9.det p ⟨x0 % p, x1 % p, x2 % p, x3 % p, x4 % p, x5 % p, x6 % p, x7 % p, x8 % p⟩ = 0
      · have HE : Hid (mfR p [[x0, x1, x2], [x3, x4, x5], [x6, x7, x8]] = (zM9, 5)) := by show _ = _; rw [hE]; unfold mfG; rw [if_pos hd]
        rw [hd] at hdet
        have HD := Lib.hid hdet; clear hdet hnm hE hd
        repeat ((fail_if_success guard_target = (_ : Exit → Act → World → Prop) Exit.ret _ _); (first | (go_big_may; go_at_call 70; refine (HD.out _).mono ?_; rintro e w3 ⟨rfl, hb3⟩; have hz3 := hb3.size; have Bo3 := Box.below hb3 Bo; have Bm3 := Box.below hb3 Bm; have hlt3 := Bo3.lt; have z0 := Bo3.cell 0 rfl; have zf0 := Bo3.frz 0; have z1 := Bo3.cell 1 rfl; have zf1 := Bo3.frz 1; have z2 := Bo3.cell 2 rfl; have zf2 := Bo3.frz 2; have z3 := Bo3.cell 3 rfl; have zf3 := Bo3.frz 3; have z4 := Bo3.cell 4 rfl; have zf4 := Bo3.frz 4; have z5 := Bo3.cell 5 rfl; have zf5 := Bo3.frz 5; have z6 := Bo3.cell 6 rfl; have zf6 := Bo3.frz 6; have z7 := Bo3.cell 7 rfl; have zf7 := Bo3.frz 7; have z8 := Bo3.cell 8 rfl; have zf8 := Bo3.frz 8; have bn0 := Bm3.cell 0 rfl; have bn1 := Bm3.cell 1 rfl; have bn2 := Bm3.cell 2 rfl; have bn3 := Bm3.cell 3 rfl; have bn4 := Bm3.cell 4 rfl; have bn5 := Bm3.cell 5 rfl; have bn6 := Bm3.cell 6 rfl; have bn7 := Bm3.cell 7 rfl; have bn8 := Bm3.cell 8 rfl; dsimp only) | go_values | go_skip | go_guarded | go_step | go_upon | go_back))
        (try simp only [Exit.inBlock, Exit.then]); refine bodyPost_ret (by simp [results, Try.results21, go_sem, cellSet_same, *]; try rfl) rfl ?_
        exact ⟨by rw [HE.out]; try rfl, by (repeat' (first | (with_reducible exact Below.refl _ _) | (with_reducible assumption) | (with_reducible refine Below.alloc ?_ ?_ _) | (with_reducible refine Below.drew ?_) | (with_reducible refine below_drewN ?_ _) | (with_reducible refine Below.setCell ?_ ?_ _) | (refine Below.step ?_ (by with_reducible assumption) ?_) | go_size))⟩
      · have HE : Hid (mfR p [[x0, x1, x2], [x3, x4, x5], [x6, x7, x8]] = (nmM p ⟨x0 % p, x1 % p, x2 % p, x3 % p, x4 % p, x5 % p, x6 % p, x7 % p, x8 % p⟩, 0)) := by show _ = _; rw [hE]; unfold mfG; rw [if_neg hd]
        generalize M9.det p ⟨x0 % p, x1 % p, x2 % p, x3 % p, x4 % p, x5 % p, x6 % p, x7 % p, x8 % p⟩ = d at *
        generalize nmM p ⟨x0 % p, x1 % p, x2 % p, x3 % p, x4 % p, x5 % p, x6 % p, x7 % p, x8 % p⟩ = gg at *
        obtain ⟨g0, g1, g2, g3, g4, g5, g6, g7, g8⟩ := gg
        dsimp only at hnm
        have hd' : (d == 0) = false := by simpa using hd
        have HD := Lib.hid hdet; have HN := Lib.hid hnm; clear hdet hnm hE
        repeat ((fail_if_success guard_target = (_ : Exit → Act → World → Prop) Exit.ret _ _); (first | (go_big_may; go_at_call 70; refine (HD.out _).mono ?_; rintro e w3 ⟨rfl, hb3⟩; have hz3 := hb3.size; have Bo3 := Box.below hb3 Bo; have Bm3 := Box.below hb3 Bm; have hlt3 := Bo3.lt; have z0 := Bo3.cell 0 rfl; have zf0 := Bo3.frz 0; have z1 := Bo3.cell 1 rfl; have zf1 := Bo3.frz 1; have z2 := Bo3.cell 2 rfl; have zf2 := Bo3.frz 2; have z3 := Bo3.cell 3 rfl; have zf3 := Bo3.frz 3; have z4 := Bo3.cell 4 rfl; have zf4 := Bo3.frz 4; have z5 := Bo3.cell 5 rfl; have zf5 := Bo3.frz 5; have z6 := Bo3.cell 6 rfl; have zf6 := Bo3.frz 6; have z7 := Bo3.cell 7 rfl; have zf7 := Bo3.frz 7; have z8 := Bo3.cell 8 rfl; have zf8 := Bo3.frz 8; have bn0 := Bm3.cell 0 rfl; have bn1 := Bm3.cell 1 rfl; have bn2 := Bm3.cell 2 rfl; have bn3 := Bm3.cell 3 rfl; have bn4 := Bm3.cell 4 rfl; have bn5 := Bm3.cell 5 rfl; have bn6 := Bm3.cell 6 rfl; have bn7 := Bm3.cell 7 rfl; have bn8 := Bm3.cell 8 rfl; dsimp only) | (go_big_may; go_at_call 71; refine (HN.out _).mono ?_; rintro e w4 ⟨rfl, hb4⟩; have hz4 := hb4.size; have Bo4 := Box.below hb4 Bo3; have hlt4 := Bo4.lt; have y0 := Bo4.cell 0 rfl; have yf0 := Bo4.frz 0; have y1 := Bo4.cell 1 rfl; have yf1 := Bo4.frz 1; have y2 := Bo4.cell 2 rfl; have yf2 := Bo4.frz 2; have y3 := Bo4.cell 3 rfl; have yf3 := Bo4.frz 3; have y4 := Bo4.cell 4 rfl; have yf4 := Bo4.frz 4; have y5 := Bo4.cell 5 rfl; have yf5 := Bo4.frz 5; have y6 := Bo4.cell 6 rfl; have yf6 := Bo4.frz 6; have y7 := Bo4.cell 7 rfl; have yf7 := Bo4.frz 7; have y8 := Bo4.cell 8 rfl; have yf8 := Bo4.frz 8; dsimp only) | go_values | go_skip | go_guarded | go_step | go_upon | go_back))
        (try simp only [Exit.inBlock, Exit.then]); refine bodyPost_ret (by simp [results, Try.results21, go_sem, cellSet_same, *]; try rfl) rfl ?_
        exact ⟨by rw [HE.out], by (repeat' (first | (with_reducible exact Below.refl _ _) | (with_reducible assumption) | (with_reducible refine Below.alloc ?_ ?_ _) | (with_reducible refine Below.drew ?_) | (with_reducible refine below_drewN ?_ _) | (with_reducible refine Below.setCell ?_ ?_ _) | (refine Below.step ?_ (by with_reducible assumption) ?_) | go_size))⟩
end Go.Proofs.Ytjfabhkgmelmgaa
