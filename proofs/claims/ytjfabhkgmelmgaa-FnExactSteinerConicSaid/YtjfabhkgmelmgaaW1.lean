/- What the functions of chapter 1 do that only compute with numbers or read a list of numbers: each returns what its plain definition says and leaves memory as it was; under bounds on p and on the list's length. -/
import Derived.Test.YtjfabhkgmelmgaaProg
import Derived.Test.YtjfabhkgmelmgaaB
import Derived.Test.YtjfabhkgmelmgaaP1
import Derived.WalkKit
import Derived.WalkSpells
import Derived.WalkLawsBesides
import Derived.Handy
import Derived.Lib.Hide
namespace Go.Proofs.Ytjfabhkgmelmgaa
open Go.RowKit
set_option linter.unusedSimpArgs false
set_option linter.unusedVariables false

theorem numsB_snoc {p x : Int} {zs : List Int} {k : Nat} (h : zs[k]? = some x) : numsB p (zs.take (k + 1)) = (numsB p (zs.take k) && inB x 0 (p - 1)) := by
  unfold numsB
  rw [List.take_add_one, h, List.all_append]
  simp
theorem numsB_take {p : Int} {zs : List Int} {k : Nat} (h : numsB p (zs.take k) = false) : numsB p zs = false := by
  rw [← Bool.not_eq_true] at *
  intro h'
  apply h
  unfold numsB at *
  rw [List.all_eq_true] at *
  exact fun x hx => h' x (List.mem_of_mem_take hx)
theorem lead_append (xs ys : List Int) : lead (xs ++ ys) = if lead xs = 0 then lead ys else lead xs := by
  induction xs with
  | nil => simp [lead]
  | cons x xs ih =>
    simp only [List.cons_append, lead]
    by_cases h : x = 0
    · simp [h, ih]
    · simp [h]
theorem lead_snoc {x : Int} {zs : List Int} {k : Nat} (h : zs[k]? = some x) : lead (zs.take (k + 1)) = if lead (zs.take k) = 0 then x else lead (zs.take k) := by
  rw [List.take_add_one, h, lead_append]
  by_cases hx : x = 0 <;> simp [lead, hx]
theorem lead_of {zs : List Int} {k : Nat} {x : Int} (h0 : lead (zs.take k) = 0) (h : zs[k]? = some x) (hx : x ≠ 0) : lead zs = x := by
  have h1 := List.take_append_drop k zs
  have h2 : k < zs.length := by
    rcases Nat.lt_or_ge k zs.length with h' | h'
    · exact h'
    · rw [List.getElem?_eq_none h'] at h; cases h
  rw [← h1, lead_append, h0, if_pos rfl, List.drop_eq_getElem_cons h2]
  rw [List.getElem?_eq_getElem h2] at h
  simp at h
  simp [lead, h, hx]

set_option maxHeartbeats 400000 in
theorem isPrime_any (p : Int) (w : World) :
    Calls Try.prog 61 #[.int .i64 p] w fun e w' => e = .returned (.bool (isP p)) ∧ w = w' := by
  go_enter Try.func61, Try.ntmps61
  go_wp2
  all_goals
    go_ret
    exact ⟨ret_bool (by simp [isP, *]), rfl⟩

set_option maxHeartbeats 400000 in
theorem l01Prime_any (p : Int) (w : World) :
    Calls Try.prog 56 #[.int .i64 p] w fun e w' => e = .returned (.bool (isP p)) ∧ w = w' := by
  go_enter Try.func56, Try.ntmps56
  go_wp2
  all_goals
    go_ret
    exact ⟨ret_bool (by simp [isP, *]), rfl⟩

set_option maxHeartbeats 400000 in
theorem within_any (n lo hi : Int) (w : World) :
    Calls Try.prog 62 #[.int .i64 n, .int .i64 lo, .int .i64 hi] w fun e w' => e = .returned (.bool (inB n lo hi)) ∧ w = w' := by
  go_enter Try.func62, Try.ntmps62
  go_wp2
  all_goals
    go_ret
    exact ⟨ret_bool (by simp [inB, *] <;> omega), rfl⟩

set_option maxHeartbeats 400000 in
theorem l01In_any (n lo hi : Int) (w : World) :
    Calls Try.prog 57 #[.int .i64 n, .int .i64 lo, .int .i64 hi] w fun e w' => e = .returned (.bool (inB n lo hi)) ∧ w = w' := by
  go_enter Try.func57, Try.ntmps57
  go_wp2
  all_goals
    go_ret
    exact ⟨ret_bool (by simp [inB, *] <;> omega), rfl⟩

set_option maxHeartbeats 400000 in
theorem areNumbers_any (p : Int) (b off cap : Nat) (zs : List Int) (w : World) (hp : -1000 ≤ p) (hp2 : p ≤ 1000) (hc : Rd w b off zs) (hm : zs.length ≤ 1000000) :
    Calls Try.prog 132 #[.int .i64 p, .slice (some ⟨b, off, none⟩) zs.length cap] w fun e w' => e = .returned (.bool (numsB p zs)) ∧ w = w' := by
  go_enter Try.func132, Try.ntmps132
  go_wp2
  go_loop [9] (fun i => ∃ k : Nat, k ≤ zs.length ∧ i = .int .i64 k ∧ numsB p (zs.take k) = true) (fun i => zs.length - (intOf i).toNat)
  case atStart => exact ⟨0, Nat.zero_le _, rfl, rfl⟩
  case round =>
    obtain ⟨k, hk, rfl, hrel⟩ := hrel
    have H := Lib.hid hrel; clear hrel
    by_cases hlt : k < zs.length
    · obtain ⟨x, hcell, hx⟩ := hc.get hlt
      cases hb : inB x 0 (p - 1)
      · have hn : Hid (numsB p zs = false) := numsB_take (k := k + 1) (by rw [numsB_snoc hx.out, hb, Bool.and_false])
        go_wp2_with (go_at_call 62; refine (within_any _ _ _ _).mono ?_; rintro e w' ⟨rfl, rfl⟩)
        go_ret
        exact ⟨ret_bool hn.out.symm, rfl⟩
      · have hn : Hid (numsB p (zs.take (k + 1)) = true) := by show _ = _; rw [numsB_snoc hx.out, hb, H.out]; rfl
        go_wp2_with (go_at_call 62; refine (within_any _ _ _ _).mono ?_; rintro e w' ⟨rfl, rfl⟩)
        go_round
        case rel => exact ⟨k + 1, by omega, by go_num, hn.out⟩
        case measure => simp [intOf]; omega
    · have hn : Hid (numsB p zs = true) := by show _ = _; have := H.out; rwa [List.take_of_length_le (by omega)] at this
      go_wp2
      go_ret
      exact ⟨ret_bool hn.out.symm, rfl⟩

set_option maxHeartbeats 400000 in
theorem isNormal_any (p : Int) (b off cap : Nat) (zs : List Int) (w : World) (hp : -1000 ≤ p) (hp2 : p ≤ 1000) (hc : Rd w b off zs) (hm : zs.length ≤ 1000000) :
    Calls Try.prog 152 #[.int .i64 p, .slice (some ⟨b, off, none⟩) zs.length cap] w fun e w' => e = .returned (.bool (isN p zs)) ∧ w = w' := by
  go_enter Try.func152, Try.ntmps152
  go_wp2
  go_loop [9] (fun i => ∃ k : Nat, k ≤ zs.length ∧ i = .int .i64 k ∧ lead (zs.take k) = 0) (fun i => zs.length - (intOf i).toNat)
  case atStart => exact ⟨0, Nat.zero_le _, rfl, rfl⟩
  case round =>
    obtain ⟨k, hk, rfl, hrel⟩ := hrel
    have H := Lib.hid hrel; clear hrel
    by_cases hlt : k < zs.length
    · obtain ⟨x, hcell, hx⟩ := hc.get hlt
      by_cases h0 : x = 0
      · subst h0
        have hn : Hid (lead (zs.take (k + 1)) = 0) := by show _ = _; rw [lead_snoc hx.out, H.out]; rfl
        go_wp2
        go_round
        case rel => exact ⟨k + 1, by omega, by go_num, hn.out⟩
        case measure => simp [intOf]; omega
      · have hn : Hid (lead zs = x) := lead_of H.out hx.out h0
        have h0' : (x == 0) = false := by simpa using h0
        have hE : Hid (isN p zs = (x == 1 && numsB p zs)) := by show _ = _; unfold isN; rw [hn.out]
        by_cases h1 : x = 1
        · have h1' : (x == 1) = true := by simpa using h1
          have hE' : Hid (isN p zs = numsB p zs) := by show _ = _; rw [hE.out, h1']; rfl
          go_wp2_with (go_at_call 132; refine (areNumbers_any _ _ _ _ zs _ hp hp2 hc hm).mono ?_; rintro e w' ⟨rfl, rfl⟩)
          go_ret
          exact ⟨ret_bool hE'.out.symm, rfl⟩
        · have h1' : (x == 1) = false := by simpa using h1
          have hE' : Hid (isN p zs = false) := by show _ = _; rw [hE.out, h1']; rfl
          go_wp2
          go_ret
          exact ⟨ret_bool hE'.out.symm, rfl⟩
    · have hn : Hid (isN p zs = false) := by show _ = _; have := H.out; rw [List.take_of_length_le (by omega)] at this; unfold isN; rw [this]; rfl
      go_wp2
      go_ret
      exact ⟨ret_bool hn.out.symm, rfl⟩

set_option maxHeartbeats 400000 in
theorem l01Normal_any (p : Int) (b off cap : Nat) (zs : List Int) (w : World) (hp : -1000 ≤ p) (hp2 : p ≤ 1000) (hc : Rd w b off zs) (hm : zs.length ≤ 1000000) :
    Calls Try.prog 149 #[.int .i64 p, .slice (some ⟨b, off, none⟩) zs.length cap] w fun e w' => e = .returned (.bool (isN p zs)) ∧ w = w' := by
  go_enter Try.func149, Try.ntmps149
  go_wp2
  go_loop [5, 6] (fun f i => ∃ (k : Nat) (f0 : Int), k ≤ zs.length ∧ f = .int .i64 f0 ∧ i = .int .i64 k ∧ lead (zs.take k) = f0 ∧ numsB p (zs.take k) = true) (fun _ i => zs.length - (intOf i).toNat)
  case atStart => exact ⟨0, 0, Nat.zero_le _, rfl, rfl, rfl, rfl⟩
  case round =>
    obtain ⟨k, f0, hk, rfl, rfl, hr1, hr2⟩ := hrel
    have H1 := Lib.hid hr1; have H2 := Lib.hid hr2; clear hr1 hr2
    by_cases hlt : k < zs.length
    · obtain ⟨x, hcell, hx⟩ := hc.get hlt
      cases hb : inB x 0 (p - 1)
      · have hn : Hid (isN p zs = false) := by
          show _ = _
          have : numsB p zs = false := numsB_take (k := k + 1) (by rw [numsB_snoc hx.out, hb, Bool.and_false])
          unfold isN; rw [this, Bool.and_false]
        go_wp2_with (go_at_call 57; refine (l01In_any _ _ _ _).mono ?_; rintro e w' ⟨rfl, rfl⟩)
        go_ret
        exact ⟨ret_bool hn.out.symm, rfl⟩
      · have hn : Hid (numsB p (zs.take (k + 1)) = true) := by show _ = _; rw [numsB_snoc hx.out, hb, H2.out]; rfl
        by_cases h0 : f0 = 0
        · subst h0
          have hl : Hid (lead (zs.take (k + 1)) = x) := by show _ = _; rw [lead_snoc hx.out, H1.out]; rfl
          go_wp2_with (go_at_call 57; refine (l01In_any _ _ _ _).mono ?_; rintro e w' ⟨rfl, rfl⟩)
          go_round
          case rel => exact ⟨k + 1, x, by omega, rfl, by go_num, hl.out, hn.out⟩
          case measure => simp [intOf]; omega
        · have h0' : (f0 == 0) = false := by simpa using h0
          have hl : Hid (lead (zs.take (k + 1)) = f0) := by show _ = _; rw [lead_snoc hx.out, H1.out, if_neg h0]
          go_wp2_with (go_at_call 57; refine (l01In_any _ _ _ _).mono ?_; rintro e w' ⟨rfl, rfl⟩)
          go_round
          case rel => exact ⟨k + 1, f0, by omega, rfl, by go_num, hl.out, hn.out⟩
          case measure => simp [intOf]; omega
    · have hn : Hid (isN p zs = (f0 == 1)) := by
        show _ = _
        have h1 := H1.out; have h2 := H2.out
        rw [List.take_of_length_le (by omega)] at h1 h2
        unfold isN; rw [h1, h2, Bool.and_true]
      go_wp2
      go_ret
      exact ⟨ret_bool hn.out.symm, rfl⟩

theorem tmod_mod {n p : Int} (h : 3 ≤ p) (h2 : p ≤ 13) : (wrap64 (n.tmod p + p)).tmod p = n % p := by
  have h3 : -p < n.tmod p := by
    have := Int.lt_tmod_of_pos n (b := p) (by omega); omega
  have h4 : n.tmod p < p := Int.tmod_lt_of_pos n (by omega)
  have h5 : wrap64 (n.tmod p + p) = n.tmod p + p := IntWalk.wrap64_in _ ⟨by omega, by omega⟩
  rw [h5, Int.tmod_eq_emod_of_nonneg (by omega), Int.add_emod_right]
  rw [Int.tmod_eq_emod]
  have h6 : (p.natAbs : Int) = p := by omega
  split
  · simp
  · rw [h6]; simp
set_option maxHeartbeats 400000 in
theorem mod_any (n p : Int) (w : World) (h : 3 ≤ p) (h2 : p ≤ 13) :
    Calls Try.prog 73 #[.int .i64 n, .int .i64 p] w fun e w' => e = .returned (.int .i64 (n % p)) ∧ w = w' := by
  go_enter Try.func73, Try.ntmps73
  go_wp2
  go_ret
  exact ⟨ret_int (tmod_mod h h2), rfl⟩

set_option maxHeartbeats 400000 in
theorem l01Mod_any (p n : Int) (w : World) (h : 3 ≤ p) (h2 : p ≤ 13) :
    Calls Try.prog 69 #[.int .i64 p, .int .i64 n] w fun e w' => e = .returned (.int .i64 (n % p)) ∧ w = w' := by
  go_enter Try.func69, Try.ntmps69
  go_wp2
  go_ret
  exact ⟨ret_int (tmod_mod h h2), rfl⟩

set_option maxHeartbeats 400000 in
theorem IsPoint_any (p a b c : Int) (w : World) :
    Calls Try.prog 151 #[.int .i64 p, .agg #[.int .i64 a, .int .i64 b, .int .i64 c]] w fun e w' => e = .returned (.bool (isP p && isN p [a, b, c])) ∧ Below w.heap.size w w' := by
  cases hp : isP p
  · go_enter Try.func151, Try.ntmps151
    go_wp2_with (go_at_call 61; refine (isPrime_any _ _).mono ?_; rintro e w' ⟨rfl, rfl⟩)
    go_returns
    exact ⟨rfl, by (repeat' (first | (with_reducible exact Below.refl _ _) | (with_reducible assumption) | (with_reducible refine Below.alloc ?_ ?_ _) | (with_reducible refine Below.drew ?_) | (with_reducible refine below_drewN ?_ _) | (with_reducible refine Below.setCell ?_ ?_ _) | (refine Below.step ?_ (by with_reducible assumption) ?_) | go_size))⟩
  · have h1 := isP_lo hp
    have h2 := isP_hi hp
    go_enter Try.func151, Try.ntmps151
    go_wp2_with (first | (go_at_call 61; refine (isPrime_any _ _).mono ?_; rintro e w' ⟨rfl, rfl⟩) | (go_at_call 152; refine (isNormal_any p _ _ _ [a, b, c] _ (by omega) (by omega) (rd3 (by go_cell) (by go_cell) (by go_cell)) (by simp)).mono ?_; rintro e w' ⟨rfl, rfl⟩))
    go_returns
    exact ⟨rfl, by (repeat' (first | (with_reducible exact Below.refl _ _) | (with_reducible assumption) | (with_reducible refine Below.alloc ?_ ?_ _) | (with_reducible refine Below.drew ?_) | (with_reducible refine below_drewN ?_ _) | (with_reducible refine Below.setCell ?_ ?_ _) | (refine Below.step ?_ (by with_reducible assumption) ?_) | go_size))⟩

set_option maxHeartbeats 400000 in
theorem IsLine_any (p a b c : Int) (w : World) :
    Calls Try.prog 163 #[.int .i64 p, .agg #[.int .i64 a, .int .i64 b, .int .i64 c]] w fun e w' => e = .returned (.bool (isP p && isN p [a, b, c])) ∧ Below w.heap.size w w' := by
  cases hp : isP p
  · go_enter Try.func163, Try.ntmps163
    go_wp2_with (go_at_call 61; refine (isPrime_any _ _).mono ?_; rintro e w' ⟨rfl, rfl⟩)
    go_returns
    exact ⟨rfl, by (repeat' (first | (with_reducible exact Below.refl _ _) | (with_reducible assumption) | (with_reducible refine Below.alloc ?_ ?_ _) | (with_reducible refine Below.drew ?_) | (with_reducible refine below_drewN ?_ _) | (with_reducible refine Below.setCell ?_ ?_ _) | (refine Below.step ?_ (by with_reducible assumption) ?_) | go_size))⟩
  · have h1 := isP_lo hp
    have h2 := isP_hi hp
    go_enter Try.func163, Try.ntmps163
    go_wp2_with (first | (go_at_call 61; refine (isPrime_any _ _).mono ?_; rintro e w' ⟨rfl, rfl⟩) | (go_at_call 152; refine (isNormal_any p _ _ _ [a, b, c] _ (by omega) (by omega) (rd3 (by go_cell) (by go_cell) (by go_cell)) (by simp)).mono ?_; rintro e w' ⟨rfl, rfl⟩))
    go_returns
    exact ⟨rfl, by (repeat' (first | (with_reducible exact Below.refl _ _) | (with_reducible assumption) | (with_reducible refine Below.alloc ?_ ?_ _) | (with_reducible refine Below.drew ?_) | (with_reducible refine below_drewN ?_ _) | (with_reducible refine Below.setCell ?_ ?_ _) | (refine Below.step ?_ (by with_reducible assumption) ?_) | go_size))⟩

set_option maxHeartbeats 400000 in
theorem IsConic_any (p a b c d f g : Int) (w : World) :
    Calls Try.prog 172 #[.int .i64 p, .agg #[.int .i64 a, .int .i64 b, .int .i64 c, .int .i64 d, .int .i64 f, .int .i64 g]] w fun e w' => e = .returned (.bool (isP p && isN p [a, b, c, d, f, g])) ∧ Below w.heap.size w w' := by
  cases hp : isP p
  · go_enter Try.func172, Try.ntmps172
    go_wp2_with (go_at_call 61; refine (isPrime_any _ _).mono ?_; rintro e w' ⟨rfl, rfl⟩)
    go_returns
    exact ⟨rfl, by (repeat' (first | (with_reducible exact Below.refl _ _) | (with_reducible assumption) | (with_reducible refine Below.alloc ?_ ?_ _) | (with_reducible refine Below.drew ?_) | (with_reducible refine below_drewN ?_ _) | (with_reducible refine Below.setCell ?_ ?_ _) | (refine Below.step ?_ (by with_reducible assumption) ?_) | go_size))⟩
  · have h1 := isP_lo hp
    have h2 := isP_hi hp
    go_enter Try.func172, Try.ntmps172
    go_wp2_with (first | (go_at_call 61; refine (isPrime_any _ _).mono ?_; rintro e w' ⟨rfl, rfl⟩) | (go_at_call 152; refine (isNormal_any p _ _ _ [a, b, c, d, f, g] _ (by omega) (by omega) (rd6 (by go_cell) (by go_cell) (by go_cell) (by go_cell) (by go_cell) (by go_cell)) (by simp)).mono ?_; rintro e w' ⟨rfl, rfl⟩))
    go_returns
    exact ⟨rfl, by (repeat' (first | (with_reducible exact Below.refl _ _) | (with_reducible assumption) | (with_reducible refine Below.alloc ?_ ?_ _) | (with_reducible refine Below.drew ?_) | (with_reducible refine below_drewN ?_ _) | (with_reducible refine Below.setCell ?_ ?_ _) | (refine Below.step ?_ (by with_reducible assumption) ?_) | go_size))⟩

set_option maxHeartbeats 400000 in
theorem l01Point_any (p a b c : Int) (w : World) :
    Calls Try.prog 135 #[.int .i64 p, .agg #[.int .i64 a, .int .i64 b, .int .i64 c]] w fun e w' => e = .returned (.bool (isP p && isN p [a, b, c])) ∧ Below w.heap.size w w' := by
  cases hp : isP p
  · go_enter Try.func135, Try.ntmps135
    go_wp2_with (first | (go_at_call 56; refine (l01Prime_any _ _).mono ?_; rintro e w' ⟨rfl, rfl⟩) | go_in)
    go_returns
    exact ⟨rfl, by (repeat' (first | (with_reducible exact Below.refl _ _) | (with_reducible assumption) | (with_reducible refine Below.alloc ?_ ?_ _) | (with_reducible refine Below.drew ?_) | (with_reducible refine below_drewN ?_ _) | (with_reducible refine Below.setCell ?_ ?_ _) | (refine Below.step ?_ (by with_reducible assumption) ?_) | go_size))⟩
  · have h1 := isP_lo hp
    have h2 := isP_hi hp
    go_enter Try.func135, Try.ntmps135
    go_wp2_with (first | (go_at_call 56; refine (l01Prime_any _ _).mono ?_; rintro e w' ⟨rfl, rfl⟩) | (go_at_call 149; refine (l01Normal_any p _ _ _ [a, b, c] _ (by omega) (by omega) (rd3 (by go_cell) (by go_cell) (by go_cell)) (by simp)).mono ?_; rintro e w' ⟨rfl, rfl⟩) | go_in)
    go_returns
    exact ⟨rfl, by (repeat' (first | (with_reducible exact Below.refl _ _) | (with_reducible assumption) | (with_reducible refine Below.alloc ?_ ?_ _) | (with_reducible refine Below.drew ?_) | (with_reducible refine below_drewN ?_ _) | (with_reducible refine Below.setCell ?_ ?_ _) | (refine Below.step ?_ (by with_reducible assumption) ?_) | go_size))⟩

set_option maxHeartbeats 400000 in
theorem l03Is_any (p a b c d f g : Int) (w : World) :
    Calls Try.prog 184 #[.int .i64 p, .agg #[.int .i64 a, .int .i64 b, .int .i64 c, .int .i64 d, .int .i64 f, .int .i64 g]] w fun e w' => e = .returned (.bool (isP p && isN p [a, b, c, d, f, g])) ∧ Below w.heap.size w w' := by
  cases hp : isP p
  · go_enter Try.func184, Try.ntmps184
    go_wp2_with (go_at_call 56; refine (l01Prime_any _ _).mono ?_; rintro e w' ⟨rfl, rfl⟩)
    go_returns
    exact ⟨rfl, by (repeat' (first | (with_reducible exact Below.refl _ _) | (with_reducible assumption) | (with_reducible refine Below.alloc ?_ ?_ _) | (with_reducible refine Below.drew ?_) | (with_reducible refine below_drewN ?_ _) | (with_reducible refine Below.setCell ?_ ?_ _) | (refine Below.step ?_ (by with_reducible assumption) ?_) | go_size))⟩
  · have h1 := isP_lo hp
    have h2 := isP_hi hp
    go_enter Try.func184, Try.ntmps184
    go_wp2_with (first | (go_at_call 56; refine (l01Prime_any _ _).mono ?_; rintro e w' ⟨rfl, rfl⟩) | (go_at_call 149; refine (l01Normal_any p _ _ _ [a, b, c, d, f, g] _ (by omega) (by omega) (rd6 (by go_cell) (by go_cell) (by go_cell) (by go_cell) (by go_cell) (by go_cell)) (by simp)).mono ?_; rintro e w' ⟨rfl, rfl⟩))
    go_returns
    exact ⟨rfl, by (repeat' (first | (with_reducible exact Below.refl _ _) | (with_reducible assumption) | (with_reducible refine Below.alloc ?_ ?_ _) | (with_reducible refine Below.drew ?_) | (with_reducible refine below_drewN ?_ _) | (with_reducible refine Below.setCell ?_ ?_ _) | (refine Below.step ?_ (by with_reducible assumption) ?_) | go_size))⟩

set_option maxHeartbeats 400000 in
theorem isMoebius_any (p a b c d : Int) (w : World) (h1 : 3 ≤ p) (h2 : p ≤ 13) :
    Calls Try.prog 99 #[.int .i64 p, .agg #[.int .i64 a, .int .i64 b, .int .i64 c, .int .i64 d]] w fun e w' => e = .returned (.bool (isMo p a b c d)) ∧ Below w.heap.size w w' := by
  cases hn : isN p [a, b, c, d]
  · have hE : Hid (isMo p a b c d = false) := by show _ = _; unfold isMo; rw [hn]; rfl
    go_enter Try.func99, Try.ntmps99
    go_wp2_with (go_at_call 152; refine (isNormal_any p _ _ _ [a, b, c, d] _ (by omega) (by omega) (rd4 (by go_cell) (by go_cell) (by go_cell) (by go_cell)) (by simp)).mono ?_; rintro e w' ⟨rfl, rfl⟩)
    go_returns
    exact ⟨ret_bool hE.out.symm, by (repeat' (first | (with_reducible exact Below.refl _ _) | (with_reducible assumption) | (with_reducible refine Below.alloc ?_ ?_ _) | (with_reducible refine Below.drew ?_) | (with_reducible refine below_drewN ?_ _) | (with_reducible refine Below.setCell ?_ ?_ _) | (refine Below.step ?_ (by with_reducible assumption) ?_) | go_size))⟩
  · have hE : Hid (isMo p a b c d = !((a * d - b * c) % p == 0)) := by show _ = _; unfold isMo; rw [hn]; rfl
    obtain ⟨⟨ha1, ha2⟩, ⟨hb1, hb2⟩, ⟨hc1, hc2⟩, ⟨hd1, hd2⟩⟩ := isN4 hn
    obtain ⟨q1, q2⟩ := mul_bd (A := 12) (B := 12) ha1 (by omega) hd1 (by omega)
    obtain ⟨q3, q4⟩ := mul_bd (A := 12) (B := 12) hb1 (by omega) hc1 (by omega)
    go_enter Try.func99, Try.ntmps99
    go_wp2_with (first | (go_at_call 152; refine (isNormal_any p _ _ _ [a, b, c, d] _ (by omega) (by omega) (rd4 (by go_cell) (by go_cell) (by go_cell) (by go_cell)) (by simp)).mono ?_; rintro e w' ⟨rfl, rfl⟩) | (go_at_call 73; refine (mod_any _ _ _ h1 h2).mono ?_; rintro e w' ⟨rfl, rfl⟩))
    go_returns
    exact ⟨ret_bool hE.out.symm, by (repeat' (first | (with_reducible exact Below.refl _ _) | (with_reducible assumption) | (with_reducible refine Below.alloc ?_ ?_ _) | (with_reducible refine Below.drew ?_) | (with_reducible refine below_drewN ?_ _) | (with_reducible refine Below.setCell ?_ ?_ _) | (refine Below.step ?_ (by with_reducible assumption) ?_) | go_size))⟩

set_option maxHeartbeats 400000 in
theorem l05Is_any (p a b c d : Int) (w : World) :
    Calls Try.prog 93 #[.int .i64 p, .agg #[.int .i64 a, .int .i64 b, .int .i64 c, .int .i64 d]] w fun e w' => e = .returned (.bool (isP p && isMo p a b c d)) ∧ Below w.heap.size w w' := by
  cases hp : isP p
  · go_enter Try.func93, Try.ntmps93
    go_wp2_with (go_at_call 56; refine (l01Prime_any _ _).mono ?_; rintro e w' ⟨rfl, rfl⟩)
    go_returns
    exact ⟨rfl, by (repeat' (first | (with_reducible exact Below.refl _ _) | (with_reducible assumption) | (with_reducible refine Below.alloc ?_ ?_ _) | (with_reducible refine Below.drew ?_) | (with_reducible refine below_drewN ?_ _) | (with_reducible refine Below.setCell ?_ ?_ _) | (refine Below.step ?_ (by with_reducible assumption) ?_) | go_size))⟩
  · have h1 := isP_lo hp
    have h2 := isP_hi hp
    cases hn : isN p [a, b, c, d]
    · have hE : Hid (isMo p a b c d = false) := by show _ = _; unfold isMo; rw [hn]; rfl
      go_enter Try.func93, Try.ntmps93
      go_wp2_with (first | (go_at_call 56; refine (l01Prime_any _ _).mono ?_; rintro e w' ⟨rfl, rfl⟩) | (go_at_call 149; refine (l01Normal_any p _ _ _ [a, b, c, d] _ (by omega) (by omega) (rd4 (by go_cell) (by go_cell) (by go_cell) (by go_cell)) (by simp)).mono ?_; rintro e w' ⟨rfl, rfl⟩))
      go_returns
      exact ⟨ret_bool (by rw [hE.out]; rfl), by (repeat' (first | (with_reducible exact Below.refl _ _) | (with_reducible assumption) | (with_reducible refine Below.alloc ?_ ?_ _) | (with_reducible refine Below.drew ?_) | (with_reducible refine below_drewN ?_ _) | (with_reducible refine Below.setCell ?_ ?_ _) | (refine Below.step ?_ (by with_reducible assumption) ?_) | go_size))⟩
    · have hE : Hid (isMo p a b c d = !((a * d - b * c) % p == 0)) := by show _ = _; unfold isMo; rw [hn]; rfl
      obtain ⟨⟨ha1, ha2⟩, ⟨hb1, hb2⟩, ⟨hc1, hc2⟩, ⟨hd1, hd2⟩⟩ := isN4 hn
      obtain ⟨q1, q2⟩ := mul_bd (A := 12) (B := 12) ha1 (by omega) hd1 (by omega)
      obtain ⟨q3, q4⟩ := mul_bd (A := 12) (B := 12) hb1 (by omega) hc1 (by omega)
      go_enter Try.func93, Try.ntmps93
      go_wp2_with (first | (go_at_call 56; refine (l01Prime_any _ _).mono ?_; rintro e w' ⟨rfl, rfl⟩) | (go_at_call 149; refine (l01Normal_any p _ _ _ [a, b, c, d] _ (by omega) (by omega) (rd4 (by go_cell) (by go_cell) (by go_cell) (by go_cell)) (by simp)).mono ?_; rintro e w' ⟨rfl, rfl⟩) | (go_at_call 69; refine (l01Mod_any _ _ _ h1 h2).mono ?_; rintro e w' ⟨rfl, rfl⟩))
      go_returns
      exact ⟨ret_bool (by rw [hE.out]; rfl), by (repeat' (first | (with_reducible exact Below.refl _ _) | (with_reducible assumption) | (with_reducible refine Below.alloc ?_ ?_ _) | (with_reducible refine Below.drew ?_) | (with_reducible refine below_drewN ?_ _) | (with_reducible refine Below.setCell ?_ ?_ _) | (refine Below.step ?_ (by with_reducible assumption) ?_) | go_size))⟩
