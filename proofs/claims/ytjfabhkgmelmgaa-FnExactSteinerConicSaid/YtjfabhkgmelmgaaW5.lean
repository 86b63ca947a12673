/- Inverses and normal lists: the program writes the normal list into the slice that it is handed, the reference returns a new one; p is a prime. -/
import Derived.Test.YtjfabhkgmelmgaaW4
namespace Go.Proofs.Ytjfabhkgmelmgaa
open Go.RowKit
set_option linter.unusedSimpArgs false
set_option linter.unusedVariables false

theorem invF_mod (p n : Int) (f : Nat) : ∀ k, invF p (n % p) f k = invF p n f k := by
  induction f with
  | zero => intro k; rfl
  | succ f ih =>
    intro k
    simp only [invF, ih]
    rw [mulm]
theorem inv_mod (p n : Int) : inv p (n % p) = inv p n := by
  unfold inv
  rw [Int.emod_emod_of_dvd _ (Int.dvd_refl p)]
theorem invF_far (p n : Int) (f : Nat) : ∀ k, invF p n f k = 0 ∨ k ≤ invF p n f k := by
  induction f with
  | zero => intro k; exact .inl rfl
  | succ f ih =>
    intro k
    simp only [invF]
    split
    · right; omega
    · rcases ih (k + 1) with h | h
      · exact .inl h
      · right; omega

set_option maxHeartbeats 400000 in
theorem inverse_any (n p : Int) (w : World) (hp : isP p = true) (h0 : 0 ≤ n) (h1 : n ≤ 1000) (hn : n % p ≠ 0) :
    Calls Try.prog 119 #[.int .i64 n, .int .i64 p] w fun e w' => e = .returned (.int .i64 (inv p n)) ∧ w = w' := by
  have k1 := isP_lo hp
  have k2 := isP_hi hp
  have hpos := inv_pos hp hn
  have HR : Hid (inv p n = invF p n 12 1) := by show _ = _; unfold inv; rw [invF_mod]
  clear hn hp
  go_enter Try.func119, Try.ntmps119
  go_wp2
  go_loop [5] (fun i => ∃ (f : Nat) (k : Int), i = .int .i64 k ∧ 1 ≤ k ∧ k ≤ 13 ∧ (f : Int) + k = 13 ∧ Hid (inv p n = invF p n f k)) (fun i => (15 - intOf i).toNat)
  case atStart => exact ⟨12, 1, rfl, by omega, by omega, by omega, HR⟩
  case round =>
    clear HR
    obtain ⟨f, k, rfl, hk1, hk2, hf, hR⟩ := hrel
    obtain ⟨f, rfl⟩ : ∃ g, f = g + 1 := by
      cases f with
      | zero => have := hR.out; simp [invF] at this; omega
      | succ g => exact ⟨g, rfl⟩
    obtain ⟨hb1, hb2⟩ := mul_bd (a := n) (b := k) (A := 1000) (B := 13) h0 h1 (by omega) hk2
    by_cases he : n * k % p = 1
    · have hR' : Hid (inv p n = k) := by show _ = _; rw [hR.out, invF, if_pos he]
      have he' : (n * k % p == 1) = true := by simpa using he
      clear he hR
      go_wp2_with (go_at_call 73; refine (mod_any _ _ _ k1 k2).mono ?_; rintro e w' ⟨rfl, rfl⟩)
      go_ret
      exact ⟨ret_int hR'.out.symm, rfl⟩
    · have hR' : Hid (inv p n = invF p n f (k + 1)) := by show _ = _; rw [hR.out, invF, if_neg he]
      have he' : (n * k % p == 1) = false := by simpa using he
      clear he hR
      go_wp2_with (go_at_call 73; refine (mod_any _ _ _ k1 k2).mono ?_; rintro e w' ⟨rfl, rfl⟩)
      go_round
      case rel => exact ⟨f, k + 1, rfl, by omega, by omega, by omega, hR'⟩
      case measure => simp [intOf]; omega

set_option maxHeartbeats 400000 in
theorem l01Inverse_any (p x : Int) (w : World) (hp : isP p = true) :
    Calls Try.prog 176 #[.int .i64 p, .int .i64 x] w fun e w' => e = .returned (.int .i64 (inv p x)) ∧ w = w' := by
  have k1 := isP_lo hp
  have k2 := isP_hi hp
  have hhi := inv_hi (n := x) hp
  have HR : Hid (inv p x = invF p (x % p) 12 1) := rfl
  have y0 : 0 ≤ x % p := Int.emod_nonneg _ (by omega)
  have y1 : x % p < p := Int.emod_lt_of_pos _ (by omega)
  clear hp
  go_enter Try.func176, Try.ntmps176
  go_wp2
  go_loop [5] (fun i => ∃ (f : Nat) (k : Int), i = .int .i64 k ∧ 1 ≤ k ∧ k ≤ 13 ∧ (f : Int) + k = 13 ∧ Hid (inv p x = invF p (x % p) f k)) (fun i => (15 - intOf i).toNat)
  case atStart => exact ⟨12, 1, rfl, by omega, by omega, by omega, HR⟩
  case round =>
    clear HR
    obtain ⟨f, k, rfl, hk1, hk2, hf, hR⟩ := hrel
    obtain ⟨hb1, hb2⟩ := mul_bd (a := k) (b := x % p) (A := 13) (B := 12) (by omega) hk2 y0 (by omega)
    by_cases hlt : k < p
    · obtain ⟨f, rfl⟩ : ∃ g, f = g + 1 := ⟨f - 1, by omega⟩
      by_cases he : k * (x % p) % p = 1
      · have hR' : Hid (inv p x = k) := by show _ = _; rw [hR.out, invF, if_pos (by rw [Int.mul_comm]; exact he)]
        have he' : (k * (x % p) % p == 1) = true := by simpa using he
        clear he hR
        go_wp2_with (go_at_call 69; refine (l01Mod_any _ _ _ k1 k2).mono ?_; rintro e w' ⟨rfl, rfl⟩)
        go_ret
        exact ⟨ret_int hR'.out.symm, rfl⟩
      · have hR' : Hid (inv p x = invF p (x % p) f (k + 1)) := by show _ = _; rw [hR.out, invF, if_neg (by rw [Int.mul_comm]; exact he)]
        have he' : (k * (x % p) % p == 1) = false := by simpa using he
        clear he hR
        go_wp2_with (go_at_call 69; refine (l01Mod_any _ _ _ k1 k2).mono ?_; rintro e w' ⟨rfl, rfl⟩)
        go_round
        case rel => exact ⟨f, k + 1, rfl, by omega, by omega, by omega, hR'⟩
        case measure => simp [intOf]; omega
    · have hR' : Hid (inv p x = 0) := by
        show _ = _
        have := invF_far p (x % p) f k
        rw [← hR.out] at this
        omega
      clear hR
      go_wp2
      go_ret
      exact ⟨ret_int hR'.out.symm, rfl⟩

/-! ### cells written one behind the other -/
def setRow (w : World) (b off : Nat) : List Int → World
  | [] => w
  | x :: xs => setRow (w.setCell ⟨b, off, none⟩ (.int .i64 x)) b (off + 1) xs
theorem setRow_snoc (b : Nat) (x : Int) (xs : List Int) : ∀ (w : World) (off : Nat), setRow w b off (xs ++ [x]) = (setRow w b off xs).setCell ⟨b, off + xs.length, none⟩ (.int .i64 x) := by
  induction xs with
  | nil => intro w off; rfl
  | cons y ys ih =>
    intro w off
    simp only [List.cons_append, setRow, ih, List.length_cons]
    rw [show off + 1 + ys.length = off + (ys.length + 1) by omega]
theorem setRow_cell (b : Nat) (xs : List Int) : ∀ (w : World) (off : Nat) (b' o : Nat), (b' ≠ b ∨ o < off ∨ off + xs.length ≤ o) → (setRow w b off xs).cell? ⟨b', o, none⟩ = w.cell? ⟨b', o, none⟩ := by
  induction xs with
  | nil => intro w off b' o _; rfl
  | cons y ys ih =>
    intro w off b' o h
    simp only [List.length_cons] at h
    simp only [setRow]
    rw [ih _ _ _ _ (by omega)]
    exact World.cell?_setCell_other _ _ _ _ (by intro e; simp at e; omega)
theorem setRow_frozen (b : Nat) (xs : List Int) : ∀ (w : World) (off : Nat) (a : Addr), (setRow w b off xs).frozen? a = w.frozen? a := by
  induction xs with
  | nil => intro w off a; rfl
  | cons y ys ih => intro w off a; simp only [setRow]; rw [ih]; exact World.frozen?_setCell _ _ _ _
theorem setRow_size (b : Nat) (xs : List Int) : ∀ (w : World) (off : Nat), (setRow w b off xs).heap.size = w.heap.size := by
  induction xs with
  | nil => intro w off; rfl
  | cons y ys ih => intro w off; simp only [setRow]; rw [ih]; simp
theorem setRow_below {B b : Nat} {a : World} (xs : List Int) (hb : B ≤ b) : ∀ (w : World) (off : Nat), Below B a w → Below B a (setRow w b off xs) := by
  induction xs with
  | nil => intro w off h; exact h
  | cons y ys ih => intro w off h; simp only [setRow]; exact ih _ _ (h.setCell (p := ⟨b, off, none⟩) hb _)
theorem setRow_heap (b : Nat) (xs : List Int) : ∀ (w : World) (off : Nat) (k : Nat), k ≠ b → (setRow w b off xs).heap[k]? = w.heap[k]? := by
  induction xs with
  | nil => intro w off k _; rfl
  | cons y ys ih => intro w off k h; simp only [setRow]; rw [ih _ _ _ h]; exact Below.heap_setCell _ _ _ _ h

set_option maxHeartbeats 600000 in
theorem normal_any (p : Int) (b off cap : Nat) (zs : List Int) (w : World) (hp : isP p = true) (hc : Rd w b off zs) (hfz : ∀ i, i < zs.length → w.frozen? ⟨b, off + i, none⟩ = false) (hm : zs.length ≤ 1000000) :
    Calls Try.prog 102 #[.int .i64 p, .slice (some ⟨b, off, none⟩) zs.length cap] w fun e w' => e = .returned (.bool (!(fac p zs == 0))) ∧ setRow w b off (nrm p zs) = w' := by
  have k1 := isP_lo hp
  have k2 := isP_hi hp
  have HP := Lib.hid hp; clear hp
  have hlen := nrm_len p zs
  go_enter Try.func102, Try.ntmps102
  go_wp2
  go_loopw [5, 10] (fun f i wr => ∃ (k : Nat) (f0 : Int), k ≤ zs.length ∧ f = .int .i64 f0 ∧ i = .int .i64 k ∧ 0 ≤ f0 ∧ f0 ≤ 12 ∧ Hid (fac p (zs.take k) = f0) ∧ Hid (setRow w b off ((nrm p zs).take k) = wr)) (fun _ i _ => zs.length - (intOf i).toNat)
  case atStart => exact ⟨0, 0, Nat.zero_le _, rfl, rfl, by omega, by omega, rfl, rfl⟩
  case round =>
    obtain ⟨k, f0, hk, rfl, rfl, hf0, hf1, hF, hW⟩ := hrel
    by_cases hlt : k < zs.length
    · obtain ⟨x, hcell0, hx⟩ := hc.get hlt
      have hcell : wr.cell? ⟨b, off + k, none⟩ = some (.int .i64 x) := by
        rw [← hW.out, setRow_cell _ _ _ _ _ _ (by right; right; rw [List.length_take]; omega)]; exact hcell0
      have hfr : wr.frozen? ⟨b, off + k, none⟩ = false := by rw [← hW.out, setRow_frozen]; exact hfz k hlt
      have hnext : Hid (setRow w b off ((nrm p zs).take (k + 1)) = wr.setCell ⟨b, off + k, none⟩ (.int .i64 (nr p (fac p (zs.take (k + 1))) x))) := by
        show _ = _
        rw [List.take_add_one, nrm_get HP.out hx.out, ← hW.out]
        simp only [Option.toList_some]
        rw [setRow_snoc, List.length_take, Nat.min_eq_left (by omega)]
      have hfs := Lib.hid (fac_snoc HP.out hx.out)
      have y0 : 0 ≤ x % p := Int.emod_nonneg _ (by omega)
      have y1 : x % p < p := Int.emod_lt_of_pos _ (by omega)
      by_cases hf : f0 = 0
      · subst hf
        by_cases hy : x % p = 0
        · have hF' : Hid (fac p (zs.take (k + 1)) = 0) := by show _ = _; rw [hfs.out, if_pos hF.out, if_pos hy]
          have hV : Hid (nr p (fac p (zs.take (k + 1))) x = 0) := by show _ = _; unfold nr; rw [hy]; simp
          have hy' : (x % p == 0) = true := by simpa using hy
          clear hc hfz hcell0 hfs
          go_wp2_with (first | (go_at_call 73; refine (mod_any _ _ _ k1 k2).mono ?_; rintro e w' ⟨rfl, rfl⟩) | (go_at_call 119; refine (inverse_any _ _ _ HP.out (by omega) (by omega) (by rw [Int.emod_emod_of_dvd _ (Int.dvd_refl p)]; omega)).mono ?_; rintro e w' ⟨rfl, rfl⟩))
          go_roundw
          case rel => exact ⟨k + 1, 0, by omega, rfl, by go_num, by omega, by omega, hF', by show _ = _; rw [hnext.out, hV.out]; try rfl⟩
          case measure => simp [intOf]; omega
        · have hF' : Hid (fac p (zs.take (k + 1)) = inv p (x % p)) := by show _ = _; rw [hfs.out, if_pos hF.out, if_neg hy, inv_mod]
          have hV : Hid (nr p (fac p (zs.take (k + 1))) x = x % p * inv p (x % p) % p) := by show _ = _; unfold nr; rw [hF'.out]
          have hy' : (x % p == 0) = false := by simpa using hy
          have i0 := inv_lo (n := x % p) HP.out
          have i1 := inv_hi (n := x % p) HP.out
          have ⟨e1, e2⟩ := mul_bd (a := x % p) (b := inv p (x % p)) (A := 12) (B := 12) y0 (by omega) i0 (by omega)
          clear hc hfz hcell0 hfs
          go_wp2_with (first | (go_at_call 73; refine (mod_any _ _ _ k1 k2).mono ?_; rintro e w' ⟨rfl, rfl⟩) | (go_at_call 119; refine (inverse_any _ _ _ HP.out (by omega) (by omega) (by rw [Int.emod_emod_of_dvd _ (Int.dvd_refl p)]; omega)).mono ?_; rintro e w' ⟨rfl, rfl⟩))
          go_roundw
          case rel => exact ⟨k + 1, inv p (x % p), by omega, rfl, by go_num, by omega, by omega, hF', by show _ = _; rw [hnext.out, hV.out]; try rfl⟩
          case measure => simp [intOf]; omega
      · have hF' : Hid (fac p (zs.take (k + 1)) = f0) := by show _ = _; rw [hfs.out, if_neg (by rw [hF.out]; exact hf), hF.out]
        have hV : Hid (nr p (fac p (zs.take (k + 1))) x = x % p * f0 % p) := by show _ = _; unfold nr; rw [hF'.out]
        have hf' : (f0 == 0) = false := by simpa using hf
        have ⟨e1, e2⟩ := mul_bd (a := x % p) (b := f0) (A := 12) (B := 12) y0 (by omega) hf0 hf1
        clear hc hfz hcell0 hfs
        go_wp2_with (first | (go_at_call 73; refine (mod_any _ _ _ k1 k2).mono ?_; rintro e w' ⟨rfl, rfl⟩) | (go_at_call 119; refine (inverse_any _ _ _ HP.out (by omega) (by omega) (by rw [Int.emod_emod_of_dvd _ (Int.dvd_refl p)]; omega)).mono ?_; rintro e w' ⟨rfl, rfl⟩))
        go_roundw
        case rel => exact ⟨k + 1, f0, by omega, rfl, by go_num, by omega, by omega, hF', by show _ = _; rw [hnext.out, hV.out]; try rfl⟩
        case measure => simp [intOf]; omega
    · have hE1 : Hid (fac p zs = f0) := by show _ = _; have := hF.out; rwa [List.take_of_length_le (by omega)] at this
      have hE2 : Hid (setRow w b off (nrm p zs) = wr) := by show _ = _; have := hW.out; rwa [List.take_of_length_le (by omega)] at this
      go_wp2
      go_ret
      exact ⟨ret_bool (by rw [hE1.out]; rfl), hE2.out⟩
theorem normal3 (p : Int) (b cap : Nat) (x0 x1 x2 : Int) (w : World) (hp : isP p = true) (h0 : w.cell? ⟨b, 0, none⟩ = some (.int .i64 x0)) (h1 : w.cell? ⟨b, 1, none⟩ = some (.int .i64 x1)) (h2 : w.cell? ⟨b, 2, none⟩ = some (.int .i64 x2)) (f0 : w.frozen? ⟨b, 0, none⟩ = false) (f1 : w.frozen? ⟨b, 1, none⟩ = false) (f2 : w.frozen? ⟨b, 2, none⟩ = false) :
    Calls Try.prog 102 #[.int .i64 p, .slice (some ⟨b, 0, none⟩) 3 cap] w fun e w' => e = .returned (.bool (!(fac p [x0, x1, x2] == 0))) ∧ (((w.setCell ⟨b, 0, none⟩ (.int .i64 (nr p (fac p [x0, x1, x2]) x0))).setCell ⟨b, 1, none⟩ (.int .i64 (nr p (fac p [x0, x1, x2]) x1))).setCell ⟨b, 2, none⟩ (.int .i64 (nr p (fac p [x0, x1, x2]) x2))) = w' :=
  normal_any p b 0 cap [x0, x1, x2] w hp (rd3 h0 h1 h2) (fun i hi => by
    match i, hi with
    | 0, _ => exact f0
    | 1, _ => exact f1
    | 2, _ => exact f2
    | i + 3, hi => simp at hi; omega) (by simp)
theorem normal4 (p : Int) (b cap : Nat) (x0 x1 x2 x3 : Int) (w : World) (hp : isP p = true) (h0 : w.cell? ⟨b, 0, none⟩ = some (.int .i64 x0)) (h1 : w.cell? ⟨b, 1, none⟩ = some (.int .i64 x1)) (h2 : w.cell? ⟨b, 2, none⟩ = some (.int .i64 x2)) (h3 : w.cell? ⟨b, 3, none⟩ = some (.int .i64 x3)) (f0 : w.frozen? ⟨b, 0, none⟩ = false) (f1 : w.frozen? ⟨b, 1, none⟩ = false) (f2 : w.frozen? ⟨b, 2, none⟩ = false) (f3 : w.frozen? ⟨b, 3, none⟩ = false) :
    Calls Try.prog 102 #[.int .i64 p, .slice (some ⟨b, 0, none⟩) 4 cap] w fun e w' => e = .returned (.bool (!(fac p [x0, x1, x2, x3] == 0))) ∧ ((((w.setCell ⟨b, 0, none⟩ (.int .i64 (nr p (fac p [x0, x1, x2, x3]) x0))).setCell ⟨b, 1, none⟩ (.int .i64 (nr p (fac p [x0, x1, x2, x3]) x1))).setCell ⟨b, 2, none⟩ (.int .i64 (nr p (fac p [x0, x1, x2, x3]) x2))).setCell ⟨b, 3, none⟩ (.int .i64 (nr p (fac p [x0, x1, x2, x3]) x3))) = w' :=
  normal_any p b 0 cap [x0, x1, x2, x3] w hp (rd4 h0 h1 h2 h3) (fun i hi => by
    match i, hi with
    | 0, _ => exact f0
    | 1, _ => exact f1
    | 2, _ => exact f2
    | 3, _ => exact f3
    | i + 4, hi => simp at hi; omega) (by simp)
theorem normal6 (p : Int) (b cap : Nat) (x0 x1 x2 x3 x4 x5 : Int) (w : World) (hp : isP p = true) (h0 : w.cell? ⟨b, 0, none⟩ = some (.int .i64 x0)) (h1 : w.cell? ⟨b, 1, none⟩ = some (.int .i64 x1)) (h2 : w.cell? ⟨b, 2, none⟩ = some (.int .i64 x2)) (h3 : w.cell? ⟨b, 3, none⟩ = some (.int .i64 x3)) (h4 : w.cell? ⟨b, 4, none⟩ = some (.int .i64 x4)) (h5 : w.cell? ⟨b, 5, none⟩ = some (.int .i64 x5)) (f0 : w.frozen? ⟨b, 0, none⟩ = false) (f1 : w.frozen? ⟨b, 1, none⟩ = false) (f2 : w.frozen? ⟨b, 2, none⟩ = false) (f3 : w.frozen? ⟨b, 3, none⟩ = false) (f4 : w.frozen? ⟨b, 4, none⟩ = false) (f5 : w.frozen? ⟨b, 5, none⟩ = false) :
    Calls Try.prog 102 #[.int .i64 p, .slice (some ⟨b, 0, none⟩) 6 cap] w fun e w' => e = .returned (.bool (!(fac p [x0, x1, x2, x3, x4, x5] == 0))) ∧ ((((((w.setCell ⟨b, 0, none⟩ (.int .i64 (nr p (fac p [x0, x1, x2, x3, x4, x5]) x0))).setCell ⟨b, 1, none⟩ (.int .i64 (nr p (fac p [x0, x1, x2, x3, x4, x5]) x1))).setCell ⟨b, 2, none⟩ (.int .i64 (nr p (fac p [x0, x1, x2, x3, x4, x5]) x2))).setCell ⟨b, 3, none⟩ (.int .i64 (nr p (fac p [x0, x1, x2, x3, x4, x5]) x3))).setCell ⟨b, 4, none⟩ (.int .i64 (nr p (fac p [x0, x1, x2, x3, x4, x5]) x4))).setCell ⟨b, 5, none⟩ (.int .i64 (nr p (fac p [x0, x1, x2, x3, x4, x5]) x5))) = w' :=
  normal_any p b 0 cap [x0, x1, x2, x3, x4, x5] w hp (rd6 h0 h1 h2 h3 h4 h5) (fun i hi => by
    match i, hi with
    | 0, _ => exact f0
    | 1, _ => exact f1
    | 2, _ => exact f2
    | 3, _ => exact f3
    | 4, _ => exact f4
    | 5, _ => exact f5
    | i + 6, hi => simp at hi; omega) (by simp)
theorem normal9 (p : Int) (b cap : Nat) (x0 x1 x2 x3 x4 x5 x6 x7 x8 : Int) (w : World) (hp : isP p = true) (h0 : w.cell? ⟨b, 0, none⟩ = some (.int .i64 x0)) (h1 : w.cell? ⟨b, 1, none⟩ = some (.int .i64 x1)) (h2 : w.cell? ⟨b, 2, none⟩ = some (.int .i64 x2)) (h3 : w.cell? ⟨b, 3, none⟩ = some (.int .i64 x3)) (h4 : w.cell? ⟨b, 4, none⟩ = some (.int .i64 x4)) (h5 : w.cell? ⟨b, 5, none⟩ = some (.int .i64 x5)) (h6 : w.cell? ⟨b, 6, none⟩ = some (.int .i64 x6)) (h7 : w.cell? ⟨b, 7, none⟩ = some (.int .i64 x7)) (h8 : w.cell? ⟨b, 8, none⟩ = some (.int .i64 x8)) (f0 : w.frozen? ⟨b, 0, none⟩ = false) (f1 : w.frozen? ⟨b, 1, none⟩ = false) (f2 : w.frozen? ⟨b, 2, none⟩ = false) (f3 : w.frozen? ⟨b, 3, none⟩ = false) (f4 : w.frozen? ⟨b, 4, none⟩ = false) (f5 : w.frozen? ⟨b, 5, none⟩ = false) (f6 : w.frozen? ⟨b, 6, none⟩ = false) (f7 : w.frozen? ⟨b, 7, none⟩ = false) (f8 : w.frozen? ⟨b, 8, none⟩ = false) :
    Calls Try.prog 102 #[.int .i64 p, .slice (some ⟨b, 0, none⟩) 9 cap] w fun e w' => e = .returned (.bool (!(fac p [x0, x1, x2, x3, x4, x5, x6, x7, x8] == 0))) ∧ (((((((((w.setCell ⟨b, 0, none⟩ (.int .i64 (nr p (fac p [x0, x1, x2, x3, x4, x5, x6, x7, x8]) x0))).setCell ⟨b, 1, none⟩ (.int .i64 (nr p (fac p [x0, x1, x2, x3, x4, x5, x6, x7, x8]) x1))).setCell ⟨b, 2, none⟩ (.int .i64 (nr p (fac p [x0, x1, x2, x3, x4, x5, x6, x7, x8]) x2))).setCell ⟨b, 3, none⟩ (.int .i64 (nr p (fac p [x0, x1, x2, x3, x4, x5, x6, x7, x8]) x3))).setCell ⟨b, 4, none⟩ (.int .i64 (nr p (fac p [x0, x1, x2, x3, x4, x5, x6, x7, x8]) x4))).setCell ⟨b, 5, none⟩ (.int .i64 (nr p (fac p [x0, x1, x2, x3, x4, x5, x6, x7, x8]) x5))).setCell ⟨b, 6, none⟩ (.int .i64 (nr p (fac p [x0, x1, x2, x3, x4, x5, x6, x7, x8]) x6))).setCell ⟨b, 7, none⟩ (.int .i64 (nr p (fac p [x0, x1, x2, x3, x4, x5, x6, x7, x8]) x7))).setCell ⟨b, 8, none⟩ (.int .i64 (nr p (fac p [x0, x1, x2, x3, x4, x5, x6, x7, x8]) x8))) = w' :=
  normal_any p b 0 cap [x0, x1, x2, x3, x4, x5, x6, x7, x8] w hp (rd9 h0 h1 h2 h3 h4 h5 h6 h7 h8) (fun i hi => by
    match i, hi with
    | 0, _ => exact f0
    | 1, _ => exact f1
    | 2, _ => exact f2
    | 3, _ => exact f3
    | 4, _ => exact f4
    | 5, _ => exact f5
    | 6, _ => exact f6
    | 7, _ => exact f7
    | 8, _ => exact f8
    | i + 9, hi => simp at hi; omega) (by simp)
end Go.Proofs.Ytjfabhkgmelmgaa
