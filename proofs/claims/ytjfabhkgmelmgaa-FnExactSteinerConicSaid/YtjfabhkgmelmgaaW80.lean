/- The reference's helpers of the reduced list: a copy of a row, its leading place, a row less a multiple of another one; p is a prime. -/
import Derived.Test.YtjfabhkgmelmgaaI7
import Derived.Test.YtjfabhkgmelmgaaP13
import Derived.Test.YtjfabhkgmelmgaaW6
import Derived.StillTail
import Derived.Deep.RegionHeld3
import Derived.Deep.DeepCutAuto
namespace Go.Proofs.Ytjfabhkgmelmgaa
open Go.RowKit
set_option linter.unusedSimpArgs false
set_option linter.unusedVariables false
set_option maxRecDepth 100000

set_option maxHeartbeats 1000000 in
theorem l01Own_any (b off c : Nat) (r : List Int) (w : World) (hbl : b < w.heap.size) (hR : Rd w b off r) (hm : r.length ≤ 1000000) :
    Calls Try.prog 128 #[.slice (some ⟨b, off, none⟩) r.length c] w fun e w' => ∃ v, e = .returned v ∧ OwnI w' w.heap.size v r ∧ Below w.heap.size w w' := by
  have h0 : OwnI (w.alloc (.cells #[] 2)) w.heap.size (.slice (some ⟨w.heap.size, 0, none⟩) 0 0) [] := OwnI.made0 rfl (Nat.le_refl _)
  have hR2 : Rd (w.alloc (.cells #[] 2)) b off r := fun i x hx => keepA _ (hR i x hx)
  go_enter Try.func128, Try.ntmps128
  go_wp2_with (at_builtin; refine append_ints w.heap.size _ [] r h0 rfl _ _ rfl rfl rfl hR2 (by simp) (by omega) (by simp) ?_; intro v' w1 hown1 hB1 hz1 hg1)
  go_ret
  exact ⟨_, rfl, by simpa using hown1, hB1 _ _ ((Below.refl _ _).alloc (Nat.le_refl _) _) (Nat.le_refl _)⟩
def ldP (r : List Int) (k : Nat) : Prop := ∀ i, i < k → vat r i = 0
theorem Rd.vat {w : World} {b off : Nat} {r : List Int} (h : Rd w b off r) {k : Nat} (hk : k < r.length) : w.cell? ⟨b, off + k, none⟩ = some (.int .i64 (vat r k)) := h k _ (by rw [List.getElem?_eq_getElem hk]; congr 1; exact (vat_get (List.getElem?_eq_getElem hk)).symm)
set_option maxHeartbeats 1000000 in
theorem l01Lead_any (b off c : Nat) (r : List Int) (w : World) (hR : Rd w b off r) (hm : r.length ≤ 1000000) :
    Calls Try.prog 130 #[.slice (some ⟨b, off, none⟩) r.length c] w fun e w' => e = .returned (.int .i64 (ldI r)) ∧ w = w' := by
  go_enter Try.func130, Try.ntmps130
  go_wp2
  go_loop [3] (fun i => ∃ k : Nat, k ≤ r.length ∧ i = .int .i64 k ∧ Hid (ldP r k)) (fun i => r.length - (intOf i).toNat)
  case atStart => exact ⟨0, Nat.zero_le _, rfl, fun i hi => absurd hi (Nat.not_lt_zero _)⟩
  case round =>
    obtain ⟨k, hk, rfl, hF⟩ := hrel
    by_cases hlt : k < r.length
    · have hc := hR.vat hlt
      by_cases h0 : vat r k = 0
      · have hn : Hid (ldP r (k + 1)) := fun i hi => (if e : i = k then (by rw [e]; exact h0) else hF.out i (by omega))
        rw [h0] at hc
        clear h0
        go_wp2
        go_round
        case rel => exact ⟨k + 1, by omega, by go_num, hn⟩
        case measure => simp [intOf]; omega
      · have hn : Hid (ldI r = (k : Int)) := ldI_some (ldr_eq h0 hF.out)
        generalize vat r k = x at *
        go_wp2
        go_ret
        exact ⟨by rw [hn.out]; rfl, rfl⟩
    · have hn : Hid (ldI r = -1) := ldI_none (by
        cases hq : ldr r with
        | none => rfl
        | some q =>
          obtain ⟨h1, h2, _⟩ := ldr_some hq
          exact absurd (hF.out q (by omega)) h2)
      go_wp2
      go_ret
      exact ⟨by rw [hn.out]; rfl, rfl⟩
theorem less_none (p : Int) (a b : List Int) (k : Int) : (less p a b k).take 0 = [] := rfl
set_option maxHeartbeats 2000000 in
theorem l01Less_any (p m : Int) (b off c b2 off2 c2 n : Nat) (r s : List Int) (w : World) (hp : isP p = true) (hR : Rd w b off r) (hS : Rd w b2 off2 s) (hbl : b < w.heap.size) (hbl2 : b2 < w.heap.size) (hr : okR p n r) (hs : okR p n s) (h0 : 0 ≤ m) (h1 : m < p) (hm : n ≤ 1000) :
    Calls Try.prog 129 #[.int .i64 p, .slice (some ⟨b, off, none⟩) r.length c, .slice (some ⟨b2, off2, none⟩) s.length c2, .int .i64 m] w fun e w' => ∃ v, e = .returned v ∧ OwnI w' w.heap.size v (less p r s m) ∧ Below w.heap.size w w' := by
  have k1 := isP_lo hp
  have k2 := isP_hi hp
  have HRr := Lib.hid (fun i => vat_rng hp hr i)
  have HRs := Lib.hid (fun i => vat_rng hp hs i)
  have hlen := less_len p r s m
  have hrl := Lib.hid hr.1
  have hsl := Lib.hid (hs.1.trans hr.1.symm)
  have hrm : r.length ≤ 1000 := by have := hr.1; omega
  clear hr hs
  have HP := Lib.hid hp; clear hp
  go_enter Try.func129, Try.ntmps129
  go_wp2
  go_loopw [9, 10] (fun v i wr => ∃ k : Nat, k ≤ r.length ∧ i = .int .i64 k ∧ OwnI wr w.heap.size v ((less p r s m).take k) ∧ Below w.heap.size w wr) (fun _ i _ => r.length - (intOf i).toNat)
  case atStart => exact ⟨0, Nat.zero_le _, rfl, OwnI.made0 rfl (Nat.le_refl _), by (repeat' (first | (with_reducible exact Below.refl _ _) | (with_reducible assumption) | (with_reducible refine Below.alloc ?_ ?_ _) | (with_reducible refine Below.drew ?_) | (with_reducible refine below_drewN ?_ _) | (with_reducible refine Below.setCell ?_ ?_ _) | (refine Below.step ?_ (by with_reducible assumption) ?_) | go_size))⟩
  case round =>
    obtain ⟨k, hk, rfl, hown, hB⟩ := hrel
    have hBz := hB.size
    by_cases hlt : k < r.length
    · have e1 := (hR.below hB hbl).vat hlt
      have e2 := (hS.below hB hbl2).vat (show k < s.length by rw [hsl.out]; exact hlt)
      have rg1 := HRr.out k
      have rg2 := HRs.out k
      have hnext : Hid ((less p r s m).take (k + 1) = (less p r s m).take k ++ [(vat r k - m * vat s k) % p]) := less_take hlt
      have hlenk : Hid (((less p r s m).take k).length ≤ 1000) := by show _ ≤ _; rw [List.length_take]; omega
      have hd : k < s.length := by rw [hsl.out]; exact hlt
      clear hR hS
      generalize vat r k = x at *
      generalize vat s k = y at *
      have hmb := mul_bd (a := m) (b := y) (A := 12) (B := 12) h0 (by omega) rg2.1 (by omega)
      have hw1 : IntKind.i64.wrap (m * y) = m * y := by go_arith
      have hw2 : IntKind.i64.wrap (x - m * y) = x - m * y := by go_arith
      have hmd := Lib.hid ((l01Mod_any p (x - m * y) wr.drew k1 k2).mono fun _ _ h => And.intro h.1 h.2.symm)
      obtain ⟨z, hz⟩ : ∃ z, Hid ((x - m * y) % p = z) := ⟨_, rfl⟩
      rw [hz.out] at hmd hnext
      have hlk := hlenk.out
      have htk : Hid (((less p r s m).take k).length = k) := by show _ = _; rw [List.length_take]; omega
      have hOa : OwnI (wr.alloc (.cells #[.int .i64 z] 2)).drew w.heap.size u9 ((less p r s m).take k) := OwnI.alloc hown _
      have hNa : Box 2 (wr.alloc (.cells #[.int .i64 z] 2)).drew wr.heap.size [z] := Box.new [z] rfl
      have hne1 : some b ≠ u9.ownBlock := fun e => by have := (World.ownsRow.lt hown b e.symm).1; omega
      have hne2 : some b2 ≠ u9.ownBlock := fun e => by have := (World.ownsRow.lt hown b2 e.symm).1; omega
      clear HRr HRs rg1 rg2 hmb
      go_wp2
      go_region_held3 (fun w' => w'.cell? ⟨b, off + k, none⟩ = some (.int .i64 x) ∧ w'.cell? ⟨b2, off2 + k, none⟩ = some (.int .i64 y)) ((go_split_ands; (repeat (any_goals (with_reducible apply And.intro))) <;> (first | (with_reducible assumption) | (with_reducible exact keepD (by with_reducible assumption)) | (with_reducible exact keepD (keepA _ (by with_reducible assumption))) | (with_reducible exact True.intro) | ((refine hgr.cell ?_ ?_); (first | (with_reducible assumption) | (with_reducible exact keepD (keepA _ (by with_reducible assumption)))); (first | exact hne1 | exact hne2))))) ((first | (go_at_call 69; refine hmd.out.mono ?_; rintro e w1 ⟨rfl, rfl⟩) | (refine appI_step rfl _ _ rfl w.heap.size _ ((less p r s m).take k) [z] rfl hOa rfl hNa rfl (by decide) (by (try simp only [List.length_singleton]); omega) (by go_size) ?_; intro g1 cap1 wq1 hown1 hgr hB1)))
      rw [htk.out] at hown1
      have hown2 : OwnI wq1 w.heap.size (.slice (some ⟨g1, 0, none⟩) (k + 1) cap1) ((less p r s m).take (k + 1)) := by rw [hnext.out]; exact hown1
      have hB2 := hB1 _ _ (Below.drew (Below.alloc hB hBz _)) (Nat.le_refl _)
      clear hown1 hB1 hgr hOa hNa hown hB
      go_wp2
      go_roundw
      case rel => exact ⟨k + 1, by omega, by go_num, hown2, hB2⟩
      case measure => simp [intOf]; omega
    · have hown' : OwnI wr w.heap.size u9 (less p r s m) := by rwa [List.take_of_length_le (by omega)] at hown
      clear hown hR hS
      go_wp2
      go_ret
      exact ⟨_, rfl, hown', hB⟩
end Go.Proofs.Ytjfabhkgmelmgaa
