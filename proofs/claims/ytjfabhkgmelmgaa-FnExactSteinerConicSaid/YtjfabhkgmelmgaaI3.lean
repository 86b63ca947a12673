/- Slices of numbers compared, looked at, and asked whether they are small; up to a million numbers. -/
import Derived.Test.YtjfabhkgmelmgaaI2
import Derived.Deep.RegionWith
import Derived.Deep.RegionHeld3
namespace Go.Proofs.Ytjfabhkgmelmgaa
open Go.RowKit
set_option linter.unusedSimpArgs false
set_option linter.unusedVariables false
set_option maxRecDepth 100000

set_option maxHeartbeats 1000000 in
theorem toInt64S_nil (v : Value) (w : World) (h : SlI w v []) :
    Calls Try.prog 60 #[v, .bool true] w fun e w' => e = .returned (.slice none 0 0) ∧ w = w' := by
  obtain ⟨a, cap, rfl, hcap, hr⟩ := h
  go_enter Try.func60, Try.ntmps60
  go_wp2
  go_returns
  exact ⟨rfl, rfl⟩
theorem SlI.nil (w : World) : SlI w (.slice none 0 0) [] := ⟨none, 0, rfl, Nat.le_refl _, .inl rfl⟩
theorem toInt64S_bare (v : Value) (zs : List Int) (w : World) (h : SlI w v zs) (hm : zs.length ≤ 1000000) :
    Calls Try.prog 60 #[v, .bool true] w fun e w' => ∃ v', e = .returned v' ∧ SlI w' v' zs ∧ Below w.heap.size w w' := by
  by_cases hz : zs = []
  · subst hz
    exact (toInt64S_nil v w h).mono fun e w' ⟨he, hw⟩ => ⟨_, he, SlI.nil w', by subst hw; exact Below.refl _ _⟩
  · exact (toInt64S_copy v zs true w h hm (fun _ => hz)).mono fun e w' ⟨v', he, hc, hb⟩ => ⟨v', he, hc.sl, hb⟩
set_option maxHeartbeats 1000000 in
theorem eqInt64S_same (b g c1 c2 : Nat) (zs : List Int) (n : Nat) (w : World) (h1 : Rd w b 0 zs) (h2 : Rd w g 0 zs) (hn : zs.length = n) (hm : n ≤ 3000000) :
    Calls Try.prog 65 #[.slice (some ⟨b, 0, none⟩) n c1, .slice (some ⟨g, 0, none⟩) n c2] w fun e w' => e = .returned (.bool true) ∧ Below w.heap.size w w' := by
  have HN := Lib.hid hn; clear hn
  have H1 := Lib.hid h1
  have H2 := Lib.hid h2
  clear h1 h2
  go_enter Try.func65, Try.ntmps65
  go_wp2
  go_loopw [5] (fun i wr => ∃ k : Nat, k ≤ n ∧ i = .int .i64 k ∧ Below w.heap.size w wr) (fun i _ => n - (intOf i).toNat)
  case atStart => exact ⟨0, Nat.zero_le _, rfl, Below.refl _ _⟩
  case round =>
    obtain ⟨k, hk, rfl, hC⟩ := hrel
    by_cases hlt : k < n
    · have hkn : Hid (k < zs.length) := by show _ < _; rw [HN.out]; exact hlt
      have p1 := keepC hC (H1.out k _ (List.getElem?_eq_getElem hkn.out))
      have p2 := keepC hC (H2.out k _ (List.getElem?_eq_getElem hkn.out))
      simp only [Nat.zero_add] at p1 p2
      generalize zs[k]'(hkn.out) = z at *
      go_wp2
      go_quiet (fail)
      go_wp2
      go_roundw
      case rel => exact ⟨k + 1, by omega, by go_num, by (repeat' (first | (with_reducible exact Below.refl _ _) | (with_reducible assumption) | (with_reducible refine Below.alloc ?_ ?_ _) | (with_reducible refine Below.drew ?_) | (with_reducible refine below_drewN ?_ _) | (with_reducible refine Below.setCell ?_ ?_ _) | (refine Below.step ?_ (by with_reducible assumption) ?_) | go_size))⟩
      case measure => simp [intOf]; omega
    · go_wp2
      go_ret
      exact ⟨rfl, hC⟩
set_option maxHeartbeats 1000000 in
theorem intactInt64S_same (x y : Value) (bx bY : Nat) (zs : List Int) (w : World) (hx : CopyI w bx x zs) (hy : CopyI w bY y zs) (hm : zs.length ≤ 1000000) :
    Calls Try.prog 66 #[x, y] w fun e w' => e = .returned (.bool true) ∧ Below w.heap.size w w' := by
  obtain ⟨g, rfl, _, _, h1, _⟩ := hx
  obtain ⟨g', rfl, _, _, h2, _⟩ := hy
  have hr := room_le zs.length
  have hl : (zs ++ List.replicate (room zs.length) magic).length = zs.length + room zs.length := by simp
  have HE : Hid (∀ w' : World, Below w.heap.size w w' → Calls Try.prog 65 #[.slice (some ⟨g, 0, none⟩) (zs.length + room zs.length) (zs.length + room zs.length), .slice (some ⟨g', 0, none⟩) (zs.length + room zs.length) (zs.length + room zs.length)] w' fun e w'' => e = .returned (.bool true) ∧ Below w'.heap.size w' w'') :=
    fun w' hB => eqInt64S_same g g' _ _ _ _ w' (fun i z hi => keepC hB (h1 i z hi)) (fun i z hi => keepC hB (h2 i z hi)) hl (by omega)
  have hrb := fun w' => roomBehind_any zs.length w' hm
  clear h1 h2 hl
  generalize room zs.length = r at *
  generalize zs.length = n at *
  have hw : IntKind.i64.wrap ((n : Int) + (r : Int)) = ((n + r : Nat) : Int) := by
    have : ((n + r : Nat) : Int) = (n : Int) + (r : Int) := by omega
    rw [this]; go_arith
  generalize hN : n + r = N at *
  have hs1 : (0 : Int) ≤ (N : Int) := by omega
  have hs2 : (N : Int) ≤ (N : Int) := Int.le_refl _
  have hs3 : ((N : Int)).toNat = N := by omega
  clear hN
  go_enter Try.func66, Try.ntmps66
  go_wp2_with (go_at_call 59; refine (hrb _).mono ?_; rintro e w' ⟨rfl, rfl⟩)
  go_region_held3 (fun w' => Below w.heap.size w w') ((first | (with_reducible assumption) | (with_reducible exact Below.drew (Below.refl _ _)) | (with_reducible exact Below.refl _ _) | (with_reducible exact Below.drew (by with_reducible assumption)) | (with_reducible exact keepB (by with_reducible assumption) (by with_reducible assumption) (Nat.le_refl _)))) ((go_at_call 65; refine (HE.out _ (by first | assumption | exact Below.drew (by assumption) | exact Below.drew (Below.refl _ _))).mono ?_; rintro e w1 ⟨rfl, hb1⟩))
  all_goals (go_wp2_with fail; go_returns; exact ⟨rfl, by assumption⟩)
theorem all_no {f : Int → Bool} {zs : List Int} {k : Nat} {x : Int} (h : zs[k]? = some x) (hx : f x = false) : zs.all f = false := by
  rw [← Bool.not_eq_true, List.all_eq_true]
  intro h'
  have := h' x (List.mem_of_getElem? h)
  rw [hx] at this
  cases this
def small (zs : List Int) : Bool := zs.all (fun z => inB z (-1000) 1000)
set_option maxHeartbeats 1000000 in
theorem areSmall_any (v : Value) (zs : List Int) (m : Nat) (w : World) (h : SlI w v zs) (hm : zs.length ≤ 1000000) (hm2 : m ≤ 100) :
    Calls Try.prog 72 #[v, .int .i64 (m : Int)] w fun e w' => e = .returned (.bool (small zs && decide (zs.length = m))) ∧ w = w' := by
  obtain ⟨a, cap, rfl, hcap, hr⟩ := h
  have HR := Lib.hid hr; clear hr
  have HL : Hid (∀ k, k < zs.length → ∃ b off, a = some ⟨b, off, none⟩ ∧ b < w.heap.size ∧ Rd w b off zs) := by
    intro k hk
    rcases HR.out with he | h
    · rw [he] at hk; simp at hk
    · exact h
  clear HR
  go_enter Try.func72, Try.ntmps72
  go_wp2
  go_loop [9] (fun i => ∃ k : Nat, k ≤ zs.length ∧ i = .int .i64 k ∧ small (zs.take k) = true) (fun i => zs.length - (intOf i).toNat)
  case atStart => exact ⟨0, Nat.zero_le _, rfl, rfl⟩
  case round =>
    obtain ⟨k, hk, rfl, hrel⟩ := hrel
    have H := Lib.hid hrel; clear hrel
    by_cases hlt : k < zs.length
    · obtain ⟨b, off, rfl, hbl, hc⟩ := HL.out k hlt
      obtain ⟨x, hcell, hx⟩ := hc.get hlt
      cases hb : inB x (-1000) 1000
      · have hn : Hid (small zs = false) := all_no hx.out hb
        go_wp2_with (go_at_call 62; refine (within_any _ _ _ _).mono ?_; rintro e w' ⟨rfl, rfl⟩)
        go_ret
        exact ⟨ret_bool (by rw [hn.out]; rfl), rfl⟩
      · have hn : Hid (small (zs.take (k + 1)) = true) := by show _ = _; unfold small; rw [all_snoc hx.out, hb, Bool.and_true]; exact H.out
        go_wp2_with (go_at_call 62; refine (within_any _ _ _ _).mono ?_; rintro e w' ⟨rfl, rfl⟩)
        go_round
        case rel => exact ⟨k + 1, by omega, by go_num, hn.out⟩
        case measure => simp [intOf]; omega
    · have hn : Hid (small zs = true) := by show _ = _; have := H.out; rwa [List.take_of_length_le (by omega)] at this
      go_wp2
      go_ret
      exact ⟨ret_bool (by rw [hn.out, Bool.true_and, Bool.eq_iff_iff]; simp; try omega), rfl⟩
end Go.Proofs.Ytjfabhkgmelmgaa
