/- ReduceRows: what the two functions return; the argument has no more than a million numbers. -/
import Derived.Test.YtjfabhkgmelmgaaW81
import Derived.Test.YtjfabhkgmelmgaaW82
import Derived.Test.YtjfabhkgmelmgaaW1
import Derived.Test.YtjfabhkgmelmgaaI5
namespace Go.Proofs.Ytjfabhkgmelmgaa
open Go.RowKit
set_option linter.unusedSimpArgs false
set_option linter.unusedVariables false
set_option maxRecDepth 100000

def rowB (p n : Int) (r : List Int) : Bool := decide ((r.length : Int) = n) && numsB p r
def rowsB (p n : Int) (rows : List (List Int)) : Bool := rows.all (rowB p n)
def rrB (p n : Int) (rows : List (List Int)) : Bool := isP p && (inB n 0 60 && (rowsB p n rows && decide (rows.length ≤ 60)))
def rrL (p n : Int) (rows : List (List Int)) : List (List Int) := if rrB p n rows = true then ech p rows else []
def rrC (p n : Int) (rows : List (List Int)) : Int := if rrB p n rows = true then 0 else 2
theorem rowsB_snoc {p n : Int} {rows : List (List Int)} {k : Nat} {r : List Int} (h : rows[k]? = some r) : rowsB p n (rows.take (k + 1)) = (rowsB p n (rows.take k) && rowB p n r) := by
  unfold rowsB
  rw [List.take_add_one, h, List.all_append]
  simp
theorem rowsB_bad {p n : Int} {rows : List (List Int)} {k : Nat} {r : List Int} (h : rows[k]? = some r) (hb : rowB p n r = false) : rowsB p n rows = false := by
  rw [← Bool.not_eq_true]
  intro h'
  unfold rowsB at h'
  rw [List.all_eq_true] at h'
  rw [h' r (List.mem_of_getElem? h)] at hb
  cases hb
theorem rowsB_ok {p : Int} {n : Nat} {rows : List (List Int)} (h : rowsB p n rows = true) : ∀ r ∈ rows, okR p n r := by
  intro r hr
  unfold rowsB at h
  rw [List.all_eq_true] at h
  have h1 := h r hr
  unfold rowB at h1
  rw [Bool.and_eq_true] at h1
  refine ⟨by have := of_decide_eq_true h1.1; omega, fun x hx => ?_⟩
  have := numsB_mem h1.2 x hx
  omega
theorem rr_no {p n : Int} {rows : List (List Int)} (h : rrB p n rows = false) : rrL p n rows = [] ∧ rrC p n rows = 2 := by
  unfold rrL rrC; rw [h]; exact ⟨rfl, rfl⟩
theorem rr_yes {p n : Int} {rows : List (List Int)} (h : rrB p n rows = true) : rrL p n rows = ech p rows ∧ rrC p n rows = 0 := by
  unfold rrL rrC; rw [h]; exact ⟨rfl, rfl⟩
theorem rowB_len {p n : Int} {r : List Int} (h : ¬ (r.length : Int) = n) : rowB p n r = false := by unfold rowB; rw [decide_eq_false h]; rfl
theorem rowB_nums {p n : Int} {r : List Int} (h : numsB p r = false) : rowB p n r = false := by unfold rowB; rw [h, Bool.and_false]
theorem rowB_yes {p n : Int} {r : List Int} (h : (r.length : Int) = n) (h2 : numsB p r = true) : rowB p n r = true := by unfold rowB; rw [decide_eq_true h, h2]; rfl
theorem areNumbers_sl (p : Int) (v : Value) (zs : List Int) (w : World) (hp : -1000 ≤ p) (hp2 : p ≤ 1000) (h : SlI w v zs) (hm : zs.length ≤ 1000000) :
    Calls Try.prog 132 #[.int .i64 p, v] w fun e w' => e = .returned (.bool (numsB p zs)) ∧ w = w' := by
  obtain ⟨a, cap, rfl, hcap, h⟩ := h
  rcases h with rfl | ⟨b, off, rfl, hl, hr⟩
  · go_enter Try.func132, Try.ntmps132
    go_wp2
    go_rounds 1
    go_ret
    exact ⟨rfl, rfl⟩
  · exact areNumbers_any p b off cap zs w hp hp2 hr hm
set_option maxHeartbeats 2000000 in
theorem areRows_any (p n : Int) (cap : Nat) (a : Option Addr) (rows : List (List Int)) (w : World) (hp : isP p = true) (hA : RowsAt w a rows) (hl : rows.length ≤ 1000000) (hm : ∀ r ∈ rows, r.length ≤ 1000000) :
    Calls Try.prog 63 #[.int .i64 p, .int .i64 n, .slice a rows.length cap] w fun e w' => e = .returned (.bool (rowsB p n rows && decide (rows.length ≤ 60))) ∧ w = w' := by
  have k1 := isP_lo hp
  have k2 := isP_hi hp
  have HA := Lib.hid hA
  have HM := Lib.hid hm
  clear hA hp hm
  go_enter Try.func63, Try.ntmps63
  go_wp2
  go_loop [11] (fun i => ∃ k : Nat, k ≤ rows.length ∧ i = .int .i64 k ∧ Hid (rowsB p n (rows.take k) = true)) (fun i => rows.length - (intOf i).toNat)
  case atStart => exact ⟨0, Nat.zero_le _, rfl, rfl⟩
  case round =>
    obtain ⟨k, hk, rfl, hF⟩ := hrel
    by_cases hlt : k < rows.length
    · obtain ⟨r, hr⟩ : ∃ r, rows[k]? = some r := ⟨_, List.getElem?_eq_getElem hlt⟩
      obtain ⟨b, off, ua, uc, rfl, hc, hsl⟩ := HA.out.at_ (Below.refl w.heap.size w) hr
      have hrm := HM.out r (List.mem_of_getElem? hr)
      have han := Lib.hid (areNumbers_sl p _ r w (by omega) (by omega) hsl hrm)
      have HR := Lib.hid hr
      clear hsl hr
      by_cases hln : (r.length : Int) = n
      · cases hb : numsB p r
        · have hn : Hid (rowsB p n rows = false) := rowsB_bad HR.out (rowB_nums hb)
          rw [hb] at han
          clear hb
          go_wp2_with (go_at_call 132; refine han.out.mono ?_; rintro e w1 ⟨rfl, rfl⟩)
          go_ret
          exact ⟨by rw [hn.out]; rfl, rfl⟩
        · have hn : Hid (rowsB p n (rows.take (k + 1)) = true) := by show _ = _; rw [rowsB_snoc HR.out, hF.out, rowB_yes hln hb]; rfl
          rw [hb] at han
          clear hb
          go_wp2_with (go_at_call 132; refine han.out.mono ?_; rintro e w1 ⟨rfl, rfl⟩)
          go_round
          case rel => exact ⟨k + 1, by omega, by go_num, hn⟩
          case measure => simp [intOf]; omega
      · have hn : Hid (rowsB p n rows = false) := rowsB_bad HR.out (rowB_len hln)
        go_wp2
        go_ret
        exact ⟨by rw [hn.out]; rfl, rfl⟩
    · have hn : Hid (rowsB p n rows = true) := by show _ = _; have := hF.out; rwa [List.take_of_length_le (by omega)] at this
      by_cases h60 : rows.length ≤ 60
      · have h60' : (rows.length : Int) ≤ 60 := by omega
        have hd : Hid (decide (rows.length ≤ 60) = true) := decide_eq_true h60
        go_wp2
        go_ret
        exact ⟨by first | rfl | (rw [hn.out]; rfl) | (rw [hn.out, hd.out]; rfl), rfl⟩
      · have h60' : ¬ (rows.length : Int) ≤ 60 := by omega
        have hd : Hid (decide (rows.length ≤ 60) = false) := decide_eq_false h60
        go_wp2
        go_ret
        exact ⟨by first | rfl | (rw [hn.out]; rfl) | (rw [hn.out, hd.out]; rfl), rfl⟩
set_option maxHeartbeats 4000000 in
theorem ReduceRows_any (p n : Int) (v : Value) (rows : List (List Int)) (w : World) (h : SlSS w v rows) (hl : rows.length ≤ 1000000) (hm : ∀ r ∈ rows, r.length ≤ 1000000) :
    Calls Try.prog 16 #[.int .i64 p, .int .i64 n, v] w fun e w' => ∃ v', e = .returned (.tuple #[v', .int .i64 (rrC p n rows)]) ∧ RedV w' w.heap.size v' (rrL p n rows) ∧ Below w.heap.size w w' := by
  obtain ⟨a, cap, rfl, hcap, hrd⟩ := h.at_
  clear h
  have hE : Hid (rrB p n rows = (isP p && (inB n 0 60 && (rowsB p n rows && decide (rows.length ≤ 60))))) := rfl
  have hN : Hid (RedV w w.heap.size (.slice none 0 0) []) := .inl ⟨rfl, _, _, rfl⟩
  cases hp : isP p
  · rw [hp] at hE
    obtain ⟨e1, e2⟩ := rr_no hE.out
    rw [e1, e2]
    clear e1 e2 hrd hE
    have HP := Lib.hid hp; clear hp
    go_enter Try.func16, Try.ntmps16
    go_wp2_with (go_at_call 61; refine (isPrime_any p w).mono ?_; rw [HP.out]; rintro e w1 ⟨rfl, rfl⟩)
    go_ret2
    exact ⟨_, rfl, hN.out, Below.refl _ _⟩
  · have HP := Lib.hid hp
    rw [hp] at hE
    cases hi : inB n 0 60
    · rw [hi] at hE
      obtain ⟨e1, e2⟩ := rr_no hE.out
      rw [e1, e2]
      clear e1 e2 hrd hE hp
      have HI := Lib.hid hi; clear hi
      go_enter Try.func16, Try.ntmps16
      go_wp2_with (first | (go_at_call 61; refine (isPrime_any p w).mono ?_; rw [HP.out]; rintro e w1 ⟨rfl, rfl⟩) | (go_at_call 62; refine (within_any _ _ _ _).mono ?_; rw [HI.out]; rintro e w1 ⟨rfl, rfl⟩))
      go_ret2
      exact ⟨_, rfl, hN.out, Below.refl _ _⟩
    · have HI := Lib.hid hi
      rw [hi] at hE
      have hn : ∃ m : Nat, n = m ∧ m ≤ 60 := by
        unfold inB at hi
        rw [Bool.and_eq_true] at hi
        have h1 := of_decide_eq_true hi.1
        have h2 := of_decide_eq_true hi.2
        exact ⟨n.toNat, by omega, by omega⟩
      have har := areRows_any p n cap a rows w hp hrd hl hm
      cases hb : (rowsB p n rows && decide (rows.length ≤ 60))
      · rw [hb] at hE har
        obtain ⟨e1, e2⟩ := rr_no hE.out
        rw [e1, e2]
        have HAR := Lib.hid har
        clear e1 e2 hrd hE hp hi hn har hb
        go_enter Try.func16, Try.ntmps16
        go_wp2_with (first | (go_at_call 61; refine (isPrime_any p w).mono ?_; rw [HP.out]; rintro e w1 ⟨rfl, rfl⟩) | (go_at_call 62; refine (within_any _ _ _ _).mono ?_; rw [HI.out]; rintro e w1 ⟨rfl, rfl⟩) | (go_at_call 63; refine HAR.out.mono ?_; rintro e w1 ⟨rfl, rfl⟩))
        go_ret2
        exact ⟨_, rfl, hN.out, Below.refl _ _⟩
      · rw [hb] at hE har
        obtain ⟨e1, e2⟩ := rr_yes hE.out
        rw [e1, e2]
        obtain ⟨m, rfl, hm60⟩ := hn
        rw [Bool.and_eq_true] at hb
        have hrd2 := Lib.hid (reduced_any p m cap a rows w hp (rowsB_ok hb.1) hrd (by have := of_decide_eq_true hb.2; omega) (by omega))
        have HAR := Lib.hid har
        clear e1 e2 hrd hE hp hi har hb hN
        go_enter Try.func16, Try.ntmps16
        go_wp2_with (first | (go_at_call 61; refine (isPrime_any p w).mono ?_; rw [HP.out]; rintro e w1 ⟨rfl, rfl⟩) | (go_at_call 62; refine (within_any _ _ _ _).mono ?_; rw [HI.out]; rintro e w1 ⟨rfl, rfl⟩) | (go_at_call 63; refine HAR.out.mono ?_; rintro e w1 ⟨rfl, rfl⟩) | (go_at_call 64; refine hrd2.out.mono ?_; rintro e w1 ⟨v1, rfl, hv1, hb1⟩))
        go_ret2
        exact ⟨_, rfl, hv1, hb1⟩
set_option maxHeartbeats 4000000 in
theorem ReduceRows_spec (p n : Int) (b off cap : Nat) (rows : List (List Int)) (w : World) (hA : RowsP w b off rows) (hbl : b < w.heap.size) (hl : rows.length ≤ 1000000) (hm : ∀ r ∈ rows, r.length ≤ 1000000) :
    Calls Try.prog 14 #[.int .i64 p, .int .i64 n, .slice (some ⟨b, off, none⟩) rows.length cap] w fun e w' => ∃ v', e = .returned (.tuple #[v', .int .i64 (rrC p n rows)]) ∧ OwnSS w' w.heap.size v' (rrL p n rows) ∧ Below w.heap.size w w' := by
  have hE : Hid (rrB p n rows = (isP p && (inB n 0 60 && (rowsB p n rows && decide (rows.length ≤ 60))))) := rfl
  have hN : Hid (OwnSS w w.heap.size (.slice none 0 0) []) := ⟨[], rfl, World.ownsRow_nil w w.heap.size 80 1, by simp⟩
  cases hp : isP p
  · rw [hp] at hE
    obtain ⟨e1, e2⟩ := rr_no hE.out
    rw [e1, e2]
    clear e1 e2 hA hE
    have HP := Lib.hid hp; clear hp
    go_enter Try.func14, Try.ntmps14
    go_wp2_with (go_at_call 56; refine (l01Prime_any p w).mono ?_; rw [HP.out]; rintro e w1 ⟨rfl, rfl⟩)
    go_ret2
    exact ⟨_, rfl, hN.out, Below.refl _ _⟩
  have HP := Lib.hid hp
  rw [hp] at hE
  cases hi : inB n 0 60
  · rw [hi] at hE
    obtain ⟨e1, e2⟩ := rr_no hE.out
    rw [e1, e2]
    clear e1 e2 hA hE hp
    have HI := Lib.hid hi; clear hi
    go_enter Try.func14, Try.ntmps14
    go_wp2_with (first | (go_at_call 56; refine (l01Prime_any p w).mono ?_; rw [HP.out]; rintro e w1 ⟨rfl, rfl⟩) | (go_at_call 57; refine (l01In_any _ _ _ _).mono ?_; rw [HI.out]; rintro e w1 ⟨rfl, rfl⟩))
    go_ret2
    exact ⟨_, rfl, hN.out, Below.refl _ _⟩
  have HI := Lib.hid hi
  rw [hi] at hE
  have k1 := isP_lo hp
  have k2 := isP_hi hp
  by_cases h60 : 60 < rows.length
  · have hd : decide (rows.length ≤ 60) = false := decide_eq_false (by omega)
    rw [hd, Bool.and_false] at hE
    obtain ⟨e1, e2⟩ := rr_no hE.out
    rw [e1, e2]
    have h60' : (60 : Int) < rows.length := by omega
    clear e1 e2 hA hE hp hi hd
    go_enter Try.func14, Try.ntmps14
    go_wp2_with (first | (go_at_call 56; refine (l01Prime_any p w).mono ?_; rw [HP.out]; rintro e w1 ⟨rfl, rfl⟩) | (go_at_call 57; refine (l01In_any _ _ _ _).mono ?_; rw [HI.out]; rintro e w1 ⟨rfl, rfl⟩))
    go_ret2
    exact ⟨_, rfl, hN.out, Below.refl _ _⟩
  have hd : decide (rows.length ≤ 60) = true := decide_eq_true (by omega)
  rw [hd, Bool.and_true, Bool.true_and, Bool.true_and] at hE
  have hBad : Hid (rowsB p n rows = false → rrL p n rows = [] ∧ rrC p n rows = 2) := fun h => rr_no (hE.out.trans h)
  have hn : ∃ m : Nat, n = m ∧ m ≤ 60 := by
    unfold inB at hi
    rw [Bool.and_eq_true] at hi
    have h1 := of_decide_eq_true hi.1
    have h2 := of_decide_eq_true hi.2
    exact ⟨n.toNat, by omega, by omega⟩
  obtain ⟨m, rfl, hm60⟩ := hn
  have hGood : Hid (rowsB p m rows = true → (rrL p m rows = ech p rows ∧ rrC p m rows = 0) ∧ Calls Try.prog 58 #[.int .i64 p, .slice (some ⟨b, off, none⟩) rows.length cap] w fun e w' => ∃ v, e = .returned v ∧ OwnSS w' w.heap.size v (ech p rows) ∧ Below w.heap.size w w') := fun h => ⟨rr_yes (hE.out.trans h), l01Echelon_any p m b off cap rows w hp (rowsB_ok h) hA hbl (by omega) (by omega)⟩
  have h60' : ¬ (60 : Int) < rows.length := by omega
  have HA := Lib.hid hA
  have HM := Lib.hid hm
  clear hE hp hi hd hA hm
  go_enter Try.func14, Try.ntmps14
  go_wp2_with (first | (go_at_call 56; refine (l01Prime_any p w).mono ?_; rw [HP.out]; rintro e w1 ⟨rfl, rfl⟩) | (go_at_call 57; refine (l01In_any _ _ _ _).mono ?_; rw [HI.out]; rintro e w1 ⟨rfl, rfl⟩))
  go_loop [8] (fun i => ∃ k : Nat, k ≤ rows.length ∧ i = .int .i64 k ∧ Hid (rowsB p m (rows.take k) = true)) (fun i => rows.length - (intOf i).toNat)
  case atStart => exact ⟨0, Nat.zero_le _, rfl, rfl⟩
  obtain ⟨k, hk, rfl, hF⟩ := hrel
  by_cases hlt : k < rows.length
  · obtain ⟨r, hr⟩ : ∃ r, rows[k]? = some r := ⟨_, List.getElem?_eq_getElem hlt⟩
    obtain ⟨b', off', c', hc, hbl', hrd⟩ := HA.out k r hr
    have hrm := HM.out r (List.mem_of_getElem? hr)
    have HR := Lib.hid hr
    clear hr
    by_cases hln : (r.length : Int) = (m : Int)
    · have HLN := Lib.hid hln
      have HRD := Lib.hid hrd
      clear hrd
      go_wp2
      go_loop [9] (fun j => ∃ q : Nat, q ≤ r.length ∧ j = .int .i64 q ∧ Hid (numsB p (r.take q) = true)) (fun j => r.length - (intOf j).toNat)
      case atStart => exact ⟨0, Nat.zero_le _, rfl, rfl⟩
      obtain ⟨q, hq, rfl, hG⟩ := hrel
      by_cases hql : q < r.length
      · obtain ⟨x, hcell, hx⟩ := HRD.out.get hql
        cases hb : inB x 0 (p - 1)
        · have hn : Hid (numsB p r = false) := numsB_take (k := q + 1) (by rw [numsB_snoc hx.out, hb, Bool.and_false])
          obtain ⟨e1, e2⟩ := hBad.out (rowsB_bad HR.out (rowB_nums hn.out))
          have HB := Lib.hid hb
          have HE1 := Lib.hid e1; have HE2 := Lib.hid e2
          clear hb e1 e2
          go_wp2_with (go_at_call 57; refine (l01In_any _ _ _ _).mono ?_; rw [HB.out]; rintro e w1 ⟨rfl, rfl⟩)
          go_ret2
          exact ⟨_, by rw [HE2.out]; try rfl, by rw [HE1.out]; exact hN.out, Below.refl _ _⟩
        · have hn : Hid (numsB p (r.take (q + 1)) = true) := by show _ = _; rw [numsB_snoc hx.out, hb, hG.out]; rfl
          have HB := Lib.hid hb
          clear hb
          go_wp2_with (go_at_call 57; refine (l01In_any _ _ _ _).mono ?_; rw [HB.out]; rintro e w1 ⟨rfl, rfl⟩)
          go_round
          case rel => exact ⟨q + 1, by omega, by go_num, hn⟩
          case measure => simp [intOf]; omega
      · have hn2 : Hid (numsB p r = true) := by show _ = _; have := hG.out; rwa [List.take_of_length_le (by omega)] at this
        have hn : Hid (rowsB p m (rows.take (k + 1)) = true) := by show _ = _; rw [rowsB_snoc HR.out, hF.out, rowB_yes HLN.out hn2.out]; rfl
        go_wp2
        go_round
        case rel => exact ⟨k + 1, by omega, by go_num, hn⟩
        case measure => simp [intOf]; omega
    · obtain ⟨e1, e2⟩ := hBad.out (rowsB_bad HR.out (rowB_len hln))
      have HE1 := Lib.hid e1; have HE2 := Lib.hid e2
      clear e1 e2 hrd
      go_wp2
      go_ret2
      exact ⟨_, by rw [HE2.out]; try rfl, by rw [HE1.out]; exact hN.out, Below.refl _ _⟩
  · obtain ⟨⟨e1, e2⟩, hct⟩ := hGood.out (by have := hF.out; rwa [List.take_of_length_le (by omega)] at this)
    have HE1 := Lib.hid e1; have HE2 := Lib.hid e2
    have HC := Lib.hid hct
    clear e1 e2 hct hGood hBad
    go_wp2_with (go_at_call 58; refine HC.out.mono ?_; rintro e w1 ⟨v1, rfl, hv1, hb1⟩)
    go_ret2
    exact ⟨_, by rw [HE2.out]; try rfl, by rw [HE1.out]; exact hv1, hb1⟩
end Go.Proofs.Ytjfabhkgmelmgaa
