/- Places: which numbers are places, which are different; pairs, brackets, frames, in the program and in the reference; p is a prime where it says so. -/
import Derived.Test.YtjfabhkgmelmgaaW11
import Derived.Test.YtjfabhkgmelmgaaX1
import Derived.Deep.RegionWith
namespace Go.Proofs.Ytjfabhkgmelmgaa
open Go.RowKit
set_option linter.unusedSimpArgs false
set_option linter.unusedVariables false
set_option maxRecDepth 100000

def prA (p x : Int) : Int := if x = p then 1 else x
def prB (p x : Int) : Int := if x = p then 0 else 1
def brk (p x y : Int) : Int := (prA p x * prB p y - prB p x * prA p y) % p
def plcI (p x y : Int) : Int := if y % p = 0 then p else x * inv p (y % p) % p
def plcS (p x y : Int) : Int := if y % p = 0 then p else x % p * inv p y % p
def isPl (p : Int) (zs : List Int) : Bool := zs.all fun x => inB x 0 p
/-- No number of the list stands among those ahead of it (or in pre). -/
def difB : List Int → List Int → Bool
  | _, [] => true
  | pre, x :: xs => !pre.contains x && difB (pre ++ [x]) xs
theorem prA_rng {p x : Int} (k1 : 3 ≤ p) (h : 0 ≤ x) (g : x ≤ p) : 0 ≤ prA p x ∧ prA p x ≤ p - 1 := by
  unfold prA; split <;> omega
theorem prB_rng (p x : Int) : 0 ≤ prB p x ∧ prB p x ≤ 1 := by unfold prB; split <;> omega
theorem contains_any (zs : List Int) (v : Int) : zs.contains v = zs.any (fun y => v == y) := by
  induction zs with
  | nil => rfl
  | cons y ys ih => rw [List.contains_cons, List.any_cons, ih]
theorem difB_take {zs : List Int} {k : Nat} {x : Int} (h : zs[k]? = some x) : difB (zs.take k) (zs.drop k) = (!(zs.take k).contains x && difB (zs.take (k + 1)) (zs.drop (k + 1))) := by
  rw [drop_cons h, difB, List.take_add_one, h]; rfl
set_option maxHeartbeats 400000 in
theorem arePlaces_any (p : Int) (b off cap : Nat) (zs : List Int) (w : World) (hc : Rd w b off zs) (hm : zs.length ≤ 1000000) :
    Calls Try.prog 91 #[.int .i64 p, .slice (some ⟨b, off, none⟩) zs.length cap] w fun e w' => e = .returned (.bool (isPl p zs)) ∧ w = w' := by
  go_enter Try.func91, Try.ntmps91
  go_wp2
  go_loop [9, 6] (fun i _ => ∃ k : Nat, k ≤ zs.length ∧ i = .int .i64 k ∧ isPl p (zs.take k) = true) (fun i _ => zs.length - (intOf i).toNat)
  case atStart => exact ⟨0, Nat.zero_le _, rfl, rfl⟩
  case round =>
    obtain ⟨k, hk, rfl, hrel⟩ := hrel
    have H := Lib.hid hrel; clear hrel
    by_cases hlt : k < zs.length
    · obtain ⟨x, hcell, hx⟩ := hc.get hlt
      cases hb : inB x 0 p
      · have hn : Hid (isPl p zs = false) := by
          show _ = _
          exact all_take (k := k + 1) (by rw [all_snoc hx.out, hb, Bool.and_false])
        go_wp2_with (go_at_call 62; refine (within_any _ _ _ _).mono ?_; rintro e w' ⟨rfl, rfl⟩; rw [hb])
        go_ret
        exact ⟨ret_bool (by rw [hn.out]), rfl⟩
      · have hn : Hid (isPl p (zs.take (k + 1)) = true) := by show _ = _; unfold isPl; rw [all_snoc hx.out, hb, Bool.and_true]; exact H.out
        go_wp2_with (go_at_call 62; refine (within_any _ _ _ _).mono ?_; rintro e w' ⟨rfl, rfl⟩; rw [hb])
        go_round
        case rel => exact ⟨k + 1, by omega, by go_num, hn.out⟩
        case measure => simp [intOf]; omega
    · have hn : Hid (isPl p zs = true) := by show _ = _; have := H.out; rwa [List.take_of_length_le (by omega)] at this
      go_wp2
      go_ret
      exact ⟨ret_bool (by rw [hn.out]), rfl⟩