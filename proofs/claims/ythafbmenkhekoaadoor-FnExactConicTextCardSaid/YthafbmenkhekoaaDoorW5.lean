/- Inverses and normal lists: the program writes the normal list into the slice that it is handed, the reference returns a new one; p is a prime. -/
import Derived.Test.YthafbmenkhekoaaDoorW4
namespace Go.Proofs.YthafbmenkhekoaaDoor
open Go.RowKit
set_option linter.unusedSimpArgs false
set_option linter.unusedVariables false

theorem invF_mod (p n : Int) (f : Nat) : ∀ k, invF p (n % p) f k = invF p n f k := by
  induction f with
  | zero => intro k; rfl
  | succ f ih =>
    intro k
    simp only [invF, ih]
    rw [mulm]
theorem inv_mod (p n : Int) : inv p (n % p) = inv p n := by
  unfold inv
  rw [Int.emod_emod_of_dvd _ (Int.dvd_refl p)]
theorem invF_far (p n : Int) (f : Nat) : ∀ k, invF p n f k = 0 ∨ k ≤ invF p n f k := by
  induction f with
  | zero => intro k; exact .inl rfl
  | succ f ih =>
    intro k
    simp only [invF]
    split
    · right; omega
    · rcases ih (k + 1) with h | h
      · exact .inl h
      · right; omega
