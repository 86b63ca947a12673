/- Moebius maps: codes, products, inverses, in the program and in the reference. -/
import Derived.Test.YtjfabhkgmelmgaaW9
namespace Go.Proofs.Ytjfabhkgmelmgaa
open Go.RowKit
set_option linter.unusedSimpArgs false
set_option linter.unusedVariables false
set_option maxRecDepth 100000

/-- The code of Moebius maps. -/
def moCode (p : Int) (es : List M4) : Int := codeOf p (es.all (isMoE p))
theorem mo1 {p a b c d : Int} {es : List M4} (h : (⟨a, b, c, d⟩ :: es : List M4).all (isMoE p) = true) : isMo p a b c d = true ∧ es.all (isMoE p) = true := by
  rw [List.all_cons, Bool.and_eq_true] at h
  exact h
theorem isMo_sm {p a b c d : Int} (hp : isP p = true) (h : isMo p a b c d = true) : sm a ∧ sm b ∧ sm c ∧ sm d := by
  have h2 := isP_hi hp
  unfold isMo at h
  rw [Bool.and_eq_true] at h
  obtain ⟨q1, q2, q3, q4⟩ := isN4 h.1
  exact ⟨sm_of h2 q1, sm_of h2 q2, sm_of h2 q3, sm_of h2 q4⟩
set_option maxHeartbeats 600000 in
theorem arePlaces_nil (p : Int) (w : World) :
    Calls Try.prog 91 #[.int .i64 p, .slice none 0 0] w fun e w' => e = .returned (.bool true) ∧ w = w' := by
  go_enter Try.func91, Try.ntmps91
  go_wp2
  go_rounds 1
  go_ret
  exact ⟨rfl, rfl⟩
