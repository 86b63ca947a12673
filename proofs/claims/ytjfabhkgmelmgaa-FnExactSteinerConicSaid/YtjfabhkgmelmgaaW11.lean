/- Products and inverses of Moebius maps, in the program and in the reference. -/
import Derived.Test.YtjfabhkgmelmgaaW10
namespace Go.Proofs.Ytjfabhkgmelmgaa
open Go.RowKit
set_option linter.unusedSimpArgs false
set_option linter.unusedVariables false
set_option maxRecDepth 100000

/-- The Moebius map with the normal list of four numbers. -/
def nm4 (p a b c d : Int) : M4 := ⟨nr p (fac p [a, b, c, d]) a, nr p (fac p [a, b, c, d]) b, nr p (fac p [a, b, c, d]) c, nr p (fac p [a, b, c, d]) d⟩
/-- The product. -/
def moMul (p : Int) (m n : M4) : M4 := nm4 p (m.a * n.a + m.b * n.c) (m.a * n.b + m.b * n.d) (m.c * n.a + m.d * n.c) (m.c * n.b + m.d * n.d)
def moInv (p : Int) (m : M4) : M4 := nm4 p m.d (-m.b) (-m.c) m.a
def moMulR (p : Int) (m n : M4) : M4 × Int := if moCode p [m, n] = 0 then (moMul p m n, 0) else (⟨0, 0, 0, 0⟩, moCode p [m, n])
def moInvR (p : Int) (m : M4) : M4 × Int := if moCode p [m] = 0 then (moInv p m, 0) else (⟨0, 0, 0, 0⟩, moCode p [m])
theorem moCode3 (p : Int) (es : List M4) : moCode p es = 2 ∨ moCode p es = 1 ∨ (isP p = true ∧ es.all (isMoE p) = true ∧ moCode p es = 0) := code3 p _