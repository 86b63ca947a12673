/- The exported function CrossRatio, in the program and in the reference; no condition. -/
import Derived.Test.YtjfabhkgmelmgaaW19
namespace Go.Proofs.Ytjfabhkgmelmgaa
open Go.RowKit
set_option linter.unusedSimpArgs false
set_option linter.unusedVariables false
set_option maxRecDepth 100000


theorem three_of {p : Int} {a b c : P3} (h : three p a b c = true) : a ≠ b ∧ a ≠ c ∧ b ≠ c ∧ det3 p a.x a.y a.z b.x b.y b.z c.x c.y c.z = 0 := by
  unfold three at h
  simp only [Bool.and_eq_true, decide_eq_true_eq, beq_iff_eq] at h
  exact ⟨h.1, h.2.1, h.2.2.1, h.2.2.2⟩
/-- What CrossRatio answers. -/
def crR (p : Int) (a b c d : P3) : Int × Int :=
  if codeOf p (allPt p [a, b, c, d]) = 0 then (if three p a b c && (det3 p a.x a.y a.z b.x b.y b.z d.x d.y d.z == 0) then (crI p a b c d, 0) else (0, 5)) else (0, codeOf p (allPt p [a, b, c, d]))
theorem pt4 {p : Int} {a b c d : P3} (h : allPt p [a, b, c, d] = true) : isPt p a = true ∧ isPt p b = true ∧ isPt p c = true ∧ isPt p d = true := by
  obtain ⟨ta, h⟩ := pt1 h
  obtain ⟨tb, h⟩ := pt1 h
  obtain ⟨tc, h⟩ := pt1 h
  obtain ⟨td, h⟩ := pt1 h
  exact ⟨ta, tb, tc, td⟩
theorem cmb_bds {p : Int} {a b c : P3} (ha : isPt p a = true) (hb : isPt p b = true) (hne : a ≠ b) (hd : det3 p a.x a.y a.z b.x b.y b.z c.x c.y c.z = 0) :
    (0 ≤ (cmb p a b c).1 ∧ (cmb p a b c).1 ≤ p - 1) ∧ (0 ≤ (cmb p a b c).2 ∧ (cmb p a b c).2 ≤ p - 1) := (cmb_sum ha hb hne hd).2
theorem prt_bds {p : Int} {a b c : P3} (ha : isPt p a = true) (hb : isPt p b = true) (hc : isPt p c = true) (hne : a ≠ b) (hd : det3 p a.x a.y a.z b.x b.y b.z c.x c.y c.z = 0) :
    (0 ≤ (prt p a b c).1 ∧ (prt p a b c).1 ≤ p - 1) ∧ (0 ≤ (prt p a b c).2 ∧ (prt p a b c).2 ≤ p - 1) := by
  obtain ⟨_, _, _, h⟩ := prt_sum ha hb hc hne hd
  exact h