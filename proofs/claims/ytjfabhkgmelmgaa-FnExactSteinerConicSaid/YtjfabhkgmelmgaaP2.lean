/- Plain definitions: all points of a plane, in order; no program in sight. -/
import Derived.Test.YtjfabhkgmelmgaaP1
namespace Go.Proofs.Ytjfabhkgmelmgaa
set_option linter.unusedSimpArgs false
set_option linter.unusedVariables false

def colP (k : Nat) : List P3 := (List.range k).map fun z : Nat => ⟨0, 1, (z : Int)⟩
def rowP (y : Int) (k : Nat) : List P3 := (List.range k).map fun z : Nat => ⟨1, y, (z : Int)⟩
def gridP (n k : Nat) : List P3 := (List.range k).flatMap fun y : Nat => rowP (y : Int) n
/-- All points of a plane, in order. -/
def allP (p : Int) : List P3 := [⟨0, 0, 1⟩] ++ colP p.toNat ++ gridP p.toNat p.toNat
theorem colP_succ (k : Nat) : colP (k + 1) = colP k ++ [⟨0, 1, (k : Int)⟩] := by simp [colP, List.range_succ]
theorem rowP_succ (y : Int) (k : Nat) : rowP y (k + 1) = rowP y k ++ [⟨1, y, (k : Int)⟩] := by simp [rowP, List.range_succ]
theorem gridP_succ (n k : Nat) : gridP n (k + 1) = gridP n k ++ rowP (k : Int) n := by simp [gridP, List.range_succ]
theorem colP_len (k : Nat) : (colP k).length = k := by simp [colP]
theorem rowP_len (y : Int) (k : Nat) : (rowP y k).length = k := by simp [rowP]
theorem gridP_len (n k : Nat) : (gridP n k).length = k * n := by
  induction k with
  | zero => simp [gridP]
  | succ k ih => rw [gridP_succ, List.length_append, ih, rowP_len, Nat.add_mul]; omega
/-- The rows of points. -/
def rowsP (ps : List P3) : List (List Int) := ps.map P3.l
theorem rowsP_snoc (ps : List P3) (x y z : Int) : rowsP ps ++ [[x, y, z]] = rowsP (ps ++ [⟨x, y, z⟩]) := by simp [rowsP, P3.l]
theorem rowsP_len (ps : List P3) : (rowsP ps).length = ps.length := by simp [rowsP]
theorem rowsP_lens (ps : List P3) : ∀ r ∈ rowsP ps, r.length = 3 := by
  intro r hr
  simp only [rowsP, List.mem_map] at hr
  obtain ⟨a, _, rfl⟩ := hr
  rfl
theorem allP_len {p : Int} (hp : isP p = true) : (allP p).length ≤ 183 := by
  have h2 : p.toNat ≤ 13 := by have := isP_hi hp; omega
  have : p.toNat * p.toNat ≤ 13 * 13 := Nat.mul_le_mul h2 h2
  simp only [allP, List.length_append, colP_len, gridP_len, List.length_cons, List.length_nil]
  omega
theorem allP_mem {p : Int} (hp : isP p = true) {a : P3} (h : a ∈ allP p) : isPt p a = true := by
  have k1 := isP_lo hp
  have h2 : (p.toNat : Int) = p := by omega
  unfold allP at h
  simp only [List.mem_append, List.mem_cons, List.not_mem_nil, or_false, colP, gridP, rowP, List.mem_map, List.mem_flatMap, List.mem_range] at h
  unfold isPt
  rw [hp, Bool.true_and]
  unfold isN P3.l numsB
  rcases h with (rfl | ⟨z, hz, rfl⟩) | ⟨y, hy, z, hz, rfl⟩
  · simp [lead, inB]; omega
  · simp [lead, inB]; omega
  · simp [lead, inB]; omega
theorem allP_sm {p : Int} (hp : isP p = true) {a : P3} (h : a ∈ allP p) : sm a.x ∧ sm a.y ∧ sm a.z := isPt_sm (allP_mem hp h)
theorem allP_ne (p : Int) : allP p ≠ [] := by simp [allP]
def onB (p : Int) (l a : P3) : Bool := dot3 p a.x a.y a.z l.x l.y l.z == 0
theorem onB_comm (p : Int) (l a : P3) : onB p l a = onB p a l := by
  unfold onB dot3; rw [Int.mul_comm a.x, Int.mul_comm a.y, Int.mul_comm a.z]
/-- The points on a line, in order. -/
def onP (p : Int) (l : P3) : List P3 := (allP p).filter (onB p l)
theorem onP_sym (p : Int) (a : P3) : (allP p).filter (fun l => onB p l a) = onP p a := by
  unfold onP; congr 1; funext l; exact onB_comm p l a
def onR (p : Int) (l : P3) : List P3 × Int := if codeOf p (allPt p [l]) = 0 then (onP p l, 0) else ([], codeOf p (allPt p [l]))
theorem onP_len {p : Int} (hp : isP p = true) (l : P3) : (onP p l).length ≤ 183 := by
  have h1 := List.length_filter_le (onB p l) (allP p)
  have h2 := allP_len hp
  unfold onP; omega

end Go.Proofs.Ytjfabhkgmelmgaa
