/- Plain definitions for chapter 1: primes, rests, normal lists; no program in sight. -/
namespace Go.Proofs.Ytllogghbfhdhaaa

/-- One of the primes. -/
def isP (p : Int) : Bool := p == 3 || p == 5 || p == 7 || p == 11 || p == 13
theorem isP_cases {p : Int} (h : isP p = true) : p = 3 ∨ p = 5 ∨ p = 7 ∨ p = 11 ∨ p = 13 := by
  simp [isP] at h; omega
theorem isP_lo {p : Int} (h : isP p = true) : 3 ≤ p := by rcases isP_cases h with h | h | h | h | h <;> omega
theorem isP_hi {p : Int} (h : isP p = true) : p ≤ 13 := by rcases isP_cases h with h | h | h | h | h <;> omega

/-- A number lies between two others. -/
def inB (n lo hi : Int) : Bool := decide (lo ≤ n) && decide (n ≤ hi)
theorem inB_iff {n lo hi : Int} : inB n lo hi = true ↔ lo ≤ n ∧ n ≤ hi := by simp [inB]
theorem inB_no {n lo hi : Int} (h : inB n lo hi = false) : n < lo ∨ hi < n := by
  simp [inB] at h; omega

/-- All are numbers modulo p. -/
def numsB (p : Int) (zs : List Int) : Bool := zs.all fun n => inB n 0 (p - 1)

/-- A normal list of numbers modulo p, as the program asks. -/
def normB (p : Int) : List Int → List Int → Bool
  | all, n :: ns => if n = 0 then normB p all ns else n == 1 && numsB p all
  | _, [] => false

/-- The first number other than 0 of a list (0 if there is none). -/
def lead : List Int → Int
  | n :: ns => if n = 0 then lead ns else n
  | [] => 0

theorem normB_eq (p : Int) (all zs : List Int) : normB p all zs = (lead zs == 1 && numsB p all) := by
  induction zs with
  | nil => simp [normB, lead]
  | cons n ns ih =>
    simp only [normB, lead]
    by_cases h : n = 0
    · simp [h, ih]
    · simp [h]

/-- A normal list of numbers modulo p. -/
def isN (p : Int) (zs : List Int) : Bool := lead zs == 1 && numsB p zs

theorem numsB_mem {p : Int} {zs : List Int} (h : numsB p zs = true) : ∀ x ∈ zs, 0 ≤ x ∧ x ≤ p - 1 := by
  intro x hx
  have := List.all_eq_true.1 h x hx
  exact inB_iff.1 this

theorem mul_bd {a b A B : Int} (ha : 0 ≤ a) (hA : a ≤ A) (hb : 0 ≤ b) (hB : b ≤ B) : 0 ≤ a * b ∧ a * b ≤ A * B :=
  ⟨Int.mul_nonneg ha hb, Int.mul_le_mul hA hB hb (by omega)⟩

/-- The program's search for a root, from n on. -/
def sqI (p x : Int) : Nat → Int → Int
  | 0, _ => -1
  | f + 1, n => if n < p then (if n * n % p = x then 1 else sqI p x f (n + 1)) else -1
/-- The reference's search. -/
def sqS (p x : Int) : Nat → Int → Int
  | 0, _ => -1
  | f + 1, n => if n < p then (if n * n % p = x then min x 1 else sqS p x f (n + 1)) else -1
def sqr (p x : Int) : Int := if x = 0 then 0 else sqI p x 14 1
theorem sqS_eq {p x : Int} (hp : isP p = true) (h0 : 0 ≤ x) (h1 : x ≤ p - 1) : sqS p (x % p) 14 0 = sqr p x := by
  have key : ∀ q ∈ [3, 5, 7, 11, 13], ∀ y ∈ List.range q, sqS (q : Int) ((y : Int) % (q : Int)) 14 0 = sqr (q : Int) (y : Int) := by decide
  obtain ⟨y, rfl⟩ := Int.eq_ofNat_of_zero_le h0
  rcases isP_cases hp with rfl | rfl | rfl | rfl | rfl <;> exact key _ (by decide) y (by simp; omega)
/-- What IsSquare answers. -/
def isSqR (p x : Int) : Int × Int := if isP p && inB x 0 (p - 1) then (sqr p x, 0) else (0, 2)
/-- Four numbers are a Moebius map for a prime. -/
def isMo (p a b c d : Int) : Bool := isN p [a, b, c, d] && !((a * d - b * c) % p == 0)
theorem isN_mem {p : Int} {zs : List Int} (h : isN p zs = true) : ∀ x ∈ zs, 0 ≤ x ∧ x ≤ p - 1 := by
  unfold isN at h
  rw [Bool.and_eq_true] at h
  exact numsB_mem h.2
theorem isN3 {p a b c : Int} (h : isN p [a, b, c] = true) : (0 ≤ a ∧ a ≤ p - 1) ∧ (0 ≤ b ∧ b ≤ p - 1) ∧ (0 ≤ c ∧ c ≤ p - 1) :=
  ⟨isN_mem h a (by simp), isN_mem h b (by simp), isN_mem h c (by simp)⟩
theorem isN4 {p a b c d : Int} (h : isN p [a, b, c, d] = true) : (0 ≤ a ∧ a ≤ p - 1) ∧ (0 ≤ b ∧ b ≤ p - 1) ∧ (0 ≤ c ∧ c ≤ p - 1) ∧ (0 ≤ d ∧ d ≤ p - 1) :=
  ⟨isN_mem h a (by simp), isN_mem h b (by simp), isN_mem h c (by simp), isN_mem h d (by simp)⟩
end Go.Proofs.Ytllogghbfhdhaaa
