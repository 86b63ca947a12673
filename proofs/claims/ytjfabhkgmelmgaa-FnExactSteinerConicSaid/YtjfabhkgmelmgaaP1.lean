/- Plain definitions for chapter 1: primes, rests, normal lists; no program in sight. -/
namespace Go.Proofs.Ytjfabhkgmelmgaa

/-- One of the primes. -/
def isP (p : Int) : Bool := p == 3 || p == 5 || p == 7 || p == 11 || p == 13
theorem isP_cases {p : Int} (h : isP p = true) : p = 3 ∨ p = 5 ∨ p = 7 ∨ p = 11 ∨ p = 13 := by
  simp [isP] at h; omega
theorem isP_lo {p : Int} (h : isP p = true) : 3 ≤ p := by rcases isP_cases h with h | h | h | h | h <;> omega
theorem isP_hi {p : Int} (h : isP p = true) : p ≤ 13 := by rcases isP_cases h with h | h | h | h | h <;> omega

/-- A number lies between two others. -/
def inB (n lo hi : Int) : Bool := decide (lo ≤ n) && decide (n ≤ hi)
theorem inB_iff {n lo hi : Int} : inB n lo hi = true ↔ lo ≤ n ∧ n ≤ hi := by simp [inB]
theorem inB_no {n lo hi : Int} (h : inB n lo hi = false) : n < lo ∨ hi < n := by
  simp [inB] at h; omega

/-- All are numbers modulo p. -/
def numsB (p : Int) (zs : List Int) : Bool := zs.all fun n => inB n 0 (p - 1)

/-- A normal list of numbers modulo p, as the program asks. -/
def normB (p : Int) : List Int → List Int → Bool
  | all, n :: ns => if n = 0 then normB p all ns else n == 1 && numsB p all
  | _, [] => false

/-- The first number other than 0 of a list (0 if there is none). -/
def lead : List Int → Int
  | n :: ns => if n = 0 then lead ns else n
  | [] => 0

theorem normB_eq (p : Int) (all zs : List Int) : normB p all zs = (lead zs == 1 && numsB p all) := by
  induction zs with
  | nil => simp [normB, lead]
  | cons n ns ih =>
    simp only [normB, lead]
    by_cases h : n = 0
    · simp [h, ih]
    · simp [h]

/-- A normal list of numbers modulo p. -/
def isN (p : Int) (zs : List Int) : Bool := lead zs == 1 && numsB p zs

theorem numsB_mem {p : Int} {zs : List Int} (h : numsB p zs = true) : ∀ x ∈ zs, 0 ≤ x ∧ x ≤ p - 1 := by
  intro x hx
  have := List.all_eq_true.1 h x hx
  exact inB_iff.1 this

theorem mul_bd {a b A B : Int} (ha : 0 ≤ a) (hA : a ≤ A) (hb : 0 ≤ b) (hB : b ≤ B) : 0 ≤ a * b ∧ a * b ≤ A * B :=
  ⟨Int.mul_nonneg ha hb, Int.mul_le_mul hA hB hb (by omega)⟩

/-- The program's search for a root, from n on. -/
def sqI (p x : Int) : Nat → Int → Int
  | 0, _ => -1
  | f + 1, n => if n < p then (if n * n % p = x then 1 else sqI p x f (n + 1)) else -1
/-- The reference's search. -/
def sqS (p x : Int) : Nat → Int → Int
  | 0, _ => -1
  | f + 1, n => if n < p then (if n * n % p = x then min x 1 else sqS p x f (n + 1)) else -1
def sqr (p x : Int) : Int := if x = 0 then 0 else sqI p x 14 1
theorem sqS_eq {p x : Int} (hp : isP p = true) (h0 : 0 ≤ x) (h1 : x ≤ p - 1) : sqS p (x % p) 14 0 = sqr p x := by
  have key : ∀ q ∈ [3, 5, 7, 11, 13], ∀ y ∈ List.range q, sqS (q : Int) ((y : Int) % (q : Int)) 14 0 = sqr (q : Int) (y : Int) := by decide
  obtain ⟨y, rfl⟩ := Int.eq_ofNat_of_zero_le h0
  rcases isP_cases hp with rfl | rfl | rfl | rfl | rfl <;> exact key _ (by decide) y (by simp; omega)
/-- What IsSquare answers. -/
def isSqR (p x : Int) : Int × Int := if isP p && inB x 0 (p - 1) then (sqr p x, 0) else (0, 2)
/-- Four numbers are a Moebius map for a prime. -/
def isMo (p a b c d : Int) : Bool := isN p [a, b, c, d] && !((a * d - b * c) % p == 0)
theorem isN_mem {p : Int} {zs : List Int} (h : isN p zs = true) : ∀ x ∈ zs, 0 ≤ x ∧ x ≤ p - 1 := by
  unfold isN at h
  rw [Bool.and_eq_true] at h
  exact numsB_mem h.2
theorem isN3 {p a b c : Int} (h : isN p [a, b, c] = true) : (0 ≤ a ∧ a ≤ p - 1) ∧ (0 ≤ b ∧ b ≤ p - 1) ∧ (0 ≤ c ∧ c ≤ p - 1) :=
  ⟨isN_mem h a (by simp), isN_mem h b (by simp), isN_mem h c (by simp)⟩
theorem isN4 {p a b c d : Int} (h : isN p [a, b, c, d] = true) : (0 ≤ a ∧ a ≤ p - 1) ∧ (0 ≤ b ∧ b ≤ p - 1) ∧ (0 ≤ c ∧ c ≤ p - 1) ∧ (0 ≤ d ∧ d ≤ p - 1) :=
  ⟨isN_mem h a (by simp), isN_mem h b (by simp), isN_mem h c (by simp), isN_mem h d (by simp)⟩
/-- A point, or a line, or three numbers. -/
structure P3 where
  x : Int
  y : Int
  z : Int
  deriving DecidableEq
def P3.l (a : P3) : List Int := [a.x, a.y, a.z]
/-- A point for p. -/
def isPt (p : Int) (a : P3) : Bool := isP p && isN p a.l
theorem mul_bs {a b A B : Int} (ha : 0 ≤ a) (hA : a ≤ A) (hb : -B ≤ b) (hB : b ≤ B) : -(A * B) ≤ a * b ∧ a * b ≤ A * B := by
  have h0 : 0 ≤ B := by omega
  rcases Int.le_total 0 b with h | h
  · have := mul_bd ha hA h hB
    have h2 := Int.mul_nonneg (Int.le_trans ha hA) h0
    omega
  · have := mul_bd ha hA (b := -b) (B := B) (by omega) (by omega)
    rw [Int.mul_neg] at this
    have h2 := Int.mul_nonneg (Int.le_trans ha hA) h0
    omega
/-- Numbers of at most twelve. -/
def sm (a : Int) : Prop := 0 ≤ a ∧ a ≤ 12
theorem sm_of {p a : Int} (h2 : p ≤ 13) (h : 0 ≤ a ∧ a ≤ p - 1) : sm a := ⟨h.1, by omega⟩
/-- The determinant of three rows modulo p. -/
def det3 (p a0 a1 a2 b0 b1 b2 c0 c1 c2 : Int) : Int := (a0 * (b1 * c2 - b2 * c1) - a1 * (b0 * c2 - b2 * c0) + a2 * (b0 * c1 - b1 * c0)) % p
theorem isPt_pr {p : Int} {a : P3} (h : isPt p a = true) : isP p = true := by unfold isPt at h; simp at h; exact h.1
theorem isPt_sm {p x y z : Int} (h : isPt p ⟨x, y, z⟩ = true) : sm x ∧ sm y ∧ sm z := by
  have hp := isPt_pr h
  have h2 := isP_hi hp
  unfold isPt at h
  rw [hp, Bool.true_and] at h
  obtain ⟨q1, q2, q3⟩ := isN3 h
  exact ⟨sm_of h2 q1, sm_of h2 q2, sm_of h2 q3⟩
def dot3 (p a0 a1 a2 b0 b1 b2 : Int) : Int := (a0 * b0 + a1 * b1 + a2 * b2) % p
/-- The code of a prime and of what has to be valid for it. -/
def codeOf (p : Int) (ok : Bool) : Int := if isP p then (if ok then 0 else 1) else 2
/-- All of a list are points for p. -/
def allPt (p : Int) (ps : List P3) : Bool := ps.all (isPt p)
theorem code3 (p : Int) (ok : Bool) : codeOf p ok = 2 ∨ codeOf p ok = 1 ∨ (isP p = true ∧ ok = true ∧ codeOf p ok = 0) := by
  unfold codeOf
  cases isP p <;> cases ok <;> simp
def areCol (p : Int) (a b c : P3) : Bool × Int :=
  if codeOf p (allPt p [a, b, c]) = 0 then (det3 p a.x a.y a.z b.x b.y b.z c.x c.y c.z == 0, 0) else (false, codeOf p (allPt p [a, b, c]))
def isOnR (p : Int) (a b : P3) : Bool × Int :=
  if codeOf p (allPt p [a, b]) = 0 then (dot3 p a.x a.y a.z b.x b.y b.z == 0, 0) else (false, codeOf p (allPt p [a, b]))
theorem pt1 {p : Int} {a : P3} {ps : List P3} (h : allPt p (a :: ps) = true) : isPt p a = true ∧ allPt p ps = true := by
  unfold allPt at h
  rw [List.all_cons, Bool.and_eq_true] at h
  exact h
theorem pts1 {p a0 a1 a2 : Int} (h : allPt p [⟨a0, a1, a2⟩] = true) : (sm a0 ∧ sm a1 ∧ sm a2) := by
  obtain ⟨ta, h⟩ := pt1 h
  exact isPt_sm ta
theorem pts2 {p a0 a1 a2 b0 b1 b2 : Int} (h : allPt p [⟨a0, a1, a2⟩, ⟨b0, b1, b2⟩] = true) : (sm a0 ∧ sm a1 ∧ sm a2) ∧ (sm b0 ∧ sm b1 ∧ sm b2) := by
  obtain ⟨ta, h⟩ := pt1 h
  obtain ⟨tb, h⟩ := pt1 h
  exact ⟨isPt_sm ta, isPt_sm tb⟩
theorem pts3 {p a0 a1 a2 b0 b1 b2 c0 c1 c2 : Int} (h : allPt p [⟨a0, a1, a2⟩, ⟨b0, b1, b2⟩, ⟨c0, c1, c2⟩] = true) : (sm a0 ∧ sm a1 ∧ sm a2) ∧ (sm b0 ∧ sm b1 ∧ sm b2) ∧ (sm c0 ∧ sm c1 ∧ sm c2) := by
  obtain ⟨ta, h⟩ := pt1 h
  obtain ⟨tb, h⟩ := pt1 h
  obtain ⟨tc, h⟩ := pt1 h
  exact ⟨isPt_sm ta, isPt_sm tb, isPt_sm tc⟩
theorem pts4 {p a0 a1 a2 b0 b1 b2 c0 c1 c2 d0 d1 d2 : Int} (h : allPt p [⟨a0, a1, a2⟩, ⟨b0, b1, b2⟩, ⟨c0, c1, c2⟩, ⟨d0, d1, d2⟩] = true) : (sm a0 ∧ sm a1 ∧ sm a2) ∧ (sm b0 ∧ sm b1 ∧ sm b2) ∧ (sm c0 ∧ sm c1 ∧ sm c2) ∧ (sm d0 ∧ sm d1 ∧ sm d2) := by
  obtain ⟨ta, h⟩ := pt1 h
  obtain ⟨tb, h⟩ := pt1 h
  obtain ⟨tc, h⟩ := pt1 h
  obtain ⟨td, h⟩ := pt1 h
  exact ⟨isPt_sm ta, isPt_sm tb, isPt_sm tc, isPt_sm td⟩
theorem pts5 {p a0 a1 a2 b0 b1 b2 c0 c1 c2 d0 d1 d2 e0 e1 e2 : Int} (h : allPt p [⟨a0, a1, a2⟩, ⟨b0, b1, b2⟩, ⟨c0, c1, c2⟩, ⟨d0, d1, d2⟩, ⟨e0, e1, e2⟩] = true) : (sm a0 ∧ sm a1 ∧ sm a2) ∧ (sm b0 ∧ sm b1 ∧ sm b2) ∧ (sm c0 ∧ sm c1 ∧ sm c2) ∧ (sm d0 ∧ sm d1 ∧ sm d2) ∧ (sm e0 ∧ sm e1 ∧ sm e2) := by
  obtain ⟨ta, h⟩ := pt1 h
  obtain ⟨tb, h⟩ := pt1 h
  obtain ⟨tc, h⟩ := pt1 h
  obtain ⟨td, h⟩ := pt1 h
  obtain ⟨te, h⟩ := pt1 h
  exact ⟨isPt_sm ta, isPt_sm tb, isPt_sm tc, isPt_sm td, isPt_sm te⟩
theorem mulm (a b p : Int) : a % p * b % p = a * b % p := by
  rw [Int.mul_emod, Int.emod_emod_of_dvd _ (Int.dvd_refl p), ← Int.mul_emod]
/-- The search for the number with which n has the product 1 modulo p, from k on. -/
def invF (p n : Int) : Nat → Int → Int
  | 0, _ => 0
  | f + 1, k => if n * k % p = 1 then k else invF p n f (k + 1)
/-- The inverse modulo p, 0 for multiples of p. -/
def inv (p n : Int) : Int := invF p (n % p) 12 1
theorem inv_facts {p n : Int} (hp : isP p = true) : 0 ≤ inv p n ∧ inv p n ≤ p - 1 ∧ (n % p ≠ 0 → 1 ≤ inv p n ∧ n * inv p n % p = 1) ∧ (n % p = 0 → inv p n = 0) := by
  have key : ∀ q ∈ [3, 5, 7, 11, 13], ∀ y ∈ List.range q, 0 ≤ invF (q : Int) (y : Int) 12 1 ∧ invF (q : Int) (y : Int) 12 1 ≤ (q : Int) - 1 ∧
      ((y : Int) ≠ 0 → 1 ≤ invF (q : Int) (y : Int) 12 1 ∧ (y : Int) * invF (q : Int) (y : Int) 12 1 % (q : Int) = 1) ∧ ((y : Int) = 0 → invF (q : Int) (y : Int) 12 1 = 0) := by decide
  have h3 := isP_lo hp
  have h0 : 0 ≤ n % p := Int.emod_nonneg _ (by omega)
  have h1 : n % p < p := Int.emod_lt_of_pos _ (by omega)
  unfold inv
  rw [← mulm n]
  obtain ⟨y, hy⟩ := Int.eq_ofNat_of_zero_le h0
  rw [hy]
  have h2 : (y : Int) < p := by omega
  clear h0 h1 hy h3
  rcases isP_cases hp with rfl | rfl | rfl | rfl | rfl <;> exact key _ (by decide) y (by simp; omega)
theorem inv_pos {p n : Int} (hp : isP p = true) (h : n % p ≠ 0) : 1 ≤ inv p n := ((inv_facts hp).2.2.1 h).1
theorem inv_mul {p n : Int} (hp : isP p = true) (h : n % p ≠ 0) : n * inv p n % p = 1 := ((inv_facts hp).2.2.1 h).2
theorem inv_lo {p n : Int} (hp : isP p = true) : 0 ≤ inv p n := (inv_facts hp).1
theorem inv_hi {p n : Int} (hp : isP p = true) : inv p n ≤ p - 1 := (inv_facts hp).2.1
theorem inv_zero {p n : Int} (hp : isP p = true) (h : n % p = 0) : inv p n = 0 := (inv_facts hp).2.2.2 h

/-- The factor that makes a list normal, 0 if there is none. -/
def fac (p : Int) : List Int → Int
  | n :: ns => if n % p = 0 then fac p ns else inv p n
  | [] => 0
/-- A number times a factor modulo p. -/
def nr (p f n : Int) : Int := (n % p) * f % p
/-- The normal list. -/
def nrm (p : Int) (zs : List Int) : List Int := zs.map (nr p (fac p zs))
theorem nrm_len (p : Int) (zs : List Int) : (nrm p zs).length = zs.length := by simp [nrm]
theorem fac_append (p : Int) (hp : isP p = true) (xs ys : List Int) : fac p (xs ++ ys) = if fac p xs = 0 then fac p ys else fac p xs := by
  induction xs with
  | nil => simp [fac]
  | cons x xs ih =>
    simp only [List.cons_append, fac]
    by_cases h : x % p = 0
    · simp [h, ih]
    · have := inv_pos hp h
      simp only [if_neg h]
      rw [if_neg (by omega)]
theorem fac_snoc {p x : Int} {zs : List Int} {k : Nat} (hp : isP p = true) (h : zs[k]? = some x) :
    fac p (zs.take (k + 1)) = if fac p (zs.take k) = 0 then (if x % p = 0 then 0 else inv p x) else fac p (zs.take k) := by
  rw [List.take_add_one, h, fac_append p hp]
  by_cases hx : x % p = 0 <;> simp [fac, hx]
theorem fac_fix {p : Int} {zs : List Int} {k : Nat} (hp : isP p = true) (h : fac p (zs.take k) ≠ 0) : fac p zs = fac p (zs.take k) := by
  rw [← List.take_append_drop k zs, fac_append p hp]
  simp [h]
theorem fac_lo {p : Int} (hp : isP p = true) (zs : List Int) : 0 ≤ fac p zs := by
  induction zs with
  | nil => simp [fac]
  | cons z zs ih => simp only [fac]; split; exact ih; exact inv_lo hp
theorem fac_hi {p : Int} (hp : isP p = true) (zs : List Int) : fac p zs ≤ p - 1 := by
  have := isP_lo hp
  induction zs with
  | nil => simp [fac]; omega
  | cons z zs ih => simp only [fac]; split; exact ih; exact inv_hi hp
/-- What is written at place k of the normal list, whatever of the factor is known by then. -/
theorem nrm_get {p x : Int} {zs : List Int} {k : Nat} (hp : isP p = true) (h : zs[k]? = some x) : (nrm p zs)[k]? = some (nr p (fac p (zs.take (k + 1))) x) := by
  unfold nrm
  rw [List.getElem?_map, h]
  simp only [Option.map_some]
  by_cases h0 : fac p (zs.take (k + 1)) = 0
  · have h1 := fac_snoc hp h
    rw [h0] at h1
    have hx : x % p = 0 := by
      by_cases hf : fac p (zs.take k) = 0
      · rw [if_pos hf] at h1
        by_cases hx : x % p = 0
        · exact hx
        · rw [if_neg hx] at h1; have := inv_pos hp hx; omega
      · rw [if_neg hf] at h1; exact absurd h1.symm hf
    simp [nr, hx]
  · rw [fac_fix hp h0]
theorem nr_lo {p : Int} (hp : isP p = true) (f n : Int) : 0 ≤ nr p f n := Int.emod_nonneg _ (by have := isP_lo hp; omega)
theorem nr_hi {p : Int} (hp : isP p = true) (f n : Int) : nr p f n ≤ p - 1 := by
  have := isP_lo hp
  have := Int.emod_lt_of_pos ((n % p) * f) (b := p) (by omega)
  unfold nr; omega
/-- The point of three numbers that are not all multiples of p. -/
def npt (p x y z : Int) : P3 := ⟨nr p (fac p [x, y, z]) x, nr p (fac p [x, y, z]) y, nr p (fac p [x, y, z]) z⟩
/-- What is on both of two lines. -/
def crs (p : Int) (a b : P3) : P3 := npt p (a.y * b.z - a.z * b.y) (a.z * b.x - a.x * b.z) (a.x * b.y - a.y * b.x)
/-- The point of three numbers, and whether there is one. -/
def made (p x y z : Int) : P3 × Bool := if fac p [x, y, z] = 0 then (⟨0, 0, 0⟩, false) else (npt p x y z, true)
theorem fac_zero {p : Int} (hp : isP p = true) (zs : List Int) : fac p zs = 0 ↔ ∀ z ∈ zs, z % p = 0 := by
  induction zs with
  | nil => simp [fac]
  | cons z zs ih =>
    simp only [fac, List.mem_cons, forall_eq_or_imp]
    by_cases h : z % p = 0
    · simp [h, ih]
    · have := inv_pos hp h
      rw [if_neg h]
      constructor
      · intro h1; omega
      · rintro ⟨h1, _⟩; exact absurd h1 h
theorem isPt_cases {p x y z : Int} (h : isPt p ⟨x, y, z⟩ = true) : (0 ≤ x ∧ x ≤ p - 1 ∧ 0 ≤ y ∧ y ≤ p - 1 ∧ 0 ≤ z ∧ z ≤ p - 1) ∧ (x = 1 ∨ (x = 0 ∧ y = 1) ∨ (x = 0 ∧ y = 0 ∧ z = 1)) := by
  have hp := isPt_pr h
  unfold isPt at h
  rw [hp, Bool.true_and] at h
  obtain ⟨q1, q2, q3⟩ := isN3 h
  refine ⟨⟨q1.1, q1.2, q2.1, q2.2, q3.1, q3.2⟩, ?_⟩
  unfold isN P3.l at h
  simp [lead] at h
  have h1 := h.1
  split at h1
  · split at h1
    · split at h1 <;> omega
    · omega
  · omega
theorem crs_zero {p x y z u v w : Int} (ha : isPt p ⟨x, y, z⟩ = true) (hb : isPt p ⟨u, v, w⟩ = true) :
    fac p [y * w - z * v, z * u - x * w, x * v - y * u] = 0 ↔ x = u ∧ y = v ∧ z = w := by
  have hp := isPt_pr ha
  rw [fac_zero hp]
  simp only [List.mem_cons, List.not_mem_nil, or_false, forall_eq_or_imp, forall_eq]
  obtain ⟨⟨b1, b2, b3, b4, b5, b6⟩, c⟩ := isPt_cases ha
  obtain ⟨⟨d1, d2, d3, d4, d5, d6⟩, e⟩ := isPt_cases hb
  constructor
  · rintro ⟨h1, h2, h3⟩
    rcases isP_cases hp with rfl | rfl | rfl | rfl | rfl <;>
    rcases c with rfl | ⟨rfl, rfl⟩ | ⟨rfl, rfl, rfl⟩ <;> rcases e with rfl | ⟨rfl, rfl⟩ | ⟨rfl, rfl, rfl⟩ <;> omega
  · rintro ⟨rfl, rfl, rfl⟩
    rw [Int.mul_comm z y, Int.mul_comm z x, Int.mul_comm y x]
    simp
/-- What JoinOf and MeetOf answer. -/
def joinR (p : Int) (a b : P3) : P3 × Int :=
  if codeOf p (allPt p [a, b]) = 0 then (if a = b then (⟨0, 0, 0⟩, 5) else (crs p a b, 0)) else (⟨0, 0, 0⟩, codeOf p (allPt p [a, b]))
end Go.Proofs.Ytjfabhkgmelmgaa
