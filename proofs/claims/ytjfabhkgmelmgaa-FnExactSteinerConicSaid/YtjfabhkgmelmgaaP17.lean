/- The rows of numbers that are 0 against given rows in the reduced form: how the program lists them; no program in sight. -/
import Derived.Test.YtjfabhkgmelmgaaP13
import Derived.Test.YtjfabhkgmelmgaaP4
namespace Go.Proofs.Ytjfabhkgmelmgaa
set_option linter.unusedSimpArgs false
set_option linter.unusedVariables false

def unitR (n c : Nat) : List Int := (List.replicate n 0).set c 1
def kernPut (p : Int) (c : Nat) (l r : List Int) : List Int := l.set ((ldr r).getD 0) ((-(vat r c)) % p)
def kernRow (p : Int) (n c : Nat) (R : List (List Int)) : List Int := R.foldl (kernPut p c) (unitR n c)
def leadsI (R : List (List Int)) : List Int := R.map ldI
def kernTo (p : Int) (n : Nat) (R : List (List Int)) : Nat → List (List Int)
  | 0 => []
  | c + 1 => if (c : Int) ∈ leadsI R then kernTo p n R c else kernTo p n R c ++ [kernRow p n c R]
def kern (p : Int) (n : Nat) (R : List (List Int)) : List (List Int) := kernTo p n R n
theorem kernTo_len (p : Int) (n : Nat) (R : List (List Int)) : ∀ c, (kernTo p n R c).length ≤ c
  | 0 => Nat.le_refl _
  | c + 1 => by
    have := kernTo_len p n R c
    unfold kernTo
    split
    · omega
    · simp; omega
theorem kernPut_ok {p : Int} (hp : isP p = true) {n c : Nat} {l r : List Int} (h : okR p n l) : okR p n (kernPut p c l r) := by
  have := isP_lo hp
  refine ⟨by unfold kernPut; rw [List.length_set]; exact h.1, fun x hx => ?_⟩
  rcases List.mem_or_eq_of_mem_set hx with hx | rfl
  · exact h.2 x hx
  · exact ⟨Int.emod_nonneg _ (by omega), Int.emod_lt_of_pos _ (by omega)⟩
theorem unitR_ok {p : Int} (hp : isP p = true) (n c : Nat) : okR p n (unitR n c) := by
  have := isP_lo hp
  refine ⟨by simp [unitR], fun x hx => ?_⟩
  rcases List.mem_or_eq_of_mem_set hx with hx | rfl
  · have := List.eq_of_mem_replicate hx; subst this; omega
  · omega
theorem kernRow_ok {p : Int} (hp : isP p = true) {n c : Nat} : ∀ (R : List (List Int)) (l : List Int), okR p n l → okR p n (R.foldl (kernPut p c) l)
  | [], l, h => h
  | r :: R, l, h => kernRow_ok hp R _ (kernPut_ok hp h)
theorem kernTo_ok {p : Int} (hp : isP p = true) {n : Nat} (R : List (List Int)) : ∀ c, ∀ r ∈ kernTo p n R c, okR p n r
  | 0 => by simp [kernTo]
  | c + 1 => by
    intro r hr
    unfold kernTo at hr
    split at hr
    · exact kernTo_ok hp R c r hr
    · rcases List.mem_append.1 hr with hr | hr
      · exact kernTo_ok hp R c r hr
      · simp at hr; subst hr; exact kernRow_ok hp R _ (unitR_ok hp n c)
theorem kern_ok {p : Int} (hp : isP p = true) {n : Nat} (R : List (List Int)) : ∀ r ∈ kern p n R, okR p n r := kernTo_ok hp R n
theorem foldl_take {α β : Type} (f : β → α → β) (b : β) {R : List α} {k : Nat} {r : α} (h : R[k]? = some r) : (R.take (k + 1)).foldl f b = f ((R.take k).foldl f b) r := by
  rw [List.take_add_one, h, List.foldl_append]; rfl
theorem map_take {α β : Type} (f : α → β) {R : List α} {k : Nat} {r : α} (h : R[k]? = some r) : (R.take (k + 1)).map f = (R.take k).map f ++ [f r] := by
  rw [List.take_add_one, h, List.map_append]; rfl
theorem vat3_0 (x y z : Int) : vat [x, y, z] 0 = x := rfl
theorem vat3_1 (x y z : Int) : vat [x, y, z] 1 = y := rfl
theorem vat3_2 (x y z : Int) : vat [x, y, z] 2 = z := rfl
theorem vat3_3 (x y z : Int) (i : Nat) : vat [x, y, z] (i + 3) = 0 := rfl
/-- Three places are all there are. -/
theorem vat3_all {P : Nat → Prop} (h0 : P 0) (h1 : P 1) (h2 : P 2) (h3 : ∀ i, P (i + 3)) (i : Nat) : P i := by
  match i with
  | 0 => exact h0
  | 1 => exact h1
  | 2 => exact h2
  | i + 3 => exact h3 i
/-- What two rows that span the lines through o are. -/
structure Span2 (p : Int) (o k1 k2 : P3) : Prop where
  z1 : Cg p (k1.x * o.x + k1.y * o.y + k1.z * o.z) 0
  z2 : Cg p (k2.x * o.x + k2.y * o.y + k2.z * o.z) 0
  all : ∀ r : P3, Cg p (r.x * o.x + r.y * o.y + r.z * o.z) 0 → ∃ a b : Int, Cg p r.x (a * k1.x + b * k2.x) ∧ Cg p r.y (a * k1.y + b * k2.y) ∧ Cg p r.z (a * k1.z + b * k2.z)
  pl : ∃ i j : Nat, vat k1.l i = 1 ∧ vat k1.l j = 0 ∧ vat k2.l i = 0 ∧ vat k2.l j = 1
theorem cg_neg_mod (p y : Int) : Cg p ((-y) % p) (-y) := Cg.mod p _
/-- The kernel of one point. -/
theorem kern_point {p : Int} {o : P3} (h : isPt p o = true) : ∃ k1 k2 : P3, kern p 3 (ech p [o.l]) = [k1.l, k2.l] ∧ Span2 p o k1 k2 := by
  have hp := isPt_pr h
  have q1 := isP_lo hp
  obtain ⟨x, y, z⟩ := o
  obtain ⟨⟨b1, b2, b3, b4, b5, b6⟩, e⟩ := isPt_cases h
  try simp only at b1 b2 b3 b4 b5 b6 e
  have hf := fac_norm h
  try simp only at hf
  have hx : nr p 1 x = x := by unfold nr; rw [Int.mul_one, Int.emod_emod_of_dvd _ (Int.dvd_refl p)]; exact Int.emod_eq_of_lt b1 (by omega)
  have hy : nr p 1 y = y := by unfold nr; rw [Int.mul_one, Int.emod_emod_of_dvd _ (Int.dvd_refl p)]; exact Int.emod_eq_of_lt b3 (by omega)
  have hz : nr p 1 z = z := by unfold nr; rw [Int.mul_one, Int.emod_emod_of_dvd _ (Int.dvd_refl p)]; exact Int.emod_eq_of_lt b5 (by omega)
  have hn : normR p [x, y, z] = [x, y, z] := by unfold normR; rw [hf]; simp [hx, hy, hz]
  have hE : ∀ q, ldr [x, y, z] = some q → ech p [[x, y, z]] = [[x, y, z]] := fun q hq => by
    show echStep p [] [x, y, z] = _
    rw [echStep_some (S := []) (r := [x, y, z]) (q := q) hq]
    show insR p (normR p [x, y, z]) q [] = _
    rw [hn]; rfl
  rcases e with rfl | ⟨rfl, rfl⟩ | ⟨rfl, rfl, rfl⟩
  · refine ⟨⟨(-y) % p, 1, 0⟩, ⟨(-z) % p, 0, 1⟩, ?_, ?_, ?_, fun r hr => ?_, 1, 2, rfl, rfl, rfl, rfl⟩
    · show kern p 3 (ech p [[1, y, z]]) = _
      rw [hE 0 (by simp [ldr])]
      simp [kern, kernTo, leadsI, ldI, ldr, kernRow, kernPut, unitR, vat, P3.l, List.replicate]
    · simp only
      refine (((cg_neg_mod p y).mulR 1).add (Cg.refl p (1 * y + 0 * z)) |>.trans (Cg.of_eq ?_)) |> (fun h => (Cg.of_eq ?_).trans h)
      · omega
      · omega
    · simp only
      refine (((cg_neg_mod p z).mulR 1).add (Cg.refl p (0 * y + 1 * z)) |>.trans (Cg.of_eq ?_)) |> (fun h => (Cg.of_eq ?_).trans h)
      · omega
      · omega
    · obtain ⟨u, v, t⟩ := r
      simp only at hr ⊢
      refine ⟨v, t, ?_, Cg.of_eq (by omega), Cg.of_eq (by omega)⟩
      have h1 : Cg p (v * ((-y) % p) + t * ((-z) % p)) (v * (-y) + t * (-z)) := ((cg_neg_mod p y).mulL v).add ((cg_neg_mod p z).mulL t)
      refine Cg.trans ?_ h1.symm
      have h2 := hr.add (Cg.refl p (v * (-y) + t * (-z)))
      refine (Cg.of_eq ?_).trans (h2.trans (Cg.of_eq ?_))
      · rw [Int.mul_neg, Int.mul_neg]; omega
      · omega
  · refine ⟨⟨1, 0, 0⟩, ⟨0, (-z) % p, 1⟩, ?_, ?_, ?_, fun r hr => ?_, 0, 2, rfl, rfl, rfl, rfl⟩
    · show kern p 3 (ech p [[0, 1, z]]) = _
      rw [hE 1 (by simp [ldr])]
      simp [kern, kernTo, leadsI, ldI, ldr, kernRow, kernPut, unitR, vat, P3.l, List.replicate]
    · simp only; exact Cg.of_eq (by omega)
    · simp only
      refine (((cg_neg_mod p z).mulR 1).add (Cg.refl p (0 * 0 + 1 * z)) |>.trans (Cg.of_eq ?_)) |> (fun h => (Cg.of_eq ?_).trans h)
      · omega
      · omega
    · obtain ⟨u, v, t⟩ := r
      simp only at hr ⊢
      refine ⟨u, t, Cg.of_eq (by omega), ?_, Cg.of_eq (by omega)⟩
      have h1 : Cg p (u * 0 + t * ((-z) % p)) (u * 0 + t * (-z)) := (Cg.refl p _).add ((cg_neg_mod p z).mulL t)
      refine Cg.trans ?_ h1.symm
      have h2 := hr.add (Cg.refl p (t * (-z)))
      refine (Cg.of_eq ?_).trans (h2.trans (Cg.of_eq ?_))
      · rw [Int.mul_neg]; omega
      · omega
  · refine ⟨⟨1, 0, 0⟩, ⟨0, 1, 0⟩, ?_, ?_, ?_, fun r hr => ?_, 0, 1, rfl, rfl, rfl, rfl⟩
    · show kern p 3 (ech p [[0, 0, 1]]) = _
      rw [hE 2 (by simp [ldr])]
      simp [kern, kernTo, leadsI, ldI, ldr, kernRow, kernPut, unitR, vat, P3.l, List.replicate]
    · simp only; exact Cg.of_eq (by omega)
    · simp only; exact Cg.of_eq (by omega)
    · obtain ⟨u, v, t⟩ := r
      simp only at hr ⊢
      exact ⟨u, v, Cg.of_eq (by omega), Cg.of_eq (by omega), (Cg.of_eq (by omega)).trans (hr.trans (Cg.of_eq (by omega)))⟩
theorem okR3 {p : Int} {a : P3} (h : (0 ≤ a.x ∧ a.x < p) ∧ (0 ≤ a.y ∧ a.y < p) ∧ (0 ≤ a.z ∧ a.z < p)) : okR p 3 a.l := ⟨rfl, fun x hx => by
  unfold P3.l at hx
  simp at hx
  rcases hx with rfl | rfl | rfl
  · exact h.1
  · exact h.2.1
  · exact h.2.2⟩
theorem isPt_ok {p : Int} {a : P3} (h : isPt p a = true) : okR p 3 a.l := by
  obtain ⟨⟨b1, b2, b3, b4, b5, b6⟩, _⟩ := isPt_cases h
  exact okR3 ⟨⟨b1, by omega⟩, ⟨b3, by omega⟩, ⟨b5, by omega⟩⟩
theorem sp3 {p : Int} {R : List (List Int)} {a : P3} {v : Nat → Int} (hv : Sp p R v) (h0 : Cg p a.x (v 0)) (h1 : Cg p a.y (v 1)) (h2 : Cg p a.z (v 2)) (h3 : ∀ i, Cg p 0 (v (i + 3))) : Sp p R (vat a.l) :=
  hv.cg (fun i => vat3_all (P := fun i => Cg p (vat a.l i) (v i)) h0 h1 h2 h3 i)
theorem onB_dot {p : Int} {o r : P3} : onB p o r = true ↔ Cg p (r.x * o.x + r.y * o.y + r.z * o.z) 0 := by
  unfold onB dot3
  rw [beq_iff_eq, Cg.zero, dvd_em]
/-- Both lists of rows span the same. -/
theorem bun_same {p : Int} {o : P3} (h : isPt p o = true) : ech p (rowsP (onP p o)) = ech p (kern p 3 (ech p [o.l])) := by
  have hp := isPt_pr h
  have q1 := isP_lo hp
  obtain ⟨k1, k2, hK, hS⟩ := kern_point h
  have hkok := kern_ok hp (n := 3) (ech p [o.l])
  rw [hK] at hkok ⊢
  have hO : ∀ r ∈ rowsP (onP p o), okR p 3 r := fun r hr => by
    unfold rowsP at hr
    rw [List.mem_map] at hr
    obtain ⟨a, ha, rfl⟩ := hr
    unfold onP at ha
    exact isPt_ok (allP_mem hp (List.mem_filter.1 ha).1)
  obtain ⟨Z1, a1, a2, a3, a4⟩ := ech_ok hp hkok
  obtain ⟨Z2, c1, c2, c3, c4⟩ := ech_ok hp hO
  have hR1 := a1.rref; rw [a2] at hR1
  have hR2 := c1.rref; rw [c2] at hR2
  -- rows on the line are combinations of the kernel's
  have h1 : ∀ r ∈ rowsP (onP p o), Sp p [k1.l, k2.l] (vat r) := fun r hr => by
    unfold rowsP at hr
    rw [List.mem_map] at hr
    obtain ⟨a, ha, rfl⟩ := hr
    unfold onP at ha
    obtain ⟨s, t, e0, e1, e2⟩ := hS.all a (onB_dot.1 (List.mem_filter.1 ha).2)
    exact sp3 (((Sp.mem (R := [k1.l, k2.l]) (r := k1.l) (by simp)).smul s).add ((Sp.mem (R := [k1.l, k2.l]) (r := k2.l) (by simp)).smul t)) e0 e1 e2 (fun i => Cg.of_eq (by show (0 : Int) = s * 0 + t * 0; omega))
  -- the kernel's rows are multiples of points on the line
  have hk : ∀ k : P3, Cg p (k.x * o.x + k.y * o.y + k.z * o.z) 0 → (∃ i, vat k.l i = 1) → Sp p (rowsP (onP p o)) (vat k.l) := fun k hz hi => by
    have hne : fac p [k.x, k.y, k.z] ≠ 0 := fac_ne hp (fun ⟨d1, d2, d3⟩ => by
      obtain ⟨i, hi⟩ := hi
      have : p ∣ vat k.l i := vat3_all (P := fun i => p ∣ vat k.l i) d1 d2 d3 (fun i => ⟨0, by show (0 : Int) = p * 0; omega⟩) i
      rw [hi] at this
      exact one_lt hp this)
    have hpt := npt_pt hp hne
    obtain ⟨l, hl, e0, e1, e2⟩ := npt_cg hp hne
    generalize npt p k.x k.y k.z = d at *
    have hon : d.l ∈ rowsP (onP p o) := by
      unfold rowsP onP
      refine List.mem_map.2 ⟨d, List.mem_filter.2 ⟨allP_all hpt, onB_dot.2 ?_⟩, rfl⟩
      have hd : Cg p ((d.x * o.x + d.y * o.y + d.z * o.z) * l) (0 * l) := by
        refine Cg.trans ?_ (hz.trans (Cg.of_eq (by omega)))
        refine (Cg.of_eq ?_).trans (((e0.mulR o.x).add (e1.mulR o.y)).add (e2.mulR o.z)).symm
        rw [Int.add_mul, Int.add_mul, Int.mul_comm (d.x * o.x) l, Int.mul_comm (d.y * o.y) l, Int.mul_comm (d.z * o.z) l, Int.mul_assoc l d.x, Int.mul_assoc l d.y, Int.mul_assoc l d.z]
      exact hd.cancel hp hl
    exact sp3 ((Sp.mem hon).smul l) e0 e1 e2 (fun i => Cg.of_eq (by show (0 : Int) = l * 0; omega))
  obtain ⟨i, j, d1, d2, d3, d4⟩ := hS.pl
  have h2 : ∀ r ∈ [k1.l, k2.l], Sp p (rowsP (onP p o)) (vat r) := fun r hr => by
    simp only [List.mem_cons, List.not_mem_nil, or_false] at hr
    rcases hr with rfl | rfl
    · exact hk k1 hS.z1 ⟨i, d1⟩
    · exact hk k2 hS.z2 ⟨j, d4⟩
  exact hR2.uniq hp hR1 (fun r hr => Sp.le a3 (Sp.le h1 (c4 r hr))) (fun r hr => Sp.le c3 (Sp.le h2 (a4 r hr)))
/-- There are two of them. -/
theorem bun_len {p : Int} {o : P3} (h : isPt p o = true) : (ech p (kern p 3 (ech p [o.l]))).length = 2 := by
  have hp := isPt_pr h
  have q1 := isP_lo hp
  obtain ⟨k1, k2, hK, hS⟩ := kern_point h
  have hkok := kern_ok hp (n := 3) (ech p [o.l])
  rw [hK] at hkok ⊢
  obtain ⟨i, j, d1, d2, d3, d4⟩ := hS.pl
  have o1 := hkok k1.l (by simp)
  have o2 := hkok k2.l (by simp)
  have hl1 : ldr k1.l ≠ none := fun hn => by rw [ldr_none hn i] at d1; cases d1
  obtain ⟨q, hq⟩ := Option.ne_none_iff_exists'.1 hl1
  have hs1 : echStep p [] k1.l = [normR p k1.l] := by
    rw [echStep_some (S := []) (r := k1.l) (q := q) hq]; rfl
  show (echStep p (echStep p [] k1.l) k2.l).length = 2
  rw [hs1]
  have hf := normR_vat hp k1.l
  have no := normR_ok (r := k1.l) hp o1.1
  generalize normR p k1.l = n1 at *
  have hsub : subAll p k2.l [n1] = less p k2.l n1 (vat k2.l ((ldr n1).getD 0)) := rfl
  cases hd : ldr (subAll p k2.l [n1]) with
  | some q' => rw [echStep_some hd]; rw [insR_len]; rfl
  | none =>
    exfalso
    rw [hsub] at hd
    generalize vat k2.l ((ldr n1).getD 0) = m at *
    have hz : ∀ i, Cg p (vat k2.l i) (m * (fac p k1.l * vat k1.l i)) := fun i => by
      have e := less_vat (p := p) (k := m) o2.1 no.1 i
      rw [ldr_none hd i] at e
      have e2 := e.symm.add (Cg.refl p (m * vat n1 i))
      exact (Cg.of_eq (by omega)).trans (e2.trans ((Cg.of_eq (by omega)).trans ((hf i).mulL m)))
    have hi := hz i
    have hj := hz j
    rw [d1, d3] at hi
    rw [d2, d4] at hj
    have e : Cg p (1 : Int) 0 := hj.trans (Cg.of_eq (by simp))
    exact one_lt hp (Cg.zero.1 e)
def bunL (p : Int) (o : P3) : List (List Int) := ech p (kern p 3 (ech p [o.l]))
def rowP3 (r : List Int) : P3 := ⟨vat r 0, vat r 1, vat r 2⟩
def buU (p : Int) (o : P3) : P3 := rowP3 ((bunL p o).getD 0 [])
def buV (p : Int) (o : P3) : P3 := rowP3 ((bunL p o).getD 1 [])
theorem rowP3_l {r : List Int} (h : r.length = 3) : (rowP3 r).l = r := by
  match r, h with
  | [x, y, z], _ => rfl
/-- What the two rows are. -/
structure Bun (p : Int) (u v : P3) : Prop where
  ou : okR p 3 u.l
  ov : okR p 3 v.l
  q : ∃ q : Nat, vat u.l q = 1 ∧ vat v.l q = 0 ∧ ∀ i, i < q → vat u.l i = 0 ∧ vat v.l i = 0
theorem bun_two {p : Int} {o : P3} (h : isPt p o = true) : bunL p o = [(buU p o).l, (buV p o).l] ∧ Bun p (buU p o) (buV p o) := by
  have hp := isPt_pr h
  have hl := bun_len h
  obtain ⟨Z, z1, z2, _, _⟩ := ech_ok hp (kern_ok hp (n := 3) (ech p [o.l]))
  have hR := z1.rref
  rw [z2] at hR
  have hbu : bunL p o = ech p (kern p 3 (ech p [o.l])) := rfl
  rw [← hbu] at hl hR
  unfold buU buV
  generalize bunL p o = L at *
  generalize Z.map Prod.fst = P at *
  match L, hl with
  | [a, b], _ =>
    have h1 := hR.rows a (by simp)
    have h2 := hR.rows b (by simp)
    have hPl := hR.len
    match P, hPl with
    | [q0, q1], _ =>
      show [a, b] = [(rowP3 a).l, (rowP3 b).l] ∧ Bun p (rowP3 a) (rowP3 b)
      have ha := rowP3_l h1.1
      have hb := rowP3_l h2.1
      have hlt := hR.incr
      simp at hlt
      refine ⟨by rw [ha, hb], by rw [ha]; exact h1, by rw [hb]; exact h2, q0, ?_, ?_, fun i hi => ⟨?_, ?_⟩⟩
      · rw [ha]; exact hR.one 0 q0 a rfl rfl
      · rw [hb]; exact hR.other 0 q0 1 b rfl rfl (by decide)
      · rw [ha]; exact hR.before 0 q0 a i rfl rfl hi
      · rw [hb]; exact hR.before 1 q1 b i rfl rfl (by omega)
/-- The sum of the one and t times the other is normal. -/
theorem bun_sum {p : Int} (hp : isP p = true) {u v : P3} (h : Bun p u v) (t : Int) : npt p (1 * u.x + t * v.x) (1 * u.y + t * v.y) (1 * u.z + t * v.z) = ⟨(1 * u.x + t * v.x) % p, (1 * u.y + t * v.y) % p, (1 * u.z + t * v.z) % p⟩ := by
  have k1 := isP_lo hp
  obtain ⟨q, h1, h2, h3⟩ := h.q
  have hv : ∀ i, vat [(1 * u.x + t * v.x) % p, (1 * u.y + t * v.y) % p, (1 * u.z + t * v.z) % p] i = (vat u.l i + t * vat v.l i) % p := fun i => by
    refine vat3_all (P := fun i => vat [(1 * u.x + t * v.x) % p, (1 * u.y + t * v.y) % p, (1 * u.z + t * v.z) % p] i = (vat u.l i + t * vat v.l i) % p) ?_ ?_ ?_ (fun i => ?_) i
    · show (1 * u.x + t * v.x) % p = (u.x + t * v.x) % p; rw [Int.one_mul]
    · show (1 * u.y + t * v.y) % p = (u.y + t * v.y) % p; rw [Int.one_mul]
    · show (1 * u.z + t * v.z) % p = (u.z + t * v.z) % p; rw [Int.one_mul]
    · show (0 : Int) = (0 + t * 0) % p; simp
  have hld : ldr [(1 * u.x + t * v.x) % p, (1 * u.y + t * v.y) % p, (1 * u.z + t * v.z) % p] = some q := ldr_eq (by
    rw [hv q, h1, h2, Int.mul_zero, Int.add_zero, Int.emod_eq_of_lt (by omega) (by omega)]; decide) (fun i hi => by
    rw [hv i, (h3 i hi).1, (h3 i hi).2, Int.mul_zero]; simp)
  have hf := fac_ldr (p := p) (fun x hx => by
    simp at hx
    have m0 := fun y : Int => Int.emod_nonneg y (show p ≠ 0 by omega)
    have m1 := fun y : Int => Int.emod_lt_of_pos y (show 0 < p by omega)
    rcases hx with rfl | rfl | rfl <;> exact ⟨m0 _, m1 _⟩) hld
  rw [hv q, h1, h2, Int.mul_zero, Int.add_zero, inv_md, inv_one hp] at hf
  have hf2 : fac p [1 * u.x + t * v.x, 1 * u.y + t * v.y, 1 * u.z + t * v.z] = 1 := by
    rw [← fac_mod]; exact hf
  unfold npt
  rw [hf2]
  unfold nr
  simp only [Int.mul_one, Int.emod_emod_of_dvd _ (Int.dvd_refl p)]
end Go.Proofs.Ytjfabhkgmelmgaa
