/- The reference's reduced list, step by step as its loops go; no program in sight. -/
import Derived.Test.YtjfabhkgmelmgaaP15
namespace Go.Proofs.Ytjfabhkgmelmgaa
set_option linter.unusedSimpArgs false
set_option linter.unusedVariables false

theorem nrm_normR (p : Int) (r : List Int) : nrm p r = normR p r := rfl
/-- The place of the first number other than 0, or -1. -/
def ldI (r : List Int) : Int := match ldr r with | none => -1 | some q => q
theorem ldI_some {r : List Int} {q : Nat} (h : ldr r = some q) : ldI r = q := by unfold ldI; rw [h]
theorem ldI_none {r : List Int} (h : ldr r = none) : ldI r = -1 := by unfold ldI; rw [h]
theorem subAll_snoc {p : Int} : ∀ (S : List (List Int)) (own s : List Int), subAll p own (S ++ [s]) = less p (subAll p own S) s (vat (subAll p own S) ((ldr s).getD 0))
  | [], own, s => rfl
  | t :: S, own, s => by
    show subAll p (less p own t (vat own ((ldr t).getD 0))) (S ++ [s]) = _
    rw [subAll_snoc S]; rfl
theorem subAll_take {p : Int} {S : List (List Int)} {own s : List Int} {k q : Nat} (hk : S[k]? = some s) (hq : ldr s = some q) : subAll p own (S.take (k + 1)) = less p (subAll p own (S.take k)) s (vat (subAll p own (S.take k)) q) := by
  rw [List.take_add_one, hk]
  simp only [Option.toList_some]
  rw [subAll_snoc, hq]; rfl
def insStep (p : Int) (own : List Int) (q : Nat) (acc : List (List Int) × Bool) (s : List Int) : List (List Int) × Bool :=
  if acc.2 = false ∧ q < (ldr s).getD 0 then ((acc.1 ++ [own]) ++ [less p s own (vat s q)], true) else (acc.1 ++ [less p s own (vat s q)], acc.2)
def insF (p : Int) (own : List Int) (q : Nat) (S : List (List Int)) : List (List Int) × Bool := S.foldl (insStep p own q) ([], false)
theorem insF_put {p : Int} {own : List Int} {q : Nat} : ∀ (S A : List (List Int)), S.foldl (insStep p own q) (A, true) = (A ++ S.map (fun s => less p s own (vat s q)), true)
  | [], A => by simp
  | s :: S, A => by
    have h : insStep p own q (A, true) s = (A ++ [less p s own (vat s q)], true) := by
      unfold insStep; rw [if_neg (by simp)]
    rw [List.foldl_cons, h, insF_put S]; simp
theorem insF_go {p : Int} {own : List Int} {q : Nat} : ∀ (S A : List (List Int)), (if (S.foldl (insStep p own q) (A, false)).2 = true then (S.foldl (insStep p own q) (A, false)).1 else (S.foldl (insStep p own q) (A, false)).1 ++ [own]) = A ++ insR p own q S
  | [], A => by simp [insR]
  | s :: S, A => by
    rw [List.foldl_cons]
    by_cases hq : q < (ldr s).getD 0
    · have h : insStep p own q (A, false) s = ((A ++ [own]) ++ [less p s own (vat s q)], true) := by
        unfold insStep; rw [if_pos ⟨rfl, hq⟩]
      rw [h, insF_put S]
      simp only [insR]
      rw [if_pos hq]
      simp
    · have h : insStep p own q (A, false) s = (A ++ [less p s own (vat s q)], false) := by
        unfold insStep; rw [if_neg (by simp [hq])]
      rw [h, insF_go S]
      simp only [insR]
      rw [if_neg hq]
      simp
theorem insF_eq {p : Int} {own : List Int} {q : Nat} (S : List (List Int)) : (if (insF p own q S).2 = true then (insF p own q S).1 else (insF p own q S).1 ++ [own]) = insR p own q S := by
  have := insF_go (p := p) (own := own) (q := q) S []
  rw [List.nil_append] at this
  exact this
theorem insF_snoc {p : Int} {own : List Int} {q : Nat} {S : List (List Int)} {k : Nat} {s : List Int} (hk : S[k]? = some s) : insF p own q (S.take (k + 1)) = insStep p own q (insF p own q (S.take k)) s := by
  unfold insF
  rw [List.take_add_one, hk, List.foldl_append]
  rfl
theorem insStep_len {p : Int} {own : List Int} {q : Nat} (acc : List (List Int) × Bool) (s : List Int) : (insStep p own q acc s).1.length ≤ acc.1.length + 2 := by
  unfold insStep; split <;> simp
theorem insF_len {p : Int} {own : List Int} {q : Nat} : ∀ (S : List (List Int)) (k : Nat), (insF p own q (S.take k)).1.length ≤ 2 * k
  | S, 0 => by simp [insF]
  | S, k + 1 => by
    cases hk : S[k]? with
    | none => rw [List.take_add_one, hk]; simp only [Option.toList_none, List.append_nil]; have := insF_len (p := p) (own := own) (q := q) S k; omega
    | some s => rw [insF_snoc hk]; have := insF_len (p := p) (own := own) (q := q) S k; have := insStep_len (p := p) (own := own) (q := q) (insF p own q (S.take k)) s; omega
theorem insR_len {p : Int} {own : List Int} {q : Nat} : ∀ (S : List (List Int)), (insR p own q S).length = S.length + 1
  | [] => rfl
  | s :: S => by
    simp only [insR]
    split
    · simp
    · simp [insR_len S]
theorem ech_snoc {p : Int} {rows : List (List Int)} {k : Nat} {r : List Int} (hk : rows[k]? = some r) : ech p (rows.take (k + 1)) = echStep p (ech p (rows.take k)) r := by
  unfold ech
  rw [List.take_add_one, hk, List.foldl_append]; rfl
theorem echStep_len {p : Int} (S : List (List Int)) (r : List Int) : (echStep p S r).length ≤ S.length + 1 := by
  unfold echStep; split
  · omega
  · rw [insR_len]; omega
theorem ech_len {p : Int} : ∀ (rows : List (List Int)) (k : Nat), (ech p (rows.take k)).length ≤ k
  | rows, 0 => by simp [ech]
  | rows, k + 1 => by
    cases hk : rows[k]? with
    | none => rw [List.take_add_one, hk]; simp only [Option.toList_none, List.append_nil]; have := ech_len (p := p) rows k; omega
    | some s => rw [ech_snoc hk]; have := ech_len (p := p) rows k; have := echStep_len (p := p) (ech p (rows.take k)) s; omega
/-- What the reference's rows are at each step. -/
def LedN (p : Int) (n : Nat) (S : List (List Int)) : Prop := ∀ s ∈ S, okR p n s ∧ ∃ q, ldr s = some q ∧ q < n
theorem ech_led {p : Int} (hp : isP p = true) {n : Nat} {rows : List (List Int)} (h : ∀ r ∈ rows, okR p n r) (k : Nat) : LedN p n (ech p (rows.take k)) := by
  obtain ⟨Z, hZ, he, _, _⟩ := ech_ok hp (fun r hr => h r (List.mem_of_mem_take hr) : ∀ r ∈ rows.take k, okR p n r)
  intro s hs
  rw [← he, List.mem_map] at hs
  obtain ⟨z, hz, rfl⟩ := hs
  obtain ⟨h1, h2, _⟩ := hZ.ok z hz
  exact ⟨h1, z.1, hZ.ldr z hz, h2⟩
/-- One row more, where it is 0 behind the subtractions. -/
theorem echStep_none {p : Int} {S : List (List Int)} {r : List Int} (h : ldr (subAll p r S) = none) : echStep p S r = S := by unfold echStep; rw [h]
theorem echStep_some {p : Int} {S : List (List Int)} {r : List Int} {q : Nat} (h : ldr (subAll p r S) = some q) : echStep p S r = insR p (normR p (subAll p r S)) q S := by unfold echStep; rw [h]
theorem less_take {p : Int} {a b : List Int} {k : Int} {j : Nat} (hj : j < a.length) : (less p a b k).take (j + 1) = (less p a b k).take j ++ [(vat a j - k * vat b j) % p] := by
  rw [List.take_add_one]
  congr 1
  unfold less
  rw [List.getElem?_map, List.getElem?_range hj]; rfl
theorem vat_get {r : List Int} {i : Nat} {x : Int} (h : r[i]? = some x) : vat r i = x := by
  unfold vat; rw [List.getD_eq_getElem?_getD, h]; rfl
end Go.Proofs.Ytjfabhkgmelmgaa
