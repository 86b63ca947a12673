/- Numbers and points as texts: decimal digits, colons between them; plain facts. -/
import Derived.Lib.Join
import Derived.Lib.ItoaNum
namespace Go.Proofs.YthafbmenkhekoaaDoor
set_option linter.unusedSimpArgs false
set_option linter.unusedVariables false

/-- The decimal digits of a number that is not negative. -/
def dec (n : Int) : List UInt8 := Lib.decDigits n.toNat
theorem dec_lo {n : Int} (h : n ≤ 9) : dec n = [UInt8.ofNat (48 + n.toNat)] := by
  unfold dec Lib.decDigits
  rw [dif_pos (by omega)]
theorem dec_hi {n : Int} (h : 10 ≤ n) : dec n = dec (n / 10) ++ [UInt8.ofNat (48 + n.toNat % 10)] := by
  have e : (n / 10).toNat = n.toNat / 10 := by omega
  unfold dec
  rw [e]
  conv => lhs; unfold Lib.decDigits
  rw [dif_neg (by omega)]
/-- Numbers with colons between them. -/
def txt (zs : List Int) : List UInt8 := Lib.join (zs.map dec) [58]
theorem txt_nil : txt [] = [] := rfl
theorem txt_snoc (zs : List Int) (z : Int) : txt (zs ++ [z]) = if zs = [] then dec z else txt zs ++ [58] ++ dec z := by
  cases zs with
  | nil => simp [txt, Lib.join_one]
  | cons x r =>
    rw [if_neg (by simp)]
    simp only [txt, List.cons_append, List.map_cons, List.map_append, Lib.join_cons, List.map_nil]
    simp [Lib.joinTail]
theorem dec_len {n : Int} (h : n ≤ 99) : (dec n).length ≤ 2 := by
  rcases Int.lt_or_le 9 n with h' | h'
  · rw [dec_hi (by omega), List.length_append, dec_lo (by omega)]; simp
  · rw [dec_lo h']; simp
theorem lens_dec {r : List Int} (h : ∀ z ∈ r, z ≤ 99) : Lib.lens (r.map dec) ≤ 2 * r.length := by
  induction r with
  | nil => simp [Lib.lens]
  | cons x r ih =>
    have h1 := ih (fun y hy => h y (by simp [hy]))
    have h2 := dec_len (h x (by simp))
    simp only [Lib.lens, List.map_cons, List.sum_cons, List.length_cons] at h1 ⊢
    omega
theorem txt_len {zs : List Int} (h : ∀ z ∈ zs, z ≤ 99) : (txt zs).length ≤ 3 * zs.length := by
  cases zs with
  | nil => simp [txt_nil]
  | cons x r =>
    have h1 := lens_dec (r := r) (fun y hy => h y (by simp [hy]))
    have h2 := dec_len (h x (by simp))
    simp only [txt, List.map_cons, Lib.join_cons, List.length_append, Lib.joinTail_length, List.length_cons, List.length_map, List.length_nil]
    omega
/-- A text of bytes. -/
def str (l : List UInt8) : ByteArray := ⟨l.toArray⟩
theorem str_append (a b : List UInt8) : str a ++ str b = str (a ++ b) := by
  unfold str
  apply ByteArray.ext
  simp [ByteArray.data_append]
theorem str_size (l : List UInt8) : (str l).size = l.length := by simp [str, ByteArray.size]
theorem txt_take {zs : List Int} {k : Nat} {z : Int} (h : zs[k]? = some z) : txt (zs.take (k + 1)) = if k = 0 then dec z else txt (zs.take k) ++ [58] ++ dec z := by
  rw [List.take_add_one, h]
  simp only [Option.toList_some]
  rw [txt_snoc]
  have hk : k < zs.length := by
    rcases Nat.lt_or_ge k zs.length with h' | h'
    · exact h'
    · rw [List.getElem?_eq_none h'] at h; cases h
  cases k with
  | zero => simp
  | succ k =>
    have hne : ¬ zs.take (k + 1) = [] := fun e => by
      have h1 : (zs.take (k + 1)).length = 0 := by rw [e]; rfl
      rw [List.length_take] at h1
      omega
    rw [if_neg hne, if_neg (by omega)]
end Go.Proofs.YthafbmenkhekoaaDoor
