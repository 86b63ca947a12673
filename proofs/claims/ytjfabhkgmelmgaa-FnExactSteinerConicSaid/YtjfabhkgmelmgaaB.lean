/- Small facts that the rows and the walks of this seat use: an argument that is an array of numbers is its list of numbers; no condition. -/
import Derived.WalkKit
import Derived.ProofKit
import Derived.OpenShut
import Derived.Lib.Hide
namespace Go.Proofs.Ytjfabhkgmelmgaa
open Go.ChangeShapes Go.WideShapes Go.ChangeAt Go.RowKit

theorem cells_ints {k : IntKind} : ∀ {cs : List Value}, (∀ i, i < cs.length → ∃ n, cs[i]? = some (.int k n) ∧ (Lit.int k n).wf = true) →
    ∃ xs : List Int, cs = xs.map (Value.int k) ∧ ∀ x ∈ xs, (Lit.int k x).wf = true
  | [], _ => ⟨[], rfl, by simp⟩
  | c :: cs, h => by
    obtain ⟨n, hn, hw⟩ := h 0 (by simp)
    obtain ⟨xs, hx, hw'⟩ := cells_ints (k := k) (cs := cs) (fun i hi => by
      have := h (i + 1) (by simpa using hi)
      simpa using this)
    simp at hn
    subst hn
    exact ⟨n :: xs, by simp [hx], by simpa using ⟨hw, hw'⟩⟩

section
variable {H : Type} {enc : TypeId × Value → H} {P : Program} {w : World} {base : Nat} {spare : Nat → Bool} {held : Bool}

theorem iarr_cells {n e t fuel : Nat} {k : IntKind} {cs : List Value} {x : DataW H × List MemPlace} (ht : P.underlying t = some (.array n e)) (he : P.underlying e = some (.int k)) (hce : P.cellsOf e = 1) (hct : P.cellsOf t = n)
    (h : DataW.trod enc P w base spare held fuel t cs = some x) :
    ∀ i, i < cs.length → ∃ m, cs[i]? = some (.int k m) ∧ (Lit.int k m).wf = true := by
  obtain ⟨xs, m, rfl, rfl, hl, hlen, hg⟩ := DataW.trod_array ht h
  intro i hi
  have hi' : i < n := by omega
  have h1 := hg i hi'
  have hxi : xs[i]? = some xs[i] := List.getElem?_eq_getElem (by omega)
  rw [hxi] at h1
  obtain ⟨q, hq, -, hw⟩ := DataW.trod_int he h1
  rw [hce, Nat.mul_one] at hq
  refine ⟨q, ?_, hw⟩
  have : (List.take 1 (List.drop i cs))[0]? = some (.int k q) := by rw [hq]; rfl
  simpa using this

theorem open_iarr {r : Reach} {b0 n e t : Nat} {k : IntKind} {v : Value} {d : DataW H} {ps : List MemPlace} (ht : P.underlying t = some (.array n e)) (he : P.underlying e = some (.int k)) (hce : P.cellsOf e = 1) (hct : P.cellsOf t = n)
    (hval : Value.okWide P w r b0 t v) (hd : DataW.Trod enc P w base spare held t v d ps) :
    ∃ xs : List Int, xs.length = n ∧ v = .agg (xs.map (Value.int k)).toArray ∧ ∀ x ∈ xs, (Lit.int k x).wf = true := by
  unfold Value.okWide at hval
  rw [ht] at hval
  obtain ⟨cs, rfl, hs, -⟩ := hval
  obtain ⟨fuel, hf⟩ := hd
  obtain ⟨xs, hx, hw⟩ := cells_ints (iarr_cells ht he hce hct hf)
  simp only [Value.cells] at hx
  refine ⟨xs, ?_, ?_, hw⟩
  · have h1 : cs.toList.length = xs.length := by rw [hx]; simp
    simp at h1
    omega
  · rw [← hx]

theorem open_iarr2 {r : Reach} {b0 n m e e2 t : Nat} {k : IntKind} {v : Value} {d : DataW H} {ps : List MemPlace} (ht : P.underlying t = some (.array n e2)) (ht2 : P.underlying e2 = some (.array m e)) (he : P.underlying e = some (.int k)) (hce : P.cellsOf e = 1) (hct2 : P.cellsOf e2 = m) (hct : P.cellsOf t = n * m)
    (hval : Value.okWide P w r b0 t v) (hd : DataW.Trod enc P w base spare held t v d ps) :
    ∃ xs : List Int, xs.length = n * m ∧ v = .agg (xs.map (Value.int k)).toArray ∧ ∀ x ∈ xs, (Lit.int k x).wf = true := by
  unfold Value.okWide at hval
  rw [ht] at hval
  obtain ⟨cs, rfl, hs, -⟩ := hval
  obtain ⟨fuel, hf⟩ := hd
  obtain ⟨ys, q, rfl, -, hl, hlen, hg⟩ := DataW.trod_array ht hf
  have key : ∀ i, i < cs.toList.length → ∃ n, cs.toList[i]? = some (.int k n) ∧ (Lit.int k n).wf = true := by
    intro i hi
    have hl' : cs.toList.length = n * m := by rw [← hct]; simpa [Value.cells] using hl
    have hm : 0 < m := by
      rcases Nat.eq_zero_or_pos m with h | h
      · subst h; omega
      · exact h
    have hin : i / m < n := Nat.div_lt_of_lt_mul (by rw [Nat.mul_comm]; omega)
    have h1 := hg (i / m) hin
    rw [List.getElem?_eq_getElem (by omega)] at h1
    have h2 := iarr_cells ht2 he hce hct2 h1 (i % m) ?_
    · obtain ⟨z, hz, hw⟩ := h2
      refine ⟨z, ?_, hw⟩
      simp only [Value.cells, hct2] at hz
      rw [List.getElem?_take_of_lt (Nat.mod_lt _ hm), List.getElem?_drop] at hz
      rwa [Nat.mul_comm, Nat.div_add_mod] at hz
    · simp only [Value.cells, hct2, List.length_take, List.length_drop]
      have := Nat.div_add_mod i m
      have h3 : (i / m + 1) * m ≤ n * m := Nat.mul_le_mul_right m hin
      have h4 : (i / m + 1) * m = i / m * m + m := by rw [Nat.add_mul, Nat.one_mul]
      have := Nat.mod_lt i hm
      omega
  obtain ⟨xs, hx, hw⟩ := cells_ints key
  refine ⟨xs, ?_, ?_, hw⟩
  · have h1 : cs.toList.length = xs.length := by rw [hx]; simp
    simp at h1
    omega
  · rw [← hx]
end
theorem len3 {xs : List Int} (h : xs.length = 3) : ∃ x0 x1 x2 : Int, xs = [x0, x1, x2] := by
  match xs, h with
  | [x0, x1, x2], _ => exact ⟨x0, x1, x2, rfl⟩
theorem len4 {xs : List Int} (h : xs.length = 4) : ∃ x0 x1 x2 x3 : Int, xs = [x0, x1, x2, x3] := by
  match xs, h with
  | [x0, x1, x2, x3], _ => exact ⟨x0, x1, x2, x3, rfl⟩
theorem len6 {xs : List Int} (h : xs.length = 6) : ∃ x0 x1 x2 x3 x4 x5 : Int, xs = [x0, x1, x2, x3, x4, x5] := by
  match xs, h with
  | [x0, x1, x2, x3, x4, x5], _ => exact ⟨x0, x1, x2, x3, x4, x5, rfl⟩
theorem len9 {xs : List Int} (h : xs.length = 9) : ∃ x0 x1 x2 x3 x4 x5 x6 x7 x8 : Int, xs = [x0, x1, x2, x3, x4, x5, x6, x7, x8] := by
  match xs, h with
  | [x0, x1, x2, x3, x4, x5, x6, x7, x8], _ => exact ⟨x0, x1, x2, x3, x4, x5, x6, x7, x8, rfl⟩

/-- What the walk may use of cells and marks that were there before a call that makes memory of its own. -/
theorem bcell {W w1 : World} (hb : Below W.heap.size W w1) : (∀ b o, b < W.heap.size → w1.cell? ⟨b, o, none⟩ = W.cell? ⟨b, o, none⟩) ∧ (∀ b o, b < W.heap.size → w1.frozen? ⟨b, o, none⟩ = W.frozen? ⟨b, o, none⟩) :=
  ⟨fun b o h => hb.cell (p := ⟨b, o, none⟩) h, fun b o h => hb.frozen (p := ⟨b, o, none⟩) h⟩
theorem ret_int {k : IntKind} {a b : Int} (h : a = b) : Ending.returned (.int k a) = .returned (.int k b) := by rw [h]
theorem ret_bool {a b : Bool} (h : a = b) : Ending.returned (.bool a) = .returned (.bool b) := by rw [h]
theorem bnd {x : Int} (h : (Lit.int .i64 x).wf = true) : -9223372036854775808 ≤ x ∧ x ≤ 9223372036854775807 := by
  simp [Lit.wf, IntKind.min, IntKind.max, IntKind.signed, IntKind.bits] at h
  omega

/-- A slice's cells hold these numbers. -/
def Rd (w : World) (b off : Nat) (zs : List Int) : Prop := ∀ i x, zs[i]? = some x → w.cell? ⟨b, off + i, none⟩ = some (.int .i64 x)
theorem Rd.get {w : World} {b off : Nat} {zs : List Int} (h : Rd w b off zs) {k : Nat} (hk : k < zs.length) : ∃ x, w.cell? ⟨b, off + k, none⟩ = some (.int .i64 x) ∧ Hid (zs[k]? = some x) :=
  ⟨zs[k], h k _ (List.getElem?_eq_getElem hk), Lib.hid (List.getElem?_eq_getElem hk)⟩

theorem rd1 {w : World} {b off : Nat} {x0 : Int} (h0 : w.cell? ⟨b, off + 0, none⟩ = some (.int .i64 x0)) : Rd w b off [x0] := by
  intro i x hx
  match i, hx with
  | 0, hx => simp at hx; subst hx; exact h0
  | i + 1, hx => simp at hx
theorem rd3 {w : World} {b off : Nat} {x0 x1 x2 : Int} (h0 : w.cell? ⟨b, off + 0, none⟩ = some (.int .i64 x0)) (h1 : w.cell? ⟨b, off + 1, none⟩ = some (.int .i64 x1)) (h2 : w.cell? ⟨b, off + 2, none⟩ = some (.int .i64 x2)) : Rd w b off [x0, x1, x2] := by
  intro i x hx
  match i, hx with
  | 0, hx => simp at hx; subst hx; exact h0
  | 1, hx => simp at hx; subst hx; exact h1
  | 2, hx => simp at hx; subst hx; exact h2
  | i + 3, hx => simp at hx
theorem rd4 {w : World} {b off : Nat} {x0 x1 x2 x3 : Int} (h0 : w.cell? ⟨b, off + 0, none⟩ = some (.int .i64 x0)) (h1 : w.cell? ⟨b, off + 1, none⟩ = some (.int .i64 x1)) (h2 : w.cell? ⟨b, off + 2, none⟩ = some (.int .i64 x2)) (h3 : w.cell? ⟨b, off + 3, none⟩ = some (.int .i64 x3)) : Rd w b off [x0, x1, x2, x3] := by
  intro i x hx
  match i, hx with
  | 0, hx => simp at hx; subst hx; exact h0
  | 1, hx => simp at hx; subst hx; exact h1
  | 2, hx => simp at hx; subst hx; exact h2
  | 3, hx => simp at hx; subst hx; exact h3
  | i + 4, hx => simp at hx
theorem rd6 {w : World} {b off : Nat} {x0 x1 x2 x3 x4 x5 : Int} (h0 : w.cell? ⟨b, off + 0, none⟩ = some (.int .i64 x0)) (h1 : w.cell? ⟨b, off + 1, none⟩ = some (.int .i64 x1)) (h2 : w.cell? ⟨b, off + 2, none⟩ = some (.int .i64 x2)) (h3 : w.cell? ⟨b, off + 3, none⟩ = some (.int .i64 x3)) (h4 : w.cell? ⟨b, off + 4, none⟩ = some (.int .i64 x4)) (h5 : w.cell? ⟨b, off + 5, none⟩ = some (.int .i64 x5)) : Rd w b off [x0, x1, x2, x3, x4, x5] := by
  intro i x hx
  match i, hx with
  | 0, hx => simp at hx; subst hx; exact h0
  | 1, hx => simp at hx; subst hx; exact h1
  | 2, hx => simp at hx; subst hx; exact h2
  | 3, hx => simp at hx; subst hx; exact h3
  | 4, hx => simp at hx; subst hx; exact h4
  | 5, hx => simp at hx; subst hx; exact h5
  | i + 6, hx => simp at hx
theorem rd9 {w : World} {b off : Nat} {x0 x1 x2 x3 x4 x5 x6 x7 x8 : Int} (h0 : w.cell? ⟨b, off + 0, none⟩ = some (.int .i64 x0)) (h1 : w.cell? ⟨b, off + 1, none⟩ = some (.int .i64 x1)) (h2 : w.cell? ⟨b, off + 2, none⟩ = some (.int .i64 x2)) (h3 : w.cell? ⟨b, off + 3, none⟩ = some (.int .i64 x3)) (h4 : w.cell? ⟨b, off + 4, none⟩ = some (.int .i64 x4)) (h5 : w.cell? ⟨b, off + 5, none⟩ = some (.int .i64 x5)) (h6 : w.cell? ⟨b, off + 6, none⟩ = some (.int .i64 x6)) (h7 : w.cell? ⟨b, off + 7, none⟩ = some (.int .i64 x7)) (h8 : w.cell? ⟨b, off + 8, none⟩ = some (.int .i64 x8)) : Rd w b off [x0, x1, x2, x3, x4, x5, x6, x7, x8] := by
  intro i x hx
  match i, hx with
  | 0, hx => simp at hx; subst hx; exact h0
  | 1, hx => simp at hx; subst hx; exact h1
  | 2, hx => simp at hx; subst hx; exact h2
  | 3, hx => simp at hx; subst hx; exact h3
  | 4, hx => simp at hx; subst hx; exact h4
  | 5, hx => simp at hx; subst hx; exact h5
  | 6, hx => simp at hx; subst hx; exact h6
  | 7, hx => simp at hx; subst hx; exact h7
  | 8, hx => simp at hx; subst hx; exact h8
  | i + 9, hx => simp at hx
theorem rd0 {w : World} {b off : Nat} : Rd w b off [] := fun _ _ hx => by simp at hx
theorem Rd.below {w w' : World} {b off : Nat} {zs : List Int} (h : Rd w b off zs) (hb : Below w.heap.size w w') (hlt : b < w.heap.size) : Rd w' b off zs :=
  fun i x hx => by rw [hb.cell (p := ⟨b, off + i, none⟩) hlt]; exact h i x hx
theorem Below.step {B : Nat} {a w w' : World} (h : Below B a w) (hb : Below w.heap.size w w') (hB : B ≤ w.heap.size) : Below B a w' := h.trans (hb.mono hB)
theorem keepC {W w1 : World} (hb : Below W.heap.size W w1) {b o : Nat} {v : Value} (h : W.cell? ⟨b, o, none⟩ = some v) : w1.cell? ⟨b, o, none⟩ = some v := by
  have := World.block_lt_of_cell? W _ h
  rw [hb.cell (p := ⟨b, o, none⟩) this]; exact h
theorem keepB {B : Nat} {a W w1 : World} (hb : Below W.heap.size W w1) (h : Below B a W) (hB : B ≤ a.heap.size) : Below B a w1 := Below.step h hb (Nat.le_trans hB h.size)
end Go.Proofs.Ytjfabhkgmelmgaa
