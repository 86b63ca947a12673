/- append at slices of points and of lines, and the points' cells out of their rows; no condition. -/
import Derived.Test.YtjfabhkgmelmgaaA1
import Derived.Test.YtjfabhkgmelmgaaP2
namespace Go.Proofs.Ytjfabhkgmelmgaa
open Go.RowKit
set_option linter.unusedSimpArgs false
set_option linter.unusedVariables false
set_option maxRecDepth 100000

theorem append3 {ops : Array Oper} {rest : List Oper} {o : Oper} {a : Act} {Q : Exit → Act → World → Prop} {w : World} {t0 : Nat} {E t : Nat} {x y z : Int} (ht : Try.prog.underlying t = some (.slice E)) (hinfo : (Try.prog.info? E).map (fun i => (i.zero, i.size, i.bytes)) = some (some (.agg #[.int .i64 0, .int .i64 0, .int .i64 0]), 3, 24))
    (base : Nat) (v : Value) (rows : List (List Int)) (hown : OwnA E 3 w base v rows) (hgd : o.guard = none) (s u : Operand)
    (ho : o.op = .call { callee := .builtin .append, args := #[s, u], argTypes := #[t, t] })
    (hs : a.eval s = v) (hx : a.eval u = .slice (some ⟨w.heap.size, 0, none⟩) 1 1)
    (hlen : rows.length ≤ 10000000) (hbase : base ≤ w.heap.size)
    (h : ∀ v' w', OwnA E 3 w' base v' (rows ++ [[x, y, z]]) → (∀ b0 a0, Below b0 a0 w → b0 ≤ base → Below b0 a0 w') → w.heap.size < w'.heap.size → wpList Try.prog ops Q rest (a.put o.dst v') w') :
    wpList Try.prog ops Q (o :: rest) a (w.alloc (.cells #[.int .i64 x, .int .i64 y, .int .i64 z] t0)) :=
  append_arr ht hinfo rfl (by omega) (by omega) [x, y, z] rfl base v rows hown hgd s u ho hs hx hlen hbase h
theorem append3' {ops : Array Oper} {rest : List Oper} {o : Oper} {a : Act} {Q : Exit → Act → World → Prop} {w : World} {t0 : Nat} {E t : Nat} {x y z : Int} (ht : Try.prog.underlying t = some (.slice E)) (hinfo : (Try.prog.info? E).map (fun i => (i.zero, i.size, i.bytes)) = some (some (.agg #[.int .i64 0, .int .i64 0, .int .i64 0]), 3, 24))
    (base : Nat) (v : Value) (rows : List (List Int)) (hown : OwnA E 3 w base v rows) (hgd : o.guard = none) (s u : Operand)
    (ho : o.op = .call { callee := .builtin .append, args := #[s, u], argTypes := #[t, t] })
    (hs : a.eval s = v) (hx : a.eval u = .slice (some ⟨w.heap.size, 0, none⟩) 1 1)
    (hlen : rows.length ≤ 10000000) (hbase : base ≤ w.heap.size)
    (h : ∀ v' w', OwnA E 3 w' base v' (rows ++ [[x, y, z]]) → (∀ b0 a0, Below b0 a0 w → b0 ≤ base → Below b0 a0 w') → w.heap.size < w'.heap.size → Lies w w' v v' → wpList Try.prog ops Q rest (a.put o.dst v') w') :
    wpList Try.prog ops Q (o :: rest) a (w.alloc (.cells #[.int .i64 x, .int .i64 y, .int .i64 z] t0)) :=
  append_arr2 ht hinfo rfl (by omega) (by omega) [x, y, z] rfl base v rows hown hgd s u ho hs hx hlen hbase h
theorem info_Point : (Try.prog.info? 58).map (fun i => (i.zero, i.size, i.bytes)) = some (some (.agg #[.int .i64 0, .int .i64 0, .int .i64 0]), 3, 24) := by kernel_rfl
theorem info_Line : (Try.prog.info? 55).map (fun i => (i.zero, i.size, i.bytes)) = some (some (.agg #[.int .i64 0, .int .i64 0, .int .i64 0]), 3, 24) := by kernel_rfl
theorem RdA.rdp {w : World} {b off : Nat} {ps : List P3} (h : RdA w b off 3 (rowsP ps)) : RdP w b off ps := by
  intro i a ha
  have hi : (rowsP ps)[i]? = some a.l := by simp only [rowsP, List.getElem?_map, ha, Option.map_some]
  exact ⟨h i _ hi 0 a.x rfl, h i _ hi 1 a.y rfl, h i _ hi 2 a.z rfl⟩
theorem RdA.of_rdp {w : World} {b off : Nat} {ps : List P3} (h : RdP w b off ps) : RdA w b off 3 (rowsP ps) := by
  intro i r hr j x hx
  simp only [rowsP, List.getElem?_map, Option.map_eq_some_iff] at hr
  obtain ⟨a, ha, rfl⟩ := hr
  obtain ⟨h1, h2, h3⟩ := h i a ha
  match j, hx with
  | 0, hx => simp [P3.l] at hx; subst hx; exact h1
  | 1, hx => simp [P3.l] at hx; subst hx; exact h2
  | 2, hx => simp [P3.l] at hx; subst hx; exact h3
  | j + 3, hx => simp [P3.l] at hx
end Go.Proofs.Ytjfabhkgmelmgaa
