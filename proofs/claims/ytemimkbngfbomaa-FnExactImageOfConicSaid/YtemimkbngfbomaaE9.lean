/- How maps are compared: nine numbers, row by row. -/
import Derived.Test.YtemimkbngfbomaaE1
import Derived.Test.YtemimkbngfbomaaP5
namespace Go.Proofs.Ytemimkbngfbomaa
open Go.RowKit
set_option linter.unusedSimpArgs false
set_option linter.unusedVariables false
set_option maxRecDepth 100000

theorem info_row : (Try.prog.info? 31).map (fun i => (i.zero, i.size, i.bytes)) = some (some (.agg #[.int .i64 0, .int .i64 0, .int .i64 0]), 3, 24) := by kernel_rfl
theorem cellsOf_row : Try.prog.cellsOf 31 = 3 := by kernel_rfl
theorem eqRow (w : World) (a0 a1 a2 b0 b1 b2 : Int) :
    (Op.equalIn 9999 31 (.agg #[.int .i64 a0, .int .i64 a1, .int .i64 a2]) (.agg #[.int .i64 b0, .int .i64 b1, .int .i64 b2])).run Try.prog w = .ok (a0 == b0 && (a1 == b1 && (a2 == b2 && true))) w := by
  obtain ⟨i0, hi, hz0, hz1, hz2⟩ := info_parts info_int
  rw [run_equalIn_array w 9998 _ _ Try.underlying31 hi, cellsOf_int]
  exact eqItems_int (d := 9997) (fun _ => by kernel_rfl) (fun _ => by kernel_rfl) (eqItems_int (d := 9997) (fun _ => by kernel_rfl) (fun _ => by kernel_rfl) (eqItems_int (d := 9997) (fun _ => by kernel_rfl) (fun _ => by kernel_rfl) rfl))
theorem eqItems_row {i : Nat} {is : List Nat} {xs ys : Array Value} {x y : Value} {w : World} {r0 r : Bool} (p1 : ∀ w, (part 31 xs (i * 3)).run Try.prog w = .ok x w) (p2 : ∀ w, (part 31 ys (i * 3)).run Try.prog w = .ok y w)
    (h0 : (Op.equalIn 9999 31 x y).run Try.prog w = .ok r0 w) (h : (Op.eqItems 9999 31 3 xs ys is).run Try.prog w = .ok r w) :
    (Op.eqItems 9999 31 3 xs ys (i :: is)).run Try.prog w = .ok (r0 && r) w := by
  simp only [Op.eqItems, Sem.run_bind, p1, p2, h0, Result.andThen_ok]
  cases r0
  · simp
  · simpa using h
theorem eq9 (a0 a1 a2 a3 a4 a5 a6 a7 a8 b0 b1 b2 b3 b4 b5 b6 b7 b8 : Int) (w : World) :
    (binOp .eql 55 (.agg #[.int .i64 a0, .int .i64 a1, .int .i64 a2, .int .i64 a3, .int .i64 a4, .int .i64 a5, .int .i64 a6, .int .i64 a7, .int .i64 a8]) (.agg #[.int .i64 b0, .int .i64 b1, .int .i64 b2, .int .i64 b3, .int .i64 b4, .int .i64 b5, .int .i64 b6, .int .i64 b7, .int .i64 b8])).run Try.prog w = .ok (.bool ((a0 == b0 && (a1 == b1 && (a2 == b2 && true))) && ((a3 == b3 && (a4 == b4 && (a5 == b5 && true))) && ((a6 == b6 && (a7 == b7 && (a8 == b8 && true))) && true)))) w ∧
    (binOp .neq 55 (.agg #[.int .i64 a0, .int .i64 a1, .int .i64 a2, .int .i64 a3, .int .i64 a4, .int .i64 a5, .int .i64 a6, .int .i64 a7, .int .i64 a8]) (.agg #[.int .i64 b0, .int .i64 b1, .int .i64 b2, .int .i64 b3, .int .i64 b4, .int .i64 b5, .int .i64 b6, .int .i64 b7, .int .i64 b8])).run Try.prog w = .ok (.bool (!((a0 == b0 && (a1 == b1 && (a2 == b2 && true))) && ((a3 == b3 && (a4 == b4 && (a5 == b5 && true))) && ((a6 == b6 && (a7 == b7 && (a8 == b8 && true))) && true))))) w := by
  obtain ⟨i0, hi, hz0, hz1, hz2⟩ := info_parts info_row
  rw [run_eql_struct, run_neq_struct, run_equalIn_array w 9999 _ _ Try.underlying55 hi, cellsOf_row]
  have h : (Op.eqItems 9999 31 3 #[.int .i64 a0, .int .i64 a1, .int .i64 a2, .int .i64 a3, .int .i64 a4, .int .i64 a5, .int .i64 a6, .int .i64 a7, .int .i64 a8] #[.int .i64 b0, .int .i64 b1, .int .i64 b2, .int .i64 b3, .int .i64 b4, .int .i64 b5, .int .i64 b6, .int .i64 b7, .int .i64 b8] (List.range 3)).run Try.prog w = .ok ((a0 == b0 && (a1 == b1 && (a2 == b2 && true))) && ((a3 == b3 && (a4 == b4 && (a5 == b5 && true))) && ((a6 == b6 && (a7 == b7 && (a8 == b8 && true))) && true))) w :=
    eqItems_row (fun _ => by kernel_rfl) (fun _ => by kernel_rfl) (eqRow w a0 a1 a2 b0 b1 b2) (eqItems_row (fun _ => by kernel_rfl) (fun _ => by kernel_rfl) (eqRow w a3 a4 a5 b3 b4 b5) (eqItems_row (fun _ => by kernel_rfl) (fun _ => by kernel_rfl) (eqRow w a6 a7 a8 b6 b7 b8) rfl))
  rw [h]
  exact ⟨rfl, rfl⟩
theorem eq9_dec (a0 a1 a2 a3 a4 a5 a6 a7 a8 b0 b1 b2 b3 b4 b5 b6 b7 b8 : Int) : ((a0 == b0 && (a1 == b1 && (a2 == b2 && true))) && ((a3 == b3 && (a4 == b4 && (a5 == b5 && true))) && ((a6 == b6 && (a7 == b7 && (a8 == b8 && true))) && true))) = decide ((⟨a0, a1, a2, a3, a4, a5, a6, a7, a8⟩ : M9) = ⟨b0, b1, b2, b3, b4, b5, b6, b7, b8⟩) := by
  rw [Bool.eq_iff_iff]
  simp [and_assoc]
theorem eqM (m n : M9) (w : World) :
    (binOp .eql 55 (.agg #[.int .i64 m.m0, .int .i64 m.m1, .int .i64 m.m2, .int .i64 m.m3, .int .i64 m.m4, .int .i64 m.m5, .int .i64 m.m6, .int .i64 m.m7, .int .i64 m.m8]) (.agg #[.int .i64 n.m0, .int .i64 n.m1, .int .i64 n.m2, .int .i64 n.m3, .int .i64 n.m4, .int .i64 n.m5, .int .i64 n.m6, .int .i64 n.m7, .int .i64 n.m8])).run Try.prog w = .ok (.bool (decide (m = n))) w ∧
    (binOp .neq 55 (.agg #[.int .i64 m.m0, .int .i64 m.m1, .int .i64 m.m2, .int .i64 m.m3, .int .i64 m.m4, .int .i64 m.m5, .int .i64 m.m6, .int .i64 m.m7, .int .i64 m.m8]) (.agg #[.int .i64 n.m0, .int .i64 n.m1, .int .i64 n.m2, .int .i64 n.m3, .int .i64 n.m4, .int .i64 n.m5, .int .i64 n.m6, .int .i64 n.m7, .int .i64 n.m8])).run Try.prog w = .ok (.bool (!decide (m = n))) w := by
  have := eq9 m.m0 m.m1 m.m2 m.m3 m.m4 m.m5 m.m6 m.m7 m.m8 n.m0 n.m1 n.m2 n.m3 n.m4 n.m5 n.m6 n.m7 n.m8 w
  rw [eq9_dec] at this
  exact this
end Go.Proofs.Ytemimkbngfbomaa
