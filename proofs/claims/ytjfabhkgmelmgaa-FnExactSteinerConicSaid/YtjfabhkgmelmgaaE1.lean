/- How arrays of numbers are compared: a fact for each length. -/
import Derived.Test.YtjfabhkgmelmgaaW6
import Derived.ChangeKeysEq
namespace Go.Proofs.Ytjfabhkgmelmgaa
open Go.RowKit
set_option linter.unusedSimpArgs false
set_option linter.unusedVariables false

theorem cellSet_same {w : World} {a : Addr} {v : Value} (h : (w.cell? a).isSome = true) : (w.setCell a v).cell? a = some v := by
  obtain ⟨x, hx⟩ := Option.isSome_iff_exists.1 h
  exact World.cell?_setCell_same w a v hx
theorem cellsOf_int : Try.prog.cellsOf 2 = 1 := by kernel_rfl
theorem eqItems_int {d i : Nat} {is : List Nat} {xs ys : Array Value} {a b : Int} {w : World} (p1 : ∀ w, (part 2 xs (i * 1)).run Try.prog w = .ok (.int .i64 a) w) (p2 : ∀ w, (part 2 ys (i * 1)).run Try.prog w = .ok (.int .i64 b) w)
    {r : Bool} (h : (Op.eqItems (d + 1) 2 1 xs ys is).run Try.prog w = .ok r w) :
    (Op.eqItems (d + 1) 2 1 xs ys (i :: is)).run Try.prog w = .ok (a == b && r) w := by
  simp only [Op.eqItems, Sem.run_bind, p1, p2, run_equalIn_int _ d 2 _ _ a b Try.underlying2, Result.andThen_ok]
  cases hab : a == b
  · simp
  · simpa using h
theorem eqArr {n t : Nat} (ht : Try.prog.underlying t = some (.array n 2)) (xs ys : Array Value) (w : World) {r : Bool} (h : (Op.eqItems 9999 2 1 xs ys (List.range n)).run Try.prog w = .ok r w) :
    (binOp .eql t (.agg xs) (.agg ys)).run Try.prog w = .ok (.bool r) w ∧ (binOp .neq t (.agg xs) (.agg ys)).run Try.prog w = .ok (.bool (!r)) w := by
  obtain ⟨i0, hi, hz0, hz1, hz2⟩ := info_parts info_int
  rw [run_eql_struct, run_neq_struct, run_equalIn_array w 9999 xs ys ht hi, cellsOf_int, h]
  exact ⟨rfl, rfl⟩
theorem eq3 {t : Nat} (ht : Try.prog.underlying t = some (.array 3 2)) (a0 a1 a2 b0 b1 b2 : Int) (w : World) :
    (binOp .eql t (.agg #[.int .i64 a0, .int .i64 a1, .int .i64 a2]) (.agg #[.int .i64 b0, .int .i64 b1, .int .i64 b2])).run Try.prog w = .ok (.bool (a0 == b0 && (a1 == b1 && (a2 == b2 && true)))) w ∧
    (binOp .neq t (.agg #[.int .i64 a0, .int .i64 a1, .int .i64 a2]) (.agg #[.int .i64 b0, .int .i64 b1, .int .i64 b2])).run Try.prog w = .ok (.bool (!(a0 == b0 && (a1 == b1 && (a2 == b2 && true))))) w :=
  eqArr ht _ _ w (eqItems_int (d := 9998) (fun _ => by kernel_rfl) (fun _ => by kernel_rfl) (eqItems_int (d := 9998) (fun _ => by kernel_rfl) (fun _ => by kernel_rfl) (eqItems_int (d := 9998) (fun _ => by kernel_rfl) (fun _ => by kernel_rfl) rfl)))
theorem eq3_no {t : Nat} (ht : Try.prog.underlying t = some (.array 3 2)) {a0 a1 a2 b0 b1 b2 : Int} (h : ¬(a0 = b0 ∧ a1 = b1 ∧ a2 = b2)) (w : World) :
    (binOp .eql t (.agg #[.int .i64 a0, .int .i64 a1, .int .i64 a2]) (.agg #[.int .i64 b0, .int .i64 b1, .int .i64 b2])).run Try.prog w = .ok (.bool false) w ∧
    (binOp .neq t (.agg #[.int .i64 a0, .int .i64 a1, .int .i64 a2]) (.agg #[.int .i64 b0, .int .i64 b1, .int .i64 b2])).run Try.prog w = .ok (.bool true) w := by
  have e : (a0 == b0 && (a1 == b1 && (a2 == b2 && true))) = false := by
    rw [← Bool.not_eq_true]; intro h'; apply h; simpa using h'
  have := eq3 ht a0 a1 a2 b0 b1 b2 w
  rw [e] at this; exact this
theorem eq3_yes {t : Nat} (ht : Try.prog.underlying t = some (.array 3 2)) (a0 a1 a2 : Int) (w : World) :
    (binOp .eql t (.agg #[.int .i64 a0, .int .i64 a1, .int .i64 a2]) (.agg #[.int .i64 a0, .int .i64 a1, .int .i64 a2])).run Try.prog w = .ok (.bool true) w ∧
    (binOp .neq t (.agg #[.int .i64 a0, .int .i64 a1, .int .i64 a2]) (.agg #[.int .i64 a0, .int .i64 a1, .int .i64 a2])).run Try.prog w = .ok (.bool false) w := by
  have := eq3 ht a0 a1 a2 a0 a1 a2 w
  simpa using this
theorem eq4 {t : Nat} (ht : Try.prog.underlying t = some (.array 4 2)) (a0 a1 a2 a3 b0 b1 b2 b3 : Int) (w : World) :
    (binOp .eql t (.agg #[.int .i64 a0, .int .i64 a1, .int .i64 a2, .int .i64 a3]) (.agg #[.int .i64 b0, .int .i64 b1, .int .i64 b2, .int .i64 b3])).run Try.prog w = .ok (.bool (a0 == b0 && (a1 == b1 && (a2 == b2 && (a3 == b3 && true))))) w ∧
    (binOp .neq t (.agg #[.int .i64 a0, .int .i64 a1, .int .i64 a2, .int .i64 a3]) (.agg #[.int .i64 b0, .int .i64 b1, .int .i64 b2, .int .i64 b3])).run Try.prog w = .ok (.bool (!(a0 == b0 && (a1 == b1 && (a2 == b2 && (a3 == b3 && true)))))) w :=
  eqArr ht _ _ w (eqItems_int (d := 9998) (fun _ => by kernel_rfl) (fun _ => by kernel_rfl) (eqItems_int (d := 9998) (fun _ => by kernel_rfl) (fun _ => by kernel_rfl) (eqItems_int (d := 9998) (fun _ => by kernel_rfl) (fun _ => by kernel_rfl) (eqItems_int (d := 9998) (fun _ => by kernel_rfl) (fun _ => by kernel_rfl) rfl))))
theorem eq4_no {t : Nat} (ht : Try.prog.underlying t = some (.array 4 2)) {a0 a1 a2 a3 b0 b1 b2 b3 : Int} (h : ¬(a0 = b0 ∧ a1 = b1 ∧ a2 = b2 ∧ a3 = b3)) (w : World) :
    (binOp .eql t (.agg #[.int .i64 a0, .int .i64 a1, .int .i64 a2, .int .i64 a3]) (.agg #[.int .i64 b0, .int .i64 b1, .int .i64 b2, .int .i64 b3])).run Try.prog w = .ok (.bool false) w ∧
    (binOp .neq t (.agg #[.int .i64 a0, .int .i64 a1, .int .i64 a2, .int .i64 a3]) (.agg #[.int .i64 b0, .int .i64 b1, .int .i64 b2, .int .i64 b3])).run Try.prog w = .ok (.bool true) w := by
  have e : (a0 == b0 && (a1 == b1 && (a2 == b2 && (a3 == b3 && true)))) = false := by
    rw [← Bool.not_eq_true]; intro h'; apply h; simpa using h'
  have := eq4 ht a0 a1 a2 a3 b0 b1 b2 b3 w
  rw [e] at this; exact this
theorem eq4_yes {t : Nat} (ht : Try.prog.underlying t = some (.array 4 2)) (a0 a1 a2 a3 : Int) (w : World) :
    (binOp .eql t (.agg #[.int .i64 a0, .int .i64 a1, .int .i64 a2, .int .i64 a3]) (.agg #[.int .i64 a0, .int .i64 a1, .int .i64 a2, .int .i64 a3])).run Try.prog w = .ok (.bool true) w ∧
    (binOp .neq t (.agg #[.int .i64 a0, .int .i64 a1, .int .i64 a2, .int .i64 a3]) (.agg #[.int .i64 a0, .int .i64 a1, .int .i64 a2, .int .i64 a3])).run Try.prog w = .ok (.bool false) w := by
  have := eq4 ht a0 a1 a2 a3 a0 a1 a2 a3 w
  simpa using this
theorem eq6 {t : Nat} (ht : Try.prog.underlying t = some (.array 6 2)) (a0 a1 a2 a3 a4 a5 b0 b1 b2 b3 b4 b5 : Int) (w : World) :
    (binOp .eql t (.agg #[.int .i64 a0, .int .i64 a1, .int .i64 a2, .int .i64 a3, .int .i64 a4, .int .i64 a5]) (.agg #[.int .i64 b0, .int .i64 b1, .int .i64 b2, .int .i64 b3, .int .i64 b4, .int .i64 b5])).run Try.prog w = .ok (.bool (a0 == b0 && (a1 == b1 && (a2 == b2 && (a3 == b3 && (a4 == b4 && (a5 == b5 && true))))))) w ∧
    (binOp .neq t (.agg #[.int .i64 a0, .int .i64 a1, .int .i64 a2, .int .i64 a3, .int .i64 a4, .int .i64 a5]) (.agg #[.int .i64 b0, .int .i64 b1, .int .i64 b2, .int .i64 b3, .int .i64 b4, .int .i64 b5])).run Try.prog w = .ok (.bool (!(a0 == b0 && (a1 == b1 && (a2 == b2 && (a3 == b3 && (a4 == b4 && (a5 == b5 && true)))))))) w :=
  eqArr ht _ _ w (eqItems_int (d := 9998) (fun _ => by kernel_rfl) (fun _ => by kernel_rfl) (eqItems_int (d := 9998) (fun _ => by kernel_rfl) (fun _ => by kernel_rfl) (eqItems_int (d := 9998) (fun _ => by kernel_rfl) (fun _ => by kernel_rfl) (eqItems_int (d := 9998) (fun _ => by kernel_rfl) (fun _ => by kernel_rfl) (eqItems_int (d := 9998) (fun _ => by kernel_rfl) (fun _ => by kernel_rfl) (eqItems_int (d := 9998) (fun _ => by kernel_rfl) (fun _ => by kernel_rfl) rfl))))))
theorem eq6_no {t : Nat} (ht : Try.prog.underlying t = some (.array 6 2)) {a0 a1 a2 a3 a4 a5 b0 b1 b2 b3 b4 b5 : Int} (h : ¬(a0 = b0 ∧ a1 = b1 ∧ a2 = b2 ∧ a3 = b3 ∧ a4 = b4 ∧ a5 = b5)) (w : World) :
    (binOp .eql t (.agg #[.int .i64 a0, .int .i64 a1, .int .i64 a2, .int .i64 a3, .int .i64 a4, .int .i64 a5]) (.agg #[.int .i64 b0, .int .i64 b1, .int .i64 b2, .int .i64 b3, .int .i64 b4, .int .i64 b5])).run Try.prog w = .ok (.bool false) w ∧
    (binOp .neq t (.agg #[.int .i64 a0, .int .i64 a1, .int .i64 a2, .int .i64 a3, .int .i64 a4, .int .i64 a5]) (.agg #[.int .i64 b0, .int .i64 b1, .int .i64 b2, .int .i64 b3, .int .i64 b4, .int .i64 b5])).run Try.prog w = .ok (.bool true) w := by
  have e : (a0 == b0 && (a1 == b1 && (a2 == b2 && (a3 == b3 && (a4 == b4 && (a5 == b5 && true)))))) = false := by
    rw [← Bool.not_eq_true]; intro h'; apply h; simpa using h'
  have := eq6 ht a0 a1 a2 a3 a4 a5 b0 b1 b2 b3 b4 b5 w
  rw [e] at this; exact this
theorem eq6_yes {t : Nat} (ht : Try.prog.underlying t = some (.array 6 2)) (a0 a1 a2 a3 a4 a5 : Int) (w : World) :
    (binOp .eql t (.agg #[.int .i64 a0, .int .i64 a1, .int .i64 a2, .int .i64 a3, .int .i64 a4, .int .i64 a5]) (.agg #[.int .i64 a0, .int .i64 a1, .int .i64 a2, .int .i64 a3, .int .i64 a4, .int .i64 a5])).run Try.prog w = .ok (.bool true) w ∧
    (binOp .neq t (.agg #[.int .i64 a0, .int .i64 a1, .int .i64 a2, .int .i64 a3, .int .i64 a4, .int .i64 a5]) (.agg #[.int .i64 a0, .int .i64 a1, .int .i64 a2, .int .i64 a3, .int .i64 a4, .int .i64 a5])).run Try.prog w = .ok (.bool false) w := by
  have := eq6 ht a0 a1 a2 a3 a4 a5 a0 a1 a2 a3 a4 a5 w
  simpa using this
end Go.Proofs.Ytjfabhkgmelmgaa
