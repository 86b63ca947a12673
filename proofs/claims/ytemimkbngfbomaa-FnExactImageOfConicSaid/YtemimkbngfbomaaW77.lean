/- ImageOfConic: what the reference's function returns; no condition. -/
import Derived.Test.YtemimkbngfbomaaP12
import Derived.Test.YtemimkbngfbomaaW31
import Derived.Test.YtemimkbngfbomaaW28
import Derived.Test.YtemimkbngfbomaaW52
import Derived.Test.YtemimkbngfbomaaW5
import Derived.Deep.QuietTactic
import Derived.BigQuiet
import Derived.Laws.CopyOwn
import Derived.BigRegion
namespace Go.Proofs.Ytemimkbngfbomaa
open Go.RowKit
set_option linter.unusedSimpArgs false
set_option linter.unusedVariables false
set_option maxRecDepth 100000

theorem keepR {W : World} {b q g : Nat} {v : Value} {cs : Array Value} (h : W.cell? ⟨b, q, none⟩ = some v) (hk : b ≠ g) : (W.setRow g cs).cell? ⟨b, q, none⟩ = some v := by
  rw [cell_setRow_other _ _ _ _ hk]; exact h
theorem Box.farR {E : Nat} {W : World} {b g : Nat} {vs : List Int} {cs : Array Value} (h : Box E W b vs) (hk : b ≠ g) : Box E (W.setRow g cs) b vs := by
  unfold Box at *
  rw [setRow_other _ _ _ _ hk]; exact h
theorem Box.setR {E : Nat} {W : World} {g : Nat} {vs : List Int} (us : List Int) (h : Box E W g vs) : Box E (W.setRow g (us.map (Value.int .i64)).toArray) g us := Go.setRow_heap _ _ _ _ _ _ h
theorem ltA {W : World} {g : Nat} (o : Obj) (h : g < W.heap.size) : g < (W.alloc o).heap.size := by simp; omega
theorem ltR {W : World} {g b : Nat} {cs : Array Value} (h : g < W.heap.size) : g < (W.setRow b cs).heap.size := by simpa using h
theorem ltD {W : World} {g : Nat} (h : g < W.heap.size) : g < W.drew.heap.size := h
theorem ltB {W w1 : World} {g : Nat} (hb : Below W.heap.size W w1) (h : g < W.heap.size) : g < w1.heap.size := Nat.lt_of_lt_of_le h hb.size
theorem sizeR {n g : Nat} {W : World} {cs : Array Value} (h : n ≤ W.heap.size) : n ≤ (W.setRow g cs).heap.size := by simpa using h
theorem Rows3P.keep2 {K K' : Nat → Prop} {w w' : World} {v : Value} {x0 x1 x2 x3 x4 x5 x6 x7 x8 : Int} (h : Rows3P K w v x0 x1 x2 x3 x4 x5 x6 x7 x8) (hK : ∀ b, K b → b < w.heap.size → K' b) (hk : ∀ b o u, K b → b < w.heap.size → w.cell? ⟨b, o, none⟩ = some u → w'.cell? ⟨b, o, none⟩ = some u) : Rows3P K' w' v x0 x1 x2 x3 x4 x5 x6 x7 x8 :=
  h.keep hK (fun b o u h1 h2 => hk b o u h1 (World.block_lt_of_cell? w _ h2) h2)
theorem run_rowM {W : World} {g : Nat} {v0 v1 v2 v3 v4 v5 v6 v7 v8 : Int} (h : Box 55 W g [0, 0, 0, 0, 0, 0, 0, 0, 0]) : (storeVar 55 ⟨g, 0, none⟩ (.agg #[.int .i64 v0, .int .i64 v1, .int .i64 v2, .int .i64 v3, .int .i64 v4, .int .i64 v5, .int .i64 v6, .int .i64 v7, .int .i64 v8])).run Try.prog W = .ok () (W.setRow g #[.int .i64 v0, .int .i64 v1, .int .i64 v2, .int .i64 v3, .int .i64 v4, .int .i64 v5, .int .i64 v6, .int .i64 v7, .int .i64 v8]) :=
  run_storeVar_row W g 55 55 _ #[.int .i64 v0, .int .i64 v1, .int .i64 v2, .int .i64 v3, .int .i64 v4, .int .i64 v5, .int .i64 v6, .int .i64 v7, .int .i64 v8] h (by kernel_rfl) rfl (by simp [Value.oneCell'])
/-- A store of nine numbers, kept whole. -/
def veilM (a : Addr) (v : Value) : Sem Unit := storeVar 55 a v
theorem to_veilM (a : Addr) (v : Value) : storeVar 55 a v = veilM a v := rfl
theorem run_veilM {W : World} {g : Nat} {v0 v1 v2 v3 v4 v5 v6 v7 v8 : Int} (h : Box 55 W g [0, 0, 0, 0, 0, 0, 0, 0, 0]) : (veilM ⟨g, 0, none⟩ (.agg #[.int .i64 v0, .int .i64 v1, .int .i64 v2, .int .i64 v3, .int .i64 v4, .int .i64 v5, .int .i64 v6, .int .i64 v7, .int .i64 v8])).run Try.prog W = .ok () (W.setRow g #[.int .i64 v0, .int .i64 v1, .int .i64 v2, .int .i64 v3, .int .i64 v4, .int .i64 v5, .int .i64 v6, .int .i64 v7, .int .i64 v8]) := run_rowM h
theorem box_newM {W : World} : Box 55 (W.alloc (.cells #[.int .i64 0, .int .i64 0, .int .i64 0, .int .i64 0, .int .i64 0, .int .i64 0, .int .i64 0, .int .i64 0, .int .i64 0] 55)) W.heap.size [0, 0, 0, 0, 0, 0, 0, 0, 0] := Box.new [0, 0, 0, 0, 0, 0, 0, 0, 0] rfl
theorem box_newMb {W : World} {o : Obj} : Box 55 ((W.alloc (.cells #[.int .i64 0, .int .i64 0, .int .i64 0, .int .i64 0, .int .i64 0, .int .i64 0, .int .i64 0, .int .i64 0, .int .i64 0] 55)).alloc o) W.heap.size [0, 0, 0, 0, 0, 0, 0, 0, 0] := Box.alloc (Box.new [0, 0, 0, 0, 0, 0, 0, 0, 0] rfl) _
theorem box_newMc {W : World} {o : Obj} : Box 55 ((W.alloc o).alloc (.cells #[.int .i64 0, .int .i64 0, .int .i64 0, .int .i64 0, .int .i64 0, .int .i64 0, .int .i64 0, .int .i64 0, .int .i64 0] 55)) (W.heap.size + 1) [0, 0, 0, 0, 0, 0, 0, 0, 0] := Box.new [0, 0, 0, 0, 0, 0, 0, 0, 0] (by simp)
theorem box_newMf {W : World} {o : Obj} : Box 55 ((W.alloc o).alloc (.cells #[.int .i64 0, .int .i64 0, .int .i64 0, .int .i64 0, .int .i64 0, .int .i64 0, .int .i64 0, .int .i64 0, .int .i64 0] 55)).drew (W.heap.size + 1) [0, 0, 0, 0, 0, 0, 0, 0, 0] := box_newMc
theorem box_alM {W : World} {o : Obj} {b : Nat} (h : Box 55 W b [0, 0, 0, 0, 0, 0, 0, 0, 0]) : Box 55 (W.alloc o) b [0, 0, 0, 0, 0, 0, 0, 0, 0] := h.alloc o
theorem box_drM {W : World} {b : Nat} (h : Box 55 W b [0, 0, 0, 0, 0, 0, 0, 0, 0]) : Box 55 W.drew b [0, 0, 0, 0, 0, 0, 0, 0, 0] := h
theorem box_newMd {W : World} : Box 55 (W.alloc (.cells #[.int .i64 0, .int .i64 0, .int .i64 0, .int .i64 0, .int .i64 0, .int .i64 0, .int .i64 0, .int .i64 0, .int .i64 0] 55)).drew W.heap.size [0, 0, 0, 0, 0, 0, 0, 0, 0] := Box.new [0, 0, 0, 0, 0, 0, 0, 0, 0] rfl
theorem box_newMe {W : World} {o : Obj} : Box 55 ((W.alloc (.cells #[.int .i64 0, .int .i64 0, .int .i64 0, .int .i64 0, .int .i64 0, .int .i64 0, .int .i64 0, .int .i64 0, .int .i64 0] 55)).alloc o).drew W.heap.size [0, 0, 0, 0, 0, 0, 0, 0, 0] := Box.alloc (Box.new [0, 0, 0, 0, 0, 0, 0, 0, 0] rfl) _
theorem run_rowT {W : World} {g : Nat} {v0 v1 v2 v3 v4 v5 v6 v7 v8 : Int} (h : Box 53 W g [0, 0, 0, 0, 0, 0, 0, 0, 0]) : (storeVar 53 ⟨g, 0, none⟩ (.agg #[.int .i64 v0, .int .i64 v1, .int .i64 v2, .int .i64 v3, .int .i64 v4, .int .i64 v5, .int .i64 v6, .int .i64 v7, .int .i64 v8])).run Try.prog W = .ok () (W.setRow g #[.int .i64 v0, .int .i64 v1, .int .i64 v2, .int .i64 v3, .int .i64 v4, .int .i64 v5, .int .i64 v6, .int .i64 v7, .int .i64 v8]) :=
  run_storeVar_row W g 53 53 _ #[.int .i64 v0, .int .i64 v1, .int .i64 v2, .int .i64 v3, .int .i64 v4, .int .i64 v5, .int .i64 v6, .int .i64 v7, .int .i64 v8] h (by kernel_rfl) rfl (by simp [Value.oneCell'])
/-- A store of nine numbers, kept whole. -/
def veilT (a : Addr) (v : Value) : Sem Unit := storeVar 53 a v
theorem to_veilT (a : Addr) (v : Value) : storeVar 53 a v = veilT a v := rfl
theorem run_veilT {W : World} {g : Nat} {v0 v1 v2 v3 v4 v5 v6 v7 v8 : Int} (h : Box 53 W g [0, 0, 0, 0, 0, 0, 0, 0, 0]) : (veilT ⟨g, 0, none⟩ (.agg #[.int .i64 v0, .int .i64 v1, .int .i64 v2, .int .i64 v3, .int .i64 v4, .int .i64 v5, .int .i64 v6, .int .i64 v7, .int .i64 v8])).run Try.prog W = .ok () (W.setRow g #[.int .i64 v0, .int .i64 v1, .int .i64 v2, .int .i64 v3, .int .i64 v4, .int .i64 v5, .int .i64 v6, .int .i64 v7, .int .i64 v8]) := run_rowT h
theorem box_newT {W : World} : Box 53 (W.alloc (.cells #[.int .i64 0, .int .i64 0, .int .i64 0, .int .i64 0, .int .i64 0, .int .i64 0, .int .i64 0, .int .i64 0, .int .i64 0] 53)) W.heap.size [0, 0, 0, 0, 0, 0, 0, 0, 0] := Box.new [0, 0, 0, 0, 0, 0, 0, 0, 0] rfl
theorem box_newTb {W : World} {o : Obj} : Box 53 ((W.alloc (.cells #[.int .i64 0, .int .i64 0, .int .i64 0, .int .i64 0, .int .i64 0, .int .i64 0, .int .i64 0, .int .i64 0, .int .i64 0] 53)).alloc o) W.heap.size [0, 0, 0, 0, 0, 0, 0, 0, 0] := Box.alloc (Box.new [0, 0, 0, 0, 0, 0, 0, 0, 0] rfl) _
theorem box_newTc {W : World} {o : Obj} : Box 53 ((W.alloc o).alloc (.cells #[.int .i64 0, .int .i64 0, .int .i64 0, .int .i64 0, .int .i64 0, .int .i64 0, .int .i64 0, .int .i64 0, .int .i64 0] 53)) (W.heap.size + 1) [0, 0, 0, 0, 0, 0, 0, 0, 0] := Box.new [0, 0, 0, 0, 0, 0, 0, 0, 0] (by simp)
theorem box_newTf {W : World} {o : Obj} : Box 53 ((W.alloc o).alloc (.cells #[.int .i64 0, .int .i64 0, .int .i64 0, .int .i64 0, .int .i64 0, .int .i64 0, .int .i64 0, .int .i64 0, .int .i64 0] 53)).drew (W.heap.size + 1) [0, 0, 0, 0, 0, 0, 0, 0, 0] := box_newTc
theorem box_alT {W : World} {o : Obj} {b : Nat} (h : Box 53 W b [0, 0, 0, 0, 0, 0, 0, 0, 0]) : Box 53 (W.alloc o) b [0, 0, 0, 0, 0, 0, 0, 0, 0] := h.alloc o
theorem box_drT {W : World} {b : Nat} (h : Box 53 W b [0, 0, 0, 0, 0, 0, 0, 0, 0]) : Box 53 W.drew b [0, 0, 0, 0, 0, 0, 0, 0, 0] := h
theorem box_newTd {W : World} : Box 53 (W.alloc (.cells #[.int .i64 0, .int .i64 0, .int .i64 0, .int .i64 0, .int .i64 0, .int .i64 0, .int .i64 0, .int .i64 0, .int .i64 0] 53)).drew W.heap.size [0, 0, 0, 0, 0, 0, 0, 0, 0] := Box.new [0, 0, 0, 0, 0, 0, 0, 0, 0] rfl
theorem box_newTe {W : World} {o : Obj} : Box 53 ((W.alloc (.cells #[.int .i64 0, .int .i64 0, .int .i64 0, .int .i64 0, .int .i64 0, .int .i64 0, .int .i64 0, .int .i64 0, .int .i64 0] 53)).alloc o).drew W.heap.size [0, 0, 0, 0, 0, 0, 0, 0, 0] := Box.alloc (Box.new [0, 0, 0, 0, 0, 0, 0, 0, 0] rfl) _
theorem run_rowC {W : World} {g : Nat} {v0 v1 v2 v3 v4 v5 : Int} (h : Box 24 W g [0, 0, 0, 0, 0, 0]) : (storeVar 24 ⟨g, 0, none⟩ (.agg #[.int .i64 v0, .int .i64 v1, .int .i64 v2, .int .i64 v3, .int .i64 v4, .int .i64 v5])).run Try.prog W = .ok () (W.setRow g #[.int .i64 v0, .int .i64 v1, .int .i64 v2, .int .i64 v3, .int .i64 v4, .int .i64 v5]) :=
  run_storeVar_row W g 24 24 _ #[.int .i64 v0, .int .i64 v1, .int .i64 v2, .int .i64 v3, .int .i64 v4, .int .i64 v5] h (by kernel_rfl) rfl (by simp [Value.oneCell'])
/-- A store of nine numbers, kept whole. -/
def veilC (a : Addr) (v : Value) : Sem Unit := storeVar 24 a v
theorem to_veilC (a : Addr) (v : Value) : storeVar 24 a v = veilC a v := rfl
theorem run_veilC {W : World} {g : Nat} {v0 v1 v2 v3 v4 v5 : Int} (h : Box 24 W g [0, 0, 0, 0, 0, 0]) : (veilC ⟨g, 0, none⟩ (.agg #[.int .i64 v0, .int .i64 v1, .int .i64 v2, .int .i64 v3, .int .i64 v4, .int .i64 v5])).run Try.prog W = .ok () (W.setRow g #[.int .i64 v0, .int .i64 v1, .int .i64 v2, .int .i64 v3, .int .i64 v4, .int .i64 v5]) := run_rowC h
theorem box_newC {W : World} : Box 24 (W.alloc (.cells #[.int .i64 0, .int .i64 0, .int .i64 0, .int .i64 0, .int .i64 0, .int .i64 0] 24)) W.heap.size [0, 0, 0, 0, 0, 0] := Box.new [0, 0, 0, 0, 0, 0] rfl
theorem box_newCb {W : World} {o : Obj} : Box 24 ((W.alloc (.cells #[.int .i64 0, .int .i64 0, .int .i64 0, .int .i64 0, .int .i64 0, .int .i64 0] 24)).alloc o) W.heap.size [0, 0, 0, 0, 0, 0] := Box.alloc (Box.new [0, 0, 0, 0, 0, 0] rfl) _
theorem box_newCc {W : World} {o : Obj} : Box 24 ((W.alloc o).alloc (.cells #[.int .i64 0, .int .i64 0, .int .i64 0, .int .i64 0, .int .i64 0, .int .i64 0] 24)) (W.heap.size + 1) [0, 0, 0, 0, 0, 0] := Box.new [0, 0, 0, 0, 0, 0] (by simp)
theorem box_newCf {W : World} {o : Obj} : Box 24 ((W.alloc o).alloc (.cells #[.int .i64 0, .int .i64 0, .int .i64 0, .int .i64 0, .int .i64 0, .int .i64 0] 24)).drew (W.heap.size + 1) [0, 0, 0, 0, 0, 0] := box_newCc
theorem box_alC {W : World} {o : Obj} {b : Nat} (h : Box 24 W b [0, 0, 0, 0, 0, 0]) : Box 24 (W.alloc o) b [0, 0, 0, 0, 0, 0] := h.alloc o
theorem box_drC {W : World} {b : Nat} (h : Box 24 W b [0, 0, 0, 0, 0, 0]) : Box 24 W.drew b [0, 0, 0, 0, 0, 0] := h
theorem box_newCd {W : World} : Box 24 (W.alloc (.cells #[.int .i64 0, .int .i64 0, .int .i64 0, .int .i64 0, .int .i64 0, .int .i64 0] 24)).drew W.heap.size [0, 0, 0, 0, 0, 0] := Box.new [0, 0, 0, 0, 0, 0] rfl
theorem box_newCe {W : World} {o : Obj} : Box 24 ((W.alloc (.cells #[.int .i64 0, .int .i64 0, .int .i64 0, .int .i64 0, .int .i64 0, .int .i64 0] 24)).alloc o).drew W.heap.size [0, 0, 0, 0, 0, 0] := Box.alloc (Box.new [0, 0, 0, 0, 0, 0] rfl) _
theorem box_farT {W : World} {g b : Nat} {cs : Array Value} (h : Box 53 W b [0, 0, 0, 0, 0, 0, 0, 0, 0]) (h2 : Box 55 W g [0, 0, 0, 0, 0, 0, 0, 0, 0]) : Box 53 (W.setRow g cs) b [0, 0, 0, 0, 0, 0, 0, 0, 0] := by
  refine Box.farR h (fun e => ?_)
  subst e
  unfold Box at *
  rw [h] at h2
  injection h2 with h2
  injection h2 with _ h2
  exact absurd h2 (by decide)
theorem box_farT2 {W : World} {g : Nat} {cs : Array Value} (h2 : Box 55 W g [0, 0, 0, 0, 0, 0, 0, 0, 0]) : Box 53 ((W.alloc (.cells #[.int .i64 0, .int .i64 0, .int .i64 0, .int .i64 0, .int .i64 0, .int .i64 0, .int .i64 0, .int .i64 0, .int .i64 0] 53)).setRow g cs) W.heap.size [0, 0, 0, 0, 0, 0, 0, 0, 0] := box_farT box_newT (h2.alloc _)
theorem box_farT4 {W : World} {b : Nat} {cs : Array Value} (h : Box 53 W b [0, 0, 0, 0, 0, 0, 0, 0, 0]) : Box 53 ((W.alloc (.cells #[.int .i64 0, .int .i64 0, .int .i64 0, .int .i64 0, .int .i64 0, .int .i64 0, .int .i64 0, .int .i64 0, .int .i64 0] 55)).setRow W.heap.size cs) b [0, 0, 0, 0, 0, 0, 0, 0, 0] := box_farT (h.alloc _) box_newM
attribute [local go_sem ↓] to_veilM to_veilT to_veilC
attribute [local go_sem] run_veilM run_veilT box_farT box_farT2 box_farT4 box_newM box_newT box_newMb box_newTb box_newMd box_newTd box_newMe box_newTe box_newMc box_newTc box_newMf box_newTf box_alM box_alT box_drM box_drT run_veilC box_newC box_newCb box_newCc box_newCd box_newCe box_newCf box_alC box_drC
def pick3 {α : Type} (a b c : α) (k : Nat) : α := if k = 0 then a else if k = 1 then b else c
def psI (p a s : Int) (m b : Nat → Int) : Nat → Int
  | 0 => s
  | n + 1 => stp p (psI p a s m b n) a (m n) (b n)
def psO (p : Int) (a : Nat → Int) (m : Nat → Nat → Int) (b : Nat → Int) : Nat → Int
  | 0 => 0
  | k + 1 => psI p (a k) (psO p a m b k) (m k) b 3
def colF (x0 x1 x2 x3 x4 x5 x6 x7 x8 : Int) (i k : Nat) : Int := pick3 (pick3 x0 x3 x6 k) (pick3 x1 x4 x7 k) (pick3 x2 x5 x8 k) i
def contF (tt : Nat → Int) (n : Nat) : List Int := (List.range 9).map fun q => if q < n then tt q else 0
theorem contF_get (tt : Nat → Int) {n : Nat} (h : n < 9) : (contF tt n)[n]? = some 0 := by
  unfold contF
  rw [List.getElem?_map, List.getElem?_range h]
  simp
theorem contF_set (tt : Nat → Int) {n : Nat} (h : n < 9) : (contF tt n).set n (tt n) = contF tt (n + 1) := by
  unfold contF
  apply List.ext_getElem?
  intro q
  rw [List.getElem?_set, List.getElem?_map, List.getElem?_map]
  by_cases hq : q < 9
  · rw [List.getElem?_range hq]
    by_cases e : n = q
    · subst e; simp [h]
    · have : (q < n + 1) = (q < n) := by apply propext; omega
      simp [e, this]
  · rw [if_neg (by omega), List.getElem?_eq_none (by simp; omega)]
    rfl
theorem psO_3 (p a0 a1 a2 x0 x1 x2 x3 x4 x5 x6 x7 x8 b0 b1 b2 : Int) : psO p (pick3 a0 a1 a2) (fun k => pick3 (pick3 x0 x3 x6 k) (pick3 x1 x4 x7 k) (pick3 x2 x5 x8 k)) (pick3 b0 b1 b2) 3 = t9 p a0 a1 a2 ⟨x0, x1, x2, x3, x4, x5, x6, x7, x8⟩ b0 b1 b2 := rfl
theorem pick3_sm {a b c : Int} (ha : sm a) (hb : sm b) (hc : sm c) (k : Nat) : sm (pick3 a b c k) := by
  unfold pick3
  split
  · exact ha
  · split
    · exact hb
    · exact hc
def rg (p s : Int) : Prop := 0 ≤ s ∧ s < p
theorem stp_rg {p : Int} (k1 : 3 ≤ p) (s a m b : Int) : rg p (stp p s a m b) := ⟨Int.emod_nonneg _ (by omega), Int.emod_lt_of_pos _ (by omega)⟩
theorem psI_rg {p : Int} (k1 : 3 ≤ p) {a s : Int} (hs : rg p s) (m b : Nat → Int) : ∀ n, rg p (psI p a s m b n)
  | 0 => hs
  | n + 1 => stp_rg k1 _ _ _ _
theorem psO_rg {p : Int} (k1 : 3 ≤ p) (a : Nat → Int) (m : Nat → Nat → Int) (b : Nat → Int) : ∀ k, rg p (psO p a m b k)
  | 0 => ⟨Int.le_refl _, by show (0 : Int) < p; omega⟩
  | k + 1 => psI_rg k1 (psO_rg k1 a m b k) _ _ 3
theorem stp_facts {p s a m b : Int} (k1 : 3 ≤ p) (k2 : p ≤ 13) (ha : sm a) (hm : sm m) (hb : sm b) (hs : rg p s) :
    IntKind.i64.wrap (a * m) = a * m ∧ (a * m).tmod p = a * m % p ∧ IntKind.i64.wrap (a * m % p * b) = a * m % p * b ∧ IntKind.i64.wrap (s + a * m % p * b) = s + a * m % p * b ∧ (s + a * m % p * b).tmod p = stp p s a m b := by
  obtain ⟨a0, a1⟩ := ha; obtain ⟨m0, m1⟩ := hm; obtain ⟨b0, b1⟩ := hb; obtain ⟨s0, s1⟩ := hs
  have h1 := mul_bd (a := a) (b := m) (A := 12) (B := 12) a0 a1 m0 m1
  have h2 := Int.emod_nonneg (a * m) (by omega : p ≠ 0)
  have h3 := Int.emod_lt_of_pos (a * m) (by omega : 0 < p)
  have h4 := mul_bd (a := a * m % p) (b := b) (A := 12) (B := 12) h2 (by omega) b0 b1
  refine ⟨by go_arith, Int.tmod_eq_emod_of_nonneg h1.1, by go_arith, by go_arith, Int.tmod_eq_emod_of_nonneg (by omega)⟩
set_option maxHeartbeats 16000000 in
theorem l04Image_any (p m0 m1 m2 m3 m4 m5 m6 m7 m8 c0 c1 c2 c3 c4 c5 : Int) (w : World) (hp : isP p = true) (hm : isMap p ⟨m0, m1, m2, m3, m4, m5, m6, m7, m8⟩ = true) (hc : isCo p ⟨c0, c1, c2, c3, c4, c5⟩ = true) :
    Calls Try.prog 77 #[.int .i64 p, .agg #[.int .i64 m0, .int .i64 m1, .int .i64 m2, .int .i64 m3, .int .i64 m4, .int .i64 m5, .int .i64 m6, .int .i64 m7, .int .i64 m8], .agg #[.int .i64 c0, .int .i64 c1, .int .i64 c2, .int .i64 c3, .int .i64 c4, .int .i64 c5]] w fun e w' => e = .returned (.agg #[.int .i64 (imC p ⟨m0, m1, m2, m3, m4, m5, m6, m7, m8⟩ ⟨c0, c1, c2, c3, c4, c5⟩).c0, .int .i64 (imC p ⟨m0, m1, m2, m3, m4, m5, m6, m7, m8⟩ ⟨c0, c1, c2, c3, c4, c5⟩).c1, .int .i64 (imC p ⟨m0, m1, m2, m3, m4, m5, m6, m7, m8⟩ ⟨c0, c1, c2, c3, c4, c5⟩).c2, .int .i64 (imC p ⟨m0, m1, m2, m3, m4, m5, m6, m7, m8⟩ ⟨c0, c1, c2, c3, c4, c5⟩).c3, .int .i64 (imC p ⟨m0, m1, m2, m3, m4, m5, m6, m7, m8⟩ ⟨c0, c1, c2, c3, c4, c5⟩).c4, .int .i64 (imC p ⟨m0, m1, m2, m3, m4, m5, m6, m7, m8⟩ ⟨c0, c1, c2, c3, c4, c5⟩).c5]) ∧ Below w.heap.size w w' := by
  have k1 := isP_lo hp; have k2 := isP_hi hp
  have hE0 := imS_eq (c := ⟨c0, c1, c2, c3, c4, c5⟩) hp hm
  obtain ⟨s0, s1, s2, s3, s4, s5, s6, s7, s8⟩ := isMap_sm hm
  replace s0 : sm m0 := s0; replace s1 : sm m1 := s1; replace s2 : sm m2 := s2; replace s3 : sm m3 := s3; replace s4 : sm m4 := s4; replace s5 : sm m5 := s5; replace s6 : sm m6 := s6; replace s7 : sm m7 := s7; replace s8 : sm m8 := s8
  have hbk := fun w' => l02Inverse_any p m0 m1 m2 m3 m4 m5 m6 m7 m8 w' hp s0 s1 s2 s3 s4 s5 s6 s7 s8
  have hsb : smM (bkM p ⟨m0, m1, m2, m3, m4, m5, m6, m7, m8⟩) := nmM_sm hp _
  have hsk := mxC_sm hp hc
  have hrm : ∀ w' : World, Calls Try.prog 69 #[.int .i64 p, .agg #[.int .i64 c0, .int .i64 c1, .int .i64 c2, .int .i64 c3, .int .i64 c4, .int .i64 c5]] w' fun e w'' => ∃ v, e = .returned v ∧ Rows3P (fun b => w'.heap.size ≤ b) w'' v (mxC p ⟨c0, c1, c2, c3, c4, c5⟩).m0 (mxC p ⟨c0, c1, c2, c3, c4, c5⟩).m1 (mxC p ⟨c0, c1, c2, c3, c4, c5⟩).m2 (mxC p ⟨c0, c1, c2, c3, c4, c5⟩).m3 (mxC p ⟨c0, c1, c2, c3, c4, c5⟩).m4 (mxC p ⟨c0, c1, c2, c3, c4, c5⟩).m5 (mxC p ⟨c0, c1, c2, c3, c4, c5⟩).m6 (mxC p ⟨c0, c1, c2, c3, c4, c5⟩).m7 (mxC p ⟨c0, c1, c2, c3, c4, c5⟩).m8 ∧ Below w'.heap.size w' w'' := fun w' => (by obtain ⟨s0, s1, s2, s3, s4, s5⟩ := isCo_sm hc; exact l03Rows_own p c0 c1 c2 c3 c4 c5 w' k1 k2 s0 s1 s2 s3 s4 s5)
  obtain ⟨b0, b1, b2, b3, b4, b5, b6, b7, b8, hBK⟩ := M9_parts (bkM p ⟨m0, m1, m2, m3, m4, m5, m6, m7, m8⟩)
  obtain ⟨x0, x1, x2, x3, x4, x5, x6, x7, x8, hX⟩ := M9_parts (mxC p ⟨c0, c1, c2, c3, c4, c5⟩)
  rw [hBK] at hE0 hbk hsb; rw [hX] at hE0 hrm hsk
  dsimp only at hbk hrm
  have HBK := Lib.hid hbk; have HRM := Lib.hid hrm; have HE0 := Lib.hid hE0; have HSB := Lib.hid hsb; have HSK := Lib.hid hsk
  have HP := Lib.hid hp
  clear hbk hrm hE0 hsb hsk hBK hX hm hc hp s0 s1 s2 s3 s4 s5 s6 s7 s8
  go_enter Try.func77, Try.ntmps77
  go_upto_region 1 with fail
  refine wp_name (fun w' => Box 55 w' (w.heap.size) [m0, m1, m2, m3, m4, m5, m6, m7, m8] ∧ Box 24 w' (w.heap.size + 1) [c0, c1, c2, c3, c4, c5] ∧ Box 24 w' (w.heap.size + 1 + 1) [0, 0, 0, 0, 0, 0] ∧ Below w.heap.size w w') ⟨Box.alloc (Box.alloc (Box.new [m0, m1, m2, m3, m4, m5, m6, m7, m8] (by simp)) _) _, Box.alloc (Box.new [c0, c1, c2, c3, c4, c5] (by simp)) _, Box.new [0, 0, 0, 0, 0, 0] (by simp), by (repeat' (first | (with_reducible exact Below.refl _ _) | (with_reducible assumption) | (with_reducible refine Below.alloc ?_ ?_ _) | (with_reducible refine Below.drew ?_) | (with_reducible refine below_drewN ?_ _) | (with_reducible refine Below.setCell ?_ ?_ _) | (refine Below.step ?_ (by with_reducible assumption) ?_) | go_size))⟩ ?_
  rintro wq ⟨Bm, Bc, BR, hB⟩
  have hz := hB.size
  have qm0 := Bm.cell 0 rfl
  have qm1 := Bm.cell 1 rfl
  have qm2 := Bm.cell 2 rfl
  have qm3 := Bm.cell 3 rfl
  have qm4 := Bm.cell 4 rfl
  have qm5 := Bm.cell 5 rfl
  have qm6 := Bm.cell 6 rfl
  have qm7 := Bm.cell 7 rfl
  have qm8 := Bm.cell 8 rfl
  have ltm := Bm.lt
  have qc0 := Bc.cell 0 rfl
  have qc1 := Bc.cell 1 rfl
  have qc2 := Bc.cell 2 rfl
  have qc3 := Bc.cell 3 rfl
  have qc4 := Bc.cell 4 rfl
  have qc5 := Bc.cell 5 rfl
  have ltc := Bc.lt
  have hsz : w.heap.size + 1 + 1 + 1 ≤ wq.heap.size := BR.lt
  go_cut [7, 8, 9] (fun s7 s8 s9 w' => ∃ gB gT, s7 = .pointer (some ⟨gB, 0, none⟩) ∧ s9 = .pointer (some ⟨gT, 0, none⟩) ∧ gB ≠ gT ∧ w.heap.size + 1 + 1 + 1 ≤ gB ∧ w.heap.size + 1 + 1 + 1 ≤ gT ∧ Rows3P (fun b => b ≠ gT) w' s8 x0 x1 x2 x3 x4 x5 x6 x7 x8 ∧ Box 55 w' gB [b0, b1, b2, b3, b4, b5, b6, b7, b8] ∧ Box 53 w' gT [0, 0, 0, 0, 0, 0, 0, 0, 0] ∧ Box 24 w' (w.heap.size + 1 + 1) [0, 0, 0, 0, 0, 0] ∧ Below w.heap.size w w')
  case first =>
    go_region_held3 (fun w' => w'.cell? ⟨w.heap.size, 0, none⟩ = some (.int .i64 m0) ∧ w'.cell? ⟨w.heap.size, 1, none⟩ = some (.int .i64 m1) ∧ w'.cell? ⟨w.heap.size, 2, none⟩ = some (.int .i64 m2) ∧ w'.cell? ⟨w.heap.size, 3, none⟩ = some (.int .i64 m3) ∧ w'.cell? ⟨w.heap.size, 4, none⟩ = some (.int .i64 m4) ∧ w'.cell? ⟨w.heap.size, 5, none⟩ = some (.int .i64 m5) ∧ w'.cell? ⟨w.heap.size, 6, none⟩ = some (.int .i64 m6) ∧ w'.cell? ⟨w.heap.size, 7, none⟩ = some (.int .i64 m7) ∧ w'.cell? ⟨w.heap.size, 8, none⟩ = some (.int .i64 m8) ∧ w'.cell? ⟨w.heap.size + 1, 0, none⟩ = some (.int .i64 c0) ∧ w'.cell? ⟨w.heap.size + 1, 1, none⟩ = some (.int .i64 c1) ∧ w'.cell? ⟨w.heap.size + 1, 2, none⟩ = some (.int .i64 c2) ∧ w'.cell? ⟨w.heap.size + 1, 3, none⟩ = some (.int .i64 c3) ∧ w'.cell? ⟨w.heap.size + 1, 4, none⟩ = some (.int .i64 c4) ∧ w'.cell? ⟨w.heap.size + 1, 5, none⟩ = some (.int .i64 c5) ∧ Box 24 w' (w.heap.size + 1 + 1) [0, 0, 0, 0, 0, 0] ∧ Below w.heap.size w w' ∧ w.heap.size + 1 + 1 + 1 ≤ w'.heap.size) ((go_split_ands; (repeat (any_goals (with_reducible apply And.intro))) <;> ((repeat (first | (with_reducible assumption) | (with_reducible refine keepR ?_ (by omega)) | (with_reducible refine Box.farR ?_ (by omega)) | (with_reducible refine below_setRow ?_ (by omega) _) | (with_reducible refine sizeR ?_) | (with_reducible exact Below.refl _ _) | (with_reducible refine keepD ?_) | (with_reducible refine Below.drew ?_) | (with_reducible refine Box.drew ?_) | (with_reducible refine sizeD ?_) | (with_reducible exact keepC (by with_reducible assumption) (by with_reducible assumption)) | (with_reducible exact Box.below (by with_reducible assumption) (by with_reducible assumption)) | (with_reducible exact keepB (by with_reducible assumption) (by with_reducible assumption) (Nat.le_refl _)) | (with_reducible exact sizeC (by with_reducible assumption) (by with_reducible assumption)) | (with_reducible refine keepA _ ?_) | (with_reducible refine Box.alloc ?_ _) | (with_reducible refine allocB ?_ (Nat.le_refl _) _) | (with_reducible refine sizeA ?_ _))); done))) ((first | (go_at_call 112; refine (HBK.out _).mono ?_; rintro e w3 ⟨rfl, hb3⟩; have hz3 : w.heap.size + 1 + 1 + 1 ≤ w3.heap.size := (by have hq := hb3.size; (try simp only [World.size_drew, World.size_alloc, World.size_setCell] at hq); go_split_ands; omega); (try ((first | have hN := Box.below hb3 hN | have hN := Box.below hb3 (Box.alloc hN _) | have hN := Box.below hb3 (Box.new (E := 55) [0, 0, 0, 0, 0, 0, 0, 0, 0] rfl) | have hN := Box.below hb3 (Box.alloc (Box.new (E := 55) [0, 0, 0, 0, 0, 0, 0, 0, 0] rfl) _)); (try simp only [World.size_drew, World.size_alloc] at hN))); (try ((first | have hT := Box.below hb3 hT | have hT := Box.below hb3 (Box.alloc hT _) | have hT := Box.below hb3 (Box.new (E := 53) [0, 0, 0, 0, 0, 0, 0, 0, 0] rfl) | have hT := Box.below hb3 (Box.alloc (Box.new (E := 53) [0, 0, 0, 0, 0, 0, 0, 0, 0] rfl) _)); (try simp only [World.size_drew, World.size_alloc] at hT)))) | (go_at_call 69; refine (HRM.out _).mono ?_; rintro e w4 ⟨v1, rfl, hr1, hb4⟩; have hz4 : w.heap.size + 1 + 1 + 1 ≤ w4.heap.size := (by have hq := hb4.size; (try simp only [World.size_drew, World.size_alloc, World.size_setCell] at hq); go_split_ands; omega); (try ((first | have hN := Box.below hb4 hN | have hN := Box.below hb4 (Box.alloc hN _) | have hN := Box.below hb4 (Box.new (E := 55) [0, 0, 0, 0, 0, 0, 0, 0, 0] rfl) | have hN := Box.below hb4 (Box.alloc (Box.new (E := 55) [0, 0, 0, 0, 0, 0, 0, 0, 0] rfl) _)); (try simp only [World.size_drew, World.size_alloc] at hN))); (try ((first | have hT := Box.below hb4 hT | have hT := Box.below hb4 (Box.alloc hT _) | have hT := Box.below hb4 (Box.new (E := 53) [0, 0, 0, 0, 0, 0, 0, 0, 0] rfl) | have hT := Box.below hb4 (Box.alloc (Box.new (E := 53) [0, 0, 0, 0, 0, 0, 0, 0, 0] rfl) _)); (try simp only [World.size_drew, World.size_alloc] at hT))))))
    all_goals (go_split_ands; go_wp2_with fail; go_meet; have hq3 := hb3.size; have hq4 := hb4.size; (try simp only [World.size_drew, World.size_alloc] at hq3 hq4); refine ⟨_, _, rfl, rfl, by omega, by omega, by omega, ?_, ?_, ?_, ?_, ?_⟩; (exact hr1.keep2 (fun b h1 h2 => (by (try simp only [World.size_drew, World.size_alloc] at h1); omega)) (fun b o u h1 h2 h => (by (try simp only [World.size_drew, World.size_alloc] at h1); (repeat (first | (exact h) | (refine keepR ?_ (by omega)) | (refine keepA _ ?_) | (refine keepD ?_)))))); (focus (refine Box.farR ?_ (by omega); refine Box.setR (vs := [0, 0, 0, 0, 0, 0, 0, 0, 0]) [b0, b1, b2, b3, b4, b5, b6, b7, b8] ?_; (repeat (first | (with_reducible assumption) | (exact Box.new [0, 0, 0, 0, 0, 0, 0, 0, 0] rfl) | (exact Box.new [0, 0, 0, 0, 0, 0, 0, 0, 0] (by simp)) | (refine Box.alloc ?_ _))))); (focus (refine Box.setR (vs := [0, 0, 0, 0, 0, 0, 0, 0, 0]) [0, 0, 0, 0, 0, 0, 0, 0, 0] ?_; refine Box.farR ?_ (by omega); (repeat (first | (with_reducible assumption) | (exact Box.new [0, 0, 0, 0, 0, 0, 0, 0, 0] rfl) | (exact Box.new [0, 0, 0, 0, 0, 0, 0, 0, 0] (by simp)) | (refine Box.alloc ?_ _))))); (focus ((go_split_ands; (repeat (any_goals (with_reducible apply And.intro))) <;> ((repeat (first | (with_reducible assumption) | (with_reducible refine keepR ?_ (by omega)) | (with_reducible refine Box.farR ?_ (by omega)) | (with_reducible refine below_setRow ?_ (by omega) _) | (with_reducible refine sizeR ?_) | (with_reducible exact Below.refl _ _) | (with_reducible refine keepD ?_) | (with_reducible refine Below.drew ?_) | (with_reducible refine Box.drew ?_) | (with_reducible refine sizeD ?_) | (with_reducible exact keepC (by with_reducible assumption) (by with_reducible assumption)) | (with_reducible exact Box.below (by with_reducible assumption) (by with_reducible assumption)) | (with_reducible exact keepB (by with_reducible assumption) (by with_reducible assumption) (Nat.le_refl _)) | (with_reducible exact sizeC (by with_reducible assumption) (by with_reducible assumption)) | (with_reducible refine keepA _ ?_) | (with_reducible refine Box.alloc ?_ _) | (with_reducible refine allocB ?_ (Nat.le_refl _) _) | (with_reducible refine sizeA ?_ _))); done)))); (focus ((go_split_ands; (repeat (any_goals (with_reducible apply And.intro))) <;> ((repeat (first | (with_reducible assumption) | (with_reducible refine keepR ?_ (by omega)) | (with_reducible refine Box.farR ?_ (by omega)) | (with_reducible refine below_setRow ?_ (by omega) _) | (with_reducible refine sizeR ?_) | (with_reducible exact Below.refl _ _) | (with_reducible refine keepD ?_) | (with_reducible refine Below.drew ?_) | (with_reducible refine Box.drew ?_) | (with_reducible refine sizeD ?_) | (with_reducible exact keepC (by with_reducible assumption) (by with_reducible assumption)) | (with_reducible exact Box.below (by with_reducible assumption) (by with_reducible assumption)) | (with_reducible exact keepB (by with_reducible assumption) (by with_reducible assumption) (Nat.le_refl _)) | (with_reducible exact sizeC (by with_reducible assumption) (by with_reducible assumption)) | (with_reducible refine keepA _ ?_) | (with_reducible refine Box.alloc ?_ _) | (with_reducible refine allocB ?_ (Nat.le_refl _) _) | (with_reducible refine sizeA ?_ _))); done)))))
  clear hB hz Bm Bc BR ltm ltc hsz qm0 qm1 qm2 qm3 qm4 qm5 qm6 qm7 qm8 qc0 qc1 qc2 qc3 qc4 qc5
  case' rest => obtain ⟨gB, gT, rfl, rfl, hne, hgB, hgT, R1, BB, BT, BR, hB⟩ := hcut
  obtain ⟨g, ga, gb, gc, rfl, kg, ka, kb, kc, A1⟩ := R1
  obtain ⟨p0, p1, p2, q0, q1, q2, q3, q4, q5, q6, q7, q8⟩ := A1
  obtain ⟨ub0, ub1, ub2, ub3, ub4, ub5, ub6, ub7, ub8⟩ := HSB.out
  obtain ⟨ux0, ux1, ux2, ux3, ux4, ux5, ux6, ux7, ux8⟩ := HSK.out
  dsimp only at ub0 ux0 ub1 ux1 ub2 ux2 ub3 ux3 ub4 ux4 ub5 ux5 ub6 ux6 ub7 ux7 ub8 ux8
  have hp0 : ¬ p = 0 := by omega
  have hl0 : IntKind.i64.wrap 0 = 0 := by decide
  have hl1 : IntKind.i64.wrap 1 = 1 := by decide
  have hl2 : IntKind.i64.wrap 2 = 2 := by decide
  have hl3 : IntKind.i64.wrap 3 = 3 := by decide
  have hl4 : IntKind.i64.wrap 4 = 4 := by decide
  have HC : Hid (∀ k i, k < 3 → i < 3 → wc.cell? ⟨gB, k * 3 + i, none⟩ = some (.int .i64 (colF b0 b1 b2 b3 b4 b5 b6 b7 b8 i k))) := fun k i hk hi => (match k, i, hk, hi with | 0, 0, _, _ => BB.cell 0 rfl | 0, 1, _, _ => BB.cell 1 rfl | 0, 2, _, _ => BB.cell 2 rfl | 1, 0, _, _ => BB.cell 3 rfl | 1, 1, _, _ => BB.cell 4 rfl | 1, 2, _, _ => BB.cell 5 rfl | 2, 0, _, _ => BB.cell 6 rfl | 2, 1, _, _ => BB.cell 7 rfl | 2, 2, _, _ => BB.cell 8 rfl)
  have SC : Hid (∀ i k, sm (colF b0 b1 b2 b3 b4 b5 b6 b7 b8 i k)) := fun i k => pick3_sm (pick3_sm ub0 ub3 ub6 k) (pick3_sm ub1 ub4 ub7 k) (pick3_sm ub2 ub5 ub8 k) i
  have HR : Hid (∀ k, k < 3 → wc.cell? ⟨g, k, none⟩ = some (.slice (some ⟨pick3 ga gb gc k, 0, none⟩) 3 3)) := fun k hk => (match k, hk with | 0, _ => p0 | 1, _ => p1 | 2, _ => p2)
  have HM : Hid (∀ k n, k < 3 → n < 3 → wc.cell? ⟨pick3 ga gb gc k, n, none⟩ = some (.int .i64 (colF x0 x1 x2 x3 x4 x5 x6 x7 x8 n k))) := fun k n hk hn => (match k, n, hk, hn with | 0, 0, _, _ => q0 | 0, 1, _, _ => q1 | 0, 2, _, _ => q2 | 1, 0, _, _ => q3 | 1, 1, _, _ => q4 | 1, 2, _, _ => q5 | 2, 0, _, _ => q6 | 2, 1, _, _ => q7 | 2, 2, _, _ => q8)
  have SM : Hid (∀ n k, sm (colF x0 x1 x2 x3 x4 x5 x6 x7 x8 n k)) := fun n k => pick3_sm (pick3_sm ux0 ux3 ux6 k) (pick3_sm ux1 ux4 ux7 k) (pick3_sm ux2 ux5 ux8 k) n
  have hlB := BB.lt
  have hKK : Hid (∀ k, pick3 ga gb gc k ≠ gT) := fun k => (by unfold pick3; split; exact ka; split; exact kb; exact kc)
  clear p0 p1 p2 q0 q1 q2 q3 q4 q5 q6 q7 q8 ub0 ux0 ub1 ux1 ub2 ux2 ub3 ux3 ub4 ux4 ub5 ux5 ub6 ux6 ub7 ux7 ub8 ux8 ka kb kc
  generalize pick3 ga gb gc = gr at *
  generalize hwA : wc = wA at *
  go_wp2_with fail
  obtain ⟨C, hC⟩ : ∃ x, Hid (colF b0 b1 b2 b3 b4 b5 b6 b7 b8 = x) := ⟨_, rfl⟩
  obtain ⟨M, hM⟩ : ∃ x, Hid (colF x0 x1 x2 x3 x4 x5 x6 x7 x8 = x) := ⟨_, rfl⟩
  rw [hC.out] at HC SC
  rw [hM.out] at HM SM
  obtain ⟨tt, htt⟩ : ∃ x : Nat → Int, Hid ((fun q : Nat => psO p (C (q / 3)) (fun k n => M n k) (C (q % 3)) 3) = x) := ⟨_, rfl⟩
  have HT : Hid (∀ i j, i < 3 → j < 3 → psO p (C i) (fun k n => M n k) (C j) 3 = tt (i * 3 + j)) := fun i j hi hj => (by rw [← htt.out]; show _ = psO p (C ((i * 3 + j) / 3)) _ (C ((i * 3 + j) % 3)) 3; rw [show (i * 3 + j) / 3 = i by omega, show (i * 3 + j) % 3 = j by omega])
  go_loopw [10] (fun i wr => ∃ k : Nat, k ≤ 3 ∧ i = .int .i64 k ∧ Box 53 wr gT (contF tt (k * 3)) ∧ Hid (∀ b o u, b ≠ gT → wA.cell? ⟨b, o, none⟩ = some u → wr.cell? ⟨b, o, none⟩ = some u) ∧ Box 24 wr (w.heap.size + 1 + 1) [0, 0, 0, 0, 0, 0] ∧ Below w.heap.size w wr) (fun i _ => 3 - (intOf i).toNat)
  case atStart => exact ⟨0, by omega, rfl, BT, fun _ _ _ _ h => h, BR, hB⟩
  clear BT BR hB
  obtain ⟨i, hi, rfl, BT, HKP, BR, hB⟩ := hrel
  by_cases hi3 : i < 3
  · go_wp2
    go_loopw [11] (fun j wj => ∃ k : Nat, k ≤ 3 ∧ j = .int .i64 k ∧ Box 53 wj gT (contF tt (i * 3 + k)) ∧ Hid (∀ b o u, b ≠ gT → wA.cell? ⟨b, o, none⟩ = some u → wj.cell? ⟨b, o, none⟩ = some u) ∧ Box 24 wj (w.heap.size + 1 + 1) [0, 0, 0, 0, 0, 0] ∧ Below w.heap.size w wj) (fun j _ => 3 - (intOf j).toNat)
    case atStart => exact ⟨0, by omega, rfl, BT, HKP, BR, hB⟩
    clear BT HKP BR hB
    obtain ⟨j, hj, rfl, BT, HKP, BR, hB⟩ := hrel
    obtain ⟨wj, hwj⟩ : ∃ x, x = wr := ⟨_, rfl⟩
    subst hwj
    by_cases hj3 : j < 3
    · have HT' := Lib.hid (HT.out i j hi3 hj3)
      go_wp2
      go_loopw [12, 13] (fun s q wr => ∃ k : Nat, k ≤ 3 ∧ q = .int .i64 k ∧ s = .int .i64 (psO p (C i) (fun k n => M n k) (C j) k) ∧ Below wj.heap.size wj wr) (fun _ q _ => 3 - (intOf q).toNat)
      case atStart => exact ⟨0, by omega, rfl, rfl, Below.refl _ _⟩
      obtain ⟨k, hk, rfl, rfl, hD⟩ := hrel
      by_cases hk3 : k < 3
      · obtain ⟨so, hso⟩ : ∃ x, Hid (psO p (C i) (fun k n => M n k) (C j) k = x) := ⟨_, rfl⟩
        obtain ⟨a, ha⟩ : ∃ x, Hid (C i k = x) := ⟨_, rfl⟩
        have hrs : Hid (rg p so) := by show rg p so; rw [← hso.out]; exact psO_rg k1 (C i) (fun k n => M n k) (C j) k
        have hnx : Hid (psI p a so (fun n => M n k) (C j) 3 = psO p (C i) (fun k n => M n k) (C j) (k + 1)) := by show _ = _; rw [← hso.out, ← ha.out]; rfl
        have HE1 := Lib.hid (HKP.out _ _ _ hne (HC.out k i hk3 hi3))
        have HE2 := Lib.hid (HKP.out _ _ _ kg (HR.out k hk3))
        have s1 : sm a := by rw [← ha.out]; exact SC.out i k
        try simp only [Nat.add_zero] at HE1
        rw [ha.out] at HE1
        rw [hso.out]
        go_wp2
        go_loopw [12, 14] (fun s q wq => ∃ n : Nat, n ≤ 3 ∧ q = .int .i64 n ∧ s = .int .i64 (psI p a so (fun n => M n k) (C j) n) ∧ Below wj.heap.size wj wq) (fun _ q _ => 3 - (intOf q).toNat)
        case atStart => exact ⟨0, by omega, rfl, rfl, hD⟩
        obtain ⟨n, hn, rfl, rfl, hF⟩ := hrel
        by_cases hn3 : n < 3
        · obtain ⟨sn, hsn⟩ : ∃ x, Hid (psI p a so (fun n => M n k) (C j) n = x) := ⟨_, rfl⟩
          obtain ⟨sx, hsx⟩ : ∃ x, Hid (psI p a so (fun n => M n k) (C j) (n + 1) = x) := ⟨_, rfl⟩
          obtain ⟨m, hm⟩ : ∃ x, Hid (M n k = x) := ⟨_, rfl⟩
          obtain ⟨b, hb⟩ : ∃ x, Hid (C j n = x) := ⟨_, rfl⟩
          have hrn : rg p sn := by rw [← hsn.out]; exact psI_rg (a := a) k1 hrs.out (fun n => M n k) (C j) n
          have hst : stp p sn a m b = sx := by rw [← hsn.out, ← hm.out, ← hb.out]; exact hsx.out
          have e1 := keepC hF HE1.out
          have e2 := keepC hF HE2.out
          have e3 := keepC hF (HKP.out _ _ _ (hKK.out k) (HM.out k n hk3 hn3))
          have e4 := keepC hF (HKP.out _ _ _ hne (HC.out n j hn3 hj3))
          try simp only [Nat.add_zero] at e4
          rw [hm.out] at e3; rw [hb.out] at e4
          have s2 : sm m := by rw [← hm.out]; exact SM.out n k
          have s3 : sm b := by rw [← hb.out]; exact SC.out j n
          obtain ⟨f1, f2, f3, f4, f5⟩ := stp_facts k1 k2 s1 s2 s3 hrn
          rw [hst] at f5
          clear hst s2 s3 hrn
          generalize a * m % p = u at *
          rw [hsn.out]
          go_wp2
          refine wp_region_tailS 25 (fun w' => w' = wr.drew) (by kernel_rfl) (by kernel_rfl) rfl ?_
          simp only [List.take_succ_cons, List.take_zero, List.drop_succ_cons, List.drop_zero]
          repeat (refine stillS_read ?_ (by rfl) (fun w' hS => ?_) ?_; rotate_left; (focus (subst hS; go_simp; (try with_reducible rfl); done)); (try simp only [Act.put, List.setIfInBounds_toArray, List.set_cons_zero, List.set_cons_succ]))
          refine stillS_nil ?_
          rintro w' rfl
          go_wp2
          go_roundw
          case rel => exact ⟨n + 1, by omega, by go_num, by rw [hsx.out], Below.drew hF⟩
          case measure => simp [intOf]; omega
        · obtain rfl : n = 3 := by omega
          go_wp2
          go_roundw
          case rel => exact ⟨k + 1, by omega, by go_num, by rw [hnx.out], hF⟩
          case measure => simp [intOf]; omega
      · obtain rfl : k = 3 := by omega
        rw [HT'.out]
        have hlt9 : i * 3 + j < 9 := by omega
        have BTr := Box.below hD BT
        have st := BTr.cell (i * 3 + j) (contF_get tt hlt9)
        have sf := BTr.frz (i * 3 + j)
        have hkp : Hid (∀ b o u, b ≠ gT → wA.cell? ⟨b, o, none⟩ = some u → (wr.setCell ⟨gT, i * 3 + j, none⟩ (.int .i64 (tt (i * 3 + j)))).cell? ⟨b, o, none⟩ = some u) := fun b o u hb h => (by
          have h := keepC hD (HKP.out b o u hb h)
          simp only [World.cell?] at h ⊢
          rw [Below.heap_setCell _ _ _ _ hb]; exact h)
        have BR2 := Box.far (i := i * 3 + j) (u := .int .i64 (tt (i * 3 + j))) (Box.below hD BR) (show w.heap.size + 1 + 1 ≠ gT by omega)
        have BT2 := (BTr.set (i * 3 + j) (tt (i * 3 + j))).cast (contF_set tt hlt9)
        have hB2 : Below w.heap.size w (wr.setCell ⟨gT, i * 3 + j, none⟩ (.int .i64 (tt (i * 3 + j)))) := Below.setCell (p := ⟨gT, i * 3 + j, none⟩) (keepB hD hB (Nat.le_refl _)) (by show _ ≤ gT; omega) _
        clear BTr BT BR hB hD HKP
        generalize tt (i * 3 + j) = tv at *
        go_wp2
        go_roundw
        case rel => exact ⟨j + 1, by omega, by go_num, BT2, hkp, BR2, hB2⟩
        case measure => simp [intOf]; omega
    · obtain rfl : j = 3 := by omega
      have e3 : i * 3 + 3 = (i + 1) * 3 := by omega
      rw [e3] at BT
      go_wp2
      go_roundw
      case rel => exact ⟨i + 1, by omega, by go_num, BT, HKP, BR, hB⟩
      case measure => simp [intOf]; omega
  obtain rfl : i = 3 := by omega
  obtain ⟨t0, ht0⟩ : ∃ x, Hid (t9 p b0 b3 b6 ⟨x0, x1, x2, x3, x4, x5, x6, x7, x8⟩ b0 b3 b6 = x) := ⟨_, rfl⟩
  obtain ⟨t1, ht1⟩ : ∃ x, Hid (t9 p b0 b3 b6 ⟨x0, x1, x2, x3, x4, x5, x6, x7, x8⟩ b1 b4 b7 = x) := ⟨_, rfl⟩
  obtain ⟨t2, ht2⟩ : ∃ x, Hid (t9 p b0 b3 b6 ⟨x0, x1, x2, x3, x4, x5, x6, x7, x8⟩ b2 b5 b8 = x) := ⟨_, rfl⟩
  obtain ⟨t3, ht3⟩ : ∃ x, Hid (t9 p b1 b4 b7 ⟨x0, x1, x2, x3, x4, x5, x6, x7, x8⟩ b0 b3 b6 = x) := ⟨_, rfl⟩
  obtain ⟨t4, ht4⟩ : ∃ x, Hid (t9 p b1 b4 b7 ⟨x0, x1, x2, x3, x4, x5, x6, x7, x8⟩ b1 b4 b7 = x) := ⟨_, rfl⟩
  obtain ⟨t5, ht5⟩ : ∃ x, Hid (t9 p b1 b4 b7 ⟨x0, x1, x2, x3, x4, x5, x6, x7, x8⟩ b2 b5 b8 = x) := ⟨_, rfl⟩
  obtain ⟨t6, ht6⟩ : ∃ x, Hid (t9 p b2 b5 b8 ⟨x0, x1, x2, x3, x4, x5, x6, x7, x8⟩ b0 b3 b6 = x) := ⟨_, rfl⟩
  obtain ⟨t7, ht7⟩ : ∃ x, Hid (t9 p b2 b5 b8 ⟨x0, x1, x2, x3, x4, x5, x6, x7, x8⟩ b1 b4 b7 = x) := ⟨_, rfl⟩
  obtain ⟨t8, ht8⟩ : ∃ x, Hid (t9 p b2 b5 b8 ⟨x0, x1, x2, x3, x4, x5, x6, x7, x8⟩ b2 b5 b8 = x) := ⟨_, rfl⟩
  have BT2 : Box 53 wr gT [t0, t1, t2, t3, t4, t5, t6, t7, t8] := BT.cast (by rw [← htt.out, ← hC.out, ← hM.out, ← ht0.out, ← ht1.out, ← ht2.out, ← ht3.out, ← ht4.out, ← ht5.out, ← ht6.out, ← ht7.out, ← ht8.out]; rfl)
  clear BT; have BT := BT2; clear BT2
  clear HC HR HM SC SM hC hM htt HT HKP
  have HC0 : True := trivial; have HC1 : True := trivial; have HC2 : True := trivial; have HR : True := trivial; have HM : True := trivial; have SC0 : True := trivial; have SC1 : True := trivial; have SC2 : True := trivial; have SM : True := trivial
  generalize wr = wA at *
  have hp := HP.out
  obtain ⟨h, hh⟩ : ∃ x, Hid (inv p 2 = x) := ⟨_, rfl⟩
  have hh0 := inv_lo (n := 2) hp; have hh1 := inv_hi (n := 2) hp
  rw [hh.out] at hh0 hh1
  have hr0 : rg p t0 := by rw [← ht0.out]; exact stp_rg k1 _ _ _ _
  obtain ⟨lo0, hi0⟩ := hr0
  have hb0 := mul_bd (a := t0) (b := h) (A := 12) (B := 12) lo0 (by omega) hh0 (by omega)
  have hw0 : IntKind.i64.wrap (t0 * h) = t0 * h := by go_arith
  have hy00 : (t0 * h).tmod p = t0 * h % p := Int.tmod_eq_emod_of_nonneg hb0.1
  obtain ⟨y0, hy0⟩ : ∃ x, Hid (t0 * h % p = x) := ⟨_, rfl⟩
  rw [hy0.out] at hy00
  clear hb0 lo0 hi0
  have hr4 : rg p t4 := by rw [← ht4.out]; exact stp_rg k1 _ _ _ _
  obtain ⟨lo4, hi4⟩ := hr4
  have hb4 := mul_bd (a := t4) (b := h) (A := 12) (B := 12) lo4 (by omega) hh0 (by omega)
  have hw4 : IntKind.i64.wrap (t4 * h) = t4 * h := by go_arith
  have hy04 : (t4 * h).tmod p = t4 * h % p := Int.tmod_eq_emod_of_nonneg hb4.1
  obtain ⟨y4, hy4⟩ : ∃ x, Hid (t4 * h % p = x) := ⟨_, rfl⟩
  rw [hy4.out] at hy04
  clear hb4 lo4 hi4
  have hr8 : rg p t8 := by rw [← ht8.out]; exact stp_rg k1 _ _ _ _
  obtain ⟨lo8, hi8⟩ := hr8
  have hb8 := mul_bd (a := t8) (b := h) (A := 12) (B := 12) lo8 (by omega) hh0 (by omega)
  have hw8 : IntKind.i64.wrap (t8 * h) = t8 * h := by go_arith
  have hy08 : (t8 * h).tmod p = t8 * h % p := Int.tmod_eq_emod_of_nonneg hb8.1
  obtain ⟨y8, hy8⟩ : ∃ x, Hid (t8 * h % p = x) := ⟨_, rfl⟩
  rw [hy8.out] at hy08
  clear hb8 lo8 hi8
  have hmd : (mdC p y0 y4 y8 t1 t2 t5).1 = imC p ⟨m0, m1, m2, m3, m4, m5, m6, m7, m8⟩ ⟨c0, c1, c2, c3, c4, c5⟩ := by
    rw [mdC_1, ← HE0.out]; unfold imS; dsimp only
    rw [ht0.out, ht1.out, ht2.out, ht4.out, ht5.out, ht8.out, hh.out, hy0.out, hy4.out, hy8.out]
  have hcall : ∀ (w' : World) (b : Nat), Rd w' b 0 [y0, y4, y8, t1, t2, t5] → b < w'.heap.size → Calls Try.prog 51 #[.int .i64 p, .slice (some ⟨b, 0, none⟩) 6 6] w' fun e w'' => e = .returned (.tuple #[.agg #[.int .i64 ((mdC p y0 y4 y8 t1 t2 t5).1).c0, .int .i64 ((mdC p y0 y4 y8 t1 t2 t5).1).c1, .int .i64 ((mdC p y0 y4 y8 t1 t2 t5).1).c2, .int .i64 ((mdC p y0 y4 y8 t1 t2 t5).1).c3, .int .i64 ((mdC p y0 y4 y8 t1 t2 t5).1).c4, .int .i64 ((mdC p y0 y4 y8 t1 t2 t5).1).c5], .bool (mdC p y0 y4 y8 t1 t2 t5).2]) ∧ Below w'.heap.size w' w'' := fun w' b h1 h2 => l03Made_any p y0 y4 y8 t1 t2 t5 b 0 6 w' hp h1 h2
  rw [hmd] at hcall
  generalize (mdC p y0 y4 y8 t1 t2 t5).2 = bb at *
  obtain ⟨g0, g1, g2, g3, g4, g5, hg⟩ : ∃ g0 g1 g2 g3 g4 g5, imC p ⟨m0, m1, m2, m3, m4, m5, m6, m7, m8⟩ ⟨c0, c1, c2, c3, c4, c5⟩ = ⟨g0, g1, g2, g3, g4, g5⟩ := ⟨_, _, _, _, _, _, rfl⟩
  rw [hg] at hcall
  have HG := Lib.hid hg
  have HCL := Lib.hid hcall
  clear hcall hg hmd ht0 ht1 ht2 ht3 ht4 ht5 ht6 ht7 ht8 hy0 hy4 hy8
  have hinv := fun w' => l01Inverse_any p 2 w' hp
  rw [hh.out] at hinv
  have HIN := Lib.hid hinv
  clear hinv hp HC0 HC1 HC2 HR HM SC0 SC1 SC2 SM hKK HE0 HSB HSK HBK HRM
  have ct0 := BT.cell 0 rfl
  have ct4 := BT.cell 4 rfl
  have ct8 := BT.cell 8 rfl
  have ct1 := BT.cell 1 rfl
  have ct2 := BT.cell 2 rfl
  have ct5 := BT.cell 5 rfl
  have hsz := BT.lt
  have hszB := hB.size
  go_upto_region 18 with (go_at_call 113; refine (HIN.out _).mono ?_; rintro e w' ⟨rfl, rfl⟩)
  go_cut [16] (fun s16 w' => ∃ gg, s16 = .pointer (some ⟨gg, 0, none⟩) ∧ w.heap.size + 1 + 1 + 1 ≤ gg ∧ Box 24 w' gg [g0, g1, g2, g3, g4, g5] ∧ Box 24 w' (w.heap.size + 1 + 1) [0, 0, 0, 0, 0, 0] ∧ Below w.heap.size w w')
  case first =>
    go_region_held3 (fun w' => w'.cell? ⟨gT, 0, none⟩ = some (.int .i64 t0) ∧ w'.cell? ⟨gT, 4, none⟩ = some (.int .i64 t4) ∧ w'.cell? ⟨gT, 8, none⟩ = some (.int .i64 t8) ∧ w'.cell? ⟨gT, 1, none⟩ = some (.int .i64 t1) ∧ w'.cell? ⟨gT, 2, none⟩ = some (.int .i64 t2) ∧ w'.cell? ⟨gT, 5, none⟩ = some (.int .i64 t5) ∧ gT < w'.heap.size ∧ Box 24 w' (w.heap.size + 1 + 1) [0, 0, 0, 0, 0, 0] ∧ Below w.heap.size w w') ((go_split_ands; (repeat (any_goals (with_reducible apply And.intro))) <;> ((repeat (first | (with_reducible assumption) | (with_reducible refine ltA _ ?_) | (with_reducible refine ltR ?_) | (with_reducible refine ltD ?_) | (with_reducible exact ltB (by with_reducible assumption) (by with_reducible assumption)) | (with_reducible refine keepR ?_ (by omega)) | (with_reducible refine Box.farR ?_ (by omega)) | (with_reducible refine below_setRow ?_ (by omega) _) | (with_reducible refine sizeR ?_) | (with_reducible exact Below.refl _ _) | (with_reducible refine keepD ?_) | (with_reducible refine Below.drew ?_) | (with_reducible refine Box.drew ?_) | (with_reducible refine sizeD ?_) | (with_reducible exact keepC (by with_reducible assumption) (by with_reducible assumption)) | (with_reducible exact Box.below (by with_reducible assumption) (by with_reducible assumption)) | (with_reducible exact keepB (by with_reducible assumption) (by with_reducible assumption) (Nat.le_refl _)) | (with_reducible exact sizeC (by with_reducible assumption) (by with_reducible assumption)) | (with_reducible refine keepA _ ?_) | (with_reducible refine Box.alloc ?_ _) | (with_reducible refine allocB ?_ (Nat.le_refl _) _) | (with_reducible refine sizeA ?_ _))); done))) ((go_at_call 51; refine (HCL.out _ _ (rd6 (by go_cell) (by go_cell) (by go_cell) (by go_cell) (by go_cell) (by go_cell)) (by go_size)).mono ?_; rintro e w5 ⟨rfl, hb5⟩; have hz5 : gT < w5.heap.size ∧ w.heap.size ≤ w5.heap.size := (by have hq := hb5.size; (try simp only [World.size_drew, World.size_alloc, World.size_setCell] at hq); go_split_ands; omega); obtain ⟨hz5, hy5⟩ := hz5; (try ((first | have hG := Box.below hb5 hG | have hG := Box.below hb5 (Box.alloc hG _) | have hG := Box.below hb5 (Box.new (E := 24) [0, 0, 0, 0, 0, 0] rfl) | have hG := Box.below hb5 (Box.alloc (Box.new (E := 24) [0, 0, 0, 0, 0, 0] rfl) _)); (try simp only [World.size_drew, World.size_alloc] at hG)))))
    all_goals (go_split_ands; go_wp2_with fail; go_meet; refine ⟨_, rfl, by omega, ?_, ?_, ?_⟩; (focus (refine Box.setR (vs := [0, 0, 0, 0, 0, 0]) [g0, g1, g2, g3, g4, g5] ?_; (repeat (first | (with_reducible assumption) | (exact Box.new [0, 0, 0, 0, 0, 0] rfl) | (exact Box.new [0, 0, 0, 0, 0, 0] (by simp)) | (refine Box.alloc ?_ _))))); (focus ((go_split_ands; (repeat (any_goals (with_reducible apply And.intro))) <;> ((repeat (first | (with_reducible assumption) | (with_reducible refine keepR ?_ (by omega)) | (with_reducible refine Box.farR ?_ (by omega)) | (with_reducible refine below_setRow ?_ (by omega) _) | (with_reducible refine sizeR ?_) | (with_reducible exact Below.refl _ _) | (with_reducible refine keepD ?_) | (with_reducible refine Below.drew ?_) | (with_reducible refine Box.drew ?_) | (with_reducible refine sizeD ?_) | (with_reducible exact keepC (by with_reducible assumption) (by with_reducible assumption)) | (with_reducible exact Box.below (by with_reducible assumption) (by with_reducible assumption)) | (with_reducible exact keepB (by with_reducible assumption) (by with_reducible assumption) (Nat.le_refl _)) | (with_reducible exact sizeC (by with_reducible assumption) (by with_reducible assumption)) | (with_reducible refine keepA _ ?_) | (with_reducible refine Box.alloc ?_ _) | (with_reducible refine allocB ?_ (Nat.le_refl _) _) | (with_reducible refine sizeA ?_ _))); done)))); (focus ((go_split_ands; (repeat (any_goals (with_reducible apply And.intro))) <;> ((repeat (first | (with_reducible assumption) | (with_reducible refine keepR ?_ (by omega)) | (with_reducible refine Box.farR ?_ (by omega)) | (with_reducible refine below_setRow ?_ (by omega) _) | (with_reducible refine sizeR ?_) | (with_reducible exact Below.refl _ _) | (with_reducible refine keepD ?_) | (with_reducible refine Below.drew ?_) | (with_reducible refine Box.drew ?_) | (with_reducible refine sizeD ?_) | (with_reducible exact keepC (by with_reducible assumption) (by with_reducible assumption)) | (with_reducible exact Box.below (by with_reducible assumption) (by with_reducible assumption)) | (with_reducible exact keepB (by with_reducible assumption) (by with_reducible assumption) (Nat.le_refl _)) | (with_reducible exact sizeC (by with_reducible assumption) (by with_reducible assumption)) | (with_reducible refine keepA _ ?_) | (with_reducible refine Box.alloc ?_ _) | (with_reducible refine allocB ?_ (Nat.le_refl _) _) | (with_reducible refine sizeA ?_ _))); done)))))
  clear hsz hszB BB BR BT hB ct0 ct4 ct8 ct1 ct2 ct5 HCL HIN
  case' rest => obtain ⟨gg, rfl, hgg, BG, BR, hB⟩ := hcut
  have hlr := BR.lt
  have hlg := BG.lt
  have sg0 := BG.cell 0 rfl; have sr0 := BR.cell 0 rfl; have sf0 := BR.frz 0
  have sg1 := BG.cell 1 rfl; have sr1 := BR.cell 1 rfl; have sf1 := BR.frz 1
  have sg2 := BG.cell 2 rfl; have sr2 := BR.cell 2 rfl; have sf2 := BR.frz 2
  have sg3 := BG.cell 3 rfl; have sr3 := BR.cell 3 rfl; have sf3 := BR.frz 3
  have sg4 := BG.cell 4 rfl; have sr4 := BR.cell 4 rfl; have sf4 := BR.frz 4
  have sg5 := BG.cell 5 rfl; have sr5 := BR.cell 5 rfl; have sf5 := BR.frz 5
  clear hl0 hl1 hl2 hl3 hl4 hne hgB hgT kg k1 k2 hp0 hh0 hh1 hw0 hw4 hw8 hy00 hy04 hy08 hlB
  go_upto_region 19 with fail
  repeat ((fail_if_success guard_target = (_ : Exit → Act → World → Prop) Exit.ret _ _); (first | go_values | go_skip | go_guarded | go_step | go_upon | go_back))
  have BRn := Box.setR (vs := [0, 0, 0, 0, 0, 0]) [g0, g1, g2, g3, g4, g5] BR
  have rr0 : (wc.setRow (w.heap.size + 1 + 1) #[.int .i64 g0, .int .i64 g1, .int .i64 g2, .int .i64 g3, .int .i64 g4, .int .i64 g5]).cell? ⟨w.heap.size + 1 + 1, 0, none⟩ = some (.int .i64 g0) := BRn.cell 0 rfl
  have rr1 : (wc.setRow (w.heap.size + 1 + 1) #[.int .i64 g0, .int .i64 g1, .int .i64 g2, .int .i64 g3, .int .i64 g4, .int .i64 g5]).cell? ⟨w.heap.size + 1 + 1, 1, none⟩ = some (.int .i64 g1) := BRn.cell 1 rfl
  have rr2 : (wc.setRow (w.heap.size + 1 + 1) #[.int .i64 g0, .int .i64 g1, .int .i64 g2, .int .i64 g3, .int .i64 g4, .int .i64 g5]).cell? ⟨w.heap.size + 1 + 1, 2, none⟩ = some (.int .i64 g2) := BRn.cell 2 rfl
  have rr3 : (wc.setRow (w.heap.size + 1 + 1) #[.int .i64 g0, .int .i64 g1, .int .i64 g2, .int .i64 g3, .int .i64 g4, .int .i64 g5]).cell? ⟨w.heap.size + 1 + 1, 3, none⟩ = some (.int .i64 g3) := BRn.cell 3 rfl
  have rr4 : (wc.setRow (w.heap.size + 1 + 1) #[.int .i64 g0, .int .i64 g1, .int .i64 g2, .int .i64 g3, .int .i64 g4, .int .i64 g5]).cell? ⟨w.heap.size + 1 + 1, 4, none⟩ = some (.int .i64 g4) := BRn.cell 4 rfl
  have rr5 : (wc.setRow (w.heap.size + 1 + 1) #[.int .i64 g0, .int .i64 g1, .int .i64 g2, .int .i64 g3, .int .i64 g4, .int .i64 g5]).cell? ⟨w.heap.size + 1 + 1, 5, none⟩ = some (.int .i64 g5) := BRn.cell 5 rfl
  have hBn := below_setRow hB (show w.heap.size ≤ w.heap.size + 1 + 1 by omega) #[.int .i64 g0, .int .i64 g1, .int .i64 g2, .int .i64 g3, .int .i64 g4, .int .i64 g5]
  clear BRn BG BR sr0 sf0 sg0 sr1 sf1 sg1 sr2 sf2 sg2 sr3 sf3 sg3 sr4 sf4 sg4 sr5 sf5 sg5
  (try simp only [Exit.inBlock, Exit.then]); refine bodyPost_ret (by simp [results, Try.results77, go_sem, *]; try rfl) rfl ?_
  exact ⟨by rw [HG.out], hBn⟩
end Go.Proofs.Ytemimkbngfbomaa
