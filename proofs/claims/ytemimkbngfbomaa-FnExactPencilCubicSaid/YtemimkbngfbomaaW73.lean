/- PencilCubic: what the two functions return; no condition. -/
import Derived.Test.YtemimkbngfbomaaW57
import Derived.Test.YtemimkbngfbomaaW54
import Derived.Test.YtemimkbngfbomaaA2
import Derived.Test.YtemimkbngfbomaaW13i
import Derived.Deep.RegionWith
import Derived.Deep.RegionHeld3
import Derived.Deep.DeepCutAuto
import Derived.Laws.CopyOwn
import Derived.Test.YtemimkbngfbomaaH3
namespace Go.Proofs.Ytemimkbngfbomaa
open Go.RowKit
set_option linter.unusedSimpArgs false
set_option linter.unusedVariables false
set_option maxRecDepth 100000

theorem swapA {W : World} {o o' : Obj} {b q : Nat} {v : Value} (h : (W.alloc o).cell? ⟨b, q, none⟩ = some v) (hb : b < W.heap.size) : (W.alloc o').cell? ⟨b, q, none⟩ = some v := by
  simp only [World.cell?, Below.heap_alloc _ _ _ hb] at h ⊢
  exact h
theorem Box.swap {E : Nat} {W : World} {o o' : Obj} {b : Nat} {vs : List Int} (h : Box E (W.alloc o) b vs) (hb : b < W.heap.size) : Box E (W.alloc o') b vs := by
  unfold Box at *
  rw [Below.heap_alloc _ _ _ hb] at h ⊢
  exact h
theorem Below.swap {n : Nat} {w W : World} {o o' : Obj} (h : Below n w (W.alloc o)) (hn : n ≤ W.heap.size) : Below n w (W.alloc o') :=
  ⟨h.os, h.tape, h.output, by have := h.size; simp only [World.size_alloc] at this ⊢; omega, fun k hk => by rw [Below.heap_alloc _ _ _ (by omega)]; have := h.block k hk; rwa [Below.heap_alloc _ _ _ (by omega)] at this⟩
theorem keepR {W : World} {b q g : Nat} {v : Value} {cs : Array Value} (h : W.cell? ⟨b, q, none⟩ = some v) (hk : b ≠ g) : (W.setRow g cs).cell? ⟨b, q, none⟩ = some v := by
  rw [cell_setRow_other _ _ _ _ hk]; exact h
theorem Box.farR {E : Nat} {W : World} {b g : Nat} {vs : List Int} {cs : Array Value} (h : Box E W b vs) (hk : b ≠ g) : Box E (W.setRow g cs) b vs := by
  unfold Box at *
  rw [setRow_other _ _ _ _ hk]; exact h
theorem Box.setR {E : Nat} {W : World} {g : Nat} {vs : List Int} (us : List Int) (h : Box E W g vs) : Box E (W.setRow g (us.map (Value.int .i64)).toArray) g us := Go.setRow_heap _ _ _ _ _ _ h
theorem sizeR {n g : Nat} {W : World} {cs : Array Value} (h : n ≤ W.heap.size) : n ≤ (W.setRow g cs).heap.size := by simpa using h
theorem run_row18 {W : World} {g : Nat} {x0 x1 x2 x3 x4 x5 x6 x7 x8 x9 x10 x11 x12 x13 x14 x15 x16 x17 : Int} (h : Box 97 W g [0, 0, 0, 0, 0, 0, 0, 0, 0, 0, 0, 0, 0, 0, 0, 0, 0, 0]) : (storeVar 97 ⟨g, 0, none⟩ (.agg #[.int .i64 x0, .int .i64 x1, .int .i64 x2, .int .i64 x3, .int .i64 x4, .int .i64 x5, .int .i64 x6, .int .i64 x7, .int .i64 x8, .int .i64 x9, .int .i64 x10, .int .i64 x11, .int .i64 x12, .int .i64 x13, .int .i64 x14, .int .i64 x15, .int .i64 x16, .int .i64 x17])).run Try.prog W = .ok () (W.setRow g #[.int .i64 x0, .int .i64 x1, .int .i64 x2, .int .i64 x3, .int .i64 x4, .int .i64 x5, .int .i64 x6, .int .i64 x7, .int .i64 x8, .int .i64 x9, .int .i64 x10, .int .i64 x11, .int .i64 x12, .int .i64 x13, .int .i64 x14, .int .i64 x15, .int .i64 x16, .int .i64 x17]) :=
  run_storeVar_row W g 97 97 _ #[.int .i64 x0, .int .i64 x1, .int .i64 x2, .int .i64 x3, .int .i64 x4, .int .i64 x5, .int .i64 x6, .int .i64 x7, .int .i64 x8, .int .i64 x9, .int .i64 x10, .int .i64 x11, .int .i64 x12, .int .i64 x13, .int .i64 x14, .int .i64 x15, .int .i64 x16, .int .i64 x17] h (by kernel_rfl) rfl (by simp [Value.oneCell'])
/-- A store of two maps, kept whole. -/
def veil18 (a : Addr) (v : Value) : Sem Unit := storeVar 97 a v
theorem to_veil18 (a : Addr) (v : Value) : storeVar 97 a v = veil18 a v := rfl
theorem run_veil18 {W : World} {g : Nat} {x0 x1 x2 x3 x4 x5 x6 x7 x8 x9 x10 x11 x12 x13 x14 x15 x16 x17 : Int} (h : Box 97 W g [0, 0, 0, 0, 0, 0, 0, 0, 0, 0, 0, 0, 0, 0, 0, 0, 0, 0]) : (veil18 ⟨g, 0, none⟩ (.agg #[.int .i64 x0, .int .i64 x1, .int .i64 x2, .int .i64 x3, .int .i64 x4, .int .i64 x5, .int .i64 x6, .int .i64 x7, .int .i64 x8, .int .i64 x9, .int .i64 x10, .int .i64 x11, .int .i64 x12, .int .i64 x13, .int .i64 x14, .int .i64 x15, .int .i64 x16, .int .i64 x17])).run Try.prog W = .ok () (W.setRow g #[.int .i64 x0, .int .i64 x1, .int .i64 x2, .int .i64 x3, .int .i64 x4, .int .i64 x5, .int .i64 x6, .int .i64 x7, .int .i64 x8, .int .i64 x9, .int .i64 x10, .int .i64 x11, .int .i64 x12, .int .i64 x13, .int .i64 x14, .int .i64 x15, .int .i64 x16, .int .i64 x17]) := run_row18 h
theorem box_new18 {W : World} : Box 97 (W.alloc (.cells #[.int .i64 0, .int .i64 0, .int .i64 0, .int .i64 0, .int .i64 0, .int .i64 0, .int .i64 0, .int .i64 0, .int .i64 0, .int .i64 0, .int .i64 0, .int .i64 0, .int .i64 0, .int .i64 0, .int .i64 0, .int .i64 0, .int .i64 0, .int .i64 0] 97)) W.heap.size [0, 0, 0, 0, 0, 0, 0, 0, 0, 0, 0, 0, 0, 0, 0, 0, 0, 0] := Box.new [0, 0, 0, 0, 0, 0, 0, 0, 0, 0, 0, 0, 0, 0, 0, 0, 0, 0] rfl
attribute [local go_sem ↓] to_veil18
attribute [local go_sem] run_veil18 box_new18
theorem OwnA.ofBox4 {w : World} {g base : Nat} {x0 x1 x2 x3 : Int} (h : Box 2 w g [x0, x1, x2, x3]) (hb : base ≤ g) : OwnA 2 1 w base (.slice (some ⟨g, 0, none⟩) 4 4) [[x0], [x1], [x2], [x3]] :=
  ⟨by simp, by simp [cellsA], .inr ⟨g, 4, _, rfl, hb, h, Nat.le_refl _, by decide, by simp, by simp [cellsA]⟩⟩
def cuL (p : Int) (m n : M9) : List (List Int) :=
  let x0 := (0 + det3 p m.m0 m.m1 m.m2 m.m3 m.m4 m.m5 m.m6 m.m7 m.m8) % p
  let x1 := (0 + det3 p n.m0 n.m1 n.m2 m.m3 m.m4 m.m5 m.m6 m.m7 m.m8) % p
  let x2 := (x1 + det3 p m.m0 m.m1 m.m2 n.m3 n.m4 n.m5 m.m6 m.m7 m.m8) % p
  let x3 := (0 + det3 p n.m0 n.m1 n.m2 n.m3 n.m4 n.m5 m.m6 m.m7 m.m8) % p
  let x4 := (x2 + det3 p m.m0 m.m1 m.m2 m.m3 m.m4 m.m5 n.m6 n.m7 n.m8) % p
  let x5 := (x3 + det3 p n.m0 n.m1 n.m2 m.m3 m.m4 m.m5 n.m6 n.m7 n.m8) % p
  let x6 := (x5 + det3 p m.m0 m.m1 m.m2 n.m3 n.m4 n.m5 n.m6 n.m7 n.m8) % p
  let x7 := (0 + det3 p n.m0 n.m1 n.m2 n.m3 n.m4 n.m5 n.m6 n.m7 n.m8) % p
  [[x0], [x4], [x6], [x7]]
def cuR (p : Int) (c d : C6) : List (List Int) × Int := if pcCode p true c d = 0 then (cuL p (mxC p c) (mxC p d), 0) else ([], pcCode p true c d)
theorem cuR_lens (p : Int) (c d : C6) : ∀ r ∈ (cuR p c d).1, r.length = 1 := by
  unfold cuR; split <;> simp [cuL]
theorem cuR_len (p : Int) (c d : C6) : (cuR p c d).1.length ≤ 1000000 := by
  unfold cuR; split <;> simp [cuL]
theorem pcCode3 (p : Int) (c d : C6) : pcCode p true c d = 2 ∨ pcCode p true c d = 1 ∨ pcCode p true c d = 5 ∨ (isP p = true ∧ isCo p c = true ∧ isCo p d = true ∧ pcCode p true c d = 0) := by
  unfold pcCode
  rcases coCode3 p true [c, d] with hk | hk | ⟨hp, hok, hk⟩
  · rw [hk]; exact .inl rfl
  · rw [hk]; exact .inr (.inl rfl)
  · rw [hk]
    rw [Bool.and_eq_true] at hok
    have h1 := co1 hok.2
    have h2 := co1 h1.2
    by_cases h : c = d
    · rw [if_pos h]; exact .inr (.inr (.inl rfl))
    · rw [if_neg h]; exact .inr (.inr (.inr ⟨hp, h1.1, h2.1, rfl⟩))
theorem det3_rng {p : Int} (hp : isP p = true) (a b c d e f g h i : Int) : 0 ≤ det3 p a b c d e f g h i ∧ det3 p a b c d e f g h i < p := by
  have := isP_lo hp
  unfold det3; exact ⟨Int.emod_nonneg _ (by omega), Int.emod_lt_of_pos _ (by omega)⟩
theorem sum_rng {p : Int} (hp : isP p = true) (x y : Int) : 0 ≤ (x + y) % p ∧ (x + y) % p < p := by
  have := isP_lo hp
  exact ⟨Int.emod_nonneg _ (by omega), Int.emod_lt_of_pos _ (by omega)⟩
set_option maxHeartbeats 8000000 in
theorem PencilCubic_any (p c0 c1 c2 c3 c4 c5 d0 d1 d2 d3 d4 d5 : Int) (w : World) :
    Calls Try.prog 28 #[.int .i64 p, .agg #[.int .i64 c0, .int .i64 c1, .int .i64 c2, .int .i64 c3, .int .i64 c4, .int .i64 c5], .agg #[.int .i64 d0, .int .i64 d1, .int .i64 d2, .int .i64 d3, .int .i64 d4, .int .i64 d5]] w fun e w' => ∃ v, e = .returned (.tuple #[v, .int .i64 (cuR p ⟨c0, c1, c2, c3, c4, c5⟩ ⟨d0, d1, d2, d3, d4, d5⟩).2]) ∧ OwnA 2 1 w' w.heap.size v (cuR p ⟨c0, c1, c2, c3, c4, c5⟩ ⟨d0, d1, d2, d3, d4, d5⟩).1 ∧ Below w.heap.size w w' := by
  have hmk : ∀ w, (Instr.makeSlice 22 (.int .i64 4) (.int .i64 4)).run Try.prog w = .ok (.slice (some ⟨w.heap.size, 0, none⟩) 4 4) (w.alloc (.cells #[.int .i64 0, .int .i64 0, .int .i64 0, .int .i64 0] 2)) := fun _ => by kernel_rfl
  go_enter Try.func28, Try.ntmps28
  rcases pcCode3 p ⟨c0, c1, c2, c3, c4, c5⟩ ⟨d0, d1, d2, d3, d4, d5⟩ with hk | hk | hk | ⟨hp, hc, hd, hk⟩
  · have hE : Hid (cuR p ⟨c0, c1, c2, c3, c4, c5⟩ ⟨d0, d1, d2, d3, d4, d5⟩ = ([], 2)) := by show _ = _; unfold cuR; rw [hk]; rfl
    have HK := Lib.hid hk; clear hk
    go_wp2_with (go_at_call 71; refine (pencilCode_any p c0 c1 c2 c3 c4 c5 d0 d1 d2 d3 d4 d5 true _).mono ?_; rintro e w1 ⟨rfl, hb1⟩; obtain ⟨hc1, hf1⟩ := bcell hb1; have hz1 := hb1.size; (try simp only [World.size_alloc, World.size_setCell, World.size_drew] at hz1); (try (have hy1w0 : w.heap.size < w1.heap.size := by omega)); (try (have hy1w1 : w.heap.size + 1 < w1.heap.size := by omega)); (try (have hy1w2 : w.heap.size + 1 + 1 < w1.heap.size := by omega)); (try (have hy1w3 : w.heap.size + 1 + 1 + 1 < w1.heap.size := by omega)); (try (have hy1w4 : w.heap.size + 1 + 1 + 1 + 1 < w1.heap.size := by omega)); (try (have hy1wc0 : wc.heap.size < w1.heap.size := by omega)); (try (have hy1wc1 : wc.heap.size + 1 < w1.heap.size := by omega)); (try (have hy1wc2 : wc.heap.size + 1 + 1 < w1.heap.size := by omega)); (try (have hy1wc3 : wc.heap.size + 1 + 1 + 1 < w1.heap.size := by omega)); (try (have hy1wc4 : wc.heap.size + 1 + 1 + 1 + 1 < w1.heap.size := by omega)); rw [HK.out])
    go_returns
    exact ⟨_, by rw [hE.out]; try rfl, by rw [hE.out]; exact OwnA.nil _ _ _ _, by (repeat' (first | (with_reducible exact Below.refl _ _) | (with_reducible assumption) | (with_reducible refine Below.alloc ?_ ?_ _) | (with_reducible refine Below.drew ?_) | (with_reducible refine below_drewN ?_ _) | (with_reducible refine Below.setCell ?_ ?_ _) | (refine Below.step ?_ (by with_reducible assumption) ?_) | go_size))⟩
  · have hE : Hid (cuR p ⟨c0, c1, c2, c3, c4, c5⟩ ⟨d0, d1, d2, d3, d4, d5⟩ = ([], 1)) := by show _ = _; unfold cuR; rw [hk]; rfl
    have HK := Lib.hid hk; clear hk
    go_wp2_with (go_at_call 71; refine (pencilCode_any p c0 c1 c2 c3 c4 c5 d0 d1 d2 d3 d4 d5 true _).mono ?_; rintro e w1 ⟨rfl, hb1⟩; obtain ⟨hc1, hf1⟩ := bcell hb1; have hz1 := hb1.size; (try simp only [World.size_alloc, World.size_setCell, World.size_drew] at hz1); (try (have hy1w0 : w.heap.size < w1.heap.size := by omega)); (try (have hy1w1 : w.heap.size + 1 < w1.heap.size := by omega)); (try (have hy1w2 : w.heap.size + 1 + 1 < w1.heap.size := by omega)); (try (have hy1w3 : w.heap.size + 1 + 1 + 1 < w1.heap.size := by omega)); (try (have hy1w4 : w.heap.size + 1 + 1 + 1 + 1 < w1.heap.size := by omega)); (try (have hy1wc0 : wc.heap.size < w1.heap.size := by omega)); (try (have hy1wc1 : wc.heap.size + 1 < w1.heap.size := by omega)); (try (have hy1wc2 : wc.heap.size + 1 + 1 < w1.heap.size := by omega)); (try (have hy1wc3 : wc.heap.size + 1 + 1 + 1 < w1.heap.size := by omega)); (try (have hy1wc4 : wc.heap.size + 1 + 1 + 1 + 1 < w1.heap.size := by omega)); rw [HK.out])
    go_returns
    exact ⟨_, by rw [hE.out]; try rfl, by rw [hE.out]; exact OwnA.nil _ _ _ _, by (repeat' (first | (with_reducible exact Below.refl _ _) | (with_reducible assumption) | (with_reducible refine Below.alloc ?_ ?_ _) | (with_reducible refine Below.drew ?_) | (with_reducible refine below_drewN ?_ _) | (with_reducible refine Below.setCell ?_ ?_ _) | (refine Below.step ?_ (by with_reducible assumption) ?_) | go_size))⟩
  · have hE : Hid (cuR p ⟨c0, c1, c2, c3, c4, c5⟩ ⟨d0, d1, d2, d3, d4, d5⟩ = ([], 5)) := by show _ = _; unfold cuR; rw [hk]; rfl
    have HK := Lib.hid hk; clear hk
    go_wp2_with (go_at_call 71; refine (pencilCode_any p c0 c1 c2 c3 c4 c5 d0 d1 d2 d3 d4 d5 true _).mono ?_; rintro e w1 ⟨rfl, hb1⟩; obtain ⟨hc1, hf1⟩ := bcell hb1; have hz1 := hb1.size; (try simp only [World.size_alloc, World.size_setCell, World.size_drew] at hz1); (try (have hy1w0 : w.heap.size < w1.heap.size := by omega)); (try (have hy1w1 : w.heap.size + 1 < w1.heap.size := by omega)); (try (have hy1w2 : w.heap.size + 1 + 1 < w1.heap.size := by omega)); (try (have hy1w3 : w.heap.size + 1 + 1 + 1 < w1.heap.size := by omega)); (try (have hy1w4 : w.heap.size + 1 + 1 + 1 + 1 < w1.heap.size := by omega)); (try (have hy1wc0 : wc.heap.size < w1.heap.size := by omega)); (try (have hy1wc1 : wc.heap.size + 1 < w1.heap.size := by omega)); (try (have hy1wc2 : wc.heap.size + 1 + 1 < w1.heap.size := by omega)); (try (have hy1wc3 : wc.heap.size + 1 + 1 + 1 < w1.heap.size := by omega)); (try (have hy1wc4 : wc.heap.size + 1 + 1 + 1 + 1 < w1.heap.size := by omega)); rw [HK.out])
    go_returns
    exact ⟨_, by rw [hE.out]; try rfl, by rw [hE.out]; exact OwnA.nil _ _ _ _, by (repeat' (first | (with_reducible exact Below.refl _ _) | (with_reducible assumption) | (with_reducible refine Below.alloc ?_ ?_ _) | (with_reducible refine Below.drew ?_) | (with_reducible refine below_drewN ?_ _) | (with_reducible refine Below.setCell ?_ ?_ _) | (refine Below.step ?_ (by with_reducible assumption) ?_) | go_size))⟩
  · have k1 := isP_lo hp; have k2 := isP_hi hp
    have hsm := mxC_sm hp hc; have hsn := mxC_sm hp hd
    have hmx := fun w' => matrix_co p c0 c1 c2 c3 c4 c5 hp hc w'
    have hnx := fun w' => matrix_co p d0 d1 d2 d3 d4 d5 hp hd w'
    have hE0 : cuR p ⟨c0, c1, c2, c3, c4, c5⟩ ⟨d0, d1, d2, d3, d4, d5⟩ = (cuL p (mxC p ⟨c0, c1, c2, c3, c4, c5⟩) (mxC p ⟨d0, d1, d2, d3, d4, d5⟩), 0) := by unfold cuR; rw [hk]; rfl
    obtain ⟨m0, m1, m2, m3, m4, m5, m6, m7, m8, hM⟩ := M9_parts (mxC p ⟨c0, c1, c2, c3, c4, c5⟩)
    obtain ⟨n0, n1, n2, n3, n4, n5, n6, n7, n8, hN⟩ := M9_parts (mxC p ⟨d0, d1, d2, d3, d4, d5⟩)
    rw [hM] at hsm hE0 hmx
    rw [hN] at hsn hE0 hnx
    obtain ⟨um0, um1, um2, um3, um4, um5, um6, um7, um8⟩ := hsm
    obtain ⟨un0, un1, un2, un3, un4, un5, un6, un7, un8⟩ := hsn
    dsimp only [cuL] at hE0 um0 um1 um2 um3 um4 um5 um6 um7 um8 un0 un1 un2 un3 un4 un5 un6 un7 un8 hmx hnx
    have HMX := Lib.hid hmx; have HNX := Lib.hid hnx; clear hmx hnx
    have hE := Lib.hid hE0
    have hus := Lib.hid (⟨um0, um1, um2, um3, um4, um5, um6, um7, um8, un0, un1, un2, un3, un4, un5, un6, un7, un8⟩ : sm m0 ∧ sm m1 ∧ sm m2 ∧ sm m3 ∧ sm m4 ∧ sm m5 ∧ sm m6 ∧ sm m7 ∧ sm m8 ∧ sm n0 ∧ sm n1 ∧ sm n2 ∧ sm n3 ∧ sm n4 ∧ sm n5 ∧ sm n6 ∧ sm n7 ∧ sm n8)
    have HP := Lib.hid hp
    clear hE0 hM hN hc hd hp k1 k2 um0 um1 um2 um3 um4 um5 um6 um7 um8 un0 un1 un2 un3 un4 un5 un6 un7 un8
    have HK := Lib.hid hk; clear hk
    go_upto_region 5 with (go_at_call 71; refine (pencilCode_any p c0 c1 c2 c3 c4 c5 d0 d1 d2 d3 d4 d5 true _).mono ?_; rintro e w1 ⟨rfl, hb1⟩; obtain ⟨hc1, hf1⟩ := bcell hb1; have hz1 := hb1.size; (try simp only [World.size_alloc, World.size_setCell, World.size_drew] at hz1); (try (have hy1w0 : w.heap.size < w1.heap.size := by omega)); (try (have hy1w1 : w.heap.size + 1 < w1.heap.size := by omega)); (try (have hy1w2 : w.heap.size + 1 + 1 < w1.heap.size := by omega)); (try (have hy1w3 : w.heap.size + 1 + 1 + 1 < w1.heap.size := by omega)); (try (have hy1w4 : w.heap.size + 1 + 1 + 1 + 1 < w1.heap.size := by omega)); (try (have hy1wc0 : wc.heap.size < w1.heap.size := by omega)); (try (have hy1wc1 : wc.heap.size + 1 < w1.heap.size := by omega)); (try (have hy1wc2 : wc.heap.size + 1 + 1 < w1.heap.size := by omega)); (try (have hy1wc3 : wc.heap.size + 1 + 1 + 1 < w1.heap.size := by omega)); (try (have hy1wc4 : wc.heap.size + 1 + 1 + 1 + 1 < w1.heap.size := by omega)); rw [HK.out])
    refine wp_name (fun w' => Box 24 w' (w.heap.size) [c0, c1, c2, c3, c4, c5] ∧ Box 24 w' (w.heap.size + 1) [d0, d1, d2, d3, d4, d5] ∧ Box 2 w' w1.heap.size [0, 0, 0, 0] ∧ Below w.heap.size w w') ⟨Box.alloc (Box.below hb1 (Box.alloc (Box.new [c0, c1, c2, c3, c4, c5] rfl) _)) _, Box.alloc (Box.below hb1 (Box.new [d0, d1, d2, d3, d4, d5] (by simp))) _, Box.new [0, 0, 0, 0] rfl, by (repeat' (first | (with_reducible exact Below.refl _ _) | (with_reducible assumption) | (with_reducible refine Below.alloc ?_ ?_ _) | (with_reducible refine Below.drew ?_) | (with_reducible refine below_drewN ?_ _) | (with_reducible refine Below.setCell ?_ ?_ _) | (refine Below.step ?_ (by with_reducible assumption) ?_) | go_size))⟩ ?_
    rintro wq ⟨Bc, Bd, Bo, hB⟩
    have hz := hB.size
    have qc0 := Bc.cell 0 rfl
    have qc1 := Bc.cell 1 rfl
    have qc2 := Bc.cell 2 rfl
    have qc3 := Bc.cell 3 rfl
    have qc4 := Bc.cell 4 rfl
    have qc5 := Bc.cell 5 rfl
    have ltc := Bc.lt
    have qd0 := Bd.cell 0 rfl
    have qd1 := Bd.cell 1 rfl
    have qd2 := Bd.cell 2 rfl
    have qd3 := Bd.cell 3 rfl
    have qd4 := Bd.cell 4 rfl
    have qd5 := Bd.cell 5 rfl
    have ltd := Bd.lt
    have hsz : w1.heap.size + 1 ≤ wq.heap.size := Bo.lt
    have hs1 : w.heap.size + 1 + 1 ≤ w1.heap.size := hz1
    go_cut [10] (fun s10 w' => ∃ g, s10 = .pointer (some ⟨g, 0, none⟩) ∧ w1.heap.size + 1 ≤ g ∧ Box 97 w' g [m0, m1, m2, m3, m4, m5, m6, m7, m8, n0, n1, n2, n3, n4, n5, n6, n7, n8] ∧ Box 2 w' w1.heap.size [0, 0, 0, 0] ∧ Below w.heap.size w w')
    case first =>
      go_region_held3 (fun w' => w'.cell? ⟨w.heap.size, 0, none⟩ = some (.int .i64 c0) ∧ w'.cell? ⟨w.heap.size, 1, none⟩ = some (.int .i64 c1) ∧ w'.cell? ⟨w.heap.size, 2, none⟩ = some (.int .i64 c2) ∧ w'.cell? ⟨w.heap.size, 3, none⟩ = some (.int .i64 c3) ∧ w'.cell? ⟨w.heap.size, 4, none⟩ = some (.int .i64 c4) ∧ w'.cell? ⟨w.heap.size, 5, none⟩ = some (.int .i64 c5) ∧ w'.cell? ⟨w.heap.size + 1, 0, none⟩ = some (.int .i64 d0) ∧ w'.cell? ⟨w.heap.size + 1, 1, none⟩ = some (.int .i64 d1) ∧ w'.cell? ⟨w.heap.size + 1, 2, none⟩ = some (.int .i64 d2) ∧ w'.cell? ⟨w.heap.size + 1, 3, none⟩ = some (.int .i64 d3) ∧ w'.cell? ⟨w.heap.size + 1, 4, none⟩ = some (.int .i64 d4) ∧ w'.cell? ⟨w.heap.size + 1, 5, none⟩ = some (.int .i64 d5) ∧ Box 2 w' w1.heap.size [0, 0, 0, 0] ∧ Below w.heap.size w w' ∧ w1.heap.size + 1 ≤ w'.heap.size) ((go_split_ands; (repeat (any_goals (with_reducible apply And.intro))) <;> ((repeat (first | (with_reducible assumption) | (with_reducible refine keepR ?_ (by omega)) | (with_reducible refine Box.farR ?_ (by omega)) | (with_reducible refine below_setRow ?_ (by omega) _) | (with_reducible refine sizeR ?_) | (with_reducible refine swapA (by with_reducible assumption) (by omega)) | (with_reducible refine Box.swap (by with_reducible assumption) (by omega)) | (with_reducible refine Below.swap (by with_reducible assumption) (by omega)) | (with_reducible exact Below.refl _ _) | (with_reducible refine keepD ?_) | (with_reducible refine Below.drew ?_) | (with_reducible refine Box.drew ?_) | (with_reducible refine sizeD ?_) | (with_reducible exact keepC (by with_reducible assumption) (by with_reducible assumption)) | (with_reducible exact Box.below (by with_reducible assumption) (by with_reducible assumption)) | (with_reducible exact keepB (by with_reducible assumption) (by with_reducible assumption) (Nat.le_refl _)) | (with_reducible exact sizeC (by with_reducible assumption) (by with_reducible assumption)) | (with_reducible refine keepA _ ?_) | (with_reducible refine Box.alloc ?_ _) | (with_reducible refine allocB ?_ (Nat.le_refl _) _) | (with_reducible refine sizeA ?_ _))); done))) ((first | (go_at_call_of 60 (Value.agg #[.int .i64 c0, .int .i64 c1, .int .i64 c2, .int .i64 c3, .int .i64 c4, .int .i64 c5]); refine (HMX.out _).mono ?_; rintro e w3 ⟨rfl, hb3⟩; have hz3 : w1.heap.size + 1 ≤ w3.heap.size := (by have hq := hb3.size; (try simp only [World.size_drew, World.size_alloc, World.size_setCell] at hq); go_split_ands; omega); (try ((first | have hN := Box.below hb3 hN | have hN := Box.below hb3 (Box.new (E := 97) [0, 0, 0, 0, 0, 0, 0, 0, 0, 0, 0, 0, 0, 0, 0, 0, 0, 0] rfl)); (try simp only [World.size_drew, World.size_setCell] at hN)))) | (go_at_call_of 60 (Value.agg #[.int .i64 d0, .int .i64 d1, .int .i64 d2, .int .i64 d3, .int .i64 d4, .int .i64 d5]); refine (HNX.out _).mono ?_; rintro e w4 ⟨rfl, hb4⟩; have hz4 : w1.heap.size + 1 ≤ w4.heap.size := (by have hq := hb4.size; (try simp only [World.size_drew, World.size_alloc, World.size_setCell] at hq); go_split_ands; omega); (try ((first | have hN := Box.below hb4 hN | have hN := Box.below hb4 (Box.new (E := 97) [0, 0, 0, 0, 0, 0, 0, 0, 0, 0, 0, 0, 0, 0, 0, 0, 0, 0] rfl)); (try simp only [World.size_drew, World.size_setCell] at hN))))))
      all_goals (go_split_ands; go_wp2_with fail; go_meet; refine ⟨_, rfl, by omega, ?_, ?_, ?_⟩; (first | (exact Box.setR [m0, m1, m2, m3, m4, m5, m6, m7, m8, n0, n1, n2, n3, n4, n5, n6, n7, n8] (by with_reducible assumption)) | exact Box.setR [m0, m1, m2, m3, m4, m5, m6, m7, m8, n0, n1, n2, n3, n4, n5, n6, n7, n8] (Box.new [0, 0, 0, 0, 0, 0, 0, 0, 0, 0, 0, 0, 0, 0, 0, 0, 0, 0] rfl)); ((go_split_ands; (repeat (any_goals (with_reducible apply And.intro))) <;> ((repeat (first | (with_reducible assumption) | (with_reducible refine keepR ?_ (by omega)) | (with_reducible refine Box.farR ?_ (by omega)) | (with_reducible refine below_setRow ?_ (by omega) _) | (with_reducible refine sizeR ?_) | (with_reducible refine swapA (by with_reducible assumption) (by omega)) | (with_reducible refine Box.swap (by with_reducible assumption) (by omega)) | (with_reducible refine Below.swap (by with_reducible assumption) (by omega)) | (with_reducible exact Below.refl _ _) | (with_reducible refine keepD ?_) | (with_reducible refine Below.drew ?_) | (with_reducible refine Box.drew ?_) | (with_reducible refine sizeD ?_) | (with_reducible exact keepC (by with_reducible assumption) (by with_reducible assumption)) | (with_reducible exact Box.below (by with_reducible assumption) (by with_reducible assumption)) | (with_reducible exact keepB (by with_reducible assumption) (by with_reducible assumption) (Nat.le_refl _)) | (with_reducible exact sizeC (by with_reducible assumption) (by with_reducible assumption)) | (with_reducible refine keepA _ ?_) | (with_reducible refine Box.alloc ?_ _) | (with_reducible refine allocB ?_ (Nat.le_refl _) _) | (with_reducible refine sizeA ?_ _))); done))); ((go_split_ands; (repeat (any_goals (with_reducible apply And.intro))) <;> ((repeat (first | (with_reducible assumption) | (with_reducible refine keepR ?_ (by omega)) | (with_reducible refine Box.farR ?_ (by omega)) | (with_reducible refine below_setRow ?_ (by omega) _) | (with_reducible refine sizeR ?_) | (with_reducible refine swapA (by with_reducible assumption) (by omega)) | (with_reducible refine Box.swap (by with_reducible assumption) (by omega)) | (with_reducible refine Below.swap (by with_reducible assumption) (by omega)) | (with_reducible exact Below.refl _ _) | (with_reducible refine keepD ?_) | (with_reducible refine Below.drew ?_) | (with_reducible refine Box.drew ?_) | (with_reducible refine sizeD ?_) | (with_reducible exact keepC (by with_reducible assumption) (by with_reducible assumption)) | (with_reducible exact Box.below (by with_reducible assumption) (by with_reducible assumption)) | (with_reducible exact keepB (by with_reducible assumption) (by with_reducible assumption) (Nat.le_refl _)) | (with_reducible exact sizeC (by with_reducible assumption) (by with_reducible assumption)) | (with_reducible refine keepA _ ?_) | (with_reducible refine Box.alloc ?_ _) | (with_reducible refine allocB ?_ (Nat.le_refl _) _) | (with_reducible refine sizeA ?_ _))); done))))
    clear hB hz Bc Bd ltc ltd qc0 qd0 qc1 qd1 qc2 qd2 qc3 qd3 qc4 qd4 qc5 qd5 Bo hsz HMX HNX hb1 hc1 hf1 hz1 hy1w0 hy1w1
    case' rest => obtain ⟨g, rfl, hg, Br, Bo, hB⟩ := hcut; have hz := hB.size
    have hp := HP.out; have k1 := isP_lo hp; have k2 := isP_hi hp
    have hE0 := hE.out; clear hE
    obtain ⟨um0, um1, um2, um3, um4, um5, um6, um7, um8, un0, un1, un2, un3, un4, un5, un6, un7, un8⟩ := hus.out
    have re0 := det3_rng hp m0 m1 m2 m3 m4 m5 m6 m7 m8
    obtain ⟨e0, he0⟩ : ∃ e : Int, Hid (e = det3 p m0 m1 m2 m3 m4 m5 m6 m7 m8) := ⟨_, rfl⟩
    have hd0 : Hid (∀ w' : World, Calls Try.prog 73 #[.int .i64 p, .agg #[.int .i64 m0, .int .i64 m1, .int .i64 m2], .agg #[.int .i64 m3, .int .i64 m4, .int .i64 m5], .agg #[.int .i64 m6, .int .i64 m7, .int .i64 m8]] w' fun e w'' => e = .returned (.int .i64 e0) ∧ Below w'.heap.size w' w'') := fun w' => (determinant_any p m0 m1 m2 m3 m4 m5 m6 m7 m8 w' k1 k2 um0 um1 um2 um3 um4 um5 um6 um7 um8).mono fun _ _ h => ⟨by rw [he0.out]; exact h.1, h.2⟩
    rw [← he0.out] at re0 hE0
    have rx0 := sum_rng hp (0) e0
    obtain ⟨x0, hx0⟩ : ∃ x : Int, Hid (x = (e0) % p) := ⟨_, rfl⟩
    simp only [Int.zero_add] at rx0 hE0
    rw [← hx0.out] at rx0 hE0
    have hw0 : IntKind.i64.wrap (e0) = e0 := by go_arith
    have hm0 : Hid (∀ w' : World, Calls Try.prog 72 #[.int .i64 (e0), .int .i64 p] w' fun e w'' => e = .returned (.int .i64 x0) ∧ w' = w'') := fun w' => (mod_any (e0) p w' k1 k2).mono fun _ _ h => ⟨by rw [hx0.out]; exact h.1, h.2⟩
    have re1 := det3_rng hp n0 n1 n2 m3 m4 m5 m6 m7 m8
    obtain ⟨e1, he1⟩ : ∃ e : Int, Hid (e = det3 p n0 n1 n2 m3 m4 m5 m6 m7 m8) := ⟨_, rfl⟩
    have hd1 : Hid (∀ w' : World, Calls Try.prog 73 #[.int .i64 p, .agg #[.int .i64 n0, .int .i64 n1, .int .i64 n2], .agg #[.int .i64 m3, .int .i64 m4, .int .i64 m5], .agg #[.int .i64 m6, .int .i64 m7, .int .i64 m8]] w' fun e w'' => e = .returned (.int .i64 e1) ∧ Below w'.heap.size w' w'') := fun w' => (determinant_any p n0 n1 n2 m3 m4 m5 m6 m7 m8 w' k1 k2 un0 un1 un2 um3 um4 um5 um6 um7 um8).mono fun _ _ h => ⟨by rw [he1.out]; exact h.1, h.2⟩
    rw [← he1.out] at re1 hE0
    have rx1 := sum_rng hp (0) e1
    obtain ⟨x1, hx1⟩ : ∃ x : Int, Hid (x = (e1) % p) := ⟨_, rfl⟩
    simp only [Int.zero_add] at rx1 hE0
    rw [← hx1.out] at rx1 hE0
    have hw1 : IntKind.i64.wrap (e1) = e1 := by go_arith
    have hm1 : Hid (∀ w' : World, Calls Try.prog 72 #[.int .i64 (e1), .int .i64 p] w' fun e w'' => e = .returned (.int .i64 x1) ∧ w' = w'') := fun w' => (mod_any (e1) p w' k1 k2).mono fun _ _ h => ⟨by rw [hx1.out]; exact h.1, h.2⟩
    have re2 := det3_rng hp m0 m1 m2 n3 n4 n5 m6 m7 m8
    obtain ⟨e2, he2⟩ : ∃ e : Int, Hid (e = det3 p m0 m1 m2 n3 n4 n5 m6 m7 m8) := ⟨_, rfl⟩
    have hd2 : Hid (∀ w' : World, Calls Try.prog 73 #[.int .i64 p, .agg #[.int .i64 m0, .int .i64 m1, .int .i64 m2], .agg #[.int .i64 n3, .int .i64 n4, .int .i64 n5], .agg #[.int .i64 m6, .int .i64 m7, .int .i64 m8]] w' fun e w'' => e = .returned (.int .i64 e2) ∧ Below w'.heap.size w' w'') := fun w' => (determinant_any p m0 m1 m2 n3 n4 n5 m6 m7 m8 w' k1 k2 um0 um1 um2 un3 un4 un5 um6 um7 um8).mono fun _ _ h => ⟨by rw [he2.out]; exact h.1, h.2⟩
    rw [← he2.out] at re2 hE0
    have rx2 := sum_rng hp (x1) e2
    obtain ⟨x2, hx2⟩ : ∃ x : Int, Hid (x = (x1 + e2) % p) := ⟨_, rfl⟩
    
    rw [← hx2.out] at rx2 hE0
    have hw2 : IntKind.i64.wrap (x1 + e2) = x1 + e2 := by go_arith
    have hm2 : Hid (∀ w' : World, Calls Try.prog 72 #[.int .i64 (x1 + e2), .int .i64 p] w' fun e w'' => e = .returned (.int .i64 x2) ∧ w' = w'') := fun w' => (mod_any (x1 + e2) p w' k1 k2).mono fun _ _ h => ⟨by rw [hx2.out]; exact h.1, h.2⟩
    have re3 := det3_rng hp n0 n1 n2 n3 n4 n5 m6 m7 m8
    obtain ⟨e3, he3⟩ : ∃ e : Int, Hid (e = det3 p n0 n1 n2 n3 n4 n5 m6 m7 m8) := ⟨_, rfl⟩
    have hd3 : Hid (∀ w' : World, Calls Try.prog 73 #[.int .i64 p, .agg #[.int .i64 n0, .int .i64 n1, .int .i64 n2], .agg #[.int .i64 n3, .int .i64 n4, .int .i64 n5], .agg #[.int .i64 m6, .int .i64 m7, .int .i64 m8]] w' fun e w'' => e = .returned (.int .i64 e3) ∧ Below w'.heap.size w' w'') := fun w' => (determinant_any p n0 n1 n2 n3 n4 n5 m6 m7 m8 w' k1 k2 un0 un1 un2 un3 un4 un5 um6 um7 um8).mono fun _ _ h => ⟨by rw [he3.out]; exact h.1, h.2⟩
    rw [← he3.out] at re3 hE0
    have rx3 := sum_rng hp (0) e3
    obtain ⟨x3, hx3⟩ : ∃ x : Int, Hid (x = (e3) % p) := ⟨_, rfl⟩
    simp only [Int.zero_add] at rx3 hE0
    rw [← hx3.out] at rx3 hE0
    have hw3 : IntKind.i64.wrap (e3) = e3 := by go_arith
    have hm3 : Hid (∀ w' : World, Calls Try.prog 72 #[.int .i64 (e3), .int .i64 p] w' fun e w'' => e = .returned (.int .i64 x3) ∧ w' = w'') := fun w' => (mod_any (e3) p w' k1 k2).mono fun _ _ h => ⟨by rw [hx3.out]; exact h.1, h.2⟩
    have re4 := det3_rng hp m0 m1 m2 m3 m4 m5 n6 n7 n8
    obtain ⟨e4, he4⟩ : ∃ e : Int, Hid (e = det3 p m0 m1 m2 m3 m4 m5 n6 n7 n8) := ⟨_, rfl⟩
    have hd4 : Hid (∀ w' : World, Calls Try.prog 73 #[.int .i64 p, .agg #[.int .i64 m0, .int .i64 m1, .int .i64 m2], .agg #[.int .i64 m3, .int .i64 m4, .int .i64 m5], .agg #[.int .i64 n6, .int .i64 n7, .int .i64 n8]] w' fun e w'' => e = .returned (.int .i64 e4) ∧ Below w'.heap.size w' w'') := fun w' => (determinant_any p m0 m1 m2 m3 m4 m5 n6 n7 n8 w' k1 k2 um0 um1 um2 um3 um4 um5 un6 un7 un8).mono fun _ _ h => ⟨by rw [he4.out]; exact h.1, h.2⟩
    rw [← he4.out] at re4 hE0
    have rx4 := sum_rng hp (x2) e4
    obtain ⟨x4, hx4⟩ : ∃ x : Int, Hid (x = (x2 + e4) % p) := ⟨_, rfl⟩
    
    rw [← hx4.out] at rx4 hE0
    have hw4 : IntKind.i64.wrap (x2 + e4) = x2 + e4 := by go_arith
    have hm4 : Hid (∀ w' : World, Calls Try.prog 72 #[.int .i64 (x2 + e4), .int .i64 p] w' fun e w'' => e = .returned (.int .i64 x4) ∧ w' = w'') := fun w' => (mod_any (x2 + e4) p w' k1 k2).mono fun _ _ h => ⟨by rw [hx4.out]; exact h.1, h.2⟩
    have re5 := det3_rng hp n0 n1 n2 m3 m4 m5 n6 n7 n8
    obtain ⟨e5, he5⟩ : ∃ e : Int, Hid (e = det3 p n0 n1 n2 m3 m4 m5 n6 n7 n8) := ⟨_, rfl⟩
    have hd5 : Hid (∀ w' : World, Calls Try.prog 73 #[.int .i64 p, .agg #[.int .i64 n0, .int .i64 n1, .int .i64 n2], .agg #[.int .i64 m3, .int .i64 m4, .int .i64 m5], .agg #[.int .i64 n6, .int .i64 n7, .int .i64 n8]] w' fun e w'' => e = .returned (.int .i64 e5) ∧ Below w'.heap.size w' w'') := fun w' => (determinant_any p n0 n1 n2 m3 m4 m5 n6 n7 n8 w' k1 k2 un0 un1 un2 um3 um4 um5 un6 un7 un8).mono fun _ _ h => ⟨by rw [he5.out]; exact h.1, h.2⟩
    rw [← he5.out] at re5 hE0
    have rx5 := sum_rng hp (x3) e5
    obtain ⟨x5, hx5⟩ : ∃ x : Int, Hid (x = (x3 + e5) % p) := ⟨_, rfl⟩
    
    rw [← hx5.out] at rx5 hE0
    have hw5 : IntKind.i64.wrap (x3 + e5) = x3 + e5 := by go_arith
    have hm5 : Hid (∀ w' : World, Calls Try.prog 72 #[.int .i64 (x3 + e5), .int .i64 p] w' fun e w'' => e = .returned (.int .i64 x5) ∧ w' = w'') := fun w' => (mod_any (x3 + e5) p w' k1 k2).mono fun _ _ h => ⟨by rw [hx5.out]; exact h.1, h.2⟩
    have re6 := det3_rng hp m0 m1 m2 n3 n4 n5 n6 n7 n8
    obtain ⟨e6, he6⟩ : ∃ e : Int, Hid (e = det3 p m0 m1 m2 n3 n4 n5 n6 n7 n8) := ⟨_, rfl⟩
    have hd6 : Hid (∀ w' : World, Calls Try.prog 73 #[.int .i64 p, .agg #[.int .i64 m0, .int .i64 m1, .int .i64 m2], .agg #[.int .i64 n3, .int .i64 n4, .int .i64 n5], .agg #[.int .i64 n6, .int .i64 n7, .int .i64 n8]] w' fun e w'' => e = .returned (.int .i64 e6) ∧ Below w'.heap.size w' w'') := fun w' => (determinant_any p m0 m1 m2 n3 n4 n5 n6 n7 n8 w' k1 k2 um0 um1 um2 un3 un4 un5 un6 un7 un8).mono fun _ _ h => ⟨by rw [he6.out]; exact h.1, h.2⟩
    rw [← he6.out] at re6 hE0
    have rx6 := sum_rng hp (x5) e6
    obtain ⟨x6, hx6⟩ : ∃ x : Int, Hid (x = (x5 + e6) % p) := ⟨_, rfl⟩
    
    rw [← hx6.out] at rx6 hE0
    have hw6 : IntKind.i64.wrap (x5 + e6) = x5 + e6 := by go_arith
    have hm6 : Hid (∀ w' : World, Calls Try.prog 72 #[.int .i64 (x5 + e6), .int .i64 p] w' fun e w'' => e = .returned (.int .i64 x6) ∧ w' = w'') := fun w' => (mod_any (x5 + e6) p w' k1 k2).mono fun _ _ h => ⟨by rw [hx6.out]; exact h.1, h.2⟩
    have re7 := det3_rng hp n0 n1 n2 n3 n4 n5 n6 n7 n8
    obtain ⟨e7, he7⟩ : ∃ e : Int, Hid (e = det3 p n0 n1 n2 n3 n4 n5 n6 n7 n8) := ⟨_, rfl⟩
    have hd7 : Hid (∀ w' : World, Calls Try.prog 73 #[.int .i64 p, .agg #[.int .i64 n0, .int .i64 n1, .int .i64 n2], .agg #[.int .i64 n3, .int .i64 n4, .int .i64 n5], .agg #[.int .i64 n6, .int .i64 n7, .int .i64 n8]] w' fun e w'' => e = .returned (.int .i64 e7) ∧ Below w'.heap.size w' w'') := fun w' => (determinant_any p n0 n1 n2 n3 n4 n5 n6 n7 n8 w' k1 k2 un0 un1 un2 un3 un4 un5 un6 un7 un8).mono fun _ _ h => ⟨by rw [he7.out]; exact h.1, h.2⟩
    rw [← he7.out] at re7 hE0
    have rx7 := sum_rng hp (0) e7
    obtain ⟨x7, hx7⟩ : ∃ x : Int, Hid (x = (e7) % p) := ⟨_, rfl⟩
    simp only [Int.zero_add] at rx7 hE0
    rw [← hx7.out] at rx7 hE0
    have hw7 : IntKind.i64.wrap (e7) = e7 := by go_arith
    have hm7 : Hid (∀ w' : World, Calls Try.prog 72 #[.int .i64 (e7), .int .i64 p] w' fun e w'' => e = .returned (.int .i64 x7) ∧ w' = w'') := fun w' => (mod_any (e7) p w' k1 k2).mono fun _ _ h => ⟨by rw [hx7.out]; exact h.1, h.2⟩
    have hE := Lib.hid hE0
    clear hE0 hus HP um0 um1 um2 um3 um4 um5 um6 um7 um8 un0 un1 un2 un3 un4 un5 un6 un7 un8
    have hl0 : IntKind.i64.wrap 0 = 0 := by decide
    have hl1 : IntKind.i64.wrap 1 = 1 := by decide
    have hl2 : IntKind.i64.wrap 2 = 2 := by decide
    have hl3 : IntKind.i64.wrap 3 = 3 := by decide
    have hl4 : IntKind.i64.wrap 4 = 4 := by decide
    have hl5 : IntKind.i64.wrap 5 = 5 := by decide
    have hl6 : IntKind.i64.wrap 6 = 6 := by decide
    have hl7 : IntKind.i64.wrap 7 = 7 := by decide
    have hl8 : IntKind.i64.wrap 8 = 8 := by decide
    have ha0 : Go.bits BinOp.and IntKind.i64 0 1 = 0 := by decide
    have ha1 : Go.bits BinOp.and IntKind.i64 1 1 = 1 := by decide
    have ha2 : Go.bits BinOp.and IntKind.i64 2 1 = 0 := by decide
    have ha3 : Go.bits BinOp.and IntKind.i64 3 1 = 1 := by decide
    have ha4 : Go.bits BinOp.and IntKind.i64 4 1 = 0 := by decide
    have ha5 : Go.bits BinOp.and IntKind.i64 5 1 = 1 := by decide
    have ha6 : Go.bits BinOp.and IntKind.i64 6 1 = 0 := by decide
    have ha7 : Go.bits BinOp.and IntKind.i64 7 1 = 1 := by decide
    have ltr := Br.lt; have lto := Bo.lt; have hne : g ≠ w1.heap.size := by omega
    have how : w.heap.size ≤ w1.heap.size := by omega
    go_wp2_with fail
    refine wp_loop_rounds 9 ?_
    rw [rounds_succ]
    go_wp2_with fail
    refine wp_region_tailS 32 (fun w' => Box 97 w' g [m0, m1, m2, m3, m4, m5, m6, m7, m8, n0, n1, n2, n3, n4, n5, n6, n7, n8] ∧ Box 2 w' w1.heap.size [0, 0, 0, 0] ∧ Below w.heap.size w w') (by kernel_rfl) (by kernel_rfl) ⟨Br.drew, Bo.drew, Below.drew hB⟩ ?_
    simp only [List.take_succ_cons, List.take_zero, List.drop_succ_cons, List.drop_zero]
    repeat (first
      | (refine stillS_read ?_ (by rfl) (fun w' hS => ?_) ?_; rotate_left; (focus (obtain ⟨hR, hO, -⟩ := hS; have q00 := hR.cell 0 rfl; have q01 := hR.cell 1 rfl; have q02 := hR.cell 2 rfl; have q10 := hR.cell 3 rfl; have q11 := hR.cell 4 rfl; have q12 := hR.cell 5 rfl; have q20 := hR.cell 6 rfl; have q21 := hR.cell 7 rfl; have q22 := hR.cell 8 rfl; have qo := hO.cell 0 rfl; clear hR hO; go_simp; (try with_reducible rfl); done)); (try simp only [Act.put, List.setIfInBounds_toArray, List.set_cons_zero, List.set_cons_succ]))
      | (refine stillS_call (.int .i64 e0) 73 ?_ (by rfl) (fun w' => ?_) (fun w' hS => ?_) ?_; rotate_left; (focus (go_simp; (try with_reducible rfl); done)); (focus (obtain ⟨hR, hO, hC⟩ := hS; refine (hd0.out _).mono ?_; rintro e w'' ⟨rfl, hb⟩; exact ⟨rfl, Box.below hb hR, Box.below hb hO, keepB hb hC (Nat.le_refl _)⟩)); (try simp only [Act.put, List.setIfInBounds_toArray, List.set_cons_zero, List.set_cons_succ]))
      | (refine stillS_call (.int .i64 x0) 72 ?_ (by rfl) (fun w' => ?_) (fun w' hS => ?_) ?_; rotate_left; (focus (go_simp; (try with_reducible rfl); done)); (focus (refine (hm0.out _).mono ?_; rintro e w'' ⟨rfl, rfl⟩; exact ⟨rfl, hS⟩)); (try simp only [Act.put, List.setIfInBounds_toArray, List.set_cons_zero, List.set_cons_succ])))
    clear Br Bo hB
    refine stillS_nil ?_
    rintro wz ⟨Br, Bo, hB⟩
    have st := Bo.cell 0 rfl
    have sf := Bo.frz 0
    go_wp2_with fail
    replace Br := Br.far (i := 0) (u := .int .i64 x0) hne
    replace Bo : Box 2 (wz.setCell ⟨w1.heap.size, 0, none⟩ (.int .i64 x0)) w1.heap.size [x0, 0, 0, 0] := Bo.set 0 x0
    replace hB : Below w.heap.size w (wz.setCell ⟨w1.heap.size, 0, none⟩ (.int .i64 x0)) := Below.setCell (p := ⟨w1.heap.size, 0, none⟩) hB how _
    clear st sf
    rw [rounds_succ]
    go_wp2_with fail
    refine wp_region_tailS 32 (fun w' => Box 97 w' g [m0, m1, m2, m3, m4, m5, m6, m7, m8, n0, n1, n2, n3, n4, n5, n6, n7, n8] ∧ Box 2 w' w1.heap.size [x0, 0, 0, 0] ∧ Below w.heap.size w w') (by kernel_rfl) (by kernel_rfl) ⟨Br.drew, Bo.drew, Below.drew hB⟩ ?_
    simp only [List.take_succ_cons, List.take_zero, List.drop_succ_cons, List.drop_zero]
    repeat (first
      | (refine stillS_read ?_ (by rfl) (fun w' hS => ?_) ?_; rotate_left; (focus (obtain ⟨hR, hO, -⟩ := hS; have q00 := hR.cell 9 rfl; have q01 := hR.cell 10 rfl; have q02 := hR.cell 11 rfl; have q10 := hR.cell 3 rfl; have q11 := hR.cell 4 rfl; have q12 := hR.cell 5 rfl; have q20 := hR.cell 6 rfl; have q21 := hR.cell 7 rfl; have q22 := hR.cell 8 rfl; have qo := hO.cell 1 rfl; clear hR hO; go_simp; (try with_reducible rfl); done)); (try simp only [Act.put, List.setIfInBounds_toArray, List.set_cons_zero, List.set_cons_succ]))
      | (refine stillS_call (.int .i64 e1) 73 ?_ (by rfl) (fun w' => ?_) (fun w' hS => ?_) ?_; rotate_left; (focus (go_simp; (try with_reducible rfl); done)); (focus (obtain ⟨hR, hO, hC⟩ := hS; refine (hd1.out _).mono ?_; rintro e w'' ⟨rfl, hb⟩; exact ⟨rfl, Box.below hb hR, Box.below hb hO, keepB hb hC (Nat.le_refl _)⟩)); (try simp only [Act.put, List.setIfInBounds_toArray, List.set_cons_zero, List.set_cons_succ]))
      | (refine stillS_call (.int .i64 x1) 72 ?_ (by rfl) (fun w' => ?_) (fun w' hS => ?_) ?_; rotate_left; (focus (go_simp; (try with_reducible rfl); done)); (focus (refine (hm1.out _).mono ?_; rintro e w'' ⟨rfl, rfl⟩; exact ⟨rfl, hS⟩)); (try simp only [Act.put, List.setIfInBounds_toArray, List.set_cons_zero, List.set_cons_succ])))
    clear Br Bo hB
    refine stillS_nil ?_
    rintro wz ⟨Br, Bo, hB⟩
    have st := Bo.cell 1 rfl
    have sf := Bo.frz 1
    go_wp2_with fail
    replace Br := Br.far (i := 1) (u := .int .i64 x1) hne
    replace Bo : Box 2 (wz.setCell ⟨w1.heap.size, 1, none⟩ (.int .i64 x1)) w1.heap.size [x0, x1, 0, 0] := Bo.set 1 x1
    replace hB : Below w.heap.size w (wz.setCell ⟨w1.heap.size, 1, none⟩ (.int .i64 x1)) := Below.setCell (p := ⟨w1.heap.size, 1, none⟩) hB how _
    clear st sf
    rw [rounds_succ]
    go_wp2_with fail
    refine wp_region_tailS 32 (fun w' => Box 97 w' g [m0, m1, m2, m3, m4, m5, m6, m7, m8, n0, n1, n2, n3, n4, n5, n6, n7, n8] ∧ Box 2 w' w1.heap.size [x0, x1, 0, 0] ∧ Below w.heap.size w w') (by kernel_rfl) (by kernel_rfl) ⟨Br.drew, Bo.drew, Below.drew hB⟩ ?_
    simp only [List.take_succ_cons, List.take_zero, List.drop_succ_cons, List.drop_zero]
    repeat (first
      | (refine stillS_read ?_ (by rfl) (fun w' hS => ?_) ?_; rotate_left; (focus (obtain ⟨hR, hO, -⟩ := hS; have q00 := hR.cell 0 rfl; have q01 := hR.cell 1 rfl; have q02 := hR.cell 2 rfl; have q10 := hR.cell 12 rfl; have q11 := hR.cell 13 rfl; have q12 := hR.cell 14 rfl; have q20 := hR.cell 6 rfl; have q21 := hR.cell 7 rfl; have q22 := hR.cell 8 rfl; have qo := hO.cell 1 rfl; clear hR hO; go_simp; (try with_reducible rfl); done)); (try simp only [Act.put, List.setIfInBounds_toArray, List.set_cons_zero, List.set_cons_succ]))
      | (refine stillS_call (.int .i64 e2) 73 ?_ (by rfl) (fun w' => ?_) (fun w' hS => ?_) ?_; rotate_left; (focus (go_simp; (try with_reducible rfl); done)); (focus (obtain ⟨hR, hO, hC⟩ := hS; refine (hd2.out _).mono ?_; rintro e w'' ⟨rfl, hb⟩; exact ⟨rfl, Box.below hb hR, Box.below hb hO, keepB hb hC (Nat.le_refl _)⟩)); (try simp only [Act.put, List.setIfInBounds_toArray, List.set_cons_zero, List.set_cons_succ]))
      | (refine stillS_call (.int .i64 x2) 72 ?_ (by rfl) (fun w' => ?_) (fun w' hS => ?_) ?_; rotate_left; (focus (go_simp; (try with_reducible rfl); done)); (focus (refine (hm2.out _).mono ?_; rintro e w'' ⟨rfl, rfl⟩; exact ⟨rfl, hS⟩)); (try simp only [Act.put, List.setIfInBounds_toArray, List.set_cons_zero, List.set_cons_succ])))
    clear Br Bo hB
    refine stillS_nil ?_
    rintro wz ⟨Br, Bo, hB⟩
    have st := Bo.cell 1 rfl
    have sf := Bo.frz 1
    go_wp2_with fail
    replace Br := Br.far (i := 1) (u := .int .i64 x2) hne
    replace Bo : Box 2 (wz.setCell ⟨w1.heap.size, 1, none⟩ (.int .i64 x2)) w1.heap.size [x0, x2, 0, 0] := Bo.set 1 x2
    replace hB : Below w.heap.size w (wz.setCell ⟨w1.heap.size, 1, none⟩ (.int .i64 x2)) := Below.setCell (p := ⟨w1.heap.size, 1, none⟩) hB how _
    clear st sf
    rw [rounds_succ]
    go_wp2_with fail
    refine wp_region_tailS 32 (fun w' => Box 97 w' g [m0, m1, m2, m3, m4, m5, m6, m7, m8, n0, n1, n2, n3, n4, n5, n6, n7, n8] ∧ Box 2 w' w1.heap.size [x0, x2, 0, 0] ∧ Below w.heap.size w w') (by kernel_rfl) (by kernel_rfl) ⟨Br.drew, Bo.drew, Below.drew hB⟩ ?_
    simp only [List.take_succ_cons, List.take_zero, List.drop_succ_cons, List.drop_zero]
    repeat (first
      | (refine stillS_read ?_ (by rfl) (fun w' hS => ?_) ?_; rotate_left; (focus (obtain ⟨hR, hO, -⟩ := hS; have q00 := hR.cell 9 rfl; have q01 := hR.cell 10 rfl; have q02 := hR.cell 11 rfl; have q10 := hR.cell 12 rfl; have q11 := hR.cell 13 rfl; have q12 := hR.cell 14 rfl; have q20 := hR.cell 6 rfl; have q21 := hR.cell 7 rfl; have q22 := hR.cell 8 rfl; have qo := hO.cell 2 rfl; clear hR hO; go_simp; (try with_reducible rfl); done)); (try simp only [Act.put, List.setIfInBounds_toArray, List.set_cons_zero, List.set_cons_succ]))
      | (refine stillS_call (.int .i64 e3) 73 ?_ (by rfl) (fun w' => ?_) (fun w' hS => ?_) ?_; rotate_left; (focus (go_simp; (try with_reducible rfl); done)); (focus (obtain ⟨hR, hO, hC⟩ := hS; refine (hd3.out _).mono ?_; rintro e w'' ⟨rfl, hb⟩; exact ⟨rfl, Box.below hb hR, Box.below hb hO, keepB hb hC (Nat.le_refl _)⟩)); (try simp only [Act.put, List.setIfInBounds_toArray, List.set_cons_zero, List.set_cons_succ]))
      | (refine stillS_call (.int .i64 x3) 72 ?_ (by rfl) (fun w' => ?_) (fun w' hS => ?_) ?_; rotate_left; (focus (go_simp; (try with_reducible rfl); done)); (focus (refine (hm3.out _).mono ?_; rintro e w'' ⟨rfl, rfl⟩; exact ⟨rfl, hS⟩)); (try simp only [Act.put, List.setIfInBounds_toArray, List.set_cons_zero, List.set_cons_succ])))
    clear Br Bo hB
    refine stillS_nil ?_
    rintro wz ⟨Br, Bo, hB⟩
    have st := Bo.cell 2 rfl
    have sf := Bo.frz 2
    go_wp2_with fail
    replace Br := Br.far (i := 2) (u := .int .i64 x3) hne
    replace Bo : Box 2 (wz.setCell ⟨w1.heap.size, 2, none⟩ (.int .i64 x3)) w1.heap.size [x0, x2, x3, 0] := Bo.set 2 x3
    replace hB : Below w.heap.size w (wz.setCell ⟨w1.heap.size, 2, none⟩ (.int .i64 x3)) := Below.setCell (p := ⟨w1.heap.size, 2, none⟩) hB how _
    clear st sf
    rw [rounds_succ]
    go_wp2_with fail
    refine wp_region_tailS 32 (fun w' => Box 97 w' g [m0, m1, m2, m3, m4, m5, m6, m7, m8, n0, n1, n2, n3, n4, n5, n6, n7, n8] ∧ Box 2 w' w1.heap.size [x0, x2, x3, 0] ∧ Below w.heap.size w w') (by kernel_rfl) (by kernel_rfl) ⟨Br.drew, Bo.drew, Below.drew hB⟩ ?_
    simp only [List.take_succ_cons, List.take_zero, List.drop_succ_cons, List.drop_zero]
    repeat (first
      | (refine stillS_read ?_ (by rfl) (fun w' hS => ?_) ?_; rotate_left; (focus (obtain ⟨hR, hO, -⟩ := hS; have q00 := hR.cell 0 rfl; have q01 := hR.cell 1 rfl; have q02 := hR.cell 2 rfl; have q10 := hR.cell 3 rfl; have q11 := hR.cell 4 rfl; have q12 := hR.cell 5 rfl; have q20 := hR.cell 15 rfl; have q21 := hR.cell 16 rfl; have q22 := hR.cell 17 rfl; have qo := hO.cell 1 rfl; clear hR hO; go_simp; (try with_reducible rfl); done)); (try simp only [Act.put, List.setIfInBounds_toArray, List.set_cons_zero, List.set_cons_succ]))
      | (refine stillS_call (.int .i64 e4) 73 ?_ (by rfl) (fun w' => ?_) (fun w' hS => ?_) ?_; rotate_left; (focus (go_simp; (try with_reducible rfl); done)); (focus (obtain ⟨hR, hO, hC⟩ := hS; refine (hd4.out _).mono ?_; rintro e w'' ⟨rfl, hb⟩; exact ⟨rfl, Box.below hb hR, Box.below hb hO, keepB hb hC (Nat.le_refl _)⟩)); (try simp only [Act.put, List.setIfInBounds_toArray, List.set_cons_zero, List.set_cons_succ]))
      | (refine stillS_call (.int .i64 x4) 72 ?_ (by rfl) (fun w' => ?_) (fun w' hS => ?_) ?_; rotate_left; (focus (go_simp; (try with_reducible rfl); done)); (focus (refine (hm4.out _).mono ?_; rintro e w'' ⟨rfl, rfl⟩; exact ⟨rfl, hS⟩)); (try simp only [Act.put, List.setIfInBounds_toArray, List.set_cons_zero, List.set_cons_succ])))
    clear Br Bo hB
    refine stillS_nil ?_
    rintro wz ⟨Br, Bo, hB⟩
    have st := Bo.cell 1 rfl
    have sf := Bo.frz 1
    go_wp2_with fail
    replace Br := Br.far (i := 1) (u := .int .i64 x4) hne
    replace Bo : Box 2 (wz.setCell ⟨w1.heap.size, 1, none⟩ (.int .i64 x4)) w1.heap.size [x0, x4, x3, 0] := Bo.set 1 x4
    replace hB : Below w.heap.size w (wz.setCell ⟨w1.heap.size, 1, none⟩ (.int .i64 x4)) := Below.setCell (p := ⟨w1.heap.size, 1, none⟩) hB how _
    clear st sf
    rw [rounds_succ]
    go_wp2_with fail
    refine wp_region_tailS 32 (fun w' => Box 97 w' g [m0, m1, m2, m3, m4, m5, m6, m7, m8, n0, n1, n2, n3, n4, n5, n6, n7, n8] ∧ Box 2 w' w1.heap.size [x0, x4, x3, 0] ∧ Below w.heap.size w w') (by kernel_rfl) (by kernel_rfl) ⟨Br.drew, Bo.drew, Below.drew hB⟩ ?_
    simp only [List.take_succ_cons, List.take_zero, List.drop_succ_cons, List.drop_zero]
    repeat (first
      | (refine stillS_read ?_ (by rfl) (fun w' hS => ?_) ?_; rotate_left; (focus (obtain ⟨hR, hO, -⟩ := hS; have q00 := hR.cell 9 rfl; have q01 := hR.cell 10 rfl; have q02 := hR.cell 11 rfl; have q10 := hR.cell 3 rfl; have q11 := hR.cell 4 rfl; have q12 := hR.cell 5 rfl; have q20 := hR.cell 15 rfl; have q21 := hR.cell 16 rfl; have q22 := hR.cell 17 rfl; have qo := hO.cell 2 rfl; clear hR hO; go_simp; (try with_reducible rfl); done)); (try simp only [Act.put, List.setIfInBounds_toArray, List.set_cons_zero, List.set_cons_succ]))
      | (refine stillS_call (.int .i64 e5) 73 ?_ (by rfl) (fun w' => ?_) (fun w' hS => ?_) ?_; rotate_left; (focus (go_simp; (try with_reducible rfl); done)); (focus (obtain ⟨hR, hO, hC⟩ := hS; refine (hd5.out _).mono ?_; rintro e w'' ⟨rfl, hb⟩; exact ⟨rfl, Box.below hb hR, Box.below hb hO, keepB hb hC (Nat.le_refl _)⟩)); (try simp only [Act.put, List.setIfInBounds_toArray, List.set_cons_zero, List.set_cons_succ]))
      | (refine stillS_call (.int .i64 x5) 72 ?_ (by rfl) (fun w' => ?_) (fun w' hS => ?_) ?_; rotate_left; (focus (go_simp; (try with_reducible rfl); done)); (focus (refine (hm5.out _).mono ?_; rintro e w'' ⟨rfl, rfl⟩; exact ⟨rfl, hS⟩)); (try simp only [Act.put, List.setIfInBounds_toArray, List.set_cons_zero, List.set_cons_succ])))
    clear Br Bo hB
    refine stillS_nil ?_
    rintro wz ⟨Br, Bo, hB⟩
    have st := Bo.cell 2 rfl
    have sf := Bo.frz 2
    go_wp2_with fail
    replace Br := Br.far (i := 2) (u := .int .i64 x5) hne
    replace Bo : Box 2 (wz.setCell ⟨w1.heap.size, 2, none⟩ (.int .i64 x5)) w1.heap.size [x0, x4, x5, 0] := Bo.set 2 x5
    replace hB : Below w.heap.size w (wz.setCell ⟨w1.heap.size, 2, none⟩ (.int .i64 x5)) := Below.setCell (p := ⟨w1.heap.size, 2, none⟩) hB how _
    clear st sf
    rw [rounds_succ]
    go_wp2_with fail
    refine wp_region_tailS 32 (fun w' => Box 97 w' g [m0, m1, m2, m3, m4, m5, m6, m7, m8, n0, n1, n2, n3, n4, n5, n6, n7, n8] ∧ Box 2 w' w1.heap.size [x0, x4, x5, 0] ∧ Below w.heap.size w w') (by kernel_rfl) (by kernel_rfl) ⟨Br.drew, Bo.drew, Below.drew hB⟩ ?_
    simp only [List.take_succ_cons, List.take_zero, List.drop_succ_cons, List.drop_zero]
    repeat (first
      | (refine stillS_read ?_ (by rfl) (fun w' hS => ?_) ?_; rotate_left; (focus (obtain ⟨hR, hO, -⟩ := hS; have q00 := hR.cell 0 rfl; have q01 := hR.cell 1 rfl; have q02 := hR.cell 2 rfl; have q10 := hR.cell 12 rfl; have q11 := hR.cell 13 rfl; have q12 := hR.cell 14 rfl; have q20 := hR.cell 15 rfl; have q21 := hR.cell 16 rfl; have q22 := hR.cell 17 rfl; have qo := hO.cell 2 rfl; clear hR hO; go_simp; (try with_reducible rfl); done)); (try simp only [Act.put, List.setIfInBounds_toArray, List.set_cons_zero, List.set_cons_succ]))
      | (refine stillS_call (.int .i64 e6) 73 ?_ (by rfl) (fun w' => ?_) (fun w' hS => ?_) ?_; rotate_left; (focus (go_simp; (try with_reducible rfl); done)); (focus (obtain ⟨hR, hO, hC⟩ := hS; refine (hd6.out _).mono ?_; rintro e w'' ⟨rfl, hb⟩; exact ⟨rfl, Box.below hb hR, Box.below hb hO, keepB hb hC (Nat.le_refl _)⟩)); (try simp only [Act.put, List.setIfInBounds_toArray, List.set_cons_zero, List.set_cons_succ]))
      | (refine stillS_call (.int .i64 x6) 72 ?_ (by rfl) (fun w' => ?_) (fun w' hS => ?_) ?_; rotate_left; (focus (go_simp; (try with_reducible rfl); done)); (focus (refine (hm6.out _).mono ?_; rintro e w'' ⟨rfl, rfl⟩; exact ⟨rfl, hS⟩)); (try simp only [Act.put, List.setIfInBounds_toArray, List.set_cons_zero, List.set_cons_succ])))
    clear Br Bo hB
    refine stillS_nil ?_
    rintro wz ⟨Br, Bo, hB⟩
    have st := Bo.cell 2 rfl
    have sf := Bo.frz 2
    go_wp2_with fail
    replace Br := Br.far (i := 2) (u := .int .i64 x6) hne
    replace Bo : Box 2 (wz.setCell ⟨w1.heap.size, 2, none⟩ (.int .i64 x6)) w1.heap.size [x0, x4, x6, 0] := Bo.set 2 x6
    replace hB : Below w.heap.size w (wz.setCell ⟨w1.heap.size, 2, none⟩ (.int .i64 x6)) := Below.setCell (p := ⟨w1.heap.size, 2, none⟩) hB how _
    clear st sf
    rw [rounds_succ]
    go_wp2_with fail
    refine wp_region_tailS 32 (fun w' => Box 97 w' g [m0, m1, m2, m3, m4, m5, m6, m7, m8, n0, n1, n2, n3, n4, n5, n6, n7, n8] ∧ Box 2 w' w1.heap.size [x0, x4, x6, 0] ∧ Below w.heap.size w w') (by kernel_rfl) (by kernel_rfl) ⟨Br.drew, Bo.drew, Below.drew hB⟩ ?_
    simp only [List.take_succ_cons, List.take_zero, List.drop_succ_cons, List.drop_zero]
    repeat (first
      | (refine stillS_read ?_ (by rfl) (fun w' hS => ?_) ?_; rotate_left; (focus (obtain ⟨hR, hO, -⟩ := hS; have q00 := hR.cell 9 rfl; have q01 := hR.cell 10 rfl; have q02 := hR.cell 11 rfl; have q10 := hR.cell 12 rfl; have q11 := hR.cell 13 rfl; have q12 := hR.cell 14 rfl; have q20 := hR.cell 15 rfl; have q21 := hR.cell 16 rfl; have q22 := hR.cell 17 rfl; have qo := hO.cell 3 rfl; clear hR hO; go_simp; (try with_reducible rfl); done)); (try simp only [Act.put, List.setIfInBounds_toArray, List.set_cons_zero, List.set_cons_succ]))
      | (refine stillS_call (.int .i64 e7) 73 ?_ (by rfl) (fun w' => ?_) (fun w' hS => ?_) ?_; rotate_left; (focus (go_simp; (try with_reducible rfl); done)); (focus (obtain ⟨hR, hO, hC⟩ := hS; refine (hd7.out _).mono ?_; rintro e w'' ⟨rfl, hb⟩; exact ⟨rfl, Box.below hb hR, Box.below hb hO, keepB hb hC (Nat.le_refl _)⟩)); (try simp only [Act.put, List.setIfInBounds_toArray, List.set_cons_zero, List.set_cons_succ]))
      | (refine stillS_call (.int .i64 x7) 72 ?_ (by rfl) (fun w' => ?_) (fun w' hS => ?_) ?_; rotate_left; (focus (go_simp; (try with_reducible rfl); done)); (focus (refine (hm7.out _).mono ?_; rintro e w'' ⟨rfl, rfl⟩; exact ⟨rfl, hS⟩)); (try simp only [Act.put, List.setIfInBounds_toArray, List.set_cons_zero, List.set_cons_succ])))
    clear Br Bo hB
    refine stillS_nil ?_
    rintro wz ⟨Br, Bo, hB⟩
    have st := Bo.cell 3 rfl
    have sf := Bo.frz 3
    go_wp2_with fail
    replace Br := Br.far (i := 3) (u := .int .i64 x7) hne
    replace Bo : Box 2 (wz.setCell ⟨w1.heap.size, 3, none⟩ (.int .i64 x7)) w1.heap.size [x0, x4, x6, x7] := Bo.set 3 x7
    replace hB : Below w.heap.size w (wz.setCell ⟨w1.heap.size, 3, none⟩ (.int .i64 x7)) := Below.setCell (p := ⟨w1.heap.size, 3, none⟩) hB how _
    clear st sf
    rw [rounds_succ]
    go_wp2_with fail
    go_returns
    refine ⟨.slice (some ⟨w1.heap.size, 0, none⟩) 4 4, ?_, ?_, hB⟩
    · rw [hE.out]; rfl
    · rw [hE.out]; exact OwnA.ofBox4 Bo how
end Go.Proofs.Ytemimkbngfbomaa
