/- PencilCubic: what the reference's function returns; no condition. -/
import Derived.Test.YtemimkbngfbomaaW73
namespace Go.Proofs.Ytemimkbngfbomaa
open Go.RowKit
set_option linter.unusedSimpArgs false
set_option linter.unusedVariables false
set_option maxRecDepth 100000

/-- append of one row that lies in a block of its own, as a step of a drawn region. -/
theorem appA_step {ops : Array Oper} {o : Oper} {a : Act} {K : Act → World → Prop} {Q : Exit → Act → World → Prop} {E0 : Prop} {w : World} {E n t : Nat} {z : Value} (ht : Try.prog.underlying t = some (.slice E)) (hinfo : (Try.prog.info? E).map (fun i => (i.zero, i.size, i.bytes)) = some (some z, n, 8 * n)) (hzs : z.cells.size = n) (hn : 0 < n) (hn2 : n ≤ 9)
    (hgd : o.guard = none) (s x : Operand) (ho : o.op = .call { callee := .builtin .append, args := #[s, x], argTypes := #[t, t] })
    (base : Nat) (v : Value) (rows : List (List Int)) (r : List Int) (hs : a.eval s = v) (hown : OwnA E n w base v rows) {B c E' : Nat} (hx : a.eval x = .slice (some ⟨B, 0, none⟩) 1 c) (hB : Box E' w B r) (hr : r.length = n) (m : Nat) (hm : rows.length + 1 = m)
    (hl : rows.length ≤ 10000000) (hbase : base ≤ w.heap.size)
    (h : ∀ g cap w', OwnA E n w' base (.slice (some ⟨g, 0, none⟩) m cap) (rows ++ [r]) → w.grownBy w' v.ownBlock → (∀ b0 a0, Below b0 a0 w → b0 ≤ base → Below b0 a0 w') → K (a.put o.dst (.slice (some ⟨g, 0, none⟩) m cap)) w') :
    if Region.wanted o (yielded ops a.tmps) = true then Oper.wp Try.prog o a w K Q else E0 := by
  obtain ⟨i0, hi, hz0, hz1, hz2⟩ := info_parts hinfo
  have hlt : (rows.length + 1) * (8 * n) ≤ 140737488355328 := by
    have : (rows.length + 1) * (8 * n) ≤ (10000000 + 1) * (8 * 9) := Nat.mul_le_mul (by omega) (by omega)
    omega
  refine step_append_lies w hgd s x t ho base E i0 z n (8 * n) ht hi hz0 hz1 hz2 hzs hn v rows.length (cellsA rows) hs hown.2
    ⟨B, 0, none⟩ 1 c (r.map (Value.int .i64)) hx (by simp [hr]) ?_ ?_ (by omega) (by unfold maxLen; omega) hlt hbase _ rfl ?_
  · intro j u hj
    exact World.news_of_block hB j u (by simpa using hj)
  · intro u hu
    rw [List.mem_map] at hu
    obtain ⟨y, _, rfl⟩ := hu
    rfl
  · intro g cap w' h1 h2 h3 h4
    subst hm
    refine h g cap w' ⟨?_, ?_⟩ h2 ?_
    · intro r' hr'
      rw [List.mem_append] at hr'
      rcases hr' with h' | h'
      · exact hown.1 _ h'
      · simp at h'; rw [h']; exact hr
    · rw [cellsA_append, cellsA_one, List.length_append]; exact h1
    · intro b0 a0 hb hle
      exact hb.grown h2 (by omega) (fun k hk => by have := (hown.2.lt k hk).1; omega)
/-- Three rows, by their blocks. -/
def At3 (w : World) (g a b c : Nat) (x0 x1 x2 x3 x4 x5 x6 x7 x8 : Int) : Prop := w.cell? ⟨g, 0, none⟩ = some (.slice (some ⟨a, 0, none⟩) 3 3) ∧ w.cell? ⟨g, 1, none⟩ = some (.slice (some ⟨b, 0, none⟩) 3 3) ∧ w.cell? ⟨g, 2, none⟩ = some (.slice (some ⟨c, 0, none⟩) 3 3) ∧ w.cell? ⟨a, 0, none⟩ = some (.int .i64 x0) ∧ w.cell? ⟨a, 1, none⟩ = some (.int .i64 x1) ∧ w.cell? ⟨a, 2, none⟩ = some (.int .i64 x2) ∧ w.cell? ⟨b, 0, none⟩ = some (.int .i64 x3) ∧ w.cell? ⟨b, 1, none⟩ = some (.int .i64 x4) ∧ w.cell? ⟨b, 2, none⟩ = some (.int .i64 x5) ∧ w.cell? ⟨c, 0, none⟩ = some (.int .i64 x6) ∧ w.cell? ⟨c, 1, none⟩ = some (.int .i64 x7) ∧ w.cell? ⟨c, 2, none⟩ = some (.int .i64 x8)
theorem At3.far {w w' : World} {g a b c go i : Nat} {u : Value} {x0 x1 x2 x3 x4 x5 x6 x7 x8 : Int} (h : At3 w g a b c x0 x1 x2 x3 x4 x5 x6 x7 x8) (hk : ∀ b o u, w.cell? ⟨b, o, none⟩ = some u → w'.cell? ⟨b, o, none⟩ = some u) (kg : g ≠ go) (ka : a ≠ go) (kb : b ≠ go) (kc : c ≠ go) : At3 (w'.setCell ⟨go, i, none⟩ u) g a b c x0 x1 x2 x3 x4 x5 x6 x7 x8 := by
  have hf : ∀ {b' o' : Nat} {v : Value}, b' ≠ go → w.cell? ⟨b', o', none⟩ = some v → (w'.setCell ⟨go, i, none⟩ u).cell? ⟨b', o', none⟩ = some v := fun hb h => by
    have h := hk _ _ _ h
    simp only [World.cell?] at h ⊢
    rw [Below.heap_setCell _ _ _ _ hb]; exact h
  obtain ⟨h1, h2, h3, q0, q1, q2, q3, q4, q5, q6, q7, q8⟩ := h
  exact ⟨hf kg h1, hf kg h2, hf kg h3, hf ka q0, hf ka q1, hf ka q2, hf kb q3, hf kb q4, hf kb q5, hf kc q6, hf kc q7, hf kc q8⟩
set_option maxHeartbeats 16000000 in
theorem PencilCubic_spec (p c0 c1 c2 c3 c4 c5 d0 d1 d2 d3 d4 d5 : Int) (w : World) :
    Calls Try.prog 27 #[.int .i64 p, .agg #[.int .i64 c0, .int .i64 c1, .int .i64 c2, .int .i64 c3, .int .i64 c4, .int .i64 c5], .agg #[.int .i64 d0, .int .i64 d1, .int .i64 d2, .int .i64 d3, .int .i64 d4, .int .i64 d5]] w fun e w' => ∃ v, e = .returned (.tuple #[v, .int .i64 (cuR p ⟨c0, c1, c2, c3, c4, c5⟩ ⟨d0, d1, d2, d3, d4, d5⟩).2]) ∧ OwnA 2 1 w' w.heap.size v (cuR p ⟨c0, c1, c2, c3, c4, c5⟩ ⟨d0, d1, d2, d3, d4, d5⟩).1 ∧ Below w.heap.size w w' := by
  have hmk : ∀ w, (Instr.makeSlice 22 (.int .i64 4) (.int .i64 4)).run Try.prog w = .ok (.slice (some ⟨w.heap.size, 0, none⟩) 4 4) (w.alloc (.cells #[.int .i64 0, .int .i64 0, .int .i64 0, .int .i64 0] 2)) := fun _ => by kernel_rfl
  go_enter Try.func27, Try.ntmps27
  rcases pcCode3 p ⟨c0, c1, c2, c3, c4, c5⟩ ⟨d0, d1, d2, d3, d4, d5⟩ with hk | hk | hk | ⟨hp, hc, hd, hk⟩
  · have hE : Hid (cuR p ⟨c0, c1, c2, c3, c4, c5⟩ ⟨d0, d1, d2, d3, d4, d5⟩ = ([], 2)) := by show _ = _; unfold cuR; rw [hk]; rfl
    have HK := Lib.hid hk; clear hk
    go_wp2_with (go_at_call 68; refine (l04Pencil_nil p c0 c1 c2 c3 c4 c5 d0 d1 d2 d3 d4 d5 _).mono ?_; rintro e w1 ⟨rfl, hb1⟩; obtain ⟨hc1, hf1⟩ := bcell hb1; have hz1 := hb1.size; (try simp only [World.size_alloc, World.size_setCell, World.size_drew] at hz1); (try (have hy1w0 : w.heap.size < w1.heap.size := by omega)); (try (have hy1w1 : w.heap.size + 1 < w1.heap.size := by omega)); (try (have hy1w2 : w.heap.size + 1 + 1 < w1.heap.size := by omega)); (try (have hy1w3 : w.heap.size + 1 + 1 + 1 < w1.heap.size := by omega)); (try (have hy1w4 : w.heap.size + 1 + 1 + 1 + 1 < w1.heap.size := by omega)); (try (have hy1wc0 : wc.heap.size < w1.heap.size := by omega)); (try (have hy1wc1 : wc.heap.size + 1 < w1.heap.size := by omega)); (try (have hy1wc2 : wc.heap.size + 1 + 1 < w1.heap.size := by omega)); (try (have hy1wc3 : wc.heap.size + 1 + 1 + 1 < w1.heap.size := by omega)); (try (have hy1wc4 : wc.heap.size + 1 + 1 + 1 + 1 < w1.heap.size := by omega)); rw [HK.out])
    go_returns
    exact ⟨_, by rw [hE.out]; try rfl, by rw [hE.out]; exact OwnA.nil _ _ _ _, by (repeat' (first | (with_reducible exact Below.refl _ _) | (with_reducible assumption) | (with_reducible refine Below.alloc ?_ ?_ _) | (with_reducible refine Below.drew ?_) | (with_reducible refine below_drewN ?_ _) | (with_reducible refine Below.setCell ?_ ?_ _) | (refine Below.step ?_ (by with_reducible assumption) ?_) | go_size))⟩
  · have hE : Hid (cuR p ⟨c0, c1, c2, c3, c4, c5⟩ ⟨d0, d1, d2, d3, d4, d5⟩ = ([], 1)) := by show _ = _; unfold cuR; rw [hk]; rfl
    have HK := Lib.hid hk; clear hk
    go_wp2_with (go_at_call 68; refine (l04Pencil_nil p c0 c1 c2 c3 c4 c5 d0 d1 d2 d3 d4 d5 _).mono ?_; rintro e w1 ⟨rfl, hb1⟩; obtain ⟨hc1, hf1⟩ := bcell hb1; have hz1 := hb1.size; (try simp only [World.size_alloc, World.size_setCell, World.size_drew] at hz1); (try (have hy1w0 : w.heap.size < w1.heap.size := by omega)); (try (have hy1w1 : w.heap.size + 1 < w1.heap.size := by omega)); (try (have hy1w2 : w.heap.size + 1 + 1 < w1.heap.size := by omega)); (try (have hy1w3 : w.heap.size + 1 + 1 + 1 < w1.heap.size := by omega)); (try (have hy1w4 : w.heap.size + 1 + 1 + 1 + 1 < w1.heap.size := by omega)); (try (have hy1wc0 : wc.heap.size < w1.heap.size := by omega)); (try (have hy1wc1 : wc.heap.size + 1 < w1.heap.size := by omega)); (try (have hy1wc2 : wc.heap.size + 1 + 1 < w1.heap.size := by omega)); (try (have hy1wc3 : wc.heap.size + 1 + 1 + 1 < w1.heap.size := by omega)); (try (have hy1wc4 : wc.heap.size + 1 + 1 + 1 + 1 < w1.heap.size := by omega)); rw [HK.out])
    go_returns
    exact ⟨_, by rw [hE.out]; try rfl, by rw [hE.out]; exact OwnA.nil _ _ _ _, by (repeat' (first | (with_reducible exact Below.refl _ _) | (with_reducible assumption) | (with_reducible refine Below.alloc ?_ ?_ _) | (with_reducible refine Below.drew ?_) | (with_reducible refine below_drewN ?_ _) | (with_reducible refine Below.setCell ?_ ?_ _) | (refine Below.step ?_ (by with_reducible assumption) ?_) | go_size))⟩
  · have hE : Hid (cuR p ⟨c0, c1, c2, c3, c4, c5⟩ ⟨d0, d1, d2, d3, d4, d5⟩ = ([], 5)) := by show _ = _; unfold cuR; rw [hk]; rfl
    have HK := Lib.hid hk; clear hk
    go_wp2_with (go_at_call 68; refine (l04Pencil_nil p c0 c1 c2 c3 c4 c5 d0 d1 d2 d3 d4 d5 _).mono ?_; rintro e w1 ⟨rfl, hb1⟩; obtain ⟨hc1, hf1⟩ := bcell hb1; have hz1 := hb1.size; (try simp only [World.size_alloc, World.size_setCell, World.size_drew] at hz1); (try (have hy1w0 : w.heap.size < w1.heap.size := by omega)); (try (have hy1w1 : w.heap.size + 1 < w1.heap.size := by omega)); (try (have hy1w2 : w.heap.size + 1 + 1 < w1.heap.size := by omega)); (try (have hy1w3 : w.heap.size + 1 + 1 + 1 < w1.heap.size := by omega)); (try (have hy1w4 : w.heap.size + 1 + 1 + 1 + 1 < w1.heap.size := by omega)); (try (have hy1wc0 : wc.heap.size < w1.heap.size := by omega)); (try (have hy1wc1 : wc.heap.size + 1 < w1.heap.size := by omega)); (try (have hy1wc2 : wc.heap.size + 1 + 1 < w1.heap.size := by omega)); (try (have hy1wc3 : wc.heap.size + 1 + 1 + 1 < w1.heap.size := by omega)); (try (have hy1wc4 : wc.heap.size + 1 + 1 + 1 + 1 < w1.heap.size := by omega)); rw [HK.out])
    go_returns
    exact ⟨_, by rw [hE.out]; try rfl, by rw [hE.out]; exact OwnA.nil _ _ _ _, by (repeat' (first | (with_reducible exact Below.refl _ _) | (with_reducible assumption) | (with_reducible refine Below.alloc ?_ ?_ _) | (with_reducible refine Below.drew ?_) | (with_reducible refine below_drewN ?_ _) | (with_reducible refine Below.setCell ?_ ?_ _) | (refine Below.step ?_ (by with_reducible assumption) ?_) | go_size))⟩
  · have hrm : ∀ w' : World, Calls Try.prog 69 #[.int .i64 p, .agg #[.int .i64 c0, .int .i64 c1, .int .i64 c2, .int .i64 c3, .int .i64 c4, .int .i64 c5]] w' fun e w'' => ∃ v, e = .returned v ∧ Rows3P (fun b => w'.heap.size ≤ b) w'' v (mxC p ⟨c0, c1, c2, c3, c4, c5⟩).m0 (mxC p ⟨c0, c1, c2, c3, c4, c5⟩).m1 (mxC p ⟨c0, c1, c2, c3, c4, c5⟩).m2 (mxC p ⟨c0, c1, c2, c3, c4, c5⟩).m3 (mxC p ⟨c0, c1, c2, c3, c4, c5⟩).m4 (mxC p ⟨c0, c1, c2, c3, c4, c5⟩).m5 (mxC p ⟨c0, c1, c2, c3, c4, c5⟩).m6 (mxC p ⟨c0, c1, c2, c3, c4, c5⟩).m7 (mxC p ⟨c0, c1, c2, c3, c4, c5⟩).m8 ∧ Below w'.heap.size w' w'' := fun w' => (by obtain ⟨s0, s1, s2, s3, s4, s5⟩ := isCo_sm hc; exact l03Rows_own p c0 c1 c2 c3 c4 c5 w' (isP_lo hp) (isP_hi hp) s0 s1 s2 s3 s4 s5)
    have hrn : ∀ w' : World, Calls Try.prog 69 #[.int .i64 p, .agg #[.int .i64 d0, .int .i64 d1, .int .i64 d2, .int .i64 d3, .int .i64 d4, .int .i64 d5]] w' fun e w'' => ∃ v, e = .returned v ∧ Rows3P (fun b => w'.heap.size ≤ b) w'' v (mxC p ⟨d0, d1, d2, d3, d4, d5⟩).m0 (mxC p ⟨d0, d1, d2, d3, d4, d5⟩).m1 (mxC p ⟨d0, d1, d2, d3, d4, d5⟩).m2 (mxC p ⟨d0, d1, d2, d3, d4, d5⟩).m3 (mxC p ⟨d0, d1, d2, d3, d4, d5⟩).m4 (mxC p ⟨d0, d1, d2, d3, d4, d5⟩).m5 (mxC p ⟨d0, d1, d2, d3, d4, d5⟩).m6 (mxC p ⟨d0, d1, d2, d3, d4, d5⟩).m7 (mxC p ⟨d0, d1, d2, d3, d4, d5⟩).m8 ∧ Below w'.heap.size w' w'' := fun w' => (by obtain ⟨s0, s1, s2, s3, s4, s5⟩ := isCo_sm hd; exact l03Rows_own p d0 d1 d2 d3 d4 d5 w' (isP_lo hp) (isP_hi hp) s0 s1 s2 s3 s4 s5)
    have k1 := isP_lo hp; have k2 := isP_hi hp
    have hsm := mxC_sm hp hc; have hsn := mxC_sm hp hd
    have hE0 : cuR p ⟨c0, c1, c2, c3, c4, c5⟩ ⟨d0, d1, d2, d3, d4, d5⟩ = (cuL p (mxC p ⟨c0, c1, c2, c3, c4, c5⟩) (mxC p ⟨d0, d1, d2, d3, d4, d5⟩), 0) := by unfold cuR; rw [hk]; rfl
    obtain ⟨m0, m1, m2, m3, m4, m5, m6, m7, m8, hM⟩ := M9_parts (mxC p ⟨c0, c1, c2, c3, c4, c5⟩)
    obtain ⟨n0, n1, n2, n3, n4, n5, n6, n7, n8, hN⟩ := M9_parts (mxC p ⟨d0, d1, d2, d3, d4, d5⟩)
    rw [hM] at hsm hE0 hrm
    rw [hN] at hsn hE0 hrn
    obtain ⟨um0, um1, um2, um3, um4, um5, um6, um7, um8⟩ := hsm
    obtain ⟨un0, un1, un2, un3, un4, un5, un6, un7, un8⟩ := hsn
    dsimp only [cuL] at hE0 hrm hrn um0 um1 um2 um3 um4 um5 um6 um7 um8 un0 un1 un2 un3 un4 un5 un6 un7 un8
    have hE := Lib.hid hE0
    have hus := Lib.hid (⟨um0, um1, um2, um3, um4, um5, um6, um7, um8, un0, un1, un2, un3, un4, un5, un6, un7, un8⟩ : sm m0 ∧ sm m1 ∧ sm m2 ∧ sm m3 ∧ sm m4 ∧ sm m5 ∧ sm m6 ∧ sm m7 ∧ sm m8 ∧ sm n0 ∧ sm n1 ∧ sm n2 ∧ sm n3 ∧ sm n4 ∧ sm n5 ∧ sm n6 ∧ sm n7 ∧ sm n8)
    have HP := Lib.hid hp
    have HRM := Lib.hid hrm; have HRN := Lib.hid hrn; clear hrm hrn
    clear hE0 hM hN hc hd hp k1 k2 um0 um1 um2 um3 um4 um5 um6 um7 um8 un0 un1 un2 un3 un4 un5 un6 un7 un8
    have HK := Lib.hid hk; clear hk
    go_upto_region 4 with (go_at_call 68; refine (l04Pencil_nil p c0 c1 c2 c3 c4 c5 d0 d1 d2 d3 d4 d5 _).mono ?_; rintro e w1 ⟨rfl, hb1⟩; obtain ⟨hc1, hf1⟩ := bcell hb1; have hz1 := hb1.size; (try simp only [World.size_alloc, World.size_setCell, World.size_drew] at hz1); (try (have hy1w0 : w.heap.size < w1.heap.size := by omega)); (try (have hy1w1 : w.heap.size + 1 < w1.heap.size := by omega)); (try (have hy1w2 : w.heap.size + 1 + 1 < w1.heap.size := by omega)); (try (have hy1w3 : w.heap.size + 1 + 1 + 1 < w1.heap.size := by omega)); (try (have hy1w4 : w.heap.size + 1 + 1 + 1 + 1 < w1.heap.size := by omega)); (try (have hy1wc0 : wc.heap.size < w1.heap.size := by omega)); (try (have hy1wc1 : wc.heap.size + 1 < w1.heap.size := by omega)); (try (have hy1wc2 : wc.heap.size + 1 + 1 < w1.heap.size := by omega)); (try (have hy1wc3 : wc.heap.size + 1 + 1 + 1 < w1.heap.size := by omega)); (try (have hy1wc4 : wc.heap.size + 1 + 1 + 1 + 1 < w1.heap.size := by omega)); rw [HK.out])
    refine wp_name (fun w' => Box 24 w' (w.heap.size) [c0, c1, c2, c3, c4, c5] ∧ Box 24 w' (w.heap.size + 1) [d0, d1, d2, d3, d4, d5] ∧ Below w.heap.size w w') ⟨Box.below hb1 (Box.alloc (Box.new [c0, c1, c2, c3, c4, c5] rfl) _), Box.below hb1 (Box.new [d0, d1, d2, d3, d4, d5] (by simp)), by (repeat' (first | (with_reducible exact Below.refl _ _) | (with_reducible assumption) | (with_reducible refine Below.alloc ?_ ?_ _) | (with_reducible refine Below.drew ?_) | (with_reducible refine below_drewN ?_ _) | (with_reducible refine Below.setCell ?_ ?_ _) | (refine Below.step ?_ (by with_reducible assumption) ?_) | go_size))⟩ ?_
    rintro wq ⟨Bc, Bd, hB⟩
    have hz := hB.size
    have qc0 := Bc.cell 0 rfl
    have qc1 := Bc.cell 1 rfl
    have qc2 := Bc.cell 2 rfl
    have qc3 := Bc.cell 3 rfl
    have qc4 := Bc.cell 4 rfl
    have qc5 := Bc.cell 5 rfl
    have ltc := Bc.lt
    have qd0 := Bd.cell 0 rfl
    have qd1 := Bd.cell 1 rfl
    have qd2 := Bd.cell 2 rfl
    have qd3 := Bd.cell 3 rfl
    have qd4 := Bd.cell 4 rfl
    have qd5 := Bd.cell 5 rfl
    have ltd := Bd.lt
    have hsz : w.heap.size + 1 + 1 ≤ wq.heap.size := Bd.lt
    go_cut [9, 10, 11] (fun s9 s10 s11 w' => ∃ go, s11 = .slice (some ⟨go, 0, none⟩) 4 4 ∧ w.heap.size ≤ go ∧ Rows3P (fun b => b ≠ go) w' s9 m0 m1 m2 m3 m4 m5 m6 m7 m8 ∧ Rows3P (fun b => b ≠ go) w' s10 n0 n1 n2 n3 n4 n5 n6 n7 n8 ∧ Box 2 w' go [0, 0, 0, 0] ∧ Below w.heap.size w w')
    case first =>
      go_region_held3 (fun w' => w'.cell? ⟨w.heap.size, 0, none⟩ = some (.int .i64 c0) ∧ w'.cell? ⟨w.heap.size, 1, none⟩ = some (.int .i64 c1) ∧ w'.cell? ⟨w.heap.size, 2, none⟩ = some (.int .i64 c2) ∧ w'.cell? ⟨w.heap.size, 3, none⟩ = some (.int .i64 c3) ∧ w'.cell? ⟨w.heap.size, 4, none⟩ = some (.int .i64 c4) ∧ w'.cell? ⟨w.heap.size, 5, none⟩ = some (.int .i64 c5) ∧ w'.cell? ⟨w.heap.size + 1, 0, none⟩ = some (.int .i64 d0) ∧ w'.cell? ⟨w.heap.size + 1, 1, none⟩ = some (.int .i64 d1) ∧ w'.cell? ⟨w.heap.size + 1, 2, none⟩ = some (.int .i64 d2) ∧ w'.cell? ⟨w.heap.size + 1, 3, none⟩ = some (.int .i64 d3) ∧ w'.cell? ⟨w.heap.size + 1, 4, none⟩ = some (.int .i64 d4) ∧ w'.cell? ⟨w.heap.size + 1, 5, none⟩ = some (.int .i64 d5) ∧ Below w.heap.size w w' ∧ w.heap.size + 1 + 1 ≤ w'.heap.size) ((go_split_ands; (repeat (any_goals (with_reducible apply And.intro))) <;> ((repeat (first | (with_reducible assumption) | (with_reducible exact Below.refl _ _) | (with_reducible refine keepD ?_) | (with_reducible refine Below.drew ?_) | (with_reducible refine Box.drew ?_) | (with_reducible refine sizeD ?_) | (with_reducible exact keepC (by with_reducible assumption) (by with_reducible assumption)) | (with_reducible exact Box.below (by with_reducible assumption) (by with_reducible assumption)) | (with_reducible exact keepB (by with_reducible assumption) (by with_reducible assumption) (Nat.le_refl _)) | (with_reducible exact sizeC (by with_reducible assumption) (by with_reducible assumption)) | (with_reducible refine keepA _ ?_) | (with_reducible refine Box.alloc ?_ _) | (with_reducible refine allocB ?_ (Nat.le_refl _) _) | (with_reducible refine sizeA ?_ _))); done))) ((first | (go_at_call_of 69 (Value.agg #[.int .i64 c0, .int .i64 c1, .int .i64 c2, .int .i64 c3, .int .i64 c4, .int .i64 c5]); refine (HRM.out _).mono ?_; rintro e w3 ⟨v1, rfl, hr1, hb3⟩; have hz3 : w.heap.size + 1 + 1 ≤ w3.heap.size := (by have hq := hb3.size; (try simp only [World.size_drew, World.size_alloc, World.size_setCell] at hq); go_split_ands; omega)) | (go_at_call_of 69 (Value.agg #[.int .i64 d0, .int .i64 d1, .int .i64 d2, .int .i64 d3, .int .i64 d4, .int .i64 d5]); refine (HRN.out _).mono ?_; rintro e w4 ⟨v2, rfl, hr2, hb4⟩; have hz4 : w.heap.size + 1 + 1 ≤ w4.heap.size := (by have hq := hb4.size; (try simp only [World.size_drew, World.size_alloc, World.size_setCell] at hq); go_split_ands; omega))))
      all_goals (go_split_ands; go_wp2_with fail; go_meet; refine ⟨_, rfl, by omega, ?_, ?_, ?_, ?_⟩; (first | exact hr1.keep (fun b hk hl => (by have hq3 := hb3.size; have hq4 := hb4.size; (try simp only [World.size_drew, World.size_alloc] at hq3 hq4 hk ⊢); omega)) (fun b o u _ h => h) | exact hr1.keep (fun b hk hl => (by have hq3 := hb3.size; have hq4 := hb4.size; (try simp only [World.size_drew, World.size_alloc] at hq3 hq4 hk ⊢); omega)) (fun b o u _ h => keepC hb4 h) | exact hr1.keep (fun b hk hl => (by have hq3 := hb3.size; have hq4 := hb4.size; (try simp only [World.size_drew, World.size_alloc] at hq3 hq4 hk ⊢); omega)) (fun b o u _ h => keepC hb4 (keepA _ h)) | exact hr1.keep (fun b hk hl => (by have hq3 := hb3.size; have hq4 := hb4.size; (try simp only [World.size_drew, World.size_alloc] at hq3 hq4 hk ⊢); omega)) (fun b o u _ h => keepA _ (keepC hb4 h)) | exact hr1.keep (fun b hk hl => (by have hq3 := hb3.size; have hq4 := hb4.size; (try simp only [World.size_drew, World.size_alloc] at hq3 hq4 hk ⊢); omega)) (fun b o u _ h => keepA _ h)); (first | exact hr2.keep (fun b hk hl => (by have hq3 := hb3.size; have hq4 := hb4.size; (try simp only [World.size_drew, World.size_alloc] at hq3 hq4 hk ⊢); omega)) (fun b o u _ h => h) | exact hr2.keep (fun b hk hl => (by have hq3 := hb3.size; have hq4 := hb4.size; (try simp only [World.size_drew, World.size_alloc] at hq3 hq4 hk ⊢); omega)) (fun b o u _ h => keepC hb4 h) | exact hr2.keep (fun b hk hl => (by have hq3 := hb3.size; have hq4 := hb4.size; (try simp only [World.size_drew, World.size_alloc] at hq3 hq4 hk ⊢); omega)) (fun b o u _ h => keepC hb4 (keepA _ h)) | exact hr2.keep (fun b hk hl => (by have hq3 := hb3.size; have hq4 := hb4.size; (try simp only [World.size_drew, World.size_alloc] at hq3 hq4 hk ⊢); omega)) (fun b o u _ h => keepA _ (keepC hb4 h)) | exact hr2.keep (fun b hk hl => (by have hq3 := hb3.size; have hq4 := hb4.size; (try simp only [World.size_drew, World.size_alloc] at hq3 hq4 hk ⊢); omega)) (fun b o u _ h => keepA _ h)); (first | exact Box.new [0, 0, 0, 0] rfl | exact Box.below hb4 (Box.new [0, 0, 0, 0] rfl) | exact Box.below hb4 (Box.below hb3 (Box.new [0, 0, 0, 0] rfl))); ((go_split_ands; (repeat (any_goals (with_reducible apply And.intro))) <;> ((repeat (first | (with_reducible assumption) | (with_reducible exact Below.refl _ _) | (with_reducible refine keepD ?_) | (with_reducible refine Below.drew ?_) | (with_reducible refine Box.drew ?_) | (with_reducible refine sizeD ?_) | (with_reducible exact keepC (by with_reducible assumption) (by with_reducible assumption)) | (with_reducible exact Box.below (by with_reducible assumption) (by with_reducible assumption)) | (with_reducible exact keepB (by with_reducible assumption) (by with_reducible assumption) (Nat.le_refl _)) | (with_reducible exact sizeC (by with_reducible assumption) (by with_reducible assumption)) | (with_reducible refine keepA _ ?_) | (with_reducible refine Box.alloc ?_ _) | (with_reducible refine allocB ?_ (Nat.le_refl _) _) | (with_reducible refine sizeA ?_ _))); done))))
    clear hB hz Bc Bd ltc ltd qc0 qd0 qc1 qd1 qc2 qd2 qc3 qd3 qc4 qd4 qc5 qd5 hsz HRM HRN hb1 hc1 hf1 hz1 hy1w0 hy1w1
    case' rest => obtain ⟨go, rfl, hgo, R1, R2, Bo, hB⟩ := hcut
    obtain ⟨g1, xa1, xb1, xc1, rfl, kg1, ka1, kb1, kc1, A1⟩ := R1
    obtain ⟨g2, xa2, xb2, xc2, rfl, kg2, ka2, kb2, kc2, A2⟩ := R2
    replace A1 : At3 wc g1 xa1 xb1 xc1 m0 m1 m2 m3 m4 m5 m6 m7 m8 := A1
    replace A2 : At3 wc g2 xa2 xb2 xc2 n0 n1 n2 n3 n4 n5 n6 n7 n8 := A2
    have hp := HP.out; have k1 := isP_lo hp; have k2 := isP_hi hp
    have hE0 := hE.out; clear hE
    obtain ⟨um0, um1, um2, um3, um4, um5, um6, um7, um8, un0, un1, un2, un3, un4, un5, un6, un7, un8⟩ := hus.out
    have re0 := det3_rng hp m0 m1 m2 m3 m4 m5 m6 m7 m8
    obtain ⟨e0, he0⟩ : ∃ e : Int, Hid (e = det3 p m0 m1 m2 m3 m4 m5 m6 m7 m8) := ⟨_, rfl⟩
    have hd0 : Hid (∀ w' : World, Calls Try.prog 70 #[.int .i64 p, .agg #[.int .i64 m0, .int .i64 m1, .int .i64 m2], .agg #[.int .i64 m3, .int .i64 m4, .int .i64 m5], .agg #[.int .i64 m6, .int .i64 m7, .int .i64 m8]] w' fun e w'' => e = .returned (.int .i64 e0) ∧ Below w'.heap.size w' w'') := fun w' => (l01Det_any p m0 m1 m2 m3 m4 m5 m6 m7 m8 w' k1 k2 um0 um1 um2 um3 um4 um5 um6 um7 um8).mono fun _ _ h => ⟨by rw [he0.out]; exact h.1, h.2⟩
    rw [← he0.out] at re0 hE0
    have rx0 := sum_rng hp (0) e0
    obtain ⟨x0, hx0⟩ : ∃ x : Int, Hid (x = (e0) % p) := ⟨_, rfl⟩
    simp only [Int.zero_add] at rx0 hE0
    rw [← hx0.out] at rx0 hE0
    have hw0 : IntKind.i64.wrap (e0) = e0 := by go_arith
    have ht0 : (e0).tmod p = x0 := by rw [hx0.out]; exact Int.tmod_eq_emod_of_nonneg (by omega)
    have re1 := det3_rng hp n0 n1 n2 m3 m4 m5 m6 m7 m8
    obtain ⟨e1, he1⟩ : ∃ e : Int, Hid (e = det3 p n0 n1 n2 m3 m4 m5 m6 m7 m8) := ⟨_, rfl⟩
    have hd1 : Hid (∀ w' : World, Calls Try.prog 70 #[.int .i64 p, .agg #[.int .i64 n0, .int .i64 n1, .int .i64 n2], .agg #[.int .i64 m3, .int .i64 m4, .int .i64 m5], .agg #[.int .i64 m6, .int .i64 m7, .int .i64 m8]] w' fun e w'' => e = .returned (.int .i64 e1) ∧ Below w'.heap.size w' w'') := fun w' => (l01Det_any p n0 n1 n2 m3 m4 m5 m6 m7 m8 w' k1 k2 un0 un1 un2 um3 um4 um5 um6 um7 um8).mono fun _ _ h => ⟨by rw [he1.out]; exact h.1, h.2⟩
    rw [← he1.out] at re1 hE0
    have rx1 := sum_rng hp (0) e1
    obtain ⟨x1, hx1⟩ : ∃ x : Int, Hid (x = (e1) % p) := ⟨_, rfl⟩
    simp only [Int.zero_add] at rx1 hE0
    rw [← hx1.out] at rx1 hE0
    have hw1 : IntKind.i64.wrap (e1) = e1 := by go_arith
    have ht1 : (e1).tmod p = x1 := by rw [hx1.out]; exact Int.tmod_eq_emod_of_nonneg (by omega)
    have re2 := det3_rng hp m0 m1 m2 n3 n4 n5 m6 m7 m8
    obtain ⟨e2, he2⟩ : ∃ e : Int, Hid (e = det3 p m0 m1 m2 n3 n4 n5 m6 m7 m8) := ⟨_, rfl⟩
    have hd2 : Hid (∀ w' : World, Calls Try.prog 70 #[.int .i64 p, .agg #[.int .i64 m0, .int .i64 m1, .int .i64 m2], .agg #[.int .i64 n3, .int .i64 n4, .int .i64 n5], .agg #[.int .i64 m6, .int .i64 m7, .int .i64 m8]] w' fun e w'' => e = .returned (.int .i64 e2) ∧ Below w'.heap.size w' w'') := fun w' => (l01Det_any p m0 m1 m2 n3 n4 n5 m6 m7 m8 w' k1 k2 um0 um1 um2 un3 un4 un5 um6 um7 um8).mono fun _ _ h => ⟨by rw [he2.out]; exact h.1, h.2⟩
    rw [← he2.out] at re2 hE0
    have rx2 := sum_rng hp (x1) e2
    obtain ⟨x2, hx2⟩ : ∃ x : Int, Hid (x = (x1 + e2) % p) := ⟨_, rfl⟩
    
    rw [← hx2.out] at rx2 hE0
    have hw2 : IntKind.i64.wrap (x1 + e2) = x1 + e2 := by go_arith
    have ht2 : (x1 + e2).tmod p = x2 := by rw [hx2.out]; exact Int.tmod_eq_emod_of_nonneg (by omega)
    have re3 := det3_rng hp n0 n1 n2 n3 n4 n5 m6 m7 m8
    obtain ⟨e3, he3⟩ : ∃ e : Int, Hid (e = det3 p n0 n1 n2 n3 n4 n5 m6 m7 m8) := ⟨_, rfl⟩
    have hd3 : Hid (∀ w' : World, Calls Try.prog 70 #[.int .i64 p, .agg #[.int .i64 n0, .int .i64 n1, .int .i64 n2], .agg #[.int .i64 n3, .int .i64 n4, .int .i64 n5], .agg #[.int .i64 m6, .int .i64 m7, .int .i64 m8]] w' fun e w'' => e = .returned (.int .i64 e3) ∧ Below w'.heap.size w' w'') := fun w' => (l01Det_any p n0 n1 n2 n3 n4 n5 m6 m7 m8 w' k1 k2 un0 un1 un2 un3 un4 un5 um6 um7 um8).mono fun _ _ h => ⟨by rw [he3.out]; exact h.1, h.2⟩
    rw [← he3.out] at re3 hE0
    have rx3 := sum_rng hp (0) e3
    obtain ⟨x3, hx3⟩ : ∃ x : Int, Hid (x = (e3) % p) := ⟨_, rfl⟩
    simp only [Int.zero_add] at rx3 hE0
    rw [← hx3.out] at rx3 hE0
    have hw3 : IntKind.i64.wrap (e3) = e3 := by go_arith
    have ht3 : (e3).tmod p = x3 := by rw [hx3.out]; exact Int.tmod_eq_emod_of_nonneg (by omega)
    have re4 := det3_rng hp m0 m1 m2 m3 m4 m5 n6 n7 n8
    obtain ⟨e4, he4⟩ : ∃ e : Int, Hid (e = det3 p m0 m1 m2 m3 m4 m5 n6 n7 n8) := ⟨_, rfl⟩
    have hd4 : Hid (∀ w' : World, Calls Try.prog 70 #[.int .i64 p, .agg #[.int .i64 m0, .int .i64 m1, .int .i64 m2], .agg #[.int .i64 m3, .int .i64 m4, .int .i64 m5], .agg #[.int .i64 n6, .int .i64 n7, .int .i64 n8]] w' fun e w'' => e = .returned (.int .i64 e4) ∧ Below w'.heap.size w' w'') := fun w' => (l01Det_any p m0 m1 m2 m3 m4 m5 n6 n7 n8 w' k1 k2 um0 um1 um2 um3 um4 um5 un6 un7 un8).mono fun _ _ h => ⟨by rw [he4.out]; exact h.1, h.2⟩
    rw [← he4.out] at re4 hE0
    have rx4 := sum_rng hp (x2) e4
    obtain ⟨x4, hx4⟩ : ∃ x : Int, Hid (x = (x2 + e4) % p) := ⟨_, rfl⟩
    
    rw [← hx4.out] at rx4 hE0
    have hw4 : IntKind.i64.wrap (x2 + e4) = x2 + e4 := by go_arith
    have ht4 : (x2 + e4).tmod p = x4 := by rw [hx4.out]; exact Int.tmod_eq_emod_of_nonneg (by omega)
    have re5 := det3_rng hp n0 n1 n2 m3 m4 m5 n6 n7 n8
    obtain ⟨e5, he5⟩ : ∃ e : Int, Hid (e = det3 p n0 n1 n2 m3 m4 m5 n6 n7 n8) := ⟨_, rfl⟩
    have hd5 : Hid (∀ w' : World, Calls Try.prog 70 #[.int .i64 p, .agg #[.int .i64 n0, .int .i64 n1, .int .i64 n2], .agg #[.int .i64 m3, .int .i64 m4, .int .i64 m5], .agg #[.int .i64 n6, .int .i64 n7, .int .i64 n8]] w' fun e w'' => e = .returned (.int .i64 e5) ∧ Below w'.heap.size w' w'') := fun w' => (l01Det_any p n0 n1 n2 m3 m4 m5 n6 n7 n8 w' k1 k2 un0 un1 un2 um3 um4 um5 un6 un7 un8).mono fun _ _ h => ⟨by rw [he5.out]; exact h.1, h.2⟩
    rw [← he5.out] at re5 hE0
    have rx5 := sum_rng hp (x3) e5
    obtain ⟨x5, hx5⟩ : ∃ x : Int, Hid (x = (x3 + e5) % p) := ⟨_, rfl⟩
    
    rw [← hx5.out] at rx5 hE0
    have hw5 : IntKind.i64.wrap (x3 + e5) = x3 + e5 := by go_arith
    have ht5 : (x3 + e5).tmod p = x5 := by rw [hx5.out]; exact Int.tmod_eq_emod_of_nonneg (by omega)
    have re6 := det3_rng hp m0 m1 m2 n3 n4 n5 n6 n7 n8
    obtain ⟨e6, he6⟩ : ∃ e : Int, Hid (e = det3 p m0 m1 m2 n3 n4 n5 n6 n7 n8) := ⟨_, rfl⟩
    have hd6 : Hid (∀ w' : World, Calls Try.prog 70 #[.int .i64 p, .agg #[.int .i64 m0, .int .i64 m1, .int .i64 m2], .agg #[.int .i64 n3, .int .i64 n4, .int .i64 n5], .agg #[.int .i64 n6, .int .i64 n7, .int .i64 n8]] w' fun e w'' => e = .returned (.int .i64 e6) ∧ Below w'.heap.size w' w'') := fun w' => (l01Det_any p m0 m1 m2 n3 n4 n5 n6 n7 n8 w' k1 k2 um0 um1 um2 un3 un4 un5 un6 un7 un8).mono fun _ _ h => ⟨by rw [he6.out]; exact h.1, h.2⟩
    rw [← he6.out] at re6 hE0
    have rx6 := sum_rng hp (x5) e6
    obtain ⟨x6, hx6⟩ : ∃ x : Int, Hid (x = (x5 + e6) % p) := ⟨_, rfl⟩
    
    rw [← hx6.out] at rx6 hE0
    have hw6 : IntKind.i64.wrap (x5 + e6) = x5 + e6 := by go_arith
    have ht6 : (x5 + e6).tmod p = x6 := by rw [hx6.out]; exact Int.tmod_eq_emod_of_nonneg (by omega)
    have re7 := det3_rng hp n0 n1 n2 n3 n4 n5 n6 n7 n8
    obtain ⟨e7, he7⟩ : ∃ e : Int, Hid (e = det3 p n0 n1 n2 n3 n4 n5 n6 n7 n8) := ⟨_, rfl⟩
    have hd7 : Hid (∀ w' : World, Calls Try.prog 70 #[.int .i64 p, .agg #[.int .i64 n0, .int .i64 n1, .int .i64 n2], .agg #[.int .i64 n3, .int .i64 n4, .int .i64 n5], .agg #[.int .i64 n6, .int .i64 n7, .int .i64 n8]] w' fun e w'' => e = .returned (.int .i64 e7) ∧ Below w'.heap.size w' w'') := fun w' => (l01Det_any p n0 n1 n2 n3 n4 n5 n6 n7 n8 w' k1 k2 un0 un1 un2 un3 un4 un5 un6 un7 un8).mono fun _ _ h => ⟨by rw [he7.out]; exact h.1, h.2⟩
    rw [← he7.out] at re7 hE0
    have rx7 := sum_rng hp (0) e7
    obtain ⟨x7, hx7⟩ : ∃ x : Int, Hid (x = (e7) % p) := ⟨_, rfl⟩
    simp only [Int.zero_add] at rx7 hE0
    rw [← hx7.out] at rx7 hE0
    have hw7 : IntKind.i64.wrap (e7) = e7 := by go_arith
    have ht7 : (e7).tmod p = x7 := by rw [hx7.out]; exact Int.tmod_eq_emod_of_nonneg (by omega)
    have hE := Lib.hid hE0
    clear hE0 hus HP um0 um1 um2 um3 um4 um5 um6 um7 um8 un0 un1 un2 un3 un4 un5 un6 un7 un8
    have hp0 : ¬ p = 0 := by omega
    have hl0 : IntKind.i64.wrap 0 = 0 := by decide
    have hl1 : IntKind.i64.wrap 1 = 1 := by decide
    have hl2 : IntKind.i64.wrap 2 = 2 := by decide
    have hl3 : IntKind.i64.wrap 3 = 3 := by decide
    have hl4 : IntKind.i64.wrap 4 = 4 := by decide
    have hl5 : IntKind.i64.wrap 5 = 5 := by decide
    have hl6 : IntKind.i64.wrap 6 = 6 := by decide
    have hl7 : IntKind.i64.wrap 7 = 7 := by decide
    have hl8 : IntKind.i64.wrap 8 = 8 := by decide
    generalize hwA : wc = wA at *
    go_wp2_with fail
    refine wp_loop_rounds 9 ?_
    rw [rounds_succ]
    go_wp2_with fail
    have HO0 := OwnA.made (n := 3) 35 wA #[] 0 wA.heap.size (Nat.le_refl _) (by unfold maxLen; omega) rfl
    have hb0 : Below wA.heap.size wA (wA.alloc (.cells #[] 35)) := Below.alloc (Below.refl _ _) (Nat.le_refl _) _
    obtain ⟨p10, p11, p12, q10, q11, q12, q13, q14, q15, q16, q17, q18⟩ := id A1
    obtain ⟨p20, p21, p22, q20, q21, q22, q23, q24, q25, q26, q27, q28⟩ := id A2
    refine wp_loop_rounds 4 ?_
    have pa := keepC hb0 p10
    
    have o0 := keepC hb0 q10
    have o1 := keepC hb0 q11
    have o2 := keepC hb0 q12
    have hbs0 := hb0.size
    rw [rounds_succ]
    go_wp2_with fail
    have hOa : OwnA 35 3 ((wA.alloc (.cells #[] 35)).alloc (.cells #[.int .i64 m0, .int .i64 m1, .int .i64 m2] 35)).drew wA.heap.size (.slice (some ⟨wA.heap.size, 0, none⟩) 0 0) [] := OwnA.alloc HO0 (.cells #[.int .i64 m0, .int .i64 m1, .int .i64 m2] 35)
    have hNa : Box 35 ((wA.alloc (.cells #[] 35)).alloc (.cells #[.int .i64 m0, .int .i64 m1, .int .i64 m2] 35)).drew (wA.heap.size + 1) [m0, m1, m2] := Box.new [m0, m1, m2] (by simp)
    go_region_held3 (fun w' => w'.cell? ⟨xa1, 0, none⟩ = some (.int .i64 m0) ∧ w'.cell? ⟨xa1, 1, none⟩ = some (.int .i64 m1) ∧ w'.cell? ⟨xa1, 2, none⟩ = some (.int .i64 m2) ∧ Below wA.heap.size wA w') ((go_split_ands; (repeat (any_goals (with_reducible apply And.intro))) <;> (first | (with_reducible assumption) | (with_reducible exact keepD (by with_reducible assumption)) | (with_reducible exact keepD (keepA _ (by with_reducible assumption))) | (with_reducible exact Below.drew (by with_reducible assumption)) | (with_reducible exact Below.drew (Below.alloc hb0 hbs0 _)) | (with_reducible exact keepC hBn (by with_reducible assumption))))) ((refine appA_step Try.underlying93 info_Point rfl (by omega) (by omega) rfl _ _ rfl wA.heap.size _ [] [m0, m1, m2] rfl hOa rfl hNa rfl 1 rfl (by simp) (by go_size) ?_; intro g3 cap0 wb1 HO1 hgr hBk; have hBn := hBk wA.heap.size wA (Below.drew (Below.alloc hb0 hbs0 _)) (Nat.le_refl _)))
    rename_i hH; clear hH
    go_wp2_with fail
    have hb1 := hBn
    clear hBn hgr hBk hOa hNa o0 o1 o2 pa HO0 hb0 hbs0
    have pa := keepC hb1 p11
    
    have o0 := keepC hb1 q13
    have o1 := keepC hb1 q14
    have o2 := keepC hb1 q15
    have hbs1 := hb1.size
    rw [rounds_succ]
    go_wp2_with fail
    have hOa : OwnA 35 3 (wb1.alloc (.cells #[.int .i64 m3, .int .i64 m4, .int .i64 m5] 35)).drew wA.heap.size (.slice (some ⟨g3, 0, none⟩) 1 cap0) [[m0, m1, m2]] := OwnA.alloc HO1 (.cells #[.int .i64 m3, .int .i64 m4, .int .i64 m5] 35)
    have hNa : Box 35 (wb1.alloc (.cells #[.int .i64 m3, .int .i64 m4, .int .i64 m5] 35)).drew (wb1.heap.size) [m3, m4, m5] := Box.new [m3, m4, m5] (by simp)
    go_region_held3 (fun w' => w'.cell? ⟨xb1, 0, none⟩ = some (.int .i64 m3) ∧ w'.cell? ⟨xb1, 1, none⟩ = some (.int .i64 m4) ∧ w'.cell? ⟨xb1, 2, none⟩ = some (.int .i64 m5) ∧ Below wA.heap.size wA w') ((go_split_ands; (repeat (any_goals (with_reducible apply And.intro))) <;> (first | (with_reducible assumption) | (with_reducible exact keepD (by with_reducible assumption)) | (with_reducible exact keepD (keepA _ (by with_reducible assumption))) | (with_reducible exact Below.drew (by with_reducible assumption)) | (with_reducible exact Below.drew (Below.alloc hb1 hbs1 _)) | (with_reducible exact keepC hBn (by with_reducible assumption))))) ((refine appA_step Try.underlying93 info_Point rfl (by omega) (by omega) rfl _ _ rfl wA.heap.size _ [[m0, m1, m2]] [m3, m4, m5] rfl hOa rfl hNa rfl 2 rfl (by simp) (by go_size) ?_; intro g4 cap1 wb2 HO2 hgr hBk; have hBn := hBk wA.heap.size wA (Below.drew (Below.alloc hb1 hbs1 _)) (Nat.le_refl _)))
    rename_i hH; clear hH
    go_wp2_with fail
    have hb2 := hBn
    clear hBn hgr hBk hOa hNa o0 o1 o2 pa HO1 hb1 hbs1
    have pa := keepC hb2 p12
    
    have o0 := keepC hb2 q16
    have o1 := keepC hb2 q17
    have o2 := keepC hb2 q18
    have hbs2 := hb2.size
    rw [rounds_succ]
    go_wp2_with fail
    have hOa : OwnA 35 3 (wb2.alloc (.cells #[.int .i64 m6, .int .i64 m7, .int .i64 m8] 35)).drew wA.heap.size (.slice (some ⟨g4, 0, none⟩) 2 cap1) [[m0, m1, m2], [m3, m4, m5]] := OwnA.alloc HO2 (.cells #[.int .i64 m6, .int .i64 m7, .int .i64 m8] 35)
    have hNa : Box 35 (wb2.alloc (.cells #[.int .i64 m6, .int .i64 m7, .int .i64 m8] 35)).drew (wb2.heap.size) [m6, m7, m8] := Box.new [m6, m7, m8] (by simp)
    go_region_held3 (fun w' => w'.cell? ⟨xc1, 0, none⟩ = some (.int .i64 m6) ∧ w'.cell? ⟨xc1, 1, none⟩ = some (.int .i64 m7) ∧ w'.cell? ⟨xc1, 2, none⟩ = some (.int .i64 m8) ∧ Below wA.heap.size wA w') ((go_split_ands; (repeat (any_goals (with_reducible apply And.intro))) <;> (first | (with_reducible assumption) | (with_reducible exact keepD (by with_reducible assumption)) | (with_reducible exact keepD (keepA _ (by with_reducible assumption))) | (with_reducible exact Below.drew (by with_reducible assumption)) | (with_reducible exact Below.drew (Below.alloc hb2 hbs2 _)) | (with_reducible exact keepC hBn (by with_reducible assumption))))) ((refine appA_step Try.underlying93 info_Point rfl (by omega) (by omega) rfl _ _ rfl wA.heap.size _ [[m0, m1, m2], [m3, m4, m5]] [m6, m7, m8] rfl hOa rfl hNa rfl 3 rfl (by simp) (by go_size) ?_; intro g5 cap2 wb3 HO3 hgr hBk; have hBn := hBk wA.heap.size wA (Below.drew (Below.alloc hb2 hbs2 _)) (Nat.le_refl _)))
    rename_i hH; clear hH
    go_wp2_with fail
    have hb3 := hBn
    clear hBn hgr hBk hOa hNa o0 o1 o2 pa HO2 hb2 hbs2
    rw [rounds_succ]
    go_wp2_with fail
    obtain ⟨-, hlg, hrd, -, -, -⟩ := HO3.at_
    have z0 : wb3.cell? ⟨g5, 0, none⟩ = some (.int .i64 m0) := hrd 0 _ rfl 0 _ rfl
    have z1 : wb3.cell? ⟨g5, 1, none⟩ = some (.int .i64 m1) := hrd 0 _ rfl 1 _ rfl
    have z2 : wb3.cell? ⟨g5, 2, none⟩ = some (.int .i64 m2) := hrd 0 _ rfl 2 _ rfl
    have z3 : wb3.cell? ⟨g5, 3, none⟩ = some (.int .i64 m3) := hrd 1 _ rfl 0 _ rfl
    have z4 : wb3.cell? ⟨g5, 4, none⟩ = some (.int .i64 m4) := hrd 1 _ rfl 1 _ rfl
    have z5 : wb3.cell? ⟨g5, 5, none⟩ = some (.int .i64 m5) := hrd 1 _ rfl 2 _ rfl
    have z6 : wb3.cell? ⟨g5, 6, none⟩ = some (.int .i64 m6) := hrd 2 _ rfl 0 _ rfl
    have z7 : wb3.cell? ⟨g5, 7, none⟩ = some (.int .i64 m7) := hrd 2 _ rfl 1 _ rfl
    have z8 : wb3.cell? ⟨g5, 8, none⟩ = some (.int .i64 m8) := hrd 2 _ rfl 2 _ rfl
    have hbo := Box.below hb3 Bo
    have hsB := hb3.size
    clear HO3 hrd p10 p20 p11 p21 p12 p22 q10 q20 q11 q21 q12 q22 q13 q23 q14 q24 q15 q25 q16 q26 q17 q27 q18 q28
    refine wp_region_tailS 21 (fun w' => Below wb3.heap.size wb3 w') (by kernel_rfl) (by kernel_rfl) (Below.drew (Below.refl _ _)) ?_
    simp only [List.take_succ_cons, List.take_zero, List.drop_succ_cons, List.drop_zero]
    repeat (first
      | (refine stillS_read ?_ (by rfl) (fun w' hS => ?_) ?_; rotate_left; (focus (have y0 := keepC hS z0; have y1 := keepC hS z1; have y2 := keepC hS z2; have y3 := keepC hS z3; have y4 := keepC hS z4; have y5 := keepC hS z5; have y6 := keepC hS z6; have y7 := keepC hS z7; have y8 := keepC hS z8; have qo := keepC hS (hbo.cell 0 rfl); clear hS; go_simp; (try with_reducible rfl); done)); (try simp only [Act.put, List.setIfInBounds_toArray, List.set_cons_zero, List.set_cons_succ]))
      | (refine stillS_call (.int .i64 e0) 70 ?_ (by rfl) (fun w' => ?_) (fun w' hS => ?_) ?_; rotate_left; (focus (go_simp; (try with_reducible rfl); done)); (focus (refine (hd0.out _).mono ?_; rintro e w'' ⟨rfl, hb⟩; exact ⟨rfl, keepB hb hS (Nat.le_refl _)⟩)); (try simp only [Act.put, List.setIfInBounds_toArray, List.set_cons_zero, List.set_cons_succ])))
    refine stillS_nil ?_
    rintro wz hS
    have hbz := Box.below hS hbo
    have st := hbz.cell 0 rfl
    have sf := hbz.frz 0
    go_wp2_with fail
    replace A1 := A1.far (i := 0) (u := .int .i64 x0) (fun b o u h => keepC hS (keepC hb3 h)) kg1 ka1 kb1 kc1
    replace A2 := A2.far (i := 0) (u := .int .i64 x0) (fun b o u h => keepC hS (keepC hb3 h)) kg2 ka2 kb2 kc2
    replace Bo : Box 2 (wz.setCell ⟨go, 0, none⟩ (.int .i64 x0)) go [x0, 0, 0, 0] := hbz.set 0 x0
    replace hB : Below w.heap.size w (wz.setCell ⟨go, 0, none⟩ (.int .i64 x0)) := Below.setCell (p := ⟨go, 0, none⟩) (keepB hS (keepB hb3 hB (Nat.le_refl _)) (Nat.le_refl _)) hgo _
    clear st sf hbz hS hb3 hbo hsB hlg z0 z1 z2 z3 z4 z5 z6 z7 z8
    generalize wz.setCell ⟨go, 0, none⟩ (.int .i64 x0) = wA at *
    rw [rounds_succ]
    go_wp2_with fail
    have HO0 := OwnA.made (n := 3) 35 wA #[] 0 wA.heap.size (Nat.le_refl _) (by unfold maxLen; omega) rfl
    have hb0 : Below wA.heap.size wA (wA.alloc (.cells #[] 35)) := Below.alloc (Below.refl _ _) (Nat.le_refl _) _
    obtain ⟨p10, p11, p12, q10, q11, q12, q13, q14, q15, q16, q17, q18⟩ := id A1
    obtain ⟨p20, p21, p22, q20, q21, q22, q23, q24, q25, q26, q27, q28⟩ := id A2
    refine wp_loop_rounds 4 ?_
    have pa := keepC hb0 p10
    have pb := keepC hb0 p20
    have o0 := keepC hb0 q20
    have o1 := keepC hb0 q21
    have o2 := keepC hb0 q22
    have hbs0 := hb0.size
    rw [rounds_succ]
    go_wp2_with fail
    have hOa : OwnA 35 3 ((wA.alloc (.cells #[] 35)).alloc (.cells #[.int .i64 n0, .int .i64 n1, .int .i64 n2] 35)).drew wA.heap.size (.slice (some ⟨wA.heap.size, 0, none⟩) 0 0) [] := OwnA.alloc HO0 (.cells #[.int .i64 n0, .int .i64 n1, .int .i64 n2] 35)
    have hNa : Box 35 ((wA.alloc (.cells #[] 35)).alloc (.cells #[.int .i64 n0, .int .i64 n1, .int .i64 n2] 35)).drew (wA.heap.size + 1) [n0, n1, n2] := Box.new [n0, n1, n2] (by simp)
    go_region_held3 (fun w' => w'.cell? ⟨xa2, 0, none⟩ = some (.int .i64 n0) ∧ w'.cell? ⟨xa2, 1, none⟩ = some (.int .i64 n1) ∧ w'.cell? ⟨xa2, 2, none⟩ = some (.int .i64 n2) ∧ Below wA.heap.size wA w') ((go_split_ands; (repeat (any_goals (with_reducible apply And.intro))) <;> (first | (with_reducible assumption) | (with_reducible exact keepD (by with_reducible assumption)) | (with_reducible exact keepD (keepA _ (by with_reducible assumption))) | (with_reducible exact Below.drew (by with_reducible assumption)) | (with_reducible exact Below.drew (Below.alloc hb0 hbs0 _)) | (with_reducible exact keepC hBn (by with_reducible assumption))))) ((refine appA_step Try.underlying93 info_Point rfl (by omega) (by omega) rfl _ _ rfl wA.heap.size _ [] [n0, n1, n2] rfl hOa rfl hNa rfl 1 rfl (by simp) (by go_size) ?_; intro g3 cap0 wb1 HO1 hgr hBk; have hBn := hBk wA.heap.size wA (Below.drew (Below.alloc hb0 hbs0 _)) (Nat.le_refl _)))
    rename_i hH; clear hH
    go_wp2_with fail
    have hb1 := hBn
    clear hBn hgr hBk hOa hNa o0 o1 o2 pa pb HO0 hb0 hbs0
    have pa := keepC hb1 p11
    
    have o0 := keepC hb1 q13
    have o1 := keepC hb1 q14
    have o2 := keepC hb1 q15
    have hbs1 := hb1.size
    rw [rounds_succ]
    go_wp2_with fail
    have hOa : OwnA 35 3 (wb1.alloc (.cells #[.int .i64 m3, .int .i64 m4, .int .i64 m5] 35)).drew wA.heap.size (.slice (some ⟨g3, 0, none⟩) 1 cap0) [[n0, n1, n2]] := OwnA.alloc HO1 (.cells #[.int .i64 m3, .int .i64 m4, .int .i64 m5] 35)
    have hNa : Box 35 (wb1.alloc (.cells #[.int .i64 m3, .int .i64 m4, .int .i64 m5] 35)).drew (wb1.heap.size) [m3, m4, m5] := Box.new [m3, m4, m5] (by simp)
    go_region_held3 (fun w' => w'.cell? ⟨xb1, 0, none⟩ = some (.int .i64 m3) ∧ w'.cell? ⟨xb1, 1, none⟩ = some (.int .i64 m4) ∧ w'.cell? ⟨xb1, 2, none⟩ = some (.int .i64 m5) ∧ Below wA.heap.size wA w') ((go_split_ands; (repeat (any_goals (with_reducible apply And.intro))) <;> (first | (with_reducible assumption) | (with_reducible exact keepD (by with_reducible assumption)) | (with_reducible exact keepD (keepA _ (by with_reducible assumption))) | (with_reducible exact Below.drew (by with_reducible assumption)) | (with_reducible exact Below.drew (Below.alloc hb1 hbs1 _)) | (with_reducible exact keepC hBn (by with_reducible assumption))))) ((refine appA_step Try.underlying93 info_Point rfl (by omega) (by omega) rfl _ _ rfl wA.heap.size _ [[n0, n1, n2]] [m3, m4, m5] rfl hOa rfl hNa rfl 2 rfl (by simp) (by go_size) ?_; intro g4 cap1 wb2 HO2 hgr hBk; have hBn := hBk wA.heap.size wA (Below.drew (Below.alloc hb1 hbs1 _)) (Nat.le_refl _)))
    rename_i hH; clear hH
    go_wp2_with fail
    have hb2 := hBn
    clear hBn hgr hBk hOa hNa o0 o1 o2 pa HO1 hb1 hbs1
    have pa := keepC hb2 p12
    
    have o0 := keepC hb2 q16
    have o1 := keepC hb2 q17
    have o2 := keepC hb2 q18
    have hbs2 := hb2.size
    rw [rounds_succ]
    go_wp2_with fail
    have hOa : OwnA 35 3 (wb2.alloc (.cells #[.int .i64 m6, .int .i64 m7, .int .i64 m8] 35)).drew wA.heap.size (.slice (some ⟨g4, 0, none⟩) 2 cap1) [[n0, n1, n2], [m3, m4, m5]] := OwnA.alloc HO2 (.cells #[.int .i64 m6, .int .i64 m7, .int .i64 m8] 35)
    have hNa : Box 35 (wb2.alloc (.cells #[.int .i64 m6, .int .i64 m7, .int .i64 m8] 35)).drew (wb2.heap.size) [m6, m7, m8] := Box.new [m6, m7, m8] (by simp)
    go_region_held3 (fun w' => w'.cell? ⟨xc1, 0, none⟩ = some (.int .i64 m6) ∧ w'.cell? ⟨xc1, 1, none⟩ = some (.int .i64 m7) ∧ w'.cell? ⟨xc1, 2, none⟩ = some (.int .i64 m8) ∧ Below wA.heap.size wA w') ((go_split_ands; (repeat (any_goals (with_reducible apply And.intro))) <;> (first | (with_reducible assumption) | (with_reducible exact keepD (by with_reducible assumption)) | (with_reducible exact keepD (keepA _ (by with_reducible assumption))) | (with_reducible exact Below.drew (by with_reducible assumption)) | (with_reducible exact Below.drew (Below.alloc hb2 hbs2 _)) | (with_reducible exact keepC hBn (by with_reducible assumption))))) ((refine appA_step Try.underlying93 info_Point rfl (by omega) (by omega) rfl _ _ rfl wA.heap.size _ [[n0, n1, n2], [m3, m4, m5]] [m6, m7, m8] rfl hOa rfl hNa rfl 3 rfl (by simp) (by go_size) ?_; intro g5 cap2 wb3 HO3 hgr hBk; have hBn := hBk wA.heap.size wA (Below.drew (Below.alloc hb2 hbs2 _)) (Nat.le_refl _)))
    rename_i hH; clear hH
    go_wp2_with fail
    have hb3 := hBn
    clear hBn hgr hBk hOa hNa o0 o1 o2 pa HO2 hb2 hbs2
    rw [rounds_succ]
    go_wp2_with fail
    obtain ⟨-, hlg, hrd, -, -, -⟩ := HO3.at_
    have z0 : wb3.cell? ⟨g5, 0, none⟩ = some (.int .i64 n0) := hrd 0 _ rfl 0 _ rfl
    have z1 : wb3.cell? ⟨g5, 1, none⟩ = some (.int .i64 n1) := hrd 0 _ rfl 1 _ rfl
    have z2 : wb3.cell? ⟨g5, 2, none⟩ = some (.int .i64 n2) := hrd 0 _ rfl 2 _ rfl
    have z3 : wb3.cell? ⟨g5, 3, none⟩ = some (.int .i64 m3) := hrd 1 _ rfl 0 _ rfl
    have z4 : wb3.cell? ⟨g5, 4, none⟩ = some (.int .i64 m4) := hrd 1 _ rfl 1 _ rfl
    have z5 : wb3.cell? ⟨g5, 5, none⟩ = some (.int .i64 m5) := hrd 1 _ rfl 2 _ rfl
    have z6 : wb3.cell? ⟨g5, 6, none⟩ = some (.int .i64 m6) := hrd 2 _ rfl 0 _ rfl
    have z7 : wb3.cell? ⟨g5, 7, none⟩ = some (.int .i64 m7) := hrd 2 _ rfl 1 _ rfl
    have z8 : wb3.cell? ⟨g5, 8, none⟩ = some (.int .i64 m8) := hrd 2 _ rfl 2 _ rfl
    have hbo := Box.below hb3 Bo
    have hsB := hb3.size
    clear HO3 hrd p10 p20 p11 p21 p12 p22 q10 q20 q11 q21 q12 q22 q13 q23 q14 q24 q15 q25 q16 q26 q17 q27 q18 q28
    refine wp_region_tailS 21 (fun w' => Below wb3.heap.size wb3 w') (by kernel_rfl) (by kernel_rfl) (Below.drew (Below.refl _ _)) ?_
    simp only [List.take_succ_cons, List.take_zero, List.drop_succ_cons, List.drop_zero]
    repeat (first
      | (refine stillS_read ?_ (by rfl) (fun w' hS => ?_) ?_; rotate_left; (focus (have y0 := keepC hS z0; have y1 := keepC hS z1; have y2 := keepC hS z2; have y3 := keepC hS z3; have y4 := keepC hS z4; have y5 := keepC hS z5; have y6 := keepC hS z6; have y7 := keepC hS z7; have y8 := keepC hS z8; have qo := keepC hS (hbo.cell 1 rfl); clear hS; go_simp; (try with_reducible rfl); done)); (try simp only [Act.put, List.setIfInBounds_toArray, List.set_cons_zero, List.set_cons_succ]))
      | (refine stillS_call (.int .i64 e1) 70 ?_ (by rfl) (fun w' => ?_) (fun w' hS => ?_) ?_; rotate_left; (focus (go_simp; (try with_reducible rfl); done)); (focus (refine (hd1.out _).mono ?_; rintro e w'' ⟨rfl, hb⟩; exact ⟨rfl, keepB hb hS (Nat.le_refl _)⟩)); (try simp only [Act.put, List.setIfInBounds_toArray, List.set_cons_zero, List.set_cons_succ])))
    refine stillS_nil ?_
    rintro wz hS
    have hbz := Box.below hS hbo
    have st := hbz.cell 1 rfl
    have sf := hbz.frz 1
    go_wp2_with fail
    replace A1 := A1.far (i := 1) (u := .int .i64 x1) (fun b o u h => keepC hS (keepC hb3 h)) kg1 ka1 kb1 kc1
    replace A2 := A2.far (i := 1) (u := .int .i64 x1) (fun b o u h => keepC hS (keepC hb3 h)) kg2 ka2 kb2 kc2
    replace Bo : Box 2 (wz.setCell ⟨go, 1, none⟩ (.int .i64 x1)) go [x0, x1, 0, 0] := hbz.set 1 x1
    replace hB : Below w.heap.size w (wz.setCell ⟨go, 1, none⟩ (.int .i64 x1)) := Below.setCell (p := ⟨go, 1, none⟩) (keepB hS (keepB hb3 hB (Nat.le_refl _)) (Nat.le_refl _)) hgo _
    clear st sf hbz hS hb3 hbo hsB hlg z0 z1 z2 z3 z4 z5 z6 z7 z8
    generalize wz.setCell ⟨go, 1, none⟩ (.int .i64 x1) = wA at *
    rw [rounds_succ]
    go_wp2_with fail
    have HO0 := OwnA.made (n := 3) 35 wA #[] 0 wA.heap.size (Nat.le_refl _) (by unfold maxLen; omega) rfl
    have hb0 : Below wA.heap.size wA (wA.alloc (.cells #[] 35)) := Below.alloc (Below.refl _ _) (Nat.le_refl _) _
    obtain ⟨p10, p11, p12, q10, q11, q12, q13, q14, q15, q16, q17, q18⟩ := id A1
    obtain ⟨p20, p21, p22, q20, q21, q22, q23, q24, q25, q26, q27, q28⟩ := id A2
    refine wp_loop_rounds 4 ?_
    have pa := keepC hb0 p10
    
    have o0 := keepC hb0 q10
    have o1 := keepC hb0 q11
    have o2 := keepC hb0 q12
    have hbs0 := hb0.size
    rw [rounds_succ]
    go_wp2_with fail
    have hOa : OwnA 35 3 ((wA.alloc (.cells #[] 35)).alloc (.cells #[.int .i64 m0, .int .i64 m1, .int .i64 m2] 35)).drew wA.heap.size (.slice (some ⟨wA.heap.size, 0, none⟩) 0 0) [] := OwnA.alloc HO0 (.cells #[.int .i64 m0, .int .i64 m1, .int .i64 m2] 35)
    have hNa : Box 35 ((wA.alloc (.cells #[] 35)).alloc (.cells #[.int .i64 m0, .int .i64 m1, .int .i64 m2] 35)).drew (wA.heap.size + 1) [m0, m1, m2] := Box.new [m0, m1, m2] (by simp)
    go_region_held3 (fun w' => w'.cell? ⟨xa1, 0, none⟩ = some (.int .i64 m0) ∧ w'.cell? ⟨xa1, 1, none⟩ = some (.int .i64 m1) ∧ w'.cell? ⟨xa1, 2, none⟩ = some (.int .i64 m2) ∧ Below wA.heap.size wA w') ((go_split_ands; (repeat (any_goals (with_reducible apply And.intro))) <;> (first | (with_reducible assumption) | (with_reducible exact keepD (by with_reducible assumption)) | (with_reducible exact keepD (keepA _ (by with_reducible assumption))) | (with_reducible exact Below.drew (by with_reducible assumption)) | (with_reducible exact Below.drew (Below.alloc hb0 hbs0 _)) | (with_reducible exact keepC hBn (by with_reducible assumption))))) ((refine appA_step Try.underlying93 info_Point rfl (by omega) (by omega) rfl _ _ rfl wA.heap.size _ [] [m0, m1, m2] rfl hOa rfl hNa rfl 1 rfl (by simp) (by go_size) ?_; intro g3 cap0 wb1 HO1 hgr hBk; have hBn := hBk wA.heap.size wA (Below.drew (Below.alloc hb0 hbs0 _)) (Nat.le_refl _)))
    rename_i hH; clear hH
    go_wp2_with fail
    have hb1 := hBn
    clear hBn hgr hBk hOa hNa o0 o1 o2 pa HO0 hb0 hbs0
    have pa := keepC hb1 p11
    have pb := keepC hb1 p21
    have o0 := keepC hb1 q23
    have o1 := keepC hb1 q24
    have o2 := keepC hb1 q25
    have hbs1 := hb1.size
    rw [rounds_succ]
    go_wp2_with fail
    have hOa : OwnA 35 3 (wb1.alloc (.cells #[.int .i64 n3, .int .i64 n4, .int .i64 n5] 35)).drew wA.heap.size (.slice (some ⟨g3, 0, none⟩) 1 cap0) [[m0, m1, m2]] := OwnA.alloc HO1 (.cells #[.int .i64 n3, .int .i64 n4, .int .i64 n5] 35)
    have hNa : Box 35 (wb1.alloc (.cells #[.int .i64 n3, .int .i64 n4, .int .i64 n5] 35)).drew (wb1.heap.size) [n3, n4, n5] := Box.new [n3, n4, n5] (by simp)
    go_region_held3 (fun w' => w'.cell? ⟨xb2, 0, none⟩ = some (.int .i64 n3) ∧ w'.cell? ⟨xb2, 1, none⟩ = some (.int .i64 n4) ∧ w'.cell? ⟨xb2, 2, none⟩ = some (.int .i64 n5) ∧ Below wA.heap.size wA w') ((go_split_ands; (repeat (any_goals (with_reducible apply And.intro))) <;> (first | (with_reducible assumption) | (with_reducible exact keepD (by with_reducible assumption)) | (with_reducible exact keepD (keepA _ (by with_reducible assumption))) | (with_reducible exact Below.drew (by with_reducible assumption)) | (with_reducible exact Below.drew (Below.alloc hb1 hbs1 _)) | (with_reducible exact keepC hBn (by with_reducible assumption))))) ((refine appA_step Try.underlying93 info_Point rfl (by omega) (by omega) rfl _ _ rfl wA.heap.size _ [[m0, m1, m2]] [n3, n4, n5] rfl hOa rfl hNa rfl 2 rfl (by simp) (by go_size) ?_; intro g4 cap1 wb2 HO2 hgr hBk; have hBn := hBk wA.heap.size wA (Below.drew (Below.alloc hb1 hbs1 _)) (Nat.le_refl _)))
    rename_i hH; clear hH
    go_wp2_with fail
    have hb2 := hBn
    clear hBn hgr hBk hOa hNa o0 o1 o2 pa pb HO1 hb1 hbs1
    have pa := keepC hb2 p12
    
    have o0 := keepC hb2 q16
    have o1 := keepC hb2 q17
    have o2 := keepC hb2 q18
    have hbs2 := hb2.size
    rw [rounds_succ]
    go_wp2_with fail
    have hOa : OwnA 35 3 (wb2.alloc (.cells #[.int .i64 m6, .int .i64 m7, .int .i64 m8] 35)).drew wA.heap.size (.slice (some ⟨g4, 0, none⟩) 2 cap1) [[m0, m1, m2], [n3, n4, n5]] := OwnA.alloc HO2 (.cells #[.int .i64 m6, .int .i64 m7, .int .i64 m8] 35)
    have hNa : Box 35 (wb2.alloc (.cells #[.int .i64 m6, .int .i64 m7, .int .i64 m8] 35)).drew (wb2.heap.size) [m6, m7, m8] := Box.new [m6, m7, m8] (by simp)
    go_region_held3 (fun w' => w'.cell? ⟨xc1, 0, none⟩ = some (.int .i64 m6) ∧ w'.cell? ⟨xc1, 1, none⟩ = some (.int .i64 m7) ∧ w'.cell? ⟨xc1, 2, none⟩ = some (.int .i64 m8) ∧ Below wA.heap.size wA w') ((go_split_ands; (repeat (any_goals (with_reducible apply And.intro))) <;> (first | (with_reducible assumption) | (with_reducible exact keepD (by with_reducible assumption)) | (with_reducible exact keepD (keepA _ (by with_reducible assumption))) | (with_reducible exact Below.drew (by with_reducible assumption)) | (with_reducible exact Below.drew (Below.alloc hb2 hbs2 _)) | (with_reducible exact keepC hBn (by with_reducible assumption))))) ((refine appA_step Try.underlying93 info_Point rfl (by omega) (by omega) rfl _ _ rfl wA.heap.size _ [[m0, m1, m2], [n3, n4, n5]] [m6, m7, m8] rfl hOa rfl hNa rfl 3 rfl (by simp) (by go_size) ?_; intro g5 cap2 wb3 HO3 hgr hBk; have hBn := hBk wA.heap.size wA (Below.drew (Below.alloc hb2 hbs2 _)) (Nat.le_refl _)))
    rename_i hH; clear hH
    go_wp2_with fail
    have hb3 := hBn
    clear hBn hgr hBk hOa hNa o0 o1 o2 pa HO2 hb2 hbs2
    rw [rounds_succ]
    go_wp2_with fail
    obtain ⟨-, hlg, hrd, -, -, -⟩ := HO3.at_
    have z0 : wb3.cell? ⟨g5, 0, none⟩ = some (.int .i64 m0) := hrd 0 _ rfl 0 _ rfl
    have z1 : wb3.cell? ⟨g5, 1, none⟩ = some (.int .i64 m1) := hrd 0 _ rfl 1 _ rfl
    have z2 : wb3.cell? ⟨g5, 2, none⟩ = some (.int .i64 m2) := hrd 0 _ rfl 2 _ rfl
    have z3 : wb3.cell? ⟨g5, 3, none⟩ = some (.int .i64 n3) := hrd 1 _ rfl 0 _ rfl
    have z4 : wb3.cell? ⟨g5, 4, none⟩ = some (.int .i64 n4) := hrd 1 _ rfl 1 _ rfl
    have z5 : wb3.cell? ⟨g5, 5, none⟩ = some (.int .i64 n5) := hrd 1 _ rfl 2 _ rfl
    have z6 : wb3.cell? ⟨g5, 6, none⟩ = some (.int .i64 m6) := hrd 2 _ rfl 0 _ rfl
    have z7 : wb3.cell? ⟨g5, 7, none⟩ = some (.int .i64 m7) := hrd 2 _ rfl 1 _ rfl
    have z8 : wb3.cell? ⟨g5, 8, none⟩ = some (.int .i64 m8) := hrd 2 _ rfl 2 _ rfl
    have hbo := Box.below hb3 Bo
    have hsB := hb3.size
    clear HO3 hrd p10 p20 p11 p21 p12 p22 q10 q20 q11 q21 q12 q22 q13 q23 q14 q24 q15 q25 q16 q26 q17 q27 q18 q28
    refine wp_region_tailS 21 (fun w' => Below wb3.heap.size wb3 w') (by kernel_rfl) (by kernel_rfl) (Below.drew (Below.refl _ _)) ?_
    simp only [List.take_succ_cons, List.take_zero, List.drop_succ_cons, List.drop_zero]
    repeat (first
      | (refine stillS_read ?_ (by rfl) (fun w' hS => ?_) ?_; rotate_left; (focus (have y0 := keepC hS z0; have y1 := keepC hS z1; have y2 := keepC hS z2; have y3 := keepC hS z3; have y4 := keepC hS z4; have y5 := keepC hS z5; have y6 := keepC hS z6; have y7 := keepC hS z7; have y8 := keepC hS z8; have qo := keepC hS (hbo.cell 1 rfl); clear hS; go_simp; (try with_reducible rfl); done)); (try simp only [Act.put, List.setIfInBounds_toArray, List.set_cons_zero, List.set_cons_succ]))
      | (refine stillS_call (.int .i64 e2) 70 ?_ (by rfl) (fun w' => ?_) (fun w' hS => ?_) ?_; rotate_left; (focus (go_simp; (try with_reducible rfl); done)); (focus (refine (hd2.out _).mono ?_; rintro e w'' ⟨rfl, hb⟩; exact ⟨rfl, keepB hb hS (Nat.le_refl _)⟩)); (try simp only [Act.put, List.setIfInBounds_toArray, List.set_cons_zero, List.set_cons_succ])))
    refine stillS_nil ?_
    rintro wz hS
    have hbz := Box.below hS hbo
    have st := hbz.cell 1 rfl
    have sf := hbz.frz 1
    go_wp2_with fail
    replace A1 := A1.far (i := 1) (u := .int .i64 x2) (fun b o u h => keepC hS (keepC hb3 h)) kg1 ka1 kb1 kc1
    replace A2 := A2.far (i := 1) (u := .int .i64 x2) (fun b o u h => keepC hS (keepC hb3 h)) kg2 ka2 kb2 kc2
    replace Bo : Box 2 (wz.setCell ⟨go, 1, none⟩ (.int .i64 x2)) go [x0, x2, 0, 0] := hbz.set 1 x2
    replace hB : Below w.heap.size w (wz.setCell ⟨go, 1, none⟩ (.int .i64 x2)) := Below.setCell (p := ⟨go, 1, none⟩) (keepB hS (keepB hb3 hB (Nat.le_refl _)) (Nat.le_refl _)) hgo _
    clear st sf hbz hS hb3 hbo hsB hlg z0 z1 z2 z3 z4 z5 z6 z7 z8
    generalize wz.setCell ⟨go, 1, none⟩ (.int .i64 x2) = wA at *
    rw [rounds_succ]
    go_wp2_with fail
    have HO0 := OwnA.made (n := 3) 35 wA #[] 0 wA.heap.size (Nat.le_refl _) (by unfold maxLen; omega) rfl
    have hb0 : Below wA.heap.size wA (wA.alloc (.cells #[] 35)) := Below.alloc (Below.refl _ _) (Nat.le_refl _) _
    obtain ⟨p10, p11, p12, q10, q11, q12, q13, q14, q15, q16, q17, q18⟩ := id A1
    obtain ⟨p20, p21, p22, q20, q21, q22, q23, q24, q25, q26, q27, q28⟩ := id A2
    refine wp_loop_rounds 4 ?_
    have pa := keepC hb0 p10
    have pb := keepC hb0 p20
    have o0 := keepC hb0 q20
    have o1 := keepC hb0 q21
    have o2 := keepC hb0 q22
    have hbs0 := hb0.size
    rw [rounds_succ]
    go_wp2_with fail
    have hOa : OwnA 35 3 ((wA.alloc (.cells #[] 35)).alloc (.cells #[.int .i64 n0, .int .i64 n1, .int .i64 n2] 35)).drew wA.heap.size (.slice (some ⟨wA.heap.size, 0, none⟩) 0 0) [] := OwnA.alloc HO0 (.cells #[.int .i64 n0, .int .i64 n1, .int .i64 n2] 35)
    have hNa : Box 35 ((wA.alloc (.cells #[] 35)).alloc (.cells #[.int .i64 n0, .int .i64 n1, .int .i64 n2] 35)).drew (wA.heap.size + 1) [n0, n1, n2] := Box.new [n0, n1, n2] (by simp)
    go_region_held3 (fun w' => w'.cell? ⟨xa2, 0, none⟩ = some (.int .i64 n0) ∧ w'.cell? ⟨xa2, 1, none⟩ = some (.int .i64 n1) ∧ w'.cell? ⟨xa2, 2, none⟩ = some (.int .i64 n2) ∧ Below wA.heap.size wA w') ((go_split_ands; (repeat (any_goals (with_reducible apply And.intro))) <;> (first | (with_reducible assumption) | (with_reducible exact keepD (by with_reducible assumption)) | (with_reducible exact keepD (keepA _ (by with_reducible assumption))) | (with_reducible exact Below.drew (by with_reducible assumption)) | (with_reducible exact Below.drew (Below.alloc hb0 hbs0 _)) | (with_reducible exact keepC hBn (by with_reducible assumption))))) ((refine appA_step Try.underlying93 info_Point rfl (by omega) (by omega) rfl _ _ rfl wA.heap.size _ [] [n0, n1, n2] rfl hOa rfl hNa rfl 1 rfl (by simp) (by go_size) ?_; intro g3 cap0 wb1 HO1 hgr hBk; have hBn := hBk wA.heap.size wA (Below.drew (Below.alloc hb0 hbs0 _)) (Nat.le_refl _)))
    rename_i hH; clear hH
    go_wp2_with fail
    have hb1 := hBn
    clear hBn hgr hBk hOa hNa o0 o1 o2 pa pb HO0 hb0 hbs0
    have pa := keepC hb1 p11
    have pb := keepC hb1 p21
    have o0 := keepC hb1 q23
    have o1 := keepC hb1 q24
    have o2 := keepC hb1 q25
    have hbs1 := hb1.size
    rw [rounds_succ]
    go_wp2_with fail
    have hOa : OwnA 35 3 (wb1.alloc (.cells #[.int .i64 n3, .int .i64 n4, .int .i64 n5] 35)).drew wA.heap.size (.slice (some ⟨g3, 0, none⟩) 1 cap0) [[n0, n1, n2]] := OwnA.alloc HO1 (.cells #[.int .i64 n3, .int .i64 n4, .int .i64 n5] 35)
    have hNa : Box 35 (wb1.alloc (.cells #[.int .i64 n3, .int .i64 n4, .int .i64 n5] 35)).drew (wb1.heap.size) [n3, n4, n5] := Box.new [n3, n4, n5] (by simp)
    go_region_held3 (fun w' => w'.cell? ⟨xb2, 0, none⟩ = some (.int .i64 n3) ∧ w'.cell? ⟨xb2, 1, none⟩ = some (.int .i64 n4) ∧ w'.cell? ⟨xb2, 2, none⟩ = some (.int .i64 n5) ∧ Below wA.heap.size wA w') ((go_split_ands; (repeat (any_goals (with_reducible apply And.intro))) <;> (first | (with_reducible assumption) | (with_reducible exact keepD (by with_reducible assumption)) | (with_reducible exact keepD (keepA _ (by with_reducible assumption))) | (with_reducible exact Below.drew (by with_reducible assumption)) | (with_reducible exact Below.drew (Below.alloc hb1 hbs1 _)) | (with_reducible exact keepC hBn (by with_reducible assumption))))) ((refine appA_step Try.underlying93 info_Point rfl (by omega) (by omega) rfl _ _ rfl wA.heap.size _ [[n0, n1, n2]] [n3, n4, n5] rfl hOa rfl hNa rfl 2 rfl (by simp) (by go_size) ?_; intro g4 cap1 wb2 HO2 hgr hBk; have hBn := hBk wA.heap.size wA (Below.drew (Below.alloc hb1 hbs1 _)) (Nat.le_refl _)))
    rename_i hH; clear hH
    go_wp2_with fail
    have hb2 := hBn
    clear hBn hgr hBk hOa hNa o0 o1 o2 pa pb HO1 hb1 hbs1
    have pa := keepC hb2 p12
    
    have o0 := keepC hb2 q16
    have o1 := keepC hb2 q17
    have o2 := keepC hb2 q18
    have hbs2 := hb2.size
    rw [rounds_succ]
    go_wp2_with fail
    have hOa : OwnA 35 3 (wb2.alloc (.cells #[.int .i64 m6, .int .i64 m7, .int .i64 m8] 35)).drew wA.heap.size (.slice (some ⟨g4, 0, none⟩) 2 cap1) [[n0, n1, n2], [n3, n4, n5]] := OwnA.alloc HO2 (.cells #[.int .i64 m6, .int .i64 m7, .int .i64 m8] 35)
    have hNa : Box 35 (wb2.alloc (.cells #[.int .i64 m6, .int .i64 m7, .int .i64 m8] 35)).drew (wb2.heap.size) [m6, m7, m8] := Box.new [m6, m7, m8] (by simp)
    go_region_held3 (fun w' => w'.cell? ⟨xc1, 0, none⟩ = some (.int .i64 m6) ∧ w'.cell? ⟨xc1, 1, none⟩ = some (.int .i64 m7) ∧ w'.cell? ⟨xc1, 2, none⟩ = some (.int .i64 m8) ∧ Below wA.heap.size wA w') ((go_split_ands; (repeat (any_goals (with_reducible apply And.intro))) <;> (first | (with_reducible assumption) | (with_reducible exact keepD (by with_reducible assumption)) | (with_reducible exact keepD (keepA _ (by with_reducible assumption))) | (with_reducible exact Below.drew (by with_reducible assumption)) | (with_reducible exact Below.drew (Below.alloc hb2 hbs2 _)) | (with_reducible exact keepC hBn (by with_reducible assumption))))) ((refine appA_step Try.underlying93 info_Point rfl (by omega) (by omega) rfl _ _ rfl wA.heap.size _ [[n0, n1, n2], [n3, n4, n5]] [m6, m7, m8] rfl hOa rfl hNa rfl 3 rfl (by simp) (by go_size) ?_; intro g5 cap2 wb3 HO3 hgr hBk; have hBn := hBk wA.heap.size wA (Below.drew (Below.alloc hb2 hbs2 _)) (Nat.le_refl _)))
    rename_i hH; clear hH
    go_wp2_with fail
    have hb3 := hBn
    clear hBn hgr hBk hOa hNa o0 o1 o2 pa HO2 hb2 hbs2
    rw [rounds_succ]
    go_wp2_with fail
    obtain ⟨-, hlg, hrd, -, -, -⟩ := HO3.at_
    have z0 : wb3.cell? ⟨g5, 0, none⟩ = some (.int .i64 n0) := hrd 0 _ rfl 0 _ rfl
    have z1 : wb3.cell? ⟨g5, 1, none⟩ = some (.int .i64 n1) := hrd 0 _ rfl 1 _ rfl
    have z2 : wb3.cell? ⟨g5, 2, none⟩ = some (.int .i64 n2) := hrd 0 _ rfl 2 _ rfl
    have z3 : wb3.cell? ⟨g5, 3, none⟩ = some (.int .i64 n3) := hrd 1 _ rfl 0 _ rfl
    have z4 : wb3.cell? ⟨g5, 4, none⟩ = some (.int .i64 n4) := hrd 1 _ rfl 1 _ rfl
    have z5 : wb3.cell? ⟨g5, 5, none⟩ = some (.int .i64 n5) := hrd 1 _ rfl 2 _ rfl
    have z6 : wb3.cell? ⟨g5, 6, none⟩ = some (.int .i64 m6) := hrd 2 _ rfl 0 _ rfl
    have z7 : wb3.cell? ⟨g5, 7, none⟩ = some (.int .i64 m7) := hrd 2 _ rfl 1 _ rfl
    have z8 : wb3.cell? ⟨g5, 8, none⟩ = some (.int .i64 m8) := hrd 2 _ rfl 2 _ rfl
    have hbo := Box.below hb3 Bo
    have hsB := hb3.size
    clear HO3 hrd p10 p20 p11 p21 p12 p22 q10 q20 q11 q21 q12 q22 q13 q23 q14 q24 q15 q25 q16 q26 q17 q27 q18 q28
    refine wp_region_tailS 21 (fun w' => Below wb3.heap.size wb3 w') (by kernel_rfl) (by kernel_rfl) (Below.drew (Below.refl _ _)) ?_
    simp only [List.take_succ_cons, List.take_zero, List.drop_succ_cons, List.drop_zero]
    repeat (first
      | (refine stillS_read ?_ (by rfl) (fun w' hS => ?_) ?_; rotate_left; (focus (have y0 := keepC hS z0; have y1 := keepC hS z1; have y2 := keepC hS z2; have y3 := keepC hS z3; have y4 := keepC hS z4; have y5 := keepC hS z5; have y6 := keepC hS z6; have y7 := keepC hS z7; have y8 := keepC hS z8; have qo := keepC hS (hbo.cell 2 rfl); clear hS; go_simp; (try with_reducible rfl); done)); (try simp only [Act.put, List.setIfInBounds_toArray, List.set_cons_zero, List.set_cons_succ]))
      | (refine stillS_call (.int .i64 e3) 70 ?_ (by rfl) (fun w' => ?_) (fun w' hS => ?_) ?_; rotate_left; (focus (go_simp; (try with_reducible rfl); done)); (focus (refine (hd3.out _).mono ?_; rintro e w'' ⟨rfl, hb⟩; exact ⟨rfl, keepB hb hS (Nat.le_refl _)⟩)); (try simp only [Act.put, List.setIfInBounds_toArray, List.set_cons_zero, List.set_cons_succ])))
    refine stillS_nil ?_
    rintro wz hS
    have hbz := Box.below hS hbo
    have st := hbz.cell 2 rfl
    have sf := hbz.frz 2
    go_wp2_with fail
    replace A1 := A1.far (i := 2) (u := .int .i64 x3) (fun b o u h => keepC hS (keepC hb3 h)) kg1 ka1 kb1 kc1
    replace A2 := A2.far (i := 2) (u := .int .i64 x3) (fun b o u h => keepC hS (keepC hb3 h)) kg2 ka2 kb2 kc2
    replace Bo : Box 2 (wz.setCell ⟨go, 2, none⟩ (.int .i64 x3)) go [x0, x2, x3, 0] := hbz.set 2 x3
    replace hB : Below w.heap.size w (wz.setCell ⟨go, 2, none⟩ (.int .i64 x3)) := Below.setCell (p := ⟨go, 2, none⟩) (keepB hS (keepB hb3 hB (Nat.le_refl _)) (Nat.le_refl _)) hgo _
    clear st sf hbz hS hb3 hbo hsB hlg z0 z1 z2 z3 z4 z5 z6 z7 z8
    generalize wz.setCell ⟨go, 2, none⟩ (.int .i64 x3) = wA at *
    rw [rounds_succ]
    go_wp2_with fail
    have HO0 := OwnA.made (n := 3) 35 wA #[] 0 wA.heap.size (Nat.le_refl _) (by unfold maxLen; omega) rfl
    have hb0 : Below wA.heap.size wA (wA.alloc (.cells #[] 35)) := Below.alloc (Below.refl _ _) (Nat.le_refl _) _
    obtain ⟨p10, p11, p12, q10, q11, q12, q13, q14, q15, q16, q17, q18⟩ := id A1
    obtain ⟨p20, p21, p22, q20, q21, q22, q23, q24, q25, q26, q27, q28⟩ := id A2
    refine wp_loop_rounds 4 ?_
    have pa := keepC hb0 p10
    
    have o0 := keepC hb0 q10
    have o1 := keepC hb0 q11
    have o2 := keepC hb0 q12
    have hbs0 := hb0.size
    rw [rounds_succ]
    go_wp2_with fail
    have hOa : OwnA 35 3 ((wA.alloc (.cells #[] 35)).alloc (.cells #[.int .i64 m0, .int .i64 m1, .int .i64 m2] 35)).drew wA.heap.size (.slice (some ⟨wA.heap.size, 0, none⟩) 0 0) [] := OwnA.alloc HO0 (.cells #[.int .i64 m0, .int .i64 m1, .int .i64 m2] 35)
    have hNa : Box 35 ((wA.alloc (.cells #[] 35)).alloc (.cells #[.int .i64 m0, .int .i64 m1, .int .i64 m2] 35)).drew (wA.heap.size + 1) [m0, m1, m2] := Box.new [m0, m1, m2] (by simp)
    go_region_held3 (fun w' => w'.cell? ⟨xa1, 0, none⟩ = some (.int .i64 m0) ∧ w'.cell? ⟨xa1, 1, none⟩ = some (.int .i64 m1) ∧ w'.cell? ⟨xa1, 2, none⟩ = some (.int .i64 m2) ∧ Below wA.heap.size wA w') ((go_split_ands; (repeat (any_goals (with_reducible apply And.intro))) <;> (first | (with_reducible assumption) | (with_reducible exact keepD (by with_reducible assumption)) | (with_reducible exact keepD (keepA _ (by with_reducible assumption))) | (with_reducible exact Below.drew (by with_reducible assumption)) | (with_reducible exact Below.drew (Below.alloc hb0 hbs0 _)) | (with_reducible exact keepC hBn (by with_reducible assumption))))) ((refine appA_step Try.underlying93 info_Point rfl (by omega) (by omega) rfl _ _ rfl wA.heap.size _ [] [m0, m1, m2] rfl hOa rfl hNa rfl 1 rfl (by simp) (by go_size) ?_; intro g3 cap0 wb1 HO1 hgr hBk; have hBn := hBk wA.heap.size wA (Below.drew (Below.alloc hb0 hbs0 _)) (Nat.le_refl _)))
    rename_i hH; clear hH
    go_wp2_with fail
    have hb1 := hBn
    clear hBn hgr hBk hOa hNa o0 o1 o2 pa HO0 hb0 hbs0
    have pa := keepC hb1 p11
    
    have o0 := keepC hb1 q13
    have o1 := keepC hb1 q14
    have o2 := keepC hb1 q15
    have hbs1 := hb1.size
    rw [rounds_succ]
    go_wp2_with fail
    have hOa : OwnA 35 3 (wb1.alloc (.cells #[.int .i64 m3, .int .i64 m4, .int .i64 m5] 35)).drew wA.heap.size (.slice (some ⟨g3, 0, none⟩) 1 cap0) [[m0, m1, m2]] := OwnA.alloc HO1 (.cells #[.int .i64 m3, .int .i64 m4, .int .i64 m5] 35)
    have hNa : Box 35 (wb1.alloc (.cells #[.int .i64 m3, .int .i64 m4, .int .i64 m5] 35)).drew (wb1.heap.size) [m3, m4, m5] := Box.new [m3, m4, m5] (by simp)
    go_region_held3 (fun w' => w'.cell? ⟨xb1, 0, none⟩ = some (.int .i64 m3) ∧ w'.cell? ⟨xb1, 1, none⟩ = some (.int .i64 m4) ∧ w'.cell? ⟨xb1, 2, none⟩ = some (.int .i64 m5) ∧ Below wA.heap.size wA w') ((go_split_ands; (repeat (any_goals (with_reducible apply And.intro))) <;> (first | (with_reducible assumption) | (with_reducible exact keepD (by with_reducible assumption)) | (with_reducible exact keepD (keepA _ (by with_reducible assumption))) | (with_reducible exact Below.drew (by with_reducible assumption)) | (with_reducible exact Below.drew (Below.alloc hb1 hbs1 _)) | (with_reducible exact keepC hBn (by with_reducible assumption))))) ((refine appA_step Try.underlying93 info_Point rfl (by omega) (by omega) rfl _ _ rfl wA.heap.size _ [[m0, m1, m2]] [m3, m4, m5] rfl hOa rfl hNa rfl 2 rfl (by simp) (by go_size) ?_; intro g4 cap1 wb2 HO2 hgr hBk; have hBn := hBk wA.heap.size wA (Below.drew (Below.alloc hb1 hbs1 _)) (Nat.le_refl _)))
    rename_i hH; clear hH
    go_wp2_with fail
    have hb2 := hBn
    clear hBn hgr hBk hOa hNa o0 o1 o2 pa HO1 hb1 hbs1
    have pa := keepC hb2 p12
    have pb := keepC hb2 p22
    have o0 := keepC hb2 q26
    have o1 := keepC hb2 q27
    have o2 := keepC hb2 q28
    have hbs2 := hb2.size
    rw [rounds_succ]
    go_wp2_with fail
    have hOa : OwnA 35 3 (wb2.alloc (.cells #[.int .i64 n6, .int .i64 n7, .int .i64 n8] 35)).drew wA.heap.size (.slice (some ⟨g4, 0, none⟩) 2 cap1) [[m0, m1, m2], [m3, m4, m5]] := OwnA.alloc HO2 (.cells #[.int .i64 n6, .int .i64 n7, .int .i64 n8] 35)
    have hNa : Box 35 (wb2.alloc (.cells #[.int .i64 n6, .int .i64 n7, .int .i64 n8] 35)).drew (wb2.heap.size) [n6, n7, n8] := Box.new [n6, n7, n8] (by simp)
    go_region_held3 (fun w' => w'.cell? ⟨xc2, 0, none⟩ = some (.int .i64 n6) ∧ w'.cell? ⟨xc2, 1, none⟩ = some (.int .i64 n7) ∧ w'.cell? ⟨xc2, 2, none⟩ = some (.int .i64 n8) ∧ Below wA.heap.size wA w') ((go_split_ands; (repeat (any_goals (with_reducible apply And.intro))) <;> (first | (with_reducible assumption) | (with_reducible exact keepD (by with_reducible assumption)) | (with_reducible exact keepD (keepA _ (by with_reducible assumption))) | (with_reducible exact Below.drew (by with_reducible assumption)) | (with_reducible exact Below.drew (Below.alloc hb2 hbs2 _)) | (with_reducible exact keepC hBn (by with_reducible assumption))))) ((refine appA_step Try.underlying93 info_Point rfl (by omega) (by omega) rfl _ _ rfl wA.heap.size _ [[m0, m1, m2], [m3, m4, m5]] [n6, n7, n8] rfl hOa rfl hNa rfl 3 rfl (by simp) (by go_size) ?_; intro g5 cap2 wb3 HO3 hgr hBk; have hBn := hBk wA.heap.size wA (Below.drew (Below.alloc hb2 hbs2 _)) (Nat.le_refl _)))
    rename_i hH; clear hH
    go_wp2_with fail
    have hb3 := hBn
    clear hBn hgr hBk hOa hNa o0 o1 o2 pa pb HO2 hb2 hbs2
    rw [rounds_succ]
    go_wp2_with fail
    obtain ⟨-, hlg, hrd, -, -, -⟩ := HO3.at_
    have z0 : wb3.cell? ⟨g5, 0, none⟩ = some (.int .i64 m0) := hrd 0 _ rfl 0 _ rfl
    have z1 : wb3.cell? ⟨g5, 1, none⟩ = some (.int .i64 m1) := hrd 0 _ rfl 1 _ rfl
    have z2 : wb3.cell? ⟨g5, 2, none⟩ = some (.int .i64 m2) := hrd 0 _ rfl 2 _ rfl
    have z3 : wb3.cell? ⟨g5, 3, none⟩ = some (.int .i64 m3) := hrd 1 _ rfl 0 _ rfl
    have z4 : wb3.cell? ⟨g5, 4, none⟩ = some (.int .i64 m4) := hrd 1 _ rfl 1 _ rfl
    have z5 : wb3.cell? ⟨g5, 5, none⟩ = some (.int .i64 m5) := hrd 1 _ rfl 2 _ rfl
    have z6 : wb3.cell? ⟨g5, 6, none⟩ = some (.int .i64 n6) := hrd 2 _ rfl 0 _ rfl
    have z7 : wb3.cell? ⟨g5, 7, none⟩ = some (.int .i64 n7) := hrd 2 _ rfl 1 _ rfl
    have z8 : wb3.cell? ⟨g5, 8, none⟩ = some (.int .i64 n8) := hrd 2 _ rfl 2 _ rfl
    have hbo := Box.below hb3 Bo
    have hsB := hb3.size
    clear HO3 hrd p10 p20 p11 p21 p12 p22 q10 q20 q11 q21 q12 q22 q13 q23 q14 q24 q15 q25 q16 q26 q17 q27 q18 q28
    refine wp_region_tailS 21 (fun w' => Below wb3.heap.size wb3 w') (by kernel_rfl) (by kernel_rfl) (Below.drew (Below.refl _ _)) ?_
    simp only [List.take_succ_cons, List.take_zero, List.drop_succ_cons, List.drop_zero]
    repeat (first
      | (refine stillS_read ?_ (by rfl) (fun w' hS => ?_) ?_; rotate_left; (focus (have y0 := keepC hS z0; have y1 := keepC hS z1; have y2 := keepC hS z2; have y3 := keepC hS z3; have y4 := keepC hS z4; have y5 := keepC hS z5; have y6 := keepC hS z6; have y7 := keepC hS z7; have y8 := keepC hS z8; have qo := keepC hS (hbo.cell 1 rfl); clear hS; go_simp; (try with_reducible rfl); done)); (try simp only [Act.put, List.setIfInBounds_toArray, List.set_cons_zero, List.set_cons_succ]))
      | (refine stillS_call (.int .i64 e4) 70 ?_ (by rfl) (fun w' => ?_) (fun w' hS => ?_) ?_; rotate_left; (focus (go_simp; (try with_reducible rfl); done)); (focus (refine (hd4.out _).mono ?_; rintro e w'' ⟨rfl, hb⟩; exact ⟨rfl, keepB hb hS (Nat.le_refl _)⟩)); (try simp only [Act.put, List.setIfInBounds_toArray, List.set_cons_zero, List.set_cons_succ])))
    refine stillS_nil ?_
    rintro wz hS
    have hbz := Box.below hS hbo
    have st := hbz.cell 1 rfl
    have sf := hbz.frz 1
    go_wp2_with fail
    replace A1 := A1.far (i := 1) (u := .int .i64 x4) (fun b o u h => keepC hS (keepC hb3 h)) kg1 ka1 kb1 kc1
    replace A2 := A2.far (i := 1) (u := .int .i64 x4) (fun b o u h => keepC hS (keepC hb3 h)) kg2 ka2 kb2 kc2
    replace Bo : Box 2 (wz.setCell ⟨go, 1, none⟩ (.int .i64 x4)) go [x0, x4, x3, 0] := hbz.set 1 x4
    replace hB : Below w.heap.size w (wz.setCell ⟨go, 1, none⟩ (.int .i64 x4)) := Below.setCell (p := ⟨go, 1, none⟩) (keepB hS (keepB hb3 hB (Nat.le_refl _)) (Nat.le_refl _)) hgo _
    clear st sf hbz hS hb3 hbo hsB hlg z0 z1 z2 z3 z4 z5 z6 z7 z8
    generalize wz.setCell ⟨go, 1, none⟩ (.int .i64 x4) = wA at *
    rw [rounds_succ]
    go_wp2_with fail
    have HO0 := OwnA.made (n := 3) 35 wA #[] 0 wA.heap.size (Nat.le_refl _) (by unfold maxLen; omega) rfl
    have hb0 : Below wA.heap.size wA (wA.alloc (.cells #[] 35)) := Below.alloc (Below.refl _ _) (Nat.le_refl _) _
    obtain ⟨p10, p11, p12, q10, q11, q12, q13, q14, q15, q16, q17, q18⟩ := id A1
    obtain ⟨p20, p21, p22, q20, q21, q22, q23, q24, q25, q26, q27, q28⟩ := id A2
    refine wp_loop_rounds 4 ?_
    have pa := keepC hb0 p10
    have pb := keepC hb0 p20
    have o0 := keepC hb0 q20
    have o1 := keepC hb0 q21
    have o2 := keepC hb0 q22
    have hbs0 := hb0.size
    rw [rounds_succ]
    go_wp2_with fail
    have hOa : OwnA 35 3 ((wA.alloc (.cells #[] 35)).alloc (.cells #[.int .i64 n0, .int .i64 n1, .int .i64 n2] 35)).drew wA.heap.size (.slice (some ⟨wA.heap.size, 0, none⟩) 0 0) [] := OwnA.alloc HO0 (.cells #[.int .i64 n0, .int .i64 n1, .int .i64 n2] 35)
    have hNa : Box 35 ((wA.alloc (.cells #[] 35)).alloc (.cells #[.int .i64 n0, .int .i64 n1, .int .i64 n2] 35)).drew (wA.heap.size + 1) [n0, n1, n2] := Box.new [n0, n1, n2] (by simp)
    go_region_held3 (fun w' => w'.cell? ⟨xa2, 0, none⟩ = some (.int .i64 n0) ∧ w'.cell? ⟨xa2, 1, none⟩ = some (.int .i64 n1) ∧ w'.cell? ⟨xa2, 2, none⟩ = some (.int .i64 n2) ∧ Below wA.heap.size wA w') ((go_split_ands; (repeat (any_goals (with_reducible apply And.intro))) <;> (first | (with_reducible assumption) | (with_reducible exact keepD (by with_reducible assumption)) | (with_reducible exact keepD (keepA _ (by with_reducible assumption))) | (with_reducible exact Below.drew (by with_reducible assumption)) | (with_reducible exact Below.drew (Below.alloc hb0 hbs0 _)) | (with_reducible exact keepC hBn (by with_reducible assumption))))) ((refine appA_step Try.underlying93 info_Point rfl (by omega) (by omega) rfl _ _ rfl wA.heap.size _ [] [n0, n1, n2] rfl hOa rfl hNa rfl 1 rfl (by simp) (by go_size) ?_; intro g3 cap0 wb1 HO1 hgr hBk; have hBn := hBk wA.heap.size wA (Below.drew (Below.alloc hb0 hbs0 _)) (Nat.le_refl _)))
    rename_i hH; clear hH
    go_wp2_with fail
    have hb1 := hBn
    clear hBn hgr hBk hOa hNa o0 o1 o2 pa pb HO0 hb0 hbs0
    have pa := keepC hb1 p11
    
    have o0 := keepC hb1 q13
    have o1 := keepC hb1 q14
    have o2 := keepC hb1 q15
    have hbs1 := hb1.size
    rw [rounds_succ]
    go_wp2_with fail
    have hOa : OwnA 35 3 (wb1.alloc (.cells #[.int .i64 m3, .int .i64 m4, .int .i64 m5] 35)).drew wA.heap.size (.slice (some ⟨g3, 0, none⟩) 1 cap0) [[n0, n1, n2]] := OwnA.alloc HO1 (.cells #[.int .i64 m3, .int .i64 m4, .int .i64 m5] 35)
    have hNa : Box 35 (wb1.alloc (.cells #[.int .i64 m3, .int .i64 m4, .int .i64 m5] 35)).drew (wb1.heap.size) [m3, m4, m5] := Box.new [m3, m4, m5] (by simp)
    go_region_held3 (fun w' => w'.cell? ⟨xb1, 0, none⟩ = some (.int .i64 m3) ∧ w'.cell? ⟨xb1, 1, none⟩ = some (.int .i64 m4) ∧ w'.cell? ⟨xb1, 2, none⟩ = some (.int .i64 m5) ∧ Below wA.heap.size wA w') ((go_split_ands; (repeat (any_goals (with_reducible apply And.intro))) <;> (first | (with_reducible assumption) | (with_reducible exact keepD (by with_reducible assumption)) | (with_reducible exact keepD (keepA _ (by with_reducible assumption))) | (with_reducible exact Below.drew (by with_reducible assumption)) | (with_reducible exact Below.drew (Below.alloc hb1 hbs1 _)) | (with_reducible exact keepC hBn (by with_reducible assumption))))) ((refine appA_step Try.underlying93 info_Point rfl (by omega) (by omega) rfl _ _ rfl wA.heap.size _ [[n0, n1, n2]] [m3, m4, m5] rfl hOa rfl hNa rfl 2 rfl (by simp) (by go_size) ?_; intro g4 cap1 wb2 HO2 hgr hBk; have hBn := hBk wA.heap.size wA (Below.drew (Below.alloc hb1 hbs1 _)) (Nat.le_refl _)))
    rename_i hH; clear hH
    go_wp2_with fail
    have hb2 := hBn
    clear hBn hgr hBk hOa hNa o0 o1 o2 pa HO1 hb1 hbs1
    have pa := keepC hb2 p12
    have pb := keepC hb2 p22
    have o0 := keepC hb2 q26
    have o1 := keepC hb2 q27
    have o2 := keepC hb2 q28
    have hbs2 := hb2.size
    rw [rounds_succ]
    go_wp2_with fail
    have hOa : OwnA 35 3 (wb2.alloc (.cells #[.int .i64 n6, .int .i64 n7, .int .i64 n8] 35)).drew wA.heap.size (.slice (some ⟨g4, 0, none⟩) 2 cap1) [[n0, n1, n2], [m3, m4, m5]] := OwnA.alloc HO2 (.cells #[.int .i64 n6, .int .i64 n7, .int .i64 n8] 35)
    have hNa : Box 35 (wb2.alloc (.cells #[.int .i64 n6, .int .i64 n7, .int .i64 n8] 35)).drew (wb2.heap.size) [n6, n7, n8] := Box.new [n6, n7, n8] (by simp)
    go_region_held3 (fun w' => w'.cell? ⟨xc2, 0, none⟩ = some (.int .i64 n6) ∧ w'.cell? ⟨xc2, 1, none⟩ = some (.int .i64 n7) ∧ w'.cell? ⟨xc2, 2, none⟩ = some (.int .i64 n8) ∧ Below wA.heap.size wA w') ((go_split_ands; (repeat (any_goals (with_reducible apply And.intro))) <;> (first | (with_reducible assumption) | (with_reducible exact keepD (by with_reducible assumption)) | (with_reducible exact keepD (keepA _ (by with_reducible assumption))) | (with_reducible exact Below.drew (by with_reducible assumption)) | (with_reducible exact Below.drew (Below.alloc hb2 hbs2 _)) | (with_reducible exact keepC hBn (by with_reducible assumption))))) ((refine appA_step Try.underlying93 info_Point rfl (by omega) (by omega) rfl _ _ rfl wA.heap.size _ [[n0, n1, n2], [m3, m4, m5]] [n6, n7, n8] rfl hOa rfl hNa rfl 3 rfl (by simp) (by go_size) ?_; intro g5 cap2 wb3 HO3 hgr hBk; have hBn := hBk wA.heap.size wA (Below.drew (Below.alloc hb2 hbs2 _)) (Nat.le_refl _)))
    rename_i hH; clear hH
    go_wp2_with fail
    have hb3 := hBn
    clear hBn hgr hBk hOa hNa o0 o1 o2 pa pb HO2 hb2 hbs2
    rw [rounds_succ]
    go_wp2_with fail
    obtain ⟨-, hlg, hrd, -, -, -⟩ := HO3.at_
    have z0 : wb3.cell? ⟨g5, 0, none⟩ = some (.int .i64 n0) := hrd 0 _ rfl 0 _ rfl
    have z1 : wb3.cell? ⟨g5, 1, none⟩ = some (.int .i64 n1) := hrd 0 _ rfl 1 _ rfl
    have z2 : wb3.cell? ⟨g5, 2, none⟩ = some (.int .i64 n2) := hrd 0 _ rfl 2 _ rfl
    have z3 : wb3.cell? ⟨g5, 3, none⟩ = some (.int .i64 m3) := hrd 1 _ rfl 0 _ rfl
    have z4 : wb3.cell? ⟨g5, 4, none⟩ = some (.int .i64 m4) := hrd 1 _ rfl 1 _ rfl
    have z5 : wb3.cell? ⟨g5, 5, none⟩ = some (.int .i64 m5) := hrd 1 _ rfl 2 _ rfl
    have z6 : wb3.cell? ⟨g5, 6, none⟩ = some (.int .i64 n6) := hrd 2 _ rfl 0 _ rfl
    have z7 : wb3.cell? ⟨g5, 7, none⟩ = some (.int .i64 n7) := hrd 2 _ rfl 1 _ rfl
    have z8 : wb3.cell? ⟨g5, 8, none⟩ = some (.int .i64 n8) := hrd 2 _ rfl 2 _ rfl
    have hbo := Box.below hb3 Bo
    have hsB := hb3.size
    clear HO3 hrd p10 p20 p11 p21 p12 p22 q10 q20 q11 q21 q12 q22 q13 q23 q14 q24 q15 q25 q16 q26 q17 q27 q18 q28
    refine wp_region_tailS 21 (fun w' => Below wb3.heap.size wb3 w') (by kernel_rfl) (by kernel_rfl) (Below.drew (Below.refl _ _)) ?_
    simp only [List.take_succ_cons, List.take_zero, List.drop_succ_cons, List.drop_zero]
    repeat (first
      | (refine stillS_read ?_ (by rfl) (fun w' hS => ?_) ?_; rotate_left; (focus (have y0 := keepC hS z0; have y1 := keepC hS z1; have y2 := keepC hS z2; have y3 := keepC hS z3; have y4 := keepC hS z4; have y5 := keepC hS z5; have y6 := keepC hS z6; have y7 := keepC hS z7; have y8 := keepC hS z8; have qo := keepC hS (hbo.cell 2 rfl); clear hS; go_simp; (try with_reducible rfl); done)); (try simp only [Act.put, List.setIfInBounds_toArray, List.set_cons_zero, List.set_cons_succ]))
      | (refine stillS_call (.int .i64 e5) 70 ?_ (by rfl) (fun w' => ?_) (fun w' hS => ?_) ?_; rotate_left; (focus (go_simp; (try with_reducible rfl); done)); (focus (refine (hd5.out _).mono ?_; rintro e w'' ⟨rfl, hb⟩; exact ⟨rfl, keepB hb hS (Nat.le_refl _)⟩)); (try simp only [Act.put, List.setIfInBounds_toArray, List.set_cons_zero, List.set_cons_succ])))
    refine stillS_nil ?_
    rintro wz hS
    have hbz := Box.below hS hbo
    have st := hbz.cell 2 rfl
    have sf := hbz.frz 2
    go_wp2_with fail
    replace A1 := A1.far (i := 2) (u := .int .i64 x5) (fun b o u h => keepC hS (keepC hb3 h)) kg1 ka1 kb1 kc1
    replace A2 := A2.far (i := 2) (u := .int .i64 x5) (fun b o u h => keepC hS (keepC hb3 h)) kg2 ka2 kb2 kc2
    replace Bo : Box 2 (wz.setCell ⟨go, 2, none⟩ (.int .i64 x5)) go [x0, x4, x5, 0] := hbz.set 2 x5
    replace hB : Below w.heap.size w (wz.setCell ⟨go, 2, none⟩ (.int .i64 x5)) := Below.setCell (p := ⟨go, 2, none⟩) (keepB hS (keepB hb3 hB (Nat.le_refl _)) (Nat.le_refl _)) hgo _
    clear st sf hbz hS hb3 hbo hsB hlg z0 z1 z2 z3 z4 z5 z6 z7 z8
    generalize wz.setCell ⟨go, 2, none⟩ (.int .i64 x5) = wA at *
    rw [rounds_succ]
    go_wp2_with fail
    have HO0 := OwnA.made (n := 3) 35 wA #[] 0 wA.heap.size (Nat.le_refl _) (by unfold maxLen; omega) rfl
    have hb0 : Below wA.heap.size wA (wA.alloc (.cells #[] 35)) := Below.alloc (Below.refl _ _) (Nat.le_refl _) _
    obtain ⟨p10, p11, p12, q10, q11, q12, q13, q14, q15, q16, q17, q18⟩ := id A1
    obtain ⟨p20, p21, p22, q20, q21, q22, q23, q24, q25, q26, q27, q28⟩ := id A2
    refine wp_loop_rounds 4 ?_
    have pa := keepC hb0 p10
    
    have o0 := keepC hb0 q10
    have o1 := keepC hb0 q11
    have o2 := keepC hb0 q12
    have hbs0 := hb0.size
    rw [rounds_succ]
    go_wp2_with fail
    have hOa : OwnA 35 3 ((wA.alloc (.cells #[] 35)).alloc (.cells #[.int .i64 m0, .int .i64 m1, .int .i64 m2] 35)).drew wA.heap.size (.slice (some ⟨wA.heap.size, 0, none⟩) 0 0) [] := OwnA.alloc HO0 (.cells #[.int .i64 m0, .int .i64 m1, .int .i64 m2] 35)
    have hNa : Box 35 ((wA.alloc (.cells #[] 35)).alloc (.cells #[.int .i64 m0, .int .i64 m1, .int .i64 m2] 35)).drew (wA.heap.size + 1) [m0, m1, m2] := Box.new [m0, m1, m2] (by simp)
    go_region_held3 (fun w' => w'.cell? ⟨xa1, 0, none⟩ = some (.int .i64 m0) ∧ w'.cell? ⟨xa1, 1, none⟩ = some (.int .i64 m1) ∧ w'.cell? ⟨xa1, 2, none⟩ = some (.int .i64 m2) ∧ Below wA.heap.size wA w') ((go_split_ands; (repeat (any_goals (with_reducible apply And.intro))) <;> (first | (with_reducible assumption) | (with_reducible exact keepD (by with_reducible assumption)) | (with_reducible exact keepD (keepA _ (by with_reducible assumption))) | (with_reducible exact Below.drew (by with_reducible assumption)) | (with_reducible exact Below.drew (Below.alloc hb0 hbs0 _)) | (with_reducible exact keepC hBn (by with_reducible assumption))))) ((refine appA_step Try.underlying93 info_Point rfl (by omega) (by omega) rfl _ _ rfl wA.heap.size _ [] [m0, m1, m2] rfl hOa rfl hNa rfl 1 rfl (by simp) (by go_size) ?_; intro g3 cap0 wb1 HO1 hgr hBk; have hBn := hBk wA.heap.size wA (Below.drew (Below.alloc hb0 hbs0 _)) (Nat.le_refl _)))
    rename_i hH; clear hH
    go_wp2_with fail
    have hb1 := hBn
    clear hBn hgr hBk hOa hNa o0 o1 o2 pa HO0 hb0 hbs0
    have pa := keepC hb1 p11
    have pb := keepC hb1 p21
    have o0 := keepC hb1 q23
    have o1 := keepC hb1 q24
    have o2 := keepC hb1 q25
    have hbs1 := hb1.size
    rw [rounds_succ]
    go_wp2_with fail
    have hOa : OwnA 35 3 (wb1.alloc (.cells #[.int .i64 n3, .int .i64 n4, .int .i64 n5] 35)).drew wA.heap.size (.slice (some ⟨g3, 0, none⟩) 1 cap0) [[m0, m1, m2]] := OwnA.alloc HO1 (.cells #[.int .i64 n3, .int .i64 n4, .int .i64 n5] 35)
    have hNa : Box 35 (wb1.alloc (.cells #[.int .i64 n3, .int .i64 n4, .int .i64 n5] 35)).drew (wb1.heap.size) [n3, n4, n5] := Box.new [n3, n4, n5] (by simp)
    go_region_held3 (fun w' => w'.cell? ⟨xb2, 0, none⟩ = some (.int .i64 n3) ∧ w'.cell? ⟨xb2, 1, none⟩ = some (.int .i64 n4) ∧ w'.cell? ⟨xb2, 2, none⟩ = some (.int .i64 n5) ∧ Below wA.heap.size wA w') ((go_split_ands; (repeat (any_goals (with_reducible apply And.intro))) <;> (first | (with_reducible assumption) | (with_reducible exact keepD (by with_reducible assumption)) | (with_reducible exact keepD (keepA _ (by with_reducible assumption))) | (with_reducible exact Below.drew (by with_reducible assumption)) | (with_reducible exact Below.drew (Below.alloc hb1 hbs1 _)) | (with_reducible exact keepC hBn (by with_reducible assumption))))) ((refine appA_step Try.underlying93 info_Point rfl (by omega) (by omega) rfl _ _ rfl wA.heap.size _ [[m0, m1, m2]] [n3, n4, n5] rfl hOa rfl hNa rfl 2 rfl (by simp) (by go_size) ?_; intro g4 cap1 wb2 HO2 hgr hBk; have hBn := hBk wA.heap.size wA (Below.drew (Below.alloc hb1 hbs1 _)) (Nat.le_refl _)))
    rename_i hH; clear hH
    go_wp2_with fail
    have hb2 := hBn
    clear hBn hgr hBk hOa hNa o0 o1 o2 pa pb HO1 hb1 hbs1
    have pa := keepC hb2 p12
    have pb := keepC hb2 p22
    have o0 := keepC hb2 q26
    have o1 := keepC hb2 q27
    have o2 := keepC hb2 q28
    have hbs2 := hb2.size
    rw [rounds_succ]
    go_wp2_with fail
    have hOa : OwnA 35 3 (wb2.alloc (.cells #[.int .i64 n6, .int .i64 n7, .int .i64 n8] 35)).drew wA.heap.size (.slice (some ⟨g4, 0, none⟩) 2 cap1) [[m0, m1, m2], [n3, n4, n5]] := OwnA.alloc HO2 (.cells #[.int .i64 n6, .int .i64 n7, .int .i64 n8] 35)
    have hNa : Box 35 (wb2.alloc (.cells #[.int .i64 n6, .int .i64 n7, .int .i64 n8] 35)).drew (wb2.heap.size) [n6, n7, n8] := Box.new [n6, n7, n8] (by simp)
    go_region_held3 (fun w' => w'.cell? ⟨xc2, 0, none⟩ = some (.int .i64 n6) ∧ w'.cell? ⟨xc2, 1, none⟩ = some (.int .i64 n7) ∧ w'.cell? ⟨xc2, 2, none⟩ = some (.int .i64 n8) ∧ Below wA.heap.size wA w') ((go_split_ands; (repeat (any_goals (with_reducible apply And.intro))) <;> (first | (with_reducible assumption) | (with_reducible exact keepD (by with_reducible assumption)) | (with_reducible exact keepD (keepA _ (by with_reducible assumption))) | (with_reducible exact Below.drew (by with_reducible assumption)) | (with_reducible exact Below.drew (Below.alloc hb2 hbs2 _)) | (with_reducible exact keepC hBn (by with_reducible assumption))))) ((refine appA_step Try.underlying93 info_Point rfl (by omega) (by omega) rfl _ _ rfl wA.heap.size _ [[m0, m1, m2], [n3, n4, n5]] [n6, n7, n8] rfl hOa rfl hNa rfl 3 rfl (by simp) (by go_size) ?_; intro g5 cap2 wb3 HO3 hgr hBk; have hBn := hBk wA.heap.size wA (Below.drew (Below.alloc hb2 hbs2 _)) (Nat.le_refl _)))
    rename_i hH; clear hH
    go_wp2_with fail
    have hb3 := hBn
    clear hBn hgr hBk hOa hNa o0 o1 o2 pa pb HO2 hb2 hbs2
    rw [rounds_succ]
    go_wp2_with fail
    obtain ⟨-, hlg, hrd, -, -, -⟩ := HO3.at_
    have z0 : wb3.cell? ⟨g5, 0, none⟩ = some (.int .i64 m0) := hrd 0 _ rfl 0 _ rfl
    have z1 : wb3.cell? ⟨g5, 1, none⟩ = some (.int .i64 m1) := hrd 0 _ rfl 1 _ rfl
    have z2 : wb3.cell? ⟨g5, 2, none⟩ = some (.int .i64 m2) := hrd 0 _ rfl 2 _ rfl
    have z3 : wb3.cell? ⟨g5, 3, none⟩ = some (.int .i64 n3) := hrd 1 _ rfl 0 _ rfl
    have z4 : wb3.cell? ⟨g5, 4, none⟩ = some (.int .i64 n4) := hrd 1 _ rfl 1 _ rfl
    have z5 : wb3.cell? ⟨g5, 5, none⟩ = some (.int .i64 n5) := hrd 1 _ rfl 2 _ rfl
    have z6 : wb3.cell? ⟨g5, 6, none⟩ = some (.int .i64 n6) := hrd 2 _ rfl 0 _ rfl
    have z7 : wb3.cell? ⟨g5, 7, none⟩ = some (.int .i64 n7) := hrd 2 _ rfl 1 _ rfl
    have z8 : wb3.cell? ⟨g5, 8, none⟩ = some (.int .i64 n8) := hrd 2 _ rfl 2 _ rfl
    have hbo := Box.below hb3 Bo
    have hsB := hb3.size
    clear HO3 hrd p10 p20 p11 p21 p12 p22 q10 q20 q11 q21 q12 q22 q13 q23 q14 q24 q15 q25 q16 q26 q17 q27 q18 q28
    refine wp_region_tailS 21 (fun w' => Below wb3.heap.size wb3 w') (by kernel_rfl) (by kernel_rfl) (Below.drew (Below.refl _ _)) ?_
    simp only [List.take_succ_cons, List.take_zero, List.drop_succ_cons, List.drop_zero]
    repeat (first
      | (refine stillS_read ?_ (by rfl) (fun w' hS => ?_) ?_; rotate_left; (focus (have y0 := keepC hS z0; have y1 := keepC hS z1; have y2 := keepC hS z2; have y3 := keepC hS z3; have y4 := keepC hS z4; have y5 := keepC hS z5; have y6 := keepC hS z6; have y7 := keepC hS z7; have y8 := keepC hS z8; have qo := keepC hS (hbo.cell 2 rfl); clear hS; go_simp; (try with_reducible rfl); done)); (try simp only [Act.put, List.setIfInBounds_toArray, List.set_cons_zero, List.set_cons_succ]))
      | (refine stillS_call (.int .i64 e6) 70 ?_ (by rfl) (fun w' => ?_) (fun w' hS => ?_) ?_; rotate_left; (focus (go_simp; (try with_reducible rfl); done)); (focus (refine (hd6.out _).mono ?_; rintro e w'' ⟨rfl, hb⟩; exact ⟨rfl, keepB hb hS (Nat.le_refl _)⟩)); (try simp only [Act.put, List.setIfInBounds_toArray, List.set_cons_zero, List.set_cons_succ])))
    refine stillS_nil ?_
    rintro wz hS
    have hbz := Box.below hS hbo
    have st := hbz.cell 2 rfl
    have sf := hbz.frz 2
    go_wp2_with fail
    replace A1 := A1.far (i := 2) (u := .int .i64 x6) (fun b o u h => keepC hS (keepC hb3 h)) kg1 ka1 kb1 kc1
    replace A2 := A2.far (i := 2) (u := .int .i64 x6) (fun b o u h => keepC hS (keepC hb3 h)) kg2 ka2 kb2 kc2
    replace Bo : Box 2 (wz.setCell ⟨go, 2, none⟩ (.int .i64 x6)) go [x0, x4, x6, 0] := hbz.set 2 x6
    replace hB : Below w.heap.size w (wz.setCell ⟨go, 2, none⟩ (.int .i64 x6)) := Below.setCell (p := ⟨go, 2, none⟩) (keepB hS (keepB hb3 hB (Nat.le_refl _)) (Nat.le_refl _)) hgo _
    clear st sf hbz hS hb3 hbo hsB hlg z0 z1 z2 z3 z4 z5 z6 z7 z8
    generalize wz.setCell ⟨go, 2, none⟩ (.int .i64 x6) = wA at *
    rw [rounds_succ]
    go_wp2_with fail
    have HO0 := OwnA.made (n := 3) 35 wA #[] 0 wA.heap.size (Nat.le_refl _) (by unfold maxLen; omega) rfl
    have hb0 : Below wA.heap.size wA (wA.alloc (.cells #[] 35)) := Below.alloc (Below.refl _ _) (Nat.le_refl _) _
    obtain ⟨p10, p11, p12, q10, q11, q12, q13, q14, q15, q16, q17, q18⟩ := id A1
    obtain ⟨p20, p21, p22, q20, q21, q22, q23, q24, q25, q26, q27, q28⟩ := id A2
    refine wp_loop_rounds 4 ?_
    have pa := keepC hb0 p10
    have pb := keepC hb0 p20
    have o0 := keepC hb0 q20
    have o1 := keepC hb0 q21
    have o2 := keepC hb0 q22
    have hbs0 := hb0.size
    rw [rounds_succ]
    go_wp2_with fail
    have hOa : OwnA 35 3 ((wA.alloc (.cells #[] 35)).alloc (.cells #[.int .i64 n0, .int .i64 n1, .int .i64 n2] 35)).drew wA.heap.size (.slice (some ⟨wA.heap.size, 0, none⟩) 0 0) [] := OwnA.alloc HO0 (.cells #[.int .i64 n0, .int .i64 n1, .int .i64 n2] 35)
    have hNa : Box 35 ((wA.alloc (.cells #[] 35)).alloc (.cells #[.int .i64 n0, .int .i64 n1, .int .i64 n2] 35)).drew (wA.heap.size + 1) [n0, n1, n2] := Box.new [n0, n1, n2] (by simp)
    go_region_held3 (fun w' => w'.cell? ⟨xa2, 0, none⟩ = some (.int .i64 n0) ∧ w'.cell? ⟨xa2, 1, none⟩ = some (.int .i64 n1) ∧ w'.cell? ⟨xa2, 2, none⟩ = some (.int .i64 n2) ∧ Below wA.heap.size wA w') ((go_split_ands; (repeat (any_goals (with_reducible apply And.intro))) <;> (first | (with_reducible assumption) | (with_reducible exact keepD (by with_reducible assumption)) | (with_reducible exact keepD (keepA _ (by with_reducible assumption))) | (with_reducible exact Below.drew (by with_reducible assumption)) | (with_reducible exact Below.drew (Below.alloc hb0 hbs0 _)) | (with_reducible exact keepC hBn (by with_reducible assumption))))) ((refine appA_step Try.underlying93 info_Point rfl (by omega) (by omega) rfl _ _ rfl wA.heap.size _ [] [n0, n1, n2] rfl hOa rfl hNa rfl 1 rfl (by simp) (by go_size) ?_; intro g3 cap0 wb1 HO1 hgr hBk; have hBn := hBk wA.heap.size wA (Below.drew (Below.alloc hb0 hbs0 _)) (Nat.le_refl _)))
    rename_i hH; clear hH
    go_wp2_with fail
    have hb1 := hBn
    clear hBn hgr hBk hOa hNa o0 o1 o2 pa pb HO0 hb0 hbs0
    have pa := keepC hb1 p11
    have pb := keepC hb1 p21
    have o0 := keepC hb1 q23
    have o1 := keepC hb1 q24
    have o2 := keepC hb1 q25
    have hbs1 := hb1.size
    rw [rounds_succ]
    go_wp2_with fail
    have hOa : OwnA 35 3 (wb1.alloc (.cells #[.int .i64 n3, .int .i64 n4, .int .i64 n5] 35)).drew wA.heap.size (.slice (some ⟨g3, 0, none⟩) 1 cap0) [[n0, n1, n2]] := OwnA.alloc HO1 (.cells #[.int .i64 n3, .int .i64 n4, .int .i64 n5] 35)
    have hNa : Box 35 (wb1.alloc (.cells #[.int .i64 n3, .int .i64 n4, .int .i64 n5] 35)).drew (wb1.heap.size) [n3, n4, n5] := Box.new [n3, n4, n5] (by simp)
    go_region_held3 (fun w' => w'.cell? ⟨xb2, 0, none⟩ = some (.int .i64 n3) ∧ w'.cell? ⟨xb2, 1, none⟩ = some (.int .i64 n4) ∧ w'.cell? ⟨xb2, 2, none⟩ = some (.int .i64 n5) ∧ Below wA.heap.size wA w') ((go_split_ands; (repeat (any_goals (with_reducible apply And.intro))) <;> (first | (with_reducible assumption) | (with_reducible exact keepD (by with_reducible assumption)) | (with_reducible exact keepD (keepA _ (by with_reducible assumption))) | (with_reducible exact Below.drew (by with_reducible assumption)) | (with_reducible exact Below.drew (Below.alloc hb1 hbs1 _)) | (with_reducible exact keepC hBn (by with_reducible assumption))))) ((refine appA_step Try.underlying93 info_Point rfl (by omega) (by omega) rfl _ _ rfl wA.heap.size _ [[n0, n1, n2]] [n3, n4, n5] rfl hOa rfl hNa rfl 2 rfl (by simp) (by go_size) ?_; intro g4 cap1 wb2 HO2 hgr hBk; have hBn := hBk wA.heap.size wA (Below.drew (Below.alloc hb1 hbs1 _)) (Nat.le_refl _)))
    rename_i hH; clear hH
    go_wp2_with fail
    have hb2 := hBn
    clear hBn hgr hBk hOa hNa o0 o1 o2 pa pb HO1 hb1 hbs1
    have pa := keepC hb2 p12
    have pb := keepC hb2 p22
    have o0 := keepC hb2 q26
    have o1 := keepC hb2 q27
    have o2 := keepC hb2 q28
    have hbs2 := hb2.size
    rw [rounds_succ]
    go_wp2_with fail
    have hOa : OwnA 35 3 (wb2.alloc (.cells #[.int .i64 n6, .int .i64 n7, .int .i64 n8] 35)).drew wA.heap.size (.slice (some ⟨g4, 0, none⟩) 2 cap1) [[n0, n1, n2], [n3, n4, n5]] := OwnA.alloc HO2 (.cells #[.int .i64 n6, .int .i64 n7, .int .i64 n8] 35)
    have hNa : Box 35 (wb2.alloc (.cells #[.int .i64 n6, .int .i64 n7, .int .i64 n8] 35)).drew (wb2.heap.size) [n6, n7, n8] := Box.new [n6, n7, n8] (by simp)
    go_region_held3 (fun w' => w'.cell? ⟨xc2, 0, none⟩ = some (.int .i64 n6) ∧ w'.cell? ⟨xc2, 1, none⟩ = some (.int .i64 n7) ∧ w'.cell? ⟨xc2, 2, none⟩ = some (.int .i64 n8) ∧ Below wA.heap.size wA w') ((go_split_ands; (repeat (any_goals (with_reducible apply And.intro))) <;> (first | (with_reducible assumption) | (with_reducible exact keepD (by with_reducible assumption)) | (with_reducible exact keepD (keepA _ (by with_reducible assumption))) | (with_reducible exact Below.drew (by with_reducible assumption)) | (with_reducible exact Below.drew (Below.alloc hb2 hbs2 _)) | (with_reducible exact keepC hBn (by with_reducible assumption))))) ((refine appA_step Try.underlying93 info_Point rfl (by omega) (by omega) rfl _ _ rfl wA.heap.size _ [[n0, n1, n2], [n3, n4, n5]] [n6, n7, n8] rfl hOa rfl hNa rfl 3 rfl (by simp) (by go_size) ?_; intro g5 cap2 wb3 HO3 hgr hBk; have hBn := hBk wA.heap.size wA (Below.drew (Below.alloc hb2 hbs2 _)) (Nat.le_refl _)))
    rename_i hH; clear hH
    go_wp2_with fail
    have hb3 := hBn
    clear hBn hgr hBk hOa hNa o0 o1 o2 pa pb HO2 hb2 hbs2
    rw [rounds_succ]
    go_wp2_with fail
    obtain ⟨-, hlg, hrd, -, -, -⟩ := HO3.at_
    have z0 : wb3.cell? ⟨g5, 0, none⟩ = some (.int .i64 n0) := hrd 0 _ rfl 0 _ rfl
    have z1 : wb3.cell? ⟨g5, 1, none⟩ = some (.int .i64 n1) := hrd 0 _ rfl 1 _ rfl
    have z2 : wb3.cell? ⟨g5, 2, none⟩ = some (.int .i64 n2) := hrd 0 _ rfl 2 _ rfl
    have z3 : wb3.cell? ⟨g5, 3, none⟩ = some (.int .i64 n3) := hrd 1 _ rfl 0 _ rfl
    have z4 : wb3.cell? ⟨g5, 4, none⟩ = some (.int .i64 n4) := hrd 1 _ rfl 1 _ rfl
    have z5 : wb3.cell? ⟨g5, 5, none⟩ = some (.int .i64 n5) := hrd 1 _ rfl 2 _ rfl
    have z6 : wb3.cell? ⟨g5, 6, none⟩ = some (.int .i64 n6) := hrd 2 _ rfl 0 _ rfl
    have z7 : wb3.cell? ⟨g5, 7, none⟩ = some (.int .i64 n7) := hrd 2 _ rfl 1 _ rfl
    have z8 : wb3.cell? ⟨g5, 8, none⟩ = some (.int .i64 n8) := hrd 2 _ rfl 2 _ rfl
    have hbo := Box.below hb3 Bo
    have hsB := hb3.size
    clear HO3 hrd p10 p20 p11 p21 p12 p22 q10 q20 q11 q21 q12 q22 q13 q23 q14 q24 q15 q25 q16 q26 q17 q27 q18 q28
    refine wp_region_tailS 21 (fun w' => Below wb3.heap.size wb3 w') (by kernel_rfl) (by kernel_rfl) (Below.drew (Below.refl _ _)) ?_
    simp only [List.take_succ_cons, List.take_zero, List.drop_succ_cons, List.drop_zero]
    repeat (first
      | (refine stillS_read ?_ (by rfl) (fun w' hS => ?_) ?_; rotate_left; (focus (have y0 := keepC hS z0; have y1 := keepC hS z1; have y2 := keepC hS z2; have y3 := keepC hS z3; have y4 := keepC hS z4; have y5 := keepC hS z5; have y6 := keepC hS z6; have y7 := keepC hS z7; have y8 := keepC hS z8; have qo := keepC hS (hbo.cell 3 rfl); clear hS; go_simp; (try with_reducible rfl); done)); (try simp only [Act.put, List.setIfInBounds_toArray, List.set_cons_zero, List.set_cons_succ]))
      | (refine stillS_call (.int .i64 e7) 70 ?_ (by rfl) (fun w' => ?_) (fun w' hS => ?_) ?_; rotate_left; (focus (go_simp; (try with_reducible rfl); done)); (focus (refine (hd7.out _).mono ?_; rintro e w'' ⟨rfl, hb⟩; exact ⟨rfl, keepB hb hS (Nat.le_refl _)⟩)); (try simp only [Act.put, List.setIfInBounds_toArray, List.set_cons_zero, List.set_cons_succ])))
    refine stillS_nil ?_
    rintro wz hS
    have hbz := Box.below hS hbo
    have st := hbz.cell 3 rfl
    have sf := hbz.frz 3
    go_wp2_with fail
    replace A1 := A1.far (i := 3) (u := .int .i64 x7) (fun b o u h => keepC hS (keepC hb3 h)) kg1 ka1 kb1 kc1
    replace A2 := A2.far (i := 3) (u := .int .i64 x7) (fun b o u h => keepC hS (keepC hb3 h)) kg2 ka2 kb2 kc2
    replace Bo : Box 2 (wz.setCell ⟨go, 3, none⟩ (.int .i64 x7)) go [x0, x4, x6, x7] := hbz.set 3 x7
    replace hB : Below w.heap.size w (wz.setCell ⟨go, 3, none⟩ (.int .i64 x7)) := Below.setCell (p := ⟨go, 3, none⟩) (keepB hS (keepB hb3 hB (Nat.le_refl _)) (Nat.le_refl _)) hgo _
    clear st sf hbz hS hb3 hbo hsB hlg z0 z1 z2 z3 z4 z5 z6 z7 z8
    generalize wz.setCell ⟨go, 3, none⟩ (.int .i64 x7) = wA at *
    rw [rounds_succ]
    go_wp2_with fail
    go_returns
    refine ⟨.slice (some ⟨go, 0, none⟩) 4 4, ?_, ?_, hB⟩
    · rw [hE.out]; rfl
    · rw [hE.out]; exact OwnA.ofBox4 Bo hgo
end Go.Proofs.Ytemimkbngfbomaa
