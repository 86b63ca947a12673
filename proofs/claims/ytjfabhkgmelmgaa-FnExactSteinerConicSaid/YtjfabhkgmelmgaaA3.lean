/- append at slices of numbers: a slice that is read, appended to a slice of the call's own; slices.Grow at a nil slice; slices.Concat of three slices; no condition but on sizes. -/
import Derived.Test.YtjfabhkgmelmgaaA1
import Derived.Test.YtjfabhkgmelmgaaH
import Derived.Lib.AppendZeros
namespace Go.Proofs.Ytjfabhkgmelmgaa
open Go.RowKit
set_option linter.unusedSimpArgs false
set_option linter.unusedVariables false
set_option maxRecDepth 100000

/-- append of a slice of numbers that can be read to a slice of the call's own. -/
theorem append_ints {ops : Array Oper} {rest : List Oper} {o : Oper} {a : Act} {Q : Exit → Act → World → Prop} {w : World} (base : Nat) (v : Value) (zs news : List Int) (hown : OwnI w base v zs) (hgd : o.guard = none) (s x : Operand)
    (ho : o.op = .call { callee := .builtin .append, args := #[s, x], argTypes := #[80, 80] })
    (hs : a.eval s = v) {b off c : Nat} (hx : a.eval x = .slice (some ⟨b, off, none⟩) news.length c) (hR : Rd w b off news)
    (hlen : zs.length ≤ 10000000) (hlen2 : news.length ≤ 10000000) (hbase : base ≤ w.heap.size)
    (h : ∀ v' w', OwnI w' base v' (zs ++ news) → (∀ b0 a0, Below b0 a0 w → b0 ≤ base → Below b0 a0 w') → w.heap.size ≤ w'.heap.size → w.grownBy w' v.ownBlock → wpList Try.prog ops Q rest (a.put o.dst v') w') :
    wpList Try.prog ops Q (o :: rest) a w := by
  obtain ⟨i0, hi, hz0, hz1, hz2⟩ := info_parts info_int
  refine wpList_append_own _ hgd s x 80 ho base 2 i0 (.int .i64 0) 1 8 Try.underlying80 hi hz0 hz1 hz2 rfl (by decide) v zs.length (zs.map (Value.int .i64)) hs hown
    ⟨b, off, none⟩ news.length c (news.map (Value.int .i64)) hx (by simp) ?_ ?_ ?_ ?_ hbase ?_
  · intro j u hj
    rw [List.getElem?_map, Option.map_eq_some_iff] at hj
    obtain ⟨y, hy, rfl⟩ := hj
    have := hR j y hy
    rw [Addr.add_lit]
    exact this
  · intro u hu
    rw [List.mem_map] at hu
    obtain ⟨y, _, rfl⟩ := hu
    rfl
  · unfold maxLen; omega
  · omega
  · intro v' w' h1 h2 _
    refine h v' w' ?_ ?_ h2.size h2
    · unfold OwnI; rw [List.length_append, List.map_append]; exact h1
    · intro b0 a0 hb hle
      exact hb.grown h2 (by omega) (fun k hk => by have := (hown.lt k hk).1; omega)
def GrowPost (w : World) (e : Ending) (w' : World) : Prop := ∃ v, e = .returned v ∧ OwnI w' w.heap.size v [] ∧ Below w.heap.size w w'
set_option maxHeartbeats 1000000 in
theorem Grow_nil (n : Nat) (w : World) (h0 : 0 < n) (h1 : n ≤ 1000000) :
    Calls Try.prog 191 #[.slice none 0 0, .int .i64 n] w (GrowPost w) := by
  obtain ⟨i0, hi, hz0, hz1, hz2⟩ := info_parts info_int
  have h2 : 0 < (n : Int) := by omega
  have h3 := Lib.hid (fun (w0 : World) (ty : TypeId) => Lib.run_append_nil_zeros (P := Try.prog) w0 80 3 ty 2 i0 (.int .i64 0) .i64 .i64 Try.underlying80 Try.underlying3 hi hz0 n h0 (by rw [hz1]; decide) (by omega) (by rw [hz2]; omega))
  go_enter Try.func191, Try.ntmps191
  go_wp2_with (at_builtin; refine Lib.wpList_append_run _ rfl _ _ _ _ rfl _ _ rfl rfl _ _ (h3.out _ _) ?_)
  go_ret
  refine ⟨_, rfl, ?_, by (repeat' (first | (with_reducible exact Below.refl _ _) | (with_reducible assumption) | (with_reducible refine Below.alloc ?_ ?_ _) | (with_reducible refine Below.drew ?_) | (with_reducible refine below_drewN ?_ _) | (with_reducible refine Below.setCell ?_ ?_ _) | (refine Below.step ?_ (by with_reducible assumption) ?_) | go_size))⟩
  exact OwnI.made w _ (grownCap w n 0 2) _ (Nat.le_refl _) (grownCap_le_maxLen _ _ _ _ (by unfold maxLen; omega)) (by
    have := grownCap_ge w n 0 2
    simp [Builtin.zeroCells]; omega)
theorem keepCV {W w1 : World} (hb : Below W.heap.size W w1) {b o : Nat} {v : Value} (h : W.cell? ⟨b, o, none⟩ = some v) : w1.cell? ⟨b, o, none⟩ = some v := keepC hb h
theorem ownI_far {base : Nat} {w w' : World} {v : Value} {zs : List Int} (h : OwnI w base v zs) (hg : w.grownBy w' v.ownBlock) {b o : Nat} {u : Value} (hlt : b < base) (hc : w.cell? ⟨b, o, none⟩ = some u) : w'.cell? ⟨b, o, none⟩ = some u :=
  hg.cell hc fun e => by have := (h.lt b e.symm).1; omega
theorem Grow_9 (w : World) : Calls Try.prog 191 #[.slice none 0 0, .int .i64 9] w (GrowPost w) := Grow_nil 9 w (by omega) (by omega)
/-- Three slices of three numbers, one behind the other. -/
theorem Concat3 (b b0 b1 b2 o0 o1 o2 c0 c1 c2 cap : Nat) (x0 x1 x2 y0 y1 y2 z0 z1 z2 : Int) (w : World) (h0 : w.cell? ⟨b, 0, none⟩ = some (.slice (some ⟨b0, o0, none⟩) 3 c0)) (h1 : w.cell? ⟨b, 1, none⟩ = some (.slice (some ⟨b1, o1, none⟩) 3 c1)) (h2 : w.cell? ⟨b, 2, none⟩ = some (.slice (some ⟨b2, o2, none⟩) 3 c2)) (r0 : Rd w b0 o0 [x0, x1, x2]) (r1 : Rd w b1 o1 [y0, y1, y2]) (r2 : Rd w b2 o2 [z0, z1, z2]) (l0 : b0 < w.heap.size) (l1 : b1 < w.heap.size) (l2 : b2 < w.heap.size) :
    Calls Try.prog 183 #[.slice (some ⟨b, 0, none⟩) 3 cap] w fun e w' => ∃ v, e = .returned v ∧ OwnI w' w.heap.size v [x0, x1, x2, y0, y1, y2, z0, z1, z2] ∧ Below w.heap.size w w' := by
  have lb : b < w.heap.size := World.block_lt_of_cell? w _ h0
  go_enter Try.func183, Try.ntmps183
  go_wp2_with fail
  refine wp_loop_rounds 4 ?_
  rw [rounds_succ]
  go_wp2_with fail
  rw [rounds_succ]
  go_wp2_with fail
  rw [rounds_succ]
  go_wp2_with fail
  rw [rounds_succ]
  go_wp2_with (go_at_call 191; refine (Grow_9 _).mono ?_; rintro e w1 ⟨v1, rfl, hown1, hb1⟩; have hz1 := hb1.size)
  have s0 := keepCV hb1 h0
  have s1 := keepCV hb1 h1
  have s2 := keepCV hb1 h2
  have q0 := r0.below hb1 l0
  have q1 := r1.below hb1 l1
  have q2 := r2.below hb1 l2
  clear r0 r1 r2 h0 h1 h2
  refine wp_loop_rounds 4 ?_
  rw [rounds_succ]
  go_wp2_with (at_builtin; refine append_ints w.heap.size _ [] [x0, x1, x2] hown1 rfl _ _ rfl rfl rfl q0 (by simp) (by simp) (by omega) ?_; intro v2 w2 hown2 hB2 hz2 hg2)
  have far2 := fun (b o : Nat) (u : Value) (hlt : b < w.heap.size) (hc : w1.cell? ⟨b, o, none⟩ = some u) => ownI_far hown1 hg2 hlt hc
  have FAR2 := Lib.hid far2; clear far2
  have s1 := FAR2.out _ _ _ lb s1
  have q1 : Rd w2 b1 o1 [y0, y1, y2] := fun i x hx => FAR2.out _ _ _ l1 (q1 i x hx)
  have s2 := FAR2.out _ _ _ lb s2
  have q2 : Rd w2 b2 o2 [z0, z1, z2] := fun i x hx => FAR2.out _ _ _ l2 (q2 i x hx)
  clear FAR2 hown1
  rw [rounds_succ]
  go_wp2_with (at_builtin; refine append_ints w.heap.size _ [x0, x1, x2] [y0, y1, y2] hown2 rfl _ _ rfl rfl rfl q1 (by simp) (by simp) (by omega) ?_; intro v3 w3 hown3 hB3 hz3 hg3)
  have far3 := fun (b o : Nat) (u : Value) (hlt : b < w.heap.size) (hc : w2.cell? ⟨b, o, none⟩ = some u) => ownI_far hown2 hg3 hlt hc
  have FAR3 := Lib.hid far3; clear far3
  have s2 := FAR3.out _ _ _ lb s2
  have q2 : Rd w3 b2 o2 [z0, z1, z2] := fun i x hx => FAR3.out _ _ _ l2 (q2 i x hx)
  clear FAR3 hown2
  rw [rounds_succ]
  go_wp2_with (at_builtin; refine append_ints w.heap.size _ [x0, x1, x2, y0, y1, y2] [z0, z1, z2] hown3 rfl _ _ rfl rfl rfl q2 (by simp) (by simp) (by omega) ?_; intro v4 w4 hown4 hB4 hz4 hg4)
  have far4 := fun (b o : Nat) (u : Value) (hlt : b < w.heap.size) (hc : w3.cell? ⟨b, o, none⟩ = some u) => ownI_far hown3 hg4 hlt hc
  have FAR4 := Lib.hid far4; clear far4
  rw [rounds_succ]
  go_wp2
  go_ret
  exact ⟨_, rfl, hown4, hB4 _ _ (hB3 _ _ (hB2 _ _ hb1 (Nat.le_refl _)) (Nat.le_refl _)) (Nat.le_refl _)⟩
end Go.Proofs.Ytjfabhkgmelmgaa
