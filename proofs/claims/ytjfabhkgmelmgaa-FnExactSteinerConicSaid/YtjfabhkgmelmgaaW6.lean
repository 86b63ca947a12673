/- New slices of numbers and of points that a call makes by append, and the functions that return them; p is a prime. -/
import Derived.Test.YtjfabhkgmelmgaaW5
namespace Go.Proofs.Ytjfabhkgmelmgaa
open Go.RowKit
set_option linter.unusedSimpArgs false
set_option linter.unusedVariables false
set_option maxRecDepth 100000

theorem info_int : (Try.prog.info? 2).map (fun i => (i.zero, i.size, i.bytes)) = some (some (.int .i64 0), 1, 8) := by kernel_rfl
/-- A slice value with these numbers, in memory from block base on. -/
def OwnI (w : World) (base : Nat) (v : Value) (zs : List Int) : Prop := w.ownsRow base 2 1 v zs.length (zs.map (Value.int .i64))
theorem OwnI.shape {w : World} {base : Nat} {v : Value} {zs : List Int} (h : OwnI w base v zs) (hne : zs ≠ []) :
    ∃ g cap, v = .slice (some ⟨g, 0, none⟩) zs.length cap ∧ base ≤ g ∧ g < w.heap.size ∧ Rd w g 0 zs ∧ (∀ j, w.frozen? ⟨g, j, none⟩ = false) ∧ zs.length ≤ cap := by
  have hs := h
  rcases h.2 with ⟨_, h0⟩ | ⟨g, cap, cur, rfl, hb, hh, hn, hcm, hcs, htake⟩
  · exact absurd (List.length_eq_zero_iff.1 h0) hne
  · have hlt : g < w.heap.size := (hs.lt g rfl).2
    refine ⟨g, cap, rfl, hb, hlt, ?_, fun j => hs.frozenAt j, hn⟩
    intro i x hx
    have hi : i < zs.length := by
      rcases Nat.lt_or_ge i zs.length with h' | h'
      · exact h'
      · rw [List.getElem?_eq_none h'] at hx; cases hx
    have := hs.cellAt i (by omega)
    rw [Nat.zero_add, this, List.getElem?_map, hx]
    rfl
theorem OwnI.base_le {w : World} {base base' : Nat} {v : Value} {zs : List Int} (h : OwnI w base v zs) (hb : base' ≤ base) : OwnI w base' v zs := by
  obtain ⟨h1, h2⟩ := h
  refine ⟨h1, ?_⟩
  rcases h2 with h2 | ⟨g, cap, cur, hv, hg, r⟩
  · exact .inl h2
  · exact .inr ⟨g, cap, cur, hv, Nat.le_trans hb hg, r⟩
/-- What lies below a world's end stays, whatever a later call makes. -/
theorem OwnI.below {w w' : World} {base : Nat} {v : Value} {zs : List Int} (h : OwnI w base v zs) (hb : Below w.heap.size w w') : OwnI w' base v zs := by
  have hs := h
  obtain ⟨h1, h2⟩ := h
  refine ⟨h1, ?_⟩
  rcases h2 with h2 | ⟨g, cap, cur, rfl, hg, hh, r⟩
  · exact .inl h2
  · exact .inr ⟨g, cap, cur, rfl, hg, by rw [hb.block g (hs.lt g rfl).2]; exact hh, r⟩

theorem OwnI.alloc {w : World} {base : Nat} {v : Value} {zs : List Int} (h : OwnI w base v zs) (o : Obj) : OwnI (w.alloc o) base v zs := World.ownsRow.alloc h o
theorem OwnI.made (w : World) (cur : Array Value) (cap base : Nat) (hb : base ≤ w.heap.size) (hm : cap ≤ maxLen) (hs : cur.size = cap) :
    OwnI (w.alloc (.cells cur 2)) base (.slice (some ⟨w.heap.size, 0, none⟩) 0 cap) [] := World.ownsRow_made w cur cap hb hm (by omega)
/-- append of one number, just made, to a slice of the call's own. -/
theorem append_int {ops : Array Oper} {rest : List Oper} {o : Oper} {a : Act} {Q : Exit → Act → World → Prop} {w : World} {n : Int} {t0 : Nat} (base : Nat) (v : Value) (zs : List Int) (hown : OwnI w base v zs) (hgd : o.guard = none) (s x : Operand)
    (ho : o.op = .call { callee := .builtin .append, args := #[s, x], argTypes := #[80, 80] })
    (hs : a.eval s = v) (hx : a.eval x = .slice (some ⟨w.heap.size, 0, none⟩) 1 1)
    (hlen : zs.length ≤ 10000000) (hbase : base ≤ w.heap.size)
    (h : ∀ v' w', OwnI w' base v' (zs ++ [n]) → (∀ b0 a0, Below b0 a0 w → b0 ≤ base → Below b0 a0 w') → w.heap.size < w'.heap.size → wpList Try.prog ops Q rest (a.put o.dst v') w') :
    wpList Try.prog ops Q (o :: rest) a (w.alloc (.cells #[.int .i64 n] t0)) := by
  obtain ⟨i0, hi, hz0, hz1, hz2⟩ := info_parts info_int
  refine wpList_append_own _ hgd s x 80 ho base 2 i0 (.int .i64 0) 1 8 Try.underlying80 hi hz0 hz1 hz2 rfl (by decide) v zs.length (zs.map (Value.int .i64)) hs (hown.alloc _)
    ⟨w.heap.size, 0, none⟩ 1 1 [.int .i64 n] hx rfl ?_ ?_ ?_ ?_ (by simp; omega) ?_
  · intro j u hj
    match j, hj with
    | 0, hj => simp at hj; subst hj; simp [Addr.add]
  · intro u hu; simp at hu; subst hu; rfl
  · unfold maxLen; omega
  · omega
  · intro v' w' h1 h2 h3
    have hsz := h2.size
    refine h v' w' ?_ ?_ (by simp at hsz; omega)
    · unfold OwnI; simpa using h1
    · intro b0 a0 hb hle
      exact (hb.alloc (by omega) _).grown h2 (by simp; omega) (fun k hk => by have := (hown.lt k hk).1; omega)

def NormPost (p : Int) (zs : List Int) (w : World) (e : Ending) (w' : World) : Prop :=
  ∃ v, e = .returned (.tuple #[v, .bool (!(fac p zs == 0))]) ∧ OwnI w' w.heap.size v (nrm p zs) ∧ Below w.heap.size w w'
set_option maxHeartbeats 600000 in
theorem l01Norm_any (p : Int) (b off cap : Nat) (zs : List Int) (w : World) (hp : isP p = true) (hc : Rd w b off zs) (hbl : b < w.heap.size) (hm : zs.length ≤ 1000000) :
    Calls Try.prog 131 #[.int .i64 p, .slice (some ⟨b, off, none⟩) zs.length cap] w (NormPost p zs w) := by
  have k1 := isP_lo hp
  have k2 := isP_hi hp
  have HP := Lib.hid hp; clear hp
  have hlen := nrm_len p zs
  obtain ⟨i0, hi, hz0, hz1, hz2⟩ := info_parts info_int
  go_enter Try.func131, Try.ntmps131
  go_wp2
  go_loopw [6, 7, 8] (fun f v i wr => ∃ (k : Nat) (f0 : Int), k ≤ zs.length ∧ f = .int .i64 f0 ∧ i = .int .i64 k ∧ 0 ≤ f0 ∧ f0 ≤ 12 ∧ Hid (fac p (zs.take k) = f0) ∧ OwnI wr w.heap.size v ((nrm p zs).take k) ∧ Below w.heap.size w wr) (fun _ _ i _ => zs.length - (intOf i).toNat)
  case atStart => exact ⟨0, 0, Nat.zero_le _, rfl, rfl, by omega, by omega, rfl, OwnI.made _ _ 0 _ (Nat.le_refl _) (by unfold maxLen; omega) rfl, by (repeat' (first | (with_reducible exact Below.refl _ _) | (with_reducible assumption) | (with_reducible refine Below.alloc ?_ ?_ _) | (with_reducible refine Below.drew ?_) | (with_reducible refine below_drewN ?_ _) | (with_reducible refine Below.setCell ?_ ?_ _) | (refine Below.step ?_ (by with_reducible assumption) ?_) | go_size))⟩
  case round =>
    obtain ⟨k, f0, hk, rfl, rfl, hf0, hf1, hF, hown, hB⟩ := hrel
    have hBz := hB.size
    by_cases hlt : k < zs.length
    · obtain ⟨x, hcell, hx⟩ := (hc.below hB hbl).get hlt
      have hnext : Hid ((nrm p zs).take (k + 1) = (nrm p zs).take k ++ [nr p (fac p (zs.take (k + 1))) x]) := by
        show _ = _
        rw [List.take_add_one, nrm_get HP.out hx.out]; rfl
      have hfs := Lib.hid (fac_snoc HP.out hx.out)
      have y0 : 0 ≤ x % p := Int.emod_nonneg _ (by omega)
      have y1 : x % p < p := Int.emod_lt_of_pos _ (by omega)
      have hlenk : Hid (((nrm p zs).take k).length ≤ 1000000) := by show _ ≤ _; rw [List.length_take]; omega
      by_cases hf : f0 = 0
      · subst hf
        by_cases hy : x % p = 0
        · have hF' : Hid (fac p (zs.take (k + 1)) = 0) := by show _ = _; rw [hfs.out, if_pos hF.out, if_pos hy]
          have hV : Hid (nr p (fac p (zs.take (k + 1))) x = 0) := by show _ = _; unfold nr; rw [hy]; simp
          have hy' : (x % p == 0) = true := by simpa using hy
          clear hc hfs
          go_wp2_with (first | (go_at_call 69; refine (l01Mod_any _ _ _ k1 k2).mono ?_; rintro e w' ⟨rfl, rfl⟩) | (go_at_call 176; refine (l01Inverse_any _ _ _ HP.out).mono ?_; rintro e w' ⟨rfl, rfl⟩) | (at_builtin; refine append_int w.heap.size _ _ hown rfl _ _ rfl rfl rfl (by have := hlenk.out; omega) (by omega) ?_; intro v' w1 hown1 hB1 hz1))
          go_roundw
          case rel => exact ⟨k + 1, 0, by omega, rfl, by go_num, by omega, by omega, hF', by rw [hnext.out, hV.out]; exact hown1, hB1 _ _ hB (Nat.le_refl _)⟩
          case measure => simp [intOf]; omega
        · have hF' : Hid (fac p (zs.take (k + 1)) = inv p (x % p)) := by show _ = _; rw [hfs.out, if_pos hF.out, if_neg hy, inv_mod]
          have hV : Hid (nr p (fac p (zs.take (k + 1))) x = x % p * inv p (x % p) % p) := by show _ = _; unfold nr; rw [hF'.out]
          have hy' : (x % p == 0) = false := by simpa using hy
          have i0 := inv_lo (n := x % p) HP.out
          have i1 := inv_hi (n := x % p) HP.out
          have ⟨e1, e2⟩ := mul_bd (a := x % p) (b := inv p (x % p)) (A := 12) (B := 12) y0 (by omega) i0 (by omega)
          clear hc hfs
          go_wp2_with (first | (go_at_call 69; refine (l01Mod_any _ _ _ k1 k2).mono ?_; rintro e w' ⟨rfl, rfl⟩) | (go_at_call 176; refine (l01Inverse_any _ _ _ HP.out).mono ?_; rintro e w' ⟨rfl, rfl⟩) | (at_builtin; refine append_int w.heap.size _ _ hown rfl _ _ rfl rfl rfl (by have := hlenk.out; omega) (by omega) ?_; intro v' w1 hown1 hB1 hz1))
          go_roundw
          case rel => exact ⟨k + 1, inv p (x % p), by omega, rfl, by go_num, by omega, by omega, hF', by rw [hnext.out, hV.out]; exact hown1, hB1 _ _ hB (Nat.le_refl _)⟩
          case measure => simp [intOf]; omega
      · have hF' : Hid (fac p (zs.take (k + 1)) = f0) := by show _ = _; rw [hfs.out, if_neg (by rw [hF.out]; exact hf), hF.out]
        have hV : Hid (nr p (fac p (zs.take (k + 1))) x = x % p * f0 % p) := by show _ = _; unfold nr; rw [hF'.out]
        have hf' : (f0 == 0) = false := by simpa using hf
        have ⟨e1, e2⟩ := mul_bd (a := x % p) (b := f0) (A := 12) (B := 12) y0 (by omega) hf0 hf1
        clear hc hfs
        go_wp2_with (first | (go_at_call 69; refine (l01Mod_any _ _ _ k1 k2).mono ?_; rintro e w' ⟨rfl, rfl⟩) | (go_at_call 176; refine (l01Inverse_any _ _ _ HP.out).mono ?_; rintro e w' ⟨rfl, rfl⟩) | (at_builtin; refine append_int w.heap.size _ _ hown rfl _ _ rfl rfl rfl (by have := hlenk.out; omega) (by omega) ?_; intro v' w1 hown1 hB1 hz1))
        go_roundw
        case rel => exact ⟨k + 1, f0, by omega, rfl, by go_num, by omega, by omega, hF', by rw [hnext.out, hV.out]; exact hown1, hB1 _ _ hB (Nat.le_refl _)⟩
        case measure => simp [intOf]; omega
    · have hE1 : Hid (fac p zs = f0) := by show _ = _; have := hF.out; rwa [List.take_of_length_le (by omega)] at this
      have hown' : OwnI wr w.heap.size u7 (nrm p zs) := by rwa [List.take_of_length_le (by omega)] at hown
      clear hown hc
      go_wp2
      go_ret2
      exact ⟨_, by rw [hE1.out]; rfl, hown', hB⟩
def NormNe (p : Int) (zs : List Int) (w : World) (e : Ending) (w' : World) : Prop :=
  ∃ g cap, e = .returned (.tuple #[.slice (some ⟨g, 0, none⟩) zs.length cap, .bool (!(fac p zs == 0))]) ∧ w.heap.size ≤ g ∧ g < w'.heap.size ∧ Rd w' g 0 (nrm p zs) ∧ (∀ j, w'.frozen? ⟨g, j, none⟩ = false) ∧ Below w.heap.size w w'
theorem l01Norm_ne (p : Int) (b off cap : Nat) (zs : List Int) (w : World) (hp : isP p = true) (hc : Rd w b off zs) (hbl : b < w.heap.size) (hm : zs.length ≤ 1000000) (hne : zs ≠ []) :
    Calls Try.prog 131 #[.int .i64 p, .slice (some ⟨b, off, none⟩) zs.length cap] w (NormNe p zs w) :=
  (l01Norm_any p b off cap zs w hp hc hbl hm).mono fun e w' ⟨v, he, hown, hb⟩ => by
    obtain ⟨g, cap', hv, h1, h2, h3, h4, h5⟩ := hown.shape (by unfold nrm; simpa using hne)
    rw [nrm_len] at hv
    exact ⟨g, cap', by rw [he, hv], h1, h2, h3, h4, hb⟩

end Go.Proofs.Ytjfabhkgmelmgaa
