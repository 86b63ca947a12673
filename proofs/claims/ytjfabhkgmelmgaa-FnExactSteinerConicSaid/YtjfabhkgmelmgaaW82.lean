/- slices.Clone at a slice of numbers, and the program's reduced list of rows; p is a prime. -/
import Derived.Test.YtjfabhkgmelmgaaI7
import Derived.Test.YtjfabhkgmelmgaaW80
import Derived.Test.YtjfabhkgmelmgaaW5
import Derived.Test.YtjfabhkgmelmgaaH3
import Derived.Lib.SliceRun
import Derived.Deep.RegionHeld3
import Derived.Deep.DeepCutAuto
namespace Go.Proofs.Ytjfabhkgmelmgaa
open Go.RowKit
set_option linter.unusedSimpArgs false
set_option linter.unusedVariables false
set_option maxRecDepth 100000

/-- append of nothing. -/
theorem append_ints0 {ops : Array Oper} {rest : List Oper} {o : Oper} {a : Act} {Q : Exit → Act → World → Prop} {w : World} (base : Nat) (v : Value) (zs : List Int) (hown : OwnI w base v zs) (hgd : o.guard = none) (s x : Operand)
    (ho : o.op = .call { callee := .builtin .append, args := #[s, x], argTypes := #[80, 80] })
    (hs : a.eval s = v) {ad : Addr} {c : Nat} (hx : a.eval x = .slice (some ad) 0 c)
    (hlen : zs.length ≤ 10000000) (hbase : base ≤ w.heap.size)
    (h : ∀ v' w', OwnI w' base v' zs → (∀ b0 a0, Below b0 a0 w → b0 ≤ base → Below b0 a0 w') → wpList Try.prog ops Q rest (a.put o.dst v') w') :
    wpList Try.prog ops Q (o :: rest) a w := by
  obtain ⟨i0, hi, hz0, hz1, hz2⟩ := info_parts info_int
  refine wpList_append_own _ hgd s x 80 ho base 2 i0 (.int .i64 0) 1 8 Try.underlying80 hi hz0 hz1 hz2 rfl (by decide) v zs.length (zs.map (Value.int .i64)) hs hown
    ad 0 c [] hx rfl (by simp) (by simp) ?_ ?_ hbase ?_
  · unfold maxLen; omega
  · omega
  · intro v' w' h1 h2 _
    refine h v' w' ?_ ?_
    · unfold OwnI; simpa using h1
    · intro b0 a0 hb hle
      exact hb.grown h2 (by omega) (fun k hk => by have := (hown.lt k hk).1; omega)
set_option maxHeartbeats 2000000 in
theorem Clone_any (v : Value) (r : List Int) (w : World) (h : SlI w v r) (hm : r.length ≤ 1000000) :
    Calls Try.prog 133 #[v] w fun e w' => ∃ u, e = .returned u ∧ OwnI w' w.heap.size u r ∧ Below w.heap.size w w' := by
  obtain ⟨a, c, rfl, hcap, h⟩ := h
  have qT : ∀ (w : World) (a : Option Addr) (n c n' c' : Nat), (binOp .eql 80 (.slice a n c) (.slice none n' c')).run Try.prog w = .ok (.bool a.isNone) w := fun w a n c n' c' => Lib.run_eql_slice_nil w _ _ a n c n' c' Try.underlying80
  have h0 : OwnI (w.alloc (.cells #[] 2)) w.heap.size (.slice (some ⟨w.heap.size, 0, none⟩) 0 0) [] := OwnI.made0 rfl (Nat.le_refl _)
  have hB0 : Below w.heap.size w (w.alloc (.cells #[] 2)) := (Below.refl _ _).alloc (Nat.le_refl _) _
  by_cases hz : r = []
  · subst hz
    cases a with
    | none =>
      have hc : OwnI w w.heap.size (.slice none 0 0) [] := (OwnA.nil 2 1 w w.heap.size).2
      go_enter Try.func133, Try.ntmps133
      go_wp2
      go_ret
      exact ⟨_, rfl, hc, Below.refl _ _⟩
    | some ad =>
      go_enter Try.func133, Try.ntmps133
      go_wp2_with (at_builtin; refine append_ints0 w.heap.size _ [] h0 rfl _ _ rfl rfl rfl (by simp) (by simp) ?_; intro v' w1 hown1 hB1)
      go_ret
      exact ⟨_, rfl, hown1, hB1 _ _ hB0 (Nat.le_refl _)⟩
  · rcases h with h | ⟨b, off, rfl, hbl, hR⟩
    · exact absurd h hz
    · have hR2 : Rd (w.alloc (.cells #[] 2)) b off r := fun i x hx => keepA _ (hR i x hx)
      go_enter Try.func133, Try.ntmps133
      go_wp2_with (at_builtin; refine append_ints w.heap.size _ [] r h0 rfl _ _ rfl rfl rfl hR2 (by simp) (by omega) (by simp) ?_; intro v' w1 hown1 hB1 hz1 hg1)
      go_ret
      exact ⟨_, rfl, by simpa using hown1, hB1 _ _ hB0 (Nat.le_refl _)⟩
/-- The reduced list as a value: empty, or rows in blocks of their own. -/
def RedV (w : World) (base : Nat) (v : Value) (L : List (List Int)) : Prop :=
  (L = [] ∧ ∃ a c, v = .slice a 0 c) ∨ ∃ g cap n vs bs cs, 0 < n ∧ v = .slice (some ⟨g, 0, none⟩) L.length cap ∧ L.length ≤ cap ∧ OutB w base g n vs bs cs L
/-- The rows while row k is being written. -/
structure Elim (p : Int) (n t c k : Nat) (b : List Int) (N M : List (List Int)) : Prop where
  len : M.length = N.length
  at_ : ∀ (l : Nat) (s : List Int), N[l]? = some s → M[l]? = some (if l < k ∧ l ≠ t ∧ vat s c ≠ 0 then less p s b (vat s c) else s)
theorem Elim.start {p : Int} {n t c : Nat} {b : List Int} {N : List (List Int)} : Elim p n t c 0 b N N := ⟨rfl, fun l s hs => by rw [if_neg (by omega)]; exact hs⟩
theorem Elim.skip {p : Int} {n t c k : Nat} {b s : List Int} {N M : List (List Int)} (h : Elim p n t c k b N M) (hk : N[k]? = some s) (hs : k = t ∨ vat s c = 0) : Elim p n t c (k + 1) b N M := ⟨h.len, fun l x hx => by
  rw [h.at_ l x hx]
  by_cases e : l = k
  · subst e
    rw [hk] at hx; injection hx with hx; subst hx
    rw [if_neg (by omega), if_neg (by rintro ⟨_, h1, h2⟩; rcases hs with hs | hs; exact h1 hs; exact h2 hs)]
  · have : (l < k + 1) = (l < k) := by apply propext; omega
    simp only [this]⟩
theorem Elim.done {p : Int} {n t c k : Nat} {b s : List Int} {N M : List (List Int)} (h : Elim p n t c k b N M) (hk : N[k]? = some s) (hs : k ≠ t) (h0 : vat s c ≠ 0) : Elim p n t c (k + 1) b N (M.set k (less p s b (vat s c))) := ⟨by rw [List.length_set]; exact h.len, fun l x hx => by
  have hl : l < M.length := by rw [h.len]; exact (List.getElem?_eq_some_iff.1 hx).1
  rw [List.getElem?_set]
  by_cases e : k = l
  · subst e
    rw [hk] at hx; injection hx with hx; subst hx
    rw [if_pos rfl, if_pos hl, if_pos ⟨by omega, hs, h0⟩]
  · rw [if_neg e, h.at_ l x hx]
    have : (l < k + 1) = (l < k) := by apply propext; omega
    simp only [this]⟩
theorem Elim.row {p : Int} {n t c k : Nat} {b s : List Int} {N M : List (List Int)} (h : Elim p n t c k b N M) (hk : N[k]? = some s) : M[k]? = some s := by
  rw [h.at_ k s hk, if_neg (by omega)]
theorem Elim.keep {p : Int} {n t c k : Nat} {b s : List Int} {N M : List (List Int)} (h : Elim p n t c k b N M) (ht : N[t]? = some s) : M[t]? = some s := by
  rw [h.at_ t s ht, if_neg (by rintro ⟨_, h1, _⟩; exact h1 rfl)]
/-- A row after j numbers. -/
def part (p : Int) (s b : List Int) (m : Int) (j : Nat) : List Int := (less p s b m).take j ++ s.drop j
theorem part_zero (p : Int) (s b : List Int) (m : Int) : part p s b m 0 = s := by simp [part]
theorem part_all {p : Int} {s b : List Int} {m : Int} : part p s b m s.length = less p s b m := by
  unfold part
  rw [List.take_of_length_le (by rw [less_len]; omega), List.drop_of_length_le (Nat.le_refl _), List.append_nil]
theorem part_len {p : Int} {s b : List Int} {m : Int} {j : Nat} (hj : j ≤ s.length) : (part p s b m j).length = s.length := by
  unfold part; rw [List.length_append, List.length_take, List.length_drop, less_len]; omega
theorem part_get {p : Int} {s b : List Int} {m : Int} {j : Nat} (hj : j < s.length) : (part p s b m j)[j]? = some (vat s j) := by
  unfold part
  have hl : ((less p s b m).take j).length = j := by rw [List.length_take, less_len]; omega
  rw [List.getElem?_append_right (by omega), hl, Nat.sub_self, List.getElem?_drop, Nat.add_zero, List.getElem?_eq_getElem hj]
  congr 1
  exact (vat_get (List.getElem?_eq_getElem hj)).symm
theorem part_set {p : Int} {s b : List Int} {m : Int} {j : Nat} (hj : j < s.length) : (part p s b m j).set j ((vat s j - m * vat b j) % p) = part p s b m (j + 1) := by
  unfold part
  have hd : s.drop j = s[j]'hj :: s.drop (j + 1) := List.drop_eq_getElem_cons hj
  have hl : ((less p s b m).take j).length = j := by rw [List.length_take, less_len]; omega
  rw [less_take hj, List.set_append_right _ _ (by omega), hl, Nat.sub_self, hd, List.set_cons_zero, List.append_assoc]; rfl
theorem swapM {M : List (List Int)} {t i : Nat} {r s : List Int} (hr : M[t]? = some r) (hs : M[i]? = some s) :
    ((M.set t s).set i r)[t]? = some s ∧ ((M.set t s).set i r)[i]? = some r ∧ (∀ k, k ≠ t → k ≠ i → ((M.set t s).set i r)[k]? = M[k]?) ∧ ((M.set t s).set i r).length = M.length := by
  have ht : t < M.length := (List.getElem?_eq_some_iff.1 hr).1
  have hi : i < M.length := (List.getElem?_eq_some_iff.1 hs).1
  refine ⟨?_, ?_, fun k h1 h2 => ?_, by simp⟩
  · rw [List.getElem?_set, List.length_set]
    by_cases e : i = t
    · subst e; rw [if_pos rfl, if_pos hi]; rw [hr] at hs; exact hs
    · rw [if_neg e, List.getElem?_set, if_pos rfl, if_pos ht]
  · rw [List.getElem?_set, List.length_set, if_pos rfl, if_pos hi]
  · rw [List.getElem?_set, if_neg (Ne.symm h2), List.getElem?_set, if_neg (Ne.symm h1)]
theorem RowsAt.at_ {w w' : World} {a : Option Addr} {rows : List (List Int)} (h : RowsAt w a rows) (hb : Below w.heap.size w w') {k : Nat} {r : List Int} (hk : rows[k]? = some r) :
    ∃ b off ua uc, a = some ⟨b, off, none⟩ ∧ w'.cell? ⟨b, off + k, none⟩ = some (.slice ua r.length uc) ∧ SlI w' (.slice ua r.length uc) r := by
  obtain ⟨b, off, u, ha, hbl, hc, hs⟩ := h k r hk
  obtain ⟨ua, uc, rfl⟩ := hs.shape
  exact ⟨b, off, ua, uc, ha, keepC hb hc, hs.below hb⟩
def zeros (M : List (List Int)) (t k c : Nat) : Prop := ∀ (l : Nat) (s : List Int), t ≤ l → l < k → M[l]? = some s → vat s c = 0
set_option maxHeartbeats 16000000 in
theorem reduced_any (p : Int) (n cap : Nat) (a : Option Addr) (rows : List (List Int)) (w : World) (hp : isP p = true) (hrows : ∀ r ∈ rows, okR p n r) (hA : RowsAt w a rows) (hm : rows.length ≤ 1000) (hn : n ≤ 1000) :
    Calls Try.prog 64 #[.int .i64 p, .slice a rows.length cap] w fun e w' => ∃ v, e = .returned v ∧ RedV w' w.heap.size v (ech p rows) ∧ Below w.heap.size w w' := by
  have k1 := isP_lo hp
  have k2 := isP_hi hp
  have HP := Lib.hid hp
  have HO := Lib.hid hrows
  have HA := Lib.hid hA
  clear hp hrows hA
  go_enter Try.func64, Try.ntmps64
  go_wp2
  go_loopw [5, 18] (fun v i wr => ∃ k : Nat, k ≤ rows.length ∧ i = .int .i64 k ∧ OwnT wr w.heap.size v (rows.take k) ∧ Below w.heap.size w wr) (fun _ i _ => rows.length - (intOf i).toNat)
  case atStart => exact ⟨0, Nat.zero_le _, rfl, OwnT.made _ _ (Nat.le_refl _), by (repeat' (first | (with_reducible exact Below.refl _ _) | (with_reducible assumption) | (with_reducible refine Below.alloc ?_ ?_ _) | (with_reducible refine Below.drew ?_) | (with_reducible refine below_drewN ?_ _) | (with_reducible refine Below.setCell ?_ ?_ _) | (refine Below.step ?_ (by with_reducible assumption) ?_) | go_size))⟩
  obtain ⟨k, hk, rfl, hown, hB⟩ := hrel
  have hBz := hB.size
  by_cases hlt : k < rows.length
  · obtain ⟨r, hr⟩ : ∃ r, rows[k]? = some r := ⟨_, List.getElem?_eq_getElem hlt⟩
    obtain ⟨b', off', ua, uc, rfl, hc, hsl⟩ := HA.out.at_ hB hr
    have hnx : Hid (rows.take (k + 1) = rows.take k ++ [r]) := by show _ = _; rw [List.take_add_one, hr]; rfl
    have hRl : (rows.take k).length ≤ 1000 := by rw [List.length_take]; omega
    generalize rows.take k = R at *
    have hrl := Lib.hid (HO.out r (List.mem_of_getElem? hr)).1
    have hct := Lib.hid (Clone_any _ r wr hsl (by rw [hrl.out]; omega))
    clear hsl hr
    go_wp2_with (first | (go_at_call 133; refine hct.out.mono ?_; rintro e w1 ⟨v0, rfl, hO, hb1⟩; obtain ⟨a0, c0, rfl⟩ := hO.slice) | (at_builtin; refine append_apart w.heap.size _ R r hown hb1 hO rfl _ _ rfl rfl rfl (by omega) hBz ?_; intro g9 cap9 w9 hn9 hb9 hz9))
    have hB9 := hb9 _ _ (keepB hb1 hB (Nat.le_refl _)) (Nat.le_refl _)
    clear hown hO hct
    go_roundw
    case rel => exact ⟨k + 1, by omega, by go_num, by rw [hnx.out]; exact hn9, hB9⟩
    case measure => simp [intOf]; omega
  obtain rfl : k = rows.length := by omega
  rw [List.take_of_length_le (Nat.le_refl _)] at hown
  by_cases hz : rows.length = 0 ∨ n = 0
  · have hE : Hid (ech p rows = []) := ((RInv.start HO.out).fin HP.out HO.out (hz.imp (fun h => h.symm) (fun h => h.symm))).symm
    by_cases hz0 : rows.length = 0
    · obtain ⟨a5, c5, hv5⟩ := hown.ss.shape
      subst hv5
      have hz0' : (rows.length : Int) = 0 := by omega
      clear hlt hk hz
      generalize rows.length = N at *
      subst hz0
      go_wp2
      go_rounds 1
      go_ret
      exact ⟨_, rfl, .inl ⟨hE.out, _, _, rfl⟩, hB⟩
    · have hn0 : n = 0 := by omega
      obtain ⟨us, g1, g2, g3, _⟩ := hown
      obtain ⟨g, cg, vs, rfl, _, _, hbox, hvl, hcg, htk⟩ := g2.form (by omega)
      obtain ⟨r0, hr0⟩ : ∃ r, rows[0]? = some r := ⟨_, List.getElem?_eq_getElem (by omega)⟩
      obtain ⟨u0, q1, q2⟩ := g3 0 r0 hr0
      obtain ⟨a0, c0, rfl⟩ := q2.slice
      have hl0 := (HO.out r0 (List.mem_of_getElem? hr0)).1
      rw [hl0, hn0] at q1
      have e0 := hbox.cell 0 (take_at htk q1)
      rw [g1] at hcg ⊢
      have hN : 0 < rows.length := by omega
      clear hlt hk hz q1 q2 hr0 g3 g2 hbox htk
      go_wp2
      go_rounds 1
      go_ret
      exact ⟨_, rfl, .inl ⟨hE.out, _, _, rfl⟩, hB⟩
  obtain ⟨hz1, hz2⟩ : 0 < rows.length ∧ 0 < n := by omega
  obtain ⟨g, cg, vs, bs, cs, rfl, hvl, hout⟩ := hown.out hz1 hz2 (fun r hr => (HO.out r hr).1)
  have hcg : rows.length ≤ cg := by have := hout.len; omega
  clear hown hvl hz hlt hk
  go_wp2
  go_loopw [8, 9] (fun ct cc wr => ∃ (t c : Nat) (M : List (List Int)) (P : List Nat) (vs : List Value) (bs cs : Nat → Nat), ct = .int .i64 t ∧ cc = .int .i64 c ∧ t ≤ rows.length ∧ c ≤ n ∧ M.length = rows.length ∧ Hid (RInv p n rows M t c P) ∧ Hid (OutB wr w.heap.size g n vs bs cs M) ∧ Below w.heap.size w wr) (fun _ cc _ => n - (intOf cc).toNat)
  case atStart => exact ⟨0, 0, rows, [], vs, bs, cs, rfl, rfl, Nat.zero_le _, Nat.zero_le _, rfl, RInv.start HO.out, hout, hB⟩
  clear hout hB hBz
  obtain ⟨t, c, M, P, vs, bs, cs, rfl, rfl, htl, hcn, hMl, hI, hout, hB⟩ := hrel
  have HML := Lib.hid hMl; clear hMl
  have hBz := hB.size
  obtain ⟨r0, hr0⟩ : ∃ r, M[0]? = some r := ⟨_, List.getElem?_eq_getElem (by rw [HML.out]; exact hz1)⟩
  obtain ⟨e0, _, _, _, _, _, _⟩ := hout.out.get hr0 hz2
  by_cases hgo : t < rows.length ∧ c < n
  · obtain ⟨hgt, hgc⟩ := hgo
    go_wp2
    go_loop [10] (fun i => ∃ k : Nat, t ≤ k ∧ k ≤ rows.length ∧ i = .int .i64 k ∧ Hid (zeros M t k c)) (fun i => rows.length - (intOf i).toNat)
    case atStart => exact ⟨t, Nat.le_refl _, htl, rfl, fun l s h1 h2 _ => by omega⟩
    obtain ⟨i, hti, hil, rfl, hF⟩ := hrel
    by_cases hi : i < rows.length
    · obtain ⟨s, hs⟩ : ∃ s, M[i]? = some s := ⟨_, List.getElem?_eq_getElem (by rw [HML.out]; exact hi)⟩
      have hsok := hI.out.ok s (List.mem_of_getElem? hs)
      obtain ⟨e1, e2, _, _, _, _, _⟩ := hout.out.get hs hz2
      have e3 := e2.vat (show c < s.length by rw [hsok.1]; exact hgc)
      simp only [Nat.zero_add] at e3
      by_cases hx : vat s c = 0
      · have hF2 : Hid (zeros M t (i + 1) c) := fun l x h1 h2 h3 => (by
          by_cases e : l = i
          · subst e; rw [hs] at h3; injection h3 with h3; subst h3; exact hx
          · exact hF.out l x h1 (by omega) h3)
        rw [hx] at e3
        clear hx e2 hs hsok
        go_wp2
        go_round
        case rel => exact ⟨i + 1, by omega, by omega, by go_num, hF2⟩
        case measure => simp [intOf]; omega
      · have HX := Lib.hid hx
        have hxb : (vat s c == 0) = false := by simpa using hx
        have hsr := vat_rng HP.out hsok c
        clear hx
        generalize hxx : vat s c = x at *
        have HXX := Lib.hid hxx; clear hxx
        clear e2
        obtain ⟨r, hr⟩ : ∃ r, M[t]? = some r := ⟨_, List.getElem?_eq_getElem (by rw [HML.out]; exact hgt)⟩
        obtain ⟨et, _, _, _, _, _, _⟩ := hout.out.get hr hz2
        have hbd := hout.out.box
        have ft := hbd.frz t
        have fi := hbd.frz i
        have hb2 := hbd.set t (.slice (some ⟨bs i, 0, none⟩) n (cs i))
        have f2 := hb2.frz i
        obtain ⟨x2, s2⟩ : ∃ x2, (wr.setCell ⟨g, t, none⟩ (.slice (some ⟨bs i, 0, none⟩) n (cs i))).cell? ⟨g, i, none⟩ = some x2 := ⟨_, hb2.cell i (List.getElem?_eq_getElem (by rw [List.length_set]; have := hout.out.len; rw [HML.out] at this; omega))⟩
        clear hbd hb2
        go_wp2
        go_region
        obtain ⟨q1, q2, q3, q4⟩ := swapM hr hs
        have hI2 := Lib.hid (hI.out.swap hti (by rw [HML.out]; exact hi) (by rw [q1, hs]) (by rw [q2, hr]) q3 q4)
        have hout2 := Lib.hid (OutB.drew (OutB.swap hout.out hr hs))
        have hB2 : Below w.heap.size w ((wr.setCell ⟨g, t, none⟩ (.slice (some ⟨bs i, 0, none⟩) n (cs i))).setCell ⟨g, i, none⟩ (.slice (some ⟨bs t, 0, none⟩) n (cs t))).drew := Below.drew (Below.setCell (p := ⟨g, i, none⟩) (Below.setCell (p := ⟨g, t, none⟩) hB hout.out.hg _) hout.out.hg _)
        have HML2 := Lib.hid (q4.trans HML.out)
        generalize ((wr.setCell ⟨g, t, none⟩ (.slice (some ⟨bs i, 0, none⟩) n (cs i))).setCell ⟨g, i, none⟩ (.slice (some ⟨bs t, 0, none⟩) n (cs t))).drew = w2 at *
        generalize (M.set t s).set i r = M2 at *
        generalize (vs.set t (.slice (some ⟨bs i, 0, none⟩) n (cs i))).set i (.slice (some ⟨bs t, 0, none⟩) n (cs t)) = vs2 at *
        generalize swp bs t i = bs2 at *
        generalize swp cs t i = cs2 at *
        have HQ := Lib.hid q1
        clear q1 q2 q3 q4 hr hs hI hout hB et ft fi f2 s2 e1 e3 hF e0 hr0 HML
        obtain ⟨et, er, ef, eb, ez, hsn, _⟩ := hout2.out.get HQ.out hz2
        have HSN := Lib.hid hsn
        have hnm := normal_any p (bs2 t) 0 (cs2 t) s w2 HP.out er (fun j hj => by rw [Nat.zero_add]; exact ef j) (by rw [hsn]; omega)
        rw [hsn] at hnm
        have hnm2 : Hid (Calls Try.prog 102 #[.int .i64 p, .slice (some ⟨bs2 t, 0, none⟩) n (cs2 t)] w2 fun e w' => ∃ bb, e = .returned (.bool bb) ∧ OutB w' w.heap.size g n vs2 bs2 cs2 (M2.set t (normR p s)) ∧ Below w.heap.size w w') := hnm.mono fun e w' ⟨he, hw⟩ => ⟨_, he, hw ▸ hout2.out.setRow _ HQ.out (by rw [nrm_normR]; exact (normR_ok HP.out HSN.out).1), hw ▸ setRow_below _ eb _ _ hB2⟩
        have hbok := Lib.hid (normR_ok (p := p) HP.out HSN.out)
        clear hnm er ef eb ez hsn hsok
        go_wp2_with (go_at_call 102; refine hnm2.out.mono ?_; rintro e w3 ⟨bb, rfl, hout3, hB3⟩)
        have HNL : Hid ((M2.set t (normR p s)).length = rows.length) := by show _ = _; rw [List.length_set]; exact HML2.out
        have HNT : Hid ((M2.set t (normR p s))[t]? = some (normR p s)) := by show _ = _; rw [List.getElem?_set, if_pos rfl, if_pos (by rw [HML2.out]; exact hgt)]
        have HNN : Hid (∀ l, l ≠ t → (M2.set t (normR p s))[l]? = M2[l]?) := fun l hl => (by rw [List.getElem?_set, if_neg (Ne.symm hl)])
        have HNO : Hid (∀ l x, (M2.set t (normR p s))[l]? = some x → okR p n x) := fun l x hx => (by
          by_cases e : l = t
          · subst e; rw [HNT.out] at hx; injection hx with hx; rw [← hx]; exact hbok.out
          · rw [HNN.out l e] at hx; exact hI2.out.ok x (List.mem_of_getElem? hx))
        have HPV := Lib.hid (fun M' h1 h2 h3 => hI2.out.pivot (M' := M') HP.out hgc HQ.out (by rw [HXX.out]; exact HX.out) h1 h2 h3)
        generalize M2.set t (normR p s) = N at *
        generalize normR p s = b at *
        have hO3 := Lib.hid hout3
        clear hout3 hB2 hout2 hI2 hnm2 et
        go_loopw [85] (fun ix wr => ∃ (k : Nat) (Mk : List (List Int)), k ≤ rows.length ∧ ix = .int .i64 k ∧ Hid (Elim p n t c k b N Mk) ∧ Hid (OutB wr w.heap.size g n vs2 bs2 cs2 Mk) ∧ Below w.heap.size w wr) (fun ix _ => rows.length - (intOf ix).toNat)
        case atStart => exact ⟨0, N, Nat.zero_le _, rfl, Elim.start, hO3, hB3⟩
        clear hO3 hB3
        obtain ⟨k, Mk, hk, rfl, hEl, hO, hB⟩ := hrel
        by_cases hkl : k < rows.length
        · obtain ⟨sk, hsk⟩ : ∃ x, N[k]? = some x := ⟨_, List.getElem?_eq_getElem (by rw [HNL.out]; exact hkl)⟩
          have HSK := Lib.hid (hEl.out.row hsk)
          have hskok := Lib.hid (HNO.out k sk hsk)
          have HNK := Lib.hid hsk
          have hskl : Hid (sk.length = n) := hskok.out.1
          obtain ⟨f1, f2, f3, f4, f5, f6, _⟩ := hO.out.get HSK.out hz2
          have f7 := f2.vat (show c < sk.length by rw [hskl.out]; exact hgc)
          simp only [Nat.zero_add] at f7
          have hmr := vat_rng HP.out hskok.out c
          obtain ⟨m, hm'⟩ : ∃ x, Hid (vat sk c = x) := ⟨_, rfl⟩
          rw [hm'.out] at f7 hmr
          clear f2 f3 f4 f5 f6 hsk
          by_cases hkt : k = t
          · have hE2 := Lib.hid (hEl.out.skip HNK.out (.inl hkt))
            subst hkt
            clear hEl
            go_wp2
            go_roundw
            case rel => exact ⟨k + 1, Mk, by omega, by go_num, hE2, hO, hB⟩
            case measure => simp [intOf]; omega
          have hkt2 : ((k : Int) != (t : Int)) = true := by simp; omega
          by_cases hm0 : m = 0
          · have hE2 := Lib.hid (hEl.out.skip HNK.out (.inr (hm'.out.trans hm0)))
            subst hm0
            clear hEl
            go_wp2
            go_roundw
            case rel => exact ⟨k + 1, Mk, by omega, by go_num, hE2, hO, hB⟩
            case measure => simp [intOf]; omega
          have hE2 := Lib.hid (hEl.out.done HNK.out hkt (by rw [hm'.out]; exact hm0))
          have hbt := Lib.hid (hEl.out.keep HNT.out)
          rw [hm'.out] at hE2
          have hpz : Hid (Mk.set k (part p sk b m 0) = Mk) := by
            show _ = _
            rw [part_zero]
            apply List.ext_getElem?
            intro l
            rw [List.getElem?_set]
            by_cases e : k = l
            · subst e; rw [if_pos rfl, if_pos (List.getElem?_eq_some_iff.1 HSK.out).1, HSK.out]
            · rw [if_neg e]
          have hm0b : (m != 0) = true := by simpa using hm0
          have hO0 : Hid (OutB wr w.heap.size g n vs2 bs2 cs2 (Mk.set k (part p sk b m 0))) := by show OutB _ _ _ _ _ _ _ _; rw [hpz.out]; exact hO.out
          have hbt2 := Lib.hid (hbok.out.1)
          have HBS := Lib.hid (fun i => vat_rng HP.out hbok.out i)
          have HSS := Lib.hid (fun i => vat_rng HP.out hskok.out i)
          have hkM : Hid (k < Mk.length) := (List.getElem?_eq_some_iff.1 HSK.out).1
          clear hEl hpz
          go_wp2
          go_loopw [103] (fun jx wr => ∃ j : Nat, j ≤ n ∧ jx = .int .i64 j ∧ Hid (OutB wr w.heap.size g n vs2 bs2 cs2 (Mk.set k (part p sk b m j))) ∧ Below w.heap.size w wr) (fun jx _ => n - (intOf jx).toNat)
          case atStart => exact ⟨0, Nat.zero_le _, rfl, hO0, hB⟩
          clear hO0 hO hB f1 f7
          obtain ⟨j, hj, rfl, hO, hB⟩ := hrel
          by_cases hjn : j < n
          · have hjs : Hid (j < sk.length) := by show _ < _; rw [hskl.out]; exact hjn
            have hgk : (Mk.set k (part p sk b m j))[k]? = some (part p sk b m j) := by rw [List.getElem?_set, if_pos rfl, if_pos hkM.out]
            have hgt' : (Mk.set k (part p sk b m j))[t]? = some b := by rw [List.getElem?_set, if_neg hkt]; exact hbt.out
            obtain ⟨_, a2, a3, a4, a5, _, _⟩ := hO.out.get hgk hz2
            obtain ⟨b1, b2, _, _, _, _, _⟩ := hO.out.get hgt' hz2
            have c1 := a2 j _ (part_get hjs.out)
            have c2 := b2.vat (show j < b.length by rw [hbt2.out]; exact hjn)
            simp only [Nat.zero_add] at c1 c2
            have hst := Lib.hid (part_set (p := p) (b := b) (m := m) hjs.out)
            have hOn := Lib.hid (OutB.set hO.out.drew ((vat sk j - m * vat b j) % p) hgk hjn)
            rw [List.set_set, hst.out] at hOn
            have rg1 := HSS.out j
            have rg2 := HBS.out j
            clear hst a2 b2 hgk hgt'
            generalize vat sk j = x' at *
            generalize vat b j = y' at *
            have hmb := mul_bd (a := m) (b := y') (A := 12) (B := 12) hmr.1 (by omega) rg2.1 (by omega)
            have hw1 : IntKind.i64.wrap (m * y') = m * y' := by go_arith
            have hw2 : IntKind.i64.wrap (x' - m * y') = x' - m * y' := by go_arith
            have hmd := Lib.hid ((mod_any (x' - m * y') p wr.drew k1 k2).mono fun _ _ h => And.intro h.1 h.2.symm)
            obtain ⟨z, hz⟩ : ∃ z, Hid ((x' - m * y') % p = z) := ⟨_, rfl⟩
            rw [hz.out] at hmd hOn
            have st : wr.drew.cell? ⟨bs2 k, j, none⟩ = some (.int .i64 x') := c1
            have sf : wr.drew.frozen? ⟨bs2 k, j, none⟩ = false := a3 j
            have hBn : Below w.heap.size w (wr.drew.setCell ⟨bs2 k, j, none⟩ (.int .i64 z)) := Below.setCell (p := ⟨bs2 k, j, none⟩) hB.drew a4 _
            have sf2 := a3 j
            clear hmb rg1 rg2 a3 hz hO hB
            go_wp2
            refine wp_region_still_tail 18 (by kernel_rfl) (by kernel_rfl) ?_
            simp only [List.take_succ_cons, List.take_zero, List.drop_succ_cons, List.drop_zero]
            repeat (first | still_step | still_call hmd.out)
            try refine wpStill_nil ?_
            change wpList _ _ _ _ _ wr.drew
            clear c1 c2 b1 hmd hw1 hw2
            go_wp2
            go_roundw
            case rel => exact ⟨j + 1, by omega, by go_num, hOn, hBn⟩
            case measure => simp [intOf]; omega
          · obtain rfl : j = n := by omega
            have hOl : Hid (OutB wr w.heap.size g j vs2 bs2 cs2 (Mk.set k (less p sk b m))) := by
              have h := hO.out
              rw [show part p sk b m j = less p sk b m by rw [← hskl.out]; exact part_all] at h
              exact h
            clear hO
            go_wp2
            go_roundw
            case rel => exact ⟨k + 1, _, by omega, by go_num, hE2, hOl, hB⟩
            case measure => simp [intOf]; omega
        · obtain rfl : k = rows.length := by omega
          have hI3 := Lib.hid (HPV.out Mk (hEl.out.keep HNT.out) (fun l x hl hx => (by
            have hx' := hx; rw [← HNN.out l hl] at hx'
            rw [hEl.out.at_ l x hx']
            have hll : l < rows.length := by rw [← HNL.out]; exact (List.getElem?_eq_some_iff.1 hx').1
            by_cases e : vat x c = 0
            · rw [if_pos e, if_neg (fun h => h.2.2 e)]
            · rw [if_neg e, if_pos ⟨hll, hl, e⟩])) (by rw [hEl.out.len, HNL.out, HML2.out]))
          have hMl := hEl.out.len.trans HNL.out
          clear hEl HPV
          go_wp2
          go_roundw
          case rel => exact ⟨t + 1, c + 1, Mk, P ++ [c], vs2, bs2, cs2, by go_num, by go_num, hgt, hgc, hMl, hI3, hO, hB⟩
          case measure => simp [intOf]; omega
    · obtain rfl : i = rows.length := by omega
      have hI2 := Lib.hid (hI.out.skip hgc (fun l s h1 h2 => hF.out l s h1 (by rw [← HML.out]; exact (List.getElem?_eq_some_iff.1 h2).1) h2))
      go_wp2
      go_roundw
      case rel => exact ⟨t, c + 1, M, P, vs, bs, cs, rfl, by go_num, htl, hgc, HML.out, hI2, hout, hB⟩
      case measure => simp [intOf]; omega
  · have hfin := Lib.hid (hI.out.fin HP.out HO.out (by rw [HML.out]; omega))
    have hred : RedV wr w.heap.size (.slice (some ⟨g, 0, none⟩) t cg) (ech p rows) := by
      rw [← hfin.out]
      have hl : (M.take t).length = t := by rw [List.length_take, HML.out]; omega
      refine .inr ⟨g, cg, n, vs, bs, cs, hz2, by rw [hl], by omega, hout.out.take t⟩
    by_cases hgt : t < rows.length
    · have hgc : ¬ c < n := fun h => hgo ⟨hgt, h⟩
      go_wp2
      go_ret
      exact ⟨_, rfl, hred, hB⟩
    · obtain rfl : t = rows.length := by omega
      go_wp2
      go_ret
      exact ⟨_, rfl, hred, hB⟩
end Go.Proofs.Ytjfabhkgmelmgaa
