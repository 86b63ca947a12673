/- The program's kernel of rows: the places of the rows' first numbers, the rows that are 0 against them, and their reduced list; p is a prime. -/
import Derived.Test.YtjfabhkgmelmgaaW82
import Derived.Test.YtjfabhkgmelmgaaP17
namespace Go.Proofs.Ytjfabhkgmelmgaa
open Go.RowKit
set_option linter.unusedSimpArgs false
set_option linter.unusedVariables false
set_option maxRecDepth 100000

set_option maxHeartbeats 1000000 in
theorem kernel1_any (x : Int) (w : World) : Calls Try.prog 178 #[.int .i64 x] w fun e w' => e = .returned (.bool (!(x == 0))) ∧ w = w' := by
  go_enter Try.func178, Try.ntmps178
  go_wp2
  all_goals
    go_ret
    exact ⟨ret_bool (by first | rfl | simp [*]), rfl⟩
set_option maxHeartbeats 1000000 in
theorem IndexFunc_k (b c : Nat) (r : List Int) (w : World) (hR : Rd w b 0 r) (hm : r.length ≤ 1000000) :
    Calls Try.prog 177 #[.slice (some ⟨b, 0, none⟩) r.length c, .func (.func 178) #[] #[]] w fun e w' => e = .returned (.int .i64 (ldI r)) ∧ w = w' := by
  have hk := fun x => kernel1_any x w
  have HK := Lib.hid hk; clear hk
  go_enter Try.func177, Try.ntmps177
  go_wp2
  go_loop [8] (fun i => ∃ k : Nat, k ≤ r.length ∧ i = .int .i64 k ∧ Hid (ldP r k)) (fun i => r.length - (intOf i).toNat)
  case atStart => exact ⟨0, Nat.zero_le _, rfl, fun i hi => absurd hi (Nat.not_lt_zero _)⟩
  case round =>
    obtain ⟨k, hk, rfl, hF⟩ := hrel
    by_cases hlt : k < r.length
    · have hc := hR.vat hlt
      simp only [Nat.zero_add] at hc
      by_cases h0 : vat r k = 0
      · have hn : Hid (ldP r (k + 1)) := fun i hi => (if e : i = k then (by rw [e]; exact h0) else hF.out i (by omega))
        rw [h0] at hc
        clear h0
        go_wp2_with (go_at_call 178; refine (HK.out 0).mono ?_; rintro e w1 ⟨rfl, rfl⟩)
        go_round
        case rel => exact ⟨k + 1, by omega, by go_num, hn⟩
        case measure => simp [intOf]; omega
      · have hn : Hid (ldI r = (k : Int)) := ldI_some (ldr_eq h0 hF.out)
        generalize vat r k = x at *
        have hx : (x == 0) = false := by simpa using h0
        go_wp2_with (go_at_call 178; refine (HK.out x).mono ?_; rw [hx]; rintro e w1 ⟨rfl, rfl⟩)
        go_ret
        exact ⟨by rw [hn.out]; rfl, rfl⟩
    · have hn : Hid (ldI r = -1) := ldI_none (by
        cases hq : ldr r with
        | none => rfl
        | some q =>
          obtain ⟨h1, h2, _⟩ := ldr_some hq
          exact absurd (hF.out q (by omega)) h2)
      go_wp2
      go_ret
      exact ⟨by rw [hn.out]; rfl, rfl⟩
set_option maxHeartbeats 1000000 in
theorem Index_n (a : Option Addr) (c : Nat) (zs : List Int) (x : Int) (w : World) (hR : zs = [] ∨ ∃ b off, a = some ⟨b, off, none⟩ ∧ Rd w b off zs) (hm : zs.length ≤ 1000000) :
    Calls Try.prog 189 #[.slice a zs.length c, .int .i64 x] w fun e w' => (∃ i : Int, e = .returned (.int .i64 i) ∧ (0 ≤ i ↔ x ∈ zs)) ∧ w = w' := by
  have HR := Lib.hid hR; clear hR
  go_enter Try.func189, Try.ntmps189
  go_wp2
  go_loop [8] (fun i => ∃ k : Nat, k ≤ zs.length ∧ i = .int .i64 k ∧ Hid (x ∉ zs.take k)) (fun i => zs.length - (intOf i).toNat)
  case atStart => exact ⟨0, Nat.zero_le _, rfl, by show ¬ _; simp⟩
  case round =>
    obtain ⟨k, hk, rfl, hF⟩ := hrel
    by_cases hlt : k < zs.length
    · obtain ⟨b, off, rfl, hR⟩ : ∃ b off, a = some ⟨b, off, none⟩ ∧ Rd w b off zs := by
        rcases HR.out with h | h
        · rw [h] at hlt; simp at hlt
        · exact h
      obtain ⟨y, hc, hy⟩ := hR.get hlt
      clear hR
      by_cases h0 : x = y
      · subst h0
        have hn : Hid (x ∈ zs) := List.mem_of_getElem? hy.out
        go_wp2
        go_ret
        exact ⟨⟨_, rfl, ⟨fun _ => hn.out, fun _ => by omega⟩⟩, rfl⟩
      · have hn : Hid (x ∉ zs.take (k + 1)) := by
          show ¬ _
          rw [List.take_add_one, hy.out]
          intro h
          rcases List.mem_append.1 h with h | h
          · exact hF.out h
          · simp at h; exact h0 h
        have h0' : (x == y) = false := by simpa using h0
        go_wp2
        go_round
        case rel => exact ⟨k + 1, by omega, by go_num, hn⟩
        case measure => simp [intOf]; omega
    · have hn : Hid (x ∉ zs) := by show ¬ _; have := hF.out; rwa [List.take_of_length_le (by omega)] at this
      go_wp2
      go_ret
      exact ⟨⟨_, rfl, ⟨fun h => by omega, fun h => absurd h hn.out⟩⟩, rfl⟩
set_option maxHeartbeats 1000000 in
theorem Contains_n (a : Option Addr) (c : Nat) (zs : List Int) (x : Int) (w : World) (hR : zs = [] ∨ ∃ b off, a = some ⟨b, off, none⟩ ∧ Rd w b off zs) (hm : zs.length ≤ 1000000) :
    Calls Try.prog 179 #[.slice a zs.length c, .int .i64 x] w fun e w' => e = .returned (.bool (decide (x ∈ zs))) ∧ w = w' := by
  have HI := Lib.hid (Index_n a c zs x w hR hm)
  clear hR
  by_cases hx : x ∈ zs
  · have hd : Hid (decide (x ∈ zs) = true) := decide_eq_true hx
    go_enter Try.func179, Try.ntmps179
    go_wp2_with (go_at_call 189; refine HI.out.mono ?_; rintro e w1 ⟨⟨i, rfl, hi⟩, rfl⟩; have hi0 : 0 ≤ i := hi.2 hx)
    go_ret
    exact ⟨by rw [hd.out]; rfl, rfl⟩
  · have hd : Hid (decide (x ∈ zs) = false) := decide_eq_false hx
    go_enter Try.func179, Try.ntmps179
    go_wp2_with (go_at_call 189; refine HI.out.mono ?_; rintro e w1 ⟨⟨i, rfl, hi⟩, rfl⟩; have hi0 : ¬ 0 ≤ i := fun h => hx (hi.1 h))
    go_ret
    exact ⟨by rw [hd.out]; rfl, rfl⟩
theorem info_n : (Try.prog.info? 3).map (fun i => (i.zero, i.size, i.bytes)) = some (some (.int .i64 0), 1, 8) := by kernel_rfl
/-- A slice of places, of the call's own. -/
def OwnN (w : World) (base : Nat) (v : Value) (zs : List Int) : Prop := w.ownsRow base 3 1 v zs.length (zs.map (Value.int .i64))
theorem OwnN.made (w : World) (base : Nat) (hb : base ≤ w.heap.size) : OwnN (w.alloc (.cells #[] 3)) base (.slice (some ⟨w.heap.size, 0, none⟩) 0 0) [] := World.ownsRow_made w #[] 0 hb (by unfold maxLen; omega) rfl
theorem OwnN.below {w w' : World} {base : Nat} {v : Value} {zs : List Int} (h : OwnN w base v zs) (hb : Below w.heap.size w w') : OwnN w' base v zs := by
  have hs := h
  obtain ⟨h1, h2⟩ := h
  refine ⟨h1, ?_⟩
  rcases h2 with h2 | ⟨g, cap, cur, rfl, hg, hh, r⟩
  · exact .inl h2
  · exact .inr ⟨g, cap, cur, rfl, hg, by rw [hb.block g (hs.lt g rfl).2]; exact hh, r⟩
theorem OwnN.rd {w : World} {base : Nat} {v : Value} {zs : List Int} (h : OwnN w base v zs) : ∃ a c, v = .slice a zs.length c ∧ (zs = [] ∨ ∃ b, a = some ⟨b, 0, none⟩ ∧ base ≤ b ∧ b < w.heap.size ∧ Rd w b 0 zs) := by
  have hs := h
  rcases h.2 with ⟨rfl, h0⟩ | ⟨g, cap, cur, rfl, hb, hh, hn, hcm, hcs, htake⟩
  · exact ⟨none, 0, by rw [h0], .inl (List.length_eq_zero_iff.1 h0)⟩
  · refine ⟨some ⟨g, 0, none⟩, cap, rfl, .inr ⟨g, rfl, hb, (hs.lt g rfl).2, fun i x hx => ?_⟩⟩
    have hi : i < zs.length := (List.getElem?_eq_some_iff.1 hx).1
    have := hs.cellAt i (by omega)
    rw [Nat.zero_add, this, List.getElem?_map, hx]
    rfl
theorem append_n {ops : Array Oper} {rest : List Oper} {o : Oper} {a : Act} {Q : Exit → Act → World → Prop} {w : World} {n : Int} {t0 : Nat} (base : Nat) (v : Value) (zs : List Int) (hown : OwnN w base v zs) (hgd : o.guard = none) (s x : Operand)
    (ho : o.op = .call { callee := .builtin .append, args := #[s, x], argTypes := #[174, 174] })
    (hs : a.eval s = v) (hx : a.eval x = .slice (some ⟨w.heap.size, 0, none⟩) 1 1)
    (hlen : zs.length ≤ 10000000) (hbase : base ≤ w.heap.size)
    (h : ∀ v' w', OwnN w' base v' (zs ++ [n]) → (∀ b0 a0, Below b0 a0 w → b0 ≤ base → Below b0 a0 w') → w.heap.size < w'.heap.size → wpList Try.prog ops Q rest (a.put o.dst v') w') :
    wpList Try.prog ops Q (o :: rest) a (w.alloc (.cells #[.int .i64 n] t0)) := by
  obtain ⟨i0, hi, hz0, hz1, hz2⟩ := info_parts info_n
  refine wpList_append_own _ hgd s x 174 ho base 3 i0 (.int .i64 0) 1 8 Try.underlying174 hi hz0 hz1 hz2 rfl (by decide) v zs.length (zs.map (Value.int .i64)) hs (World.ownsRow.alloc hown _)
    ⟨w.heap.size, 0, none⟩ 1 1 [.int .i64 n] hx rfl ?_ ?_ ?_ ?_ (by simp; omega) ?_
  · intro j u hj
    match j, hj with
    | 0, hj => simp at hj; subst hj; simp [Addr.add]
  · intro u hu; simp at hu; subst hu; rfl
  · unfold maxLen; omega
  · omega
  · intro v' w' h1 h2 h3
    have hsz := h2.size
    refine h v' w' ?_ ?_ (by simp at hsz; omega)
    · unfold OwnN; simpa using h1
    · intro b0 a0 hb hle
      exact (hb.alloc (by omega) _).grown h2 (by simp; omega) (fun k hk => by have := (World.ownsRow.lt hown k hk).1; omega)
theorem RedV.shape {w : World} {base : Nat} {v : Value} {L : List (List Int)} (h : RedV w base v L) : ∃ a c, v = .slice a L.length c := by
  rcases h with ⟨rfl, a, c, rfl⟩ | ⟨g, cap, n, vs, bs, cs, hn, rfl, _⟩
  · exact ⟨a, c, rfl⟩
  · exact ⟨_, cap, rfl⟩
theorem RedV.base_le {w : World} {base base' : Nat} {v : Value} {L : List (List Int)} (h : RedV w base v L) (hb : base' ≤ base) : RedV w base' v L := by
  rcases h with h | ⟨g, cap, n, vs, bs, cs, hn, hv, hc, ho⟩
  · exact .inl h
  · exact .inr ⟨g, cap, n, vs, bs, cs, hn, hv, hc, Nat.le_trans hb ho.hg, ho.box, ho.len, ho.hd, fun k r hk => ⟨(ho.row k r hk).1.base_le hb, (ho.row k r hk).2⟩, ho.inj⟩
/-- Its rows can be read. -/
theorem RedV.at_ {w : World} {base c : Nat} {a : Option Addr} {L : List (List Int)} (h : RedV w base (.slice a L.length c) L) {k : Nat} {r : List Int} (hk : L[k]? = some r) :
    ∃ g b cb, a = some ⟨g, 0, none⟩ ∧ w.cell? ⟨g, k, none⟩ = some (.slice (some ⟨b, 0, none⟩) r.length cb) ∧ Rd w b 0 r ∧ b < w.heap.size ∧ r.length ≤ cb := by
  rcases h with ⟨rfl, _⟩ | ⟨g, cap, n, vs, bs, cs, hn, hv, hc, ho⟩
  · simp at hk
  · injection hv with h1 _ _
    subst h1
    obtain ⟨e1, e2, _, _, e4, e3, e5⟩ := ho.get hk hn
    exact ⟨g, bs k, cs k, rfl, by rw [e3]; exact e1, e2, e4, by omega⟩
theorem OwnSS.rowsAt {w : World} {base c : Nat} {a : Option Addr} {L : List (List Int)} (h : OwnSS w base (.slice a L.length c) L) : RowsAt w a L := fun k r hk => by
  obtain ⟨us, h1, h2, h3⟩ := h
  have hl : k < L.length := (List.getElem?_eq_some_iff.1 hk).1
  obtain ⟨g, cap, vs, hv, hg, hgl, hbox, hvl, hcap, htk⟩ := h2.form (by omega)
  injection hv with hv _ _
  subst hv
  obtain ⟨u, e1, e2⟩ := h3 k r hk
  refine ⟨g, 0, u, rfl, hgl, by rw [Nat.zero_add]; exact hbox.cell k (take_at htk e1), ?_⟩
  by_cases hne : r = []
  · subst hne
    obtain ⟨ua, uc, rfl⟩ := e2.slice
    exact ⟨ua, uc, rfl, Nat.zero_le _, .inl rfl⟩
  · obtain ⟨b, cb, rfl, _, hbl, hrd, _, hle⟩ := e2.shape hne
    exact ⟨_, cb, rfl, hle, .inr ⟨b, 0, rfl, hbl, hrd⟩⟩
theorem wrap_neg' {x : Int} (h : 0 ≤ x ∧ x < 13) : IntKind.i64.wrap (-x) = -x := by go_arith
theorem kern_not {p : Int} {n c : Nat} {R : List (List Int)} (h : (c : Int) ∈ leadsI R) : kernTo p n R (c + 1) = kernTo p n R c := by unfold kernTo; rw [if_pos h]; cases c <;> rfl
theorem kern_yes {p : Int} {n c : Nat} {R : List (List Int)} (h : ¬ (c : Int) ∈ leadsI R) : kernTo p n R (c + 1) = kernTo p n R c ++ [kernRow p n c R] := by
  have e : kernTo p n R (c + 1) = if (c : Int) ∈ leadsI R then kernTo p n R c else kernTo p n R c ++ [kernRow p n c R] := rfl
  rw [e, if_neg h]
set_option maxHeartbeats 16000000 in
theorem kernel_any (p : Int) (n cap : Nat) (a : Option Addr) (rows : List (List Int)) (w : World) (hp : isP p = true) (hrows : ∀ r ∈ rows, okR p n r) (hA : RowsAt w a rows) (hm : rows.length ≤ 1000) (hn : n ≤ 1000) :
    Calls Try.prog 145 #[.int .i64 p, .slice a rows.length cap, .int .i64 n] w fun e w' => ∃ v, e = .returned v ∧ RedV w' w.heap.size v (ech p (kern p n (ech p rows))) ∧ Below w.heap.size w w' := by
  have k1 := isP_lo hp
  have k2 := isP_hi hp
  have hred := Lib.hid (reduced_any p n cap a rows w hp hrows hA hm hn)
  have hlen := ech_len (p := p) rows rows.length
  have HLd := Lib.hid (ech_led hp hrows rows.length)
  rw [List.take_of_length_le (Nat.le_refl _)] at hlen HLd
  have HP := Lib.hid hp
  generalize ech p rows = R at *
  have hRl : R.length ≤ 1000 := by omega
  clear hrows hA hp hlen
  go_enter Try.func145, Try.ntmps145
  go_wp2_with (go_at_call 64; refine hred.out.mono ?_; rintro e w1 ⟨v1, rfl, hred1, hb1⟩; obtain ⟨a1, c1, rfl⟩ := hred1.shape)
  have HRW := Lib.hid (fun k r (hk : R[k]? = some r) => hred1.at_ hk)
  clear hred hred1
  go_loopw [7, 21] (fun v i wr => ∃ k : Nat, k ≤ R.length ∧ i = .int .i64 k ∧ OwnN wr w1.heap.size v (leadsI (R.take k)) ∧ Below w1.heap.size w1 wr) (fun _ i _ => R.length - (intOf i).toNat)
  case atStart => exact ⟨0, Nat.zero_le _, rfl, OwnN.made w1 w1.heap.size (Nat.le_refl _), (Below.refl _ _).alloc (Nat.le_refl _) _⟩
  obtain ⟨k, hk, rfl, hF, hC⟩ := hrel
  have hCz := hC.size
  by_cases hlt : k < R.length
  · obtain ⟨r, hr⟩ : ∃ r, R[k]? = some r := ⟨_, List.getElem?_eq_getElem hlt⟩
    obtain ⟨g, b, cb, rfl, e1, e2, e3, _⟩ := HRW.out k r hr
    have hrl := Lib.hid (HLd.out r (List.mem_of_getElem? hr)).1.1
    have e1' := keepC hC e1
    have hct := Lib.hid (IndexFunc_k b cb r wr (e2.below hC e3) (by rw [hrl.out]; omega))
    have hnx : Hid (leadsI (R.take (k + 1)) = leadsI (R.take k) ++ [ldI r]) := map_take ldI hr
    have hfl : Hid ((leadsI (R.take k)).length ≤ 1000) := by show _ ≤ _; unfold leadsI; rw [List.length_map, List.length_take]; omega
    generalize leadsI (R.take k) = F at *
    clear e1 e2 hr
    go_wp2_with (first | (go_at_call 177; refine hct.out.mono ?_; rintro e w2 ⟨rfl, rfl⟩) | (at_builtin; refine append_n w1.heap.size _ F hF rfl _ _ rfl rfl rfl (by have := hfl.out; omega) hCz ?_; intro v9 w9 hF9 hb9 hz9))
    have hC9 := hb9 _ _ hC (Nat.le_refl _)
    clear hF hb9
    go_roundw
    case rel => exact ⟨k + 1, by omega, by go_num, by rw [hnx.out]; exact hF9, hC9⟩
    case measure => simp [intOf]; omega
  obtain rfl : k = R.length := by omega
  rw [List.take_of_length_le (Nat.le_refl _)] at hF
  have hFl : Hid ((leadsI R).length = R.length) := by show _ = _; unfold leadsI; rw [List.length_map]
  have HFG : Hid (∀ k r, R[k]? = some r → (leadsI R)[k]? = some (ldI r)) := fun k r hk => (by unfold leadsI; rw [List.getElem?_map, hk]; rfl)
  have HKN : Hid (∀ c : Nat, (c : Int) ∈ leadsI R → kernTo p n R (c + 1) = kernTo p n R c) := fun c h => kern_not h
  have HKY : Hid (∀ c : Nat, ¬ (c : Int) ∈ leadsI R → kernTo p n R (c + 1) = kernTo p n R c ++ [kernRow p n c R]) := fun c h => kern_yes h
  generalize leadsI R = F at *
  obtain ⟨af, cf, rfl, hFR⟩ := hF.rd
  have hb2 : Below w.heap.size w wr := keepB hC hb1 (Nat.le_refl _)
  obtain ⟨w2, hw2⟩ : ∃ x, x = wr := ⟨_, rfl⟩
  subst hw2
  have HFR := Lib.hid hFR
  have HRW2 : Hid (∀ k r, R[k]? = some r → ∃ g b cb, a1 = some ⟨g, 0, none⟩ ∧ w2.cell? ⟨g, k, none⟩ = some (.slice (some ⟨b, 0, none⟩) r.length cb) ∧ Rd w2 b 0 r ∧ b < w2.heap.size) := fun k r hk => (by
    obtain ⟨g, b, cb, h1, h2, h3, h4, _⟩ := HRW.out k r hk
    exact ⟨g, b, cb, h1, keepC hC h2, h3.below hC h4, by omega⟩)
  clear hF hFR HRW hC hb1 hlt hk
  go_wp2
  go_loopw [10, 33] (fun v i wr => ∃ c : Nat, c ≤ n ∧ i = .int .i64 c ∧ OwnT wr w2.heap.size v (kernTo p n R c) ∧ Below w2.heap.size w2 wr) (fun _ i _ => n - (intOf i).toNat)
  case atStart => exact ⟨0, Nat.zero_le _, rfl, OwnT.made w2 w2.heap.size (Nat.le_refl _), (Below.refl _ _).alloc (Nat.le_refl _) _⟩
  obtain ⟨c, hc, rfl, hown, hC⟩ := hrel
  have hCz := hC.size
  by_cases hcn : c < n
  · have hct := Lib.hid (Contains_n af cf F (c : Int) wr (HFR.out.imp id fun ⟨b, h1, _, h2, h3⟩ => ⟨b, 0, h1, h3.below hC h2⟩) (by rw [hFl.out]; omega))
    by_cases hin : (c : Int) ∈ F
    · have hd := decide_eq_true hin
      rw [hd] at hct
      have hnx := Lib.hid (HKN.out c hin)
      clear hd hin
      go_wp2_with (go_at_call 179; refine hct.out.mono ?_; rintro e w3 ⟨rfl, rfl⟩)
      go_roundw
      case rel => exact ⟨c + 1, by omega, by go_num, by rw [hnx.out]; exact hown, hC⟩
      case measure => simp [intOf]; omega
    · have hd := decide_eq_false hin
      rw [hd] at hct
      have hnx := Lib.hid (HKY.out c hin)
      have hkl := kernTo_len p n R c
      generalize kernTo p n R c = K at *
      clear hd hin
      obtain ⟨i0, hi0, hz0, hs0, hb0⟩ := info_parts info_int
      obtain ⟨w3, hmk, hown3, hgr⟩ := run_make_full (P := Try.prog) (w := wr) wr.heap.size 80 2 i0 (.int .i64 0) 1 Try.underlying80 hi0 hz0 hs0 .i64 .i64 n (by rw [hb0]; omega) (by unfold maxLen; omega) (Nat.le_refl _)
      have hB3 : Below wr.heap.size wr w3 := ⟨hgr.os, hgr.tape, hgr.output, hgr.size, fun k hk => hgr.block k hk (by simp)⟩
      have hO3 : OwnI w3 wr.heap.size (.slice (some ⟨wr.heap.size, 0, none⟩) n n) (List.replicate n 0) := by
        unfold OwnI
        have e : (madeCells (Value.int .i64 0).cells (n * 1)).toList = (List.replicate n (0 : Int)).map (Value.int .i64) := by
          rw [Nat.mul_one, List.map_replicate]; exact toList_madeCells_one _ _
        rw [← e, List.length_replicate]
        exact hown3
      clear hown3 hgr hi0 hz0 hs0 hb0
      have hcr : c < (List.replicate n (0 : Int)).length := by rw [List.length_replicate]; exact hcn
      obtain ⟨_, hg3, hr3, hf3, _⟩ := hO3.at_
      have st := hr3 c 0 (by rw [List.getElem?_replicate, if_pos hcn])
      have sf := hf3 c
      simp only [Nat.zero_add] at st
      have hO4 := hO3.set 1 hcr
      have hB4 : Below wr.heap.size wr (w3.setCell ⟨wr.heap.size, c, none⟩ (.int .i64 1)) := Below.setCell (p := ⟨wr.heap.size, c, none⟩) hB3 (Nat.le_refl _) _
      have hO4' : OwnI (w3.setCell ⟨wr.heap.size, c, none⟩ (.int .i64 1)) wr.heap.size (.slice (some ⟨wr.heap.size, 0, none⟩) n n) (unitR n c) := hO4
      clear hO3 hO4 hr3 hf3 hcr hB3
      obtain ⟨w0, hw0⟩ : ∃ x, x = wr := ⟨_, rfl⟩
      subst hw0
      generalize hG : w0.heap.size = G at *
      go_wp2_with (go_at_call 179; refine hct.out.mono ?_; rintro e w3 ⟨rfl, rfl⟩)
      clear hct hmk st sf
      have hkr : Hid (kernRow p n c R = (R.take R.length).foldl (kernPut p c) (unitR n c)) := by show _ = _; rw [List.take_of_length_le (Nat.le_refl _)]; rfl
      go_loopw [46] (fun i wr => ∃ k : Nat, k ≤ R.length ∧ i = .int .i64 k ∧ OwnI wr G (.slice (some ⟨G, 0, none⟩) n n) ((R.take k).foldl (kernPut p c) (unitR n c)) ∧ Below G w0 wr) (fun i _ => R.length - (intOf i).toNat)
      case atStart => exact ⟨0, Nat.zero_le _, rfl, hO4', hB4⟩
      clear hO4' hB4
      obtain ⟨k, hk, rfl, hL, hB⟩ := hrel
      by_cases hlt : k < R.length
      · obtain ⟨r, hr⟩ : ∃ r, R[k]? = some r := ⟨_, List.getElem?_eq_getElem hlt⟩
        obtain ⟨hrok, q, hq, hqn⟩ := HLd.out r (List.mem_of_getElem? hr)
        have hrl := Lib.hid hrok.1
        have hB' : Below w0.heap.size w0 wr := by rw [hG]; exact hB
        obtain ⟨g, b, cb, rfl, e1, e2, e3⟩ := HRW2.out k r hr
        have e1' := keepC hB' (keepC hC e1)
        have e2' := ((e2.below hC e3).below hB' (by rw [hG]; exact Nat.lt_of_lt_of_le e3 hCz)).vat (show c < r.length by rw [hrl.out]; exact hcn)
        have hFk := HFG.out k r hr
        rw [ldI_some hq] at hFk
        obtain ⟨bf, rfl, _, f1, f2⟩ : ∃ b, af = some ⟨b, 0, none⟩ ∧ w2.heap.size ≥ 0 ∧ b < w2.heap.size ∧ Rd w2 b 0 F := by
          rcases HFR.out with h | ⟨b, h1, _, h2, h3⟩
          · rw [h] at hFk; simp at hFk
          · exact ⟨b, h1, Nat.zero_le _, h2, h3⟩
        have f3 := keepC hB' (keepC hC (f2 k _ hFk))
        have hxr := vat_rng HP.out hrok c
        have hput : Hid ((R.take (k + 1)).foldl (kernPut p c) (unitR n c) = ((R.take k).foldl (kernPut p c) (unitR n c)).set q ((-(vat r c)) % p)) := by
          show _ = _
          rw [foldl_take _ _ hr]
          show List.set _ ((ldr r).getD 0) _ = _
          rw [hq]; rfl
        have hLl : Hid (((R.take k).foldl (kernPut p c) (unitR n c)).length = n) := (kernRow_ok HP.out (R.take k) _ (unitR_ok HP.out n c)).1
        generalize (R.take k).foldl (kernPut p c) (unitR n c) = Lk at *
        simp only [Nat.zero_add] at e2' f3
        generalize vat r c = x at *
        have hwn := wrap_neg' (x := x) (by omega)
        have hcr : c < r.length := by rw [hrl.out]; exact hcn
        have hkF : k < F.length := by rw [hFl.out]; exact hlt
        have hmd := Lib.hid (fun w' => mod_any (-x) p w' k1 k2)
        obtain ⟨z, hz⟩ : ∃ z, Hid ((-x) % p = z) := ⟨_, rfl⟩
        rw [hz.out] at hmd hput
        obtain ⟨_, hg3, hr3, hf3, _⟩ := hL.at_
        obtain ⟨y, hy⟩ : ∃ y, Lk[q]? = some y := ⟨_, List.getElem?_eq_getElem (by rw [hLl.out]; exact hqn)⟩
        have st := hr3 q y hy
        have sf := hf3 q
        simp only [Nat.zero_add] at st
        have hL2 := hL.set z (show q < Lk.length by rw [hLl.out]; exact hqn)
        have hB2 : Below G w0 (wr.setCell ⟨G, q, none⟩ (.int .i64 z)) := Below.setCell (p := ⟨G, q, none⟩) hB (Nat.le_refl _) _
        clear e1 e2 f2 hr hrok hq hr3 hf3 hy hFk hB hB' hL hz hxr
        go_wp2_with (go_at_call 73; refine (hmd.out _).mono ?_; rintro e w4 ⟨rfl, rfl⟩)
        go_roundw
        case rel => exact ⟨k + 1, by omega, by go_num, by rw [hput.out]; exact hL2, hB2⟩
        case measure => simp [intOf]; omega
      obtain rfl : k = R.length := by omega
      have hnF : ¬ R.length < F.length := by rw [hFl.out]; omega
      rw [← hkr.out] at hL
      have hB' : Below w0.heap.size w0 wr := by rw [hG]; exact hB
      have hL' : OwnI wr w0.heap.size (.slice (some ⟨G, 0, none⟩) n n) (kernRow p n c R) := by rw [hG]; exact hL
      go_wp2_with (at_builtin; refine append_apart w2.heap.size _ K (kernRow p n c R) hown hB' hL' rfl _ _ rfl rfl rfl (by omega) (by rw [hG]; exact hCz) ?_; intro g9 cap9 w9 hn9 hb9 hz9)
      have hC9 := hb9 _ _ (keepB hB' hC (Nat.le_refl _)) (Nat.le_refl _)
      clear hown hL hL' hb9 hB hB'
      go_roundw
      case rel => exact ⟨c + 1, by omega, by go_num, by rw [hnx.out]; exact hn9, hC9⟩
      case measure => simp [intOf]; omega
  obtain rfl : c = n := by omega
  have hkl := kernTo_len p c R c
  obtain ⟨a5, c5, hv5⟩ := hown.ss.shape
  subst hv5
  have hred2 := Lib.hid (reduced_any p c c5 a5 (kernTo p c R c) wr HP.out (kern_ok HP.out R) hown.ss.rowsAt (by omega) hn)
  have hbz := hb2.size
  have hz : w.heap.size ≤ wr.heap.size := Nat.le_trans hbz hCz
  have hB2 : Below w.heap.size w wr := keepB hC hb2 (Nat.le_refl _)
  have HK : Hid (kern p c R = kernTo p c R c) := rfl
  generalize kernTo p c R c = K at *
  clear hown
  go_wp2_with (go_at_call 64; refine hred2.out.mono ?_; rintro e w5 ⟨v5, rfl, hv5, hb5⟩)
  go_ret
  exact ⟨_, rfl, by rw [HK.out]; exact hv5.base_le hz, keepB hb5 hB2 (Nat.le_refl _)⟩
end Go.Proofs.Ytjfabhkgmelmgaa
