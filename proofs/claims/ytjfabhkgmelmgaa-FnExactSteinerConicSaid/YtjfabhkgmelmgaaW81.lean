/- The reference's reduced list of rows; p is a prime. -/
import Derived.Test.YtjfabhkgmelmgaaW80
namespace Go.Proofs.Ytjfabhkgmelmgaa
open Go.RowKit
set_option linter.unusedSimpArgs false
set_option linter.unusedVariables false
set_option maxRecDepth 100000

theorem l01Lead_own (base : Nat) (v : Value) (r : List Int) (w : World) (h : OwnI w base v r) (hm : r.length ≤ 1000000) :
    Calls Try.prog 130 #[v] w fun e w' => e = .returned (.int .i64 (ldI r)) ∧ w = w' := by
  by_cases hne : r = []
  · subst hne
    obtain ⟨a, c, rfl⟩ := h.slice
    go_enter Try.func130, Try.ntmps130
    go_wp2
    go_rounds 1
    go_ret
    exact ⟨rfl, rfl⟩
  · obtain ⟨g, cap, rfl, _, _, hR, _⟩ := h.shape hne
    exact l01Lead_any g 0 cap r w hR hm
/-- A slice of slices whose rows can be read. -/
def RowsP (w : World) (b off : Nat) (rows : List (List Int)) : Prop := ∀ (k : Nat) (r : List Int), rows[k]? = some r → ∃ b' off' c', w.cell? ⟨b, off + k, none⟩ = some (.slice (some ⟨b', off', none⟩) r.length c') ∧ b' < w.heap.size ∧ Rd w b' off' r
theorem RowsP.below {w w' : World} {b off : Nat} {rows : List (List Int)} (h : RowsP w b off rows) (hb : Below w.heap.size w w') (hl : b < w.heap.size) : RowsP w' b off rows := fun k r hk => by
  obtain ⟨b', off', c', h1, h2, h3⟩ := h k r hk
  exact ⟨b', off', c', keepC hb h1, Nat.lt_of_lt_of_le h2 hb.size, h3.below hb h2⟩
theorem ne_of_len {r : List Int} {n q : Nat} (h : r.length = n) (hq : q < n) : r ≠ [] := fun e => by rw [e] at h; simp at h; omega
theorem insStep_true {p : Int} {o s : List Int} {q : Nat} {A : List (List Int)} : insStep p o q (A, true) s = (A ++ [less p s o (vat s q)], true) := by unfold insStep; rw [if_neg (by simp)]
theorem insStep_ins {p : Int} {o s : List Int} {q q' : Nat} {A : List (List Int)} (h : ldr s = some q') (hq : q < q') : insStep p o q (A, false) s = ((A ++ [o]) ++ [less p s o (vat s q)], true) := by unfold insStep; rw [if_pos ⟨rfl, by rw [h]; exact hq⟩]
theorem insStep_not {p : Int} {o s : List Int} {q q' : Nat} {A : List (List Int)} (h : ldr s = some q') (hq : ¬ q < q') : insStep p o q (A, false) s = (A ++ [less p s o (vat s q)], false) := by unfold insStep; rw [if_neg (by rw [h]; simp; omega)]
set_option maxHeartbeats 16000000 in
theorem l01Echelon_any (p : Int) (n b off cap : Nat) (rows : List (List Int)) (w : World) (hp : isP p = true) (hrows : ∀ r ∈ rows, okR p n r) (hA : RowsP w b off rows) (hbl : b < w.heap.size) (hm : rows.length ≤ 1000) (hn : n ≤ 1000) :
    Calls Try.prog 58 #[.int .i64 p, .slice (some ⟨b, off, none⟩) rows.length cap] w fun e w' => ∃ v, e = .returned v ∧ OwnSS w' w.heap.size v (ech p rows) ∧ Below w.heap.size w w' := by
  have HP := Lib.hid hp
  have hn1000 : n ≤ 1000 := hn
  have HL := Lib.hid (fun k => ech_led hp hrows k)
  have HO := Lib.hid hrows
  have HA := Lib.hid hA
  clear hp hrows hA
  go_enter Try.func58, Try.ntmps58
  go_wp2
  go_loopw [5, 6] (fun v i wr => ∃ k : Nat, k ≤ rows.length ∧ i = .int .i64 k ∧ OwnSS wr w.heap.size v (ech p (rows.take k)) ∧ Below w.heap.size w wr) (fun _ i _ => rows.length - (intOf i).toNat)
  case atStart => exact ⟨0, Nat.zero_le _, rfl, OwnSS.made _ _ (Nat.le_refl _), by (repeat' (first | (with_reducible exact Below.refl _ _) | (with_reducible assumption) | (with_reducible refine Below.alloc ?_ ?_ _) | (with_reducible refine Below.drew ?_) | (with_reducible refine below_drewN ?_ _) | (with_reducible refine Below.setCell ?_ ?_ _) | (refine Below.step ?_ (by with_reducible assumption) ?_) | go_size))⟩
  case round =>
    obtain ⟨k, hk, rfl, hown, hB⟩ := hrel
    have hBz := hB.size
    by_cases hlt : k < rows.length
    · obtain ⟨r, hr⟩ : ∃ r, rows[k]? = some r := ⟨_, List.getElem?_eq_getElem hlt⟩
      obtain ⟨b', off', c', hc, hbl', hrd⟩ := HA.out.below hB hbl k r hr
      have hrok := HO.out r (List.mem_of_getElem? hr)
      have hrn := Lib.hid hrok.1
      have hS := Lib.hid (ech_len (p := p) rows k)
      have hnx := Lib.hid (ech_snoc (p := p) hr)
      have hled := Lib.hid (HL.out k)
      generalize ech p (rows.take k) = S at *
      have hSl : S.length ≤ 1000 := by have := hS.out; omega
      have hct := Lib.hid (l01Own_any b' off' c' r wr hbl' hrd (by rw [hrn.out]; omega))
      have HRO := Lib.hid hrok
      clear hrd hrok hr
      obtain ⟨a5, c5, hv5⟩ := hown.shape
      subst hv5
      go_wp2_with (go_at_call 128; refine hct.out.mono ?_; rintro e w1 ⟨v0, rfl, hO, hb1⟩)
      have hown1 := hown.below hb1
      have hO1 := hO.base_le hBz
      have hB1 := keepB hb1 hB (Nat.le_refl _)
      clear hown hO hct hc
      go_loopw [7, 8] (fun v j wr => ∃ m : Nat, m ≤ S.length ∧ j = .int .i64 m ∧ OwnI wr w.heap.size v (subAll p r (S.take m)) ∧ OwnSS wr w.heap.size (.slice a5 S.length c5) S ∧ Below w.heap.size w wr) (fun _ j _ => S.length - (intOf j).toNat)
      case atStart => exact ⟨0, Nat.zero_le _, rfl, hO1, hown1, hB1⟩
      clear hown1 hO1 hB1 hB hBz
      obtain ⟨m, hm', rfl, hO, hown, hB⟩ := hrel
      have hBz := hB.size
      have hcok := Lib.hid (subAll_ok HP.out (S.take m) HRO.out)
      by_cases hmt : m < S.length
      · obtain ⟨s, hs⟩ : ∃ s, S[m]? = some s := ⟨_, List.getElem?_eq_getElem hmt⟩
        obtain ⟨hsok, q, hq, hqn⟩ := hled.out s (List.mem_of_getElem? hs)
        have hnx2 := Lib.hid (subAll_take (p := p) (own := r) hs hq)
        generalize subAll p r (S.take m) = cur at *
        have hcl := Lib.hid hcok.out.1
        obtain ⟨g, cg, rfl, hg, hgl, hgr, hgf, hgc⟩ := hO.shape (ne_of_len hcl.out hqn)
        obtain ⟨og, oc, ob, obc, he5, h5, h6, h7, h8, h9, h10⟩ := hown.row hs (ne_of_len hsok.1 hqn)
        injection he5 with he5 _ he6
        subst he5 he6
        have hx := hgr.vat (show q < cur.length by rw [hcl.out]; exact hqn)
        have hxr := vat_rng HP.out hcok.out q
        have hld := Lib.hid ((l01Lead_any ob 0 obc s wr.drew h10 (by have := hsok.1; omega)).mono fun _ _ h => And.intro h.1 h.2.symm)
        have hls := Lib.hid (l01Less_any p (vat cur q) g 0 cg ob 0 obc n cur s wr.drew HP.out hgr h10 hgl h9 hcok.out hsok hxr.1 hxr.2 (by omega))
        rw [ldI_some hq] at hld
        have hql : q < cur.length := by rw [hcl.out]; exact hqn
        have hownd := OwnSS.drew hown
        simp only [Nat.zero_add] at hx
        clear hgr hgf h10 hO hown hsok hq hxr
        generalize vat cur q = x at *
        go_wp2
        refine wp_region_still_tail 14 (by kernel_rfl) (by kernel_rfl) ?_
        simp only [List.take_succ_cons, List.take_zero, List.drop_succ_cons, List.drop_zero]
        repeat (first | still_step | still_call hld.out)
        try refine wpStill_nil ?_
        change wpList _ _ _ _ _ wr.drew
        go_wp2_with (go_at_call 129; refine hls.out.mono ?_; rintro e w2 ⟨v2, rfl, hO2, hb2⟩)
        have hO3 := OwnI.base_le hO2 hBz
        have hown3 := OwnSS.below hownd hb2
        have hB3 := keepB hb2 hB.drew (Nat.le_refl _)
        clear hO2 hownd hls hld
        go_roundw
        case rel => exact ⟨m + 1, by omega, by go_num, by rw [hnx2.out]; exact hO3, hown3, hB3⟩
        case measure => simp [intOf]; omega
      · obtain rfl : m = S.length := by omega
        rw [List.take_of_length_le (Nat.le_refl _)] at hO hcok
        have hnn := Lib.hid (echStep_none (p := p) (S := S) (r := r))
        have hns := Lib.hid (fun q => echStep_some (p := p) (S := S) (r := r) (q := q))
        generalize subAll p r S = own at *
        have hol := Lib.hid hcok.out.1
        have hld := Lib.hid (l01Lead_own w.heap.size u7 own wr hO (by rw [hol.out]; omega))
        cases hq : ldr own with
        | none =>
          have hnx3 := Lib.hid (hnx.out.trans (hnn.out hq))
          rw [ldI_none hq] at hld
          clear hq hnn hns hO hcok
          go_wp2_with (go_at_call 130; refine hld.out.mono ?_; rintro e w2 ⟨rfl, rfl⟩)
          go_roundw
          case rel => exact ⟨k + 1, by omega, by go_num, by rw [hnx3.out]; exact hown, hB⟩
          case measure => simp [intOf]; omega
        | some q =>
          have hnx3 := Lib.hid (hnx.out.trans (hns.out q hq))
          rw [ldI_some hq] at hld
          obtain ⟨hql, _, _⟩ := ldr_some hq
          obtain ⟨g, cg, rfl, hg, hgl, hgr, hgf, hgc⟩ := hO.shape (ne_of_len hol.out (show q < n by rw [← hol.out]; exact hql))
          have hnm := l01Norm_any p g 0 cg own wr HP.out hgr hgl (by rw [hol.out]; omega)
          have hnm : Hid (Calls Try.prog 131 #[.int .i64 p, .slice (some ⟨g, 0, none⟩) own.length cg] wr fun e w' => ∃ v bb, e = .returned (.tuple #[v, .bool bb]) ∧ OwnI w' wr.heap.size v (normR p own) ∧ Below wr.heap.size wr w') := hnm.mono fun e w' ⟨v, he, h1, h2⟩ => ⟨v, _, he, h1, h2⟩
          have hook := Lib.hid (normR_ok (p := p) HP.out hol.out)
          generalize normR p own = o at *
          have hoe := Lib.hid hook.out.1
          have hqn : q < n := by rw [← hol.out]; exact hql
          clear hql
          clear hq hnn hns hO hcok hgr hgf
          go_wp2_with (first | (go_at_call 130; refine hld.out.mono ?_; rintro e w2 ⟨rfl, rfl⟩) | (go_at_call 131; refine hnm.out.mono ?_; rintro e w3 ⟨v3, bb, rfl, hO3, hb3⟩))
          obtain ⟨g', cg', rfl, _, _, _, _⟩ := hO3.shape (ne_of_len hoe.out hqn)
          have hown3 := hown.below hb3
          have hO4 := OwnI.base_le hO3 hBz
          have hB3 := keepB hb3 hB (Nat.le_refl _)
          have hlt5 := Lib.hid (fun g hg => (hown3.lt g hg).2)
          have hB4 : Below w.heap.size w (w3.alloc (.cells #[] 80)) := hB3.alloc hB3.size _
          have hown4 := OwnSS.alloc hown3 (.cells #[] 80)
          have hO5 := OwnI.alloc hO4 (.cells #[] 80)
          have hnx4 := OwnSS.made w3 w.heap.size hB3.size
          have hB3z := hB3.size
          clear hown hO3 hown3 hO4 hB3 hB hld hnm
          generalize hB0 : w3.heap.size = B3 at *
          go_loopw [10, 11, 12] (fun nx pt j wr => ∃ m : Nat, m ≤ S.length ∧ j = .int .i64 m ∧ OwnSS wr w.heap.size nx (insF p o q (S.take m)).1 ∧ NB B3 nx ∧ pt = .bool (insF p o q (S.take m)).2 ∧ OwnSS wr w.heap.size (.slice a5 S.length c5) S ∧ OwnI wr w.heap.size (.slice (some ⟨g', 0, none⟩) o.length cg') o ∧ Below w.heap.size w wr ∧ B3 ≤ wr.heap.size) (fun _ _ j _ => S.length - (intOf j).toNat)
          case atStart => exact ⟨0, Nat.zero_le _, rfl, hnx4, NB.new (Nat.le_refl _), rfl, hown4, hO5, hB4, by simp [hB0]⟩
          clear hnx4 hown4 hO5 hB4
          obtain ⟨m, hm', rfl, hnw, hnb, rfl, hown, hu, hB, hzB⟩ := hrel
          have HNB := Lib.hid hnb; clear hnb
          have hil := Lib.hid (insF_len (p := p) (own := o) (q := q) S m)
          have hzw : w.heap.size ≤ wr.heap.size := hB.size
          by_cases hmt : m < S.length
          · obtain ⟨s, hs⟩ : ∃ s, S[m]? = some s := ⟨_, List.getElem?_eq_getElem hmt⟩
            obtain ⟨hsok, q', hq', hqn'⟩ := hled.out s (List.mem_of_getElem? hs)
            have hst := Lib.hid (insF_snoc (p := p) (own := o) (q := q) hs)
            obtain ⟨⟨A, pt⟩, hacc⟩ : ∃ x, insF p o q (S.take m) = x := ⟨_, rfl⟩
            rw [hacc] at hst hil hnw
            simp only [hacc]
            have hAl : A.length ≤ 2 * m := hil.out
            replace hnw : OwnSS wr w.heap.size u10 A := hnw
            clear hacc
            obtain ⟨og, oc, ob, obc, he5, h5, h6, h7, h8, h9, h10⟩ := hown.row hs (ne_of_len hsok.1 hqn')
            injection he5 with he5 _ he6
            subst he5 he6
            have hsl := Lib.hid hsok.1
            have hzz := hB.size
            cases pt with
            | true =>
              rw [insStep_true] at hst
              clear h5 h6 h7 h8 h9 h10
              go_wp2
              obtain ⟨og', oc', ob, obc, he5, h5, h6, h7, h8, h9, h10, h11⟩ := hown.row2 hs (ne_of_len hsok.1 hqn')
              injection he5 with he5 _ he6
              injection he5 with he5
              injection he5 with he5
              subst he5 he6
              obtain ⟨hur, hul, _, _⟩ := hu.rd (ne_of_len hoe.out hqn)
              have hx := h10.vat (show q < s.length by rw [hsl.out]; exact hqn)
              have hxr := vat_rng HP.out hsok q
              have hls := Lib.hid (l01Less_any p (vat s q) ob 0 obc g' 0 cg' n s o wr.drew HP.out h10 hur h9 hul hsok hook.out hxr.1 hxr.2 hn1000)
              have hql : q < s.length := by rw [hsl.out]; exact hqn
              have hne1 : some og ≠ u10.ownBlock := fun e => by
                rcases NB.apart HNB.out hlt5.out with h | h
                · simp [Value.ownBlock] at h
                · exact h e
              have hne2 : some ob ≠ u10.ownBlock := fun e => by
                rcases OwnI.apartSS h11 hnw with h | h
                · simp [Value.ownBlock] at h
                · exact h e
              have hnd := OwnSS.drew hnw
              simp only [Nat.zero_add] at hx
              generalize vat s q = x at *
              obtain ⟨L, hL⟩ : ∃ x', Hid (less p s o x = x') := ⟨_, rfl⟩
              rw [hL.out] at hls hst
              have hod := OwnSS.drew hown
              have hud := OwnI.drew hu
              have hbd := Below.drew hB
              have hzd : B3 ≤ wr.heap.size := hzB
              have hzq : w.heap.size ≤ wr.heap.size := Nat.le_trans hB3z hzd
              clear hur hul h6 h7 h8 h9 h10 h11 hxr
              go_region_held3 (fun w' => w'.cell? ⟨og, m, none⟩ = some (.slice (some ⟨ob, 0, none⟩) s.length obc) ∧ w'.cell? ⟨ob, q, none⟩ = some (.int .i64 x)) ((go_split_ands; (repeat (any_goals (with_reducible apply And.intro))) <;> (first | (with_reducible assumption) | (with_reducible exact keepD (by with_reducible assumption)) | (with_reducible exact keepC hb2 (keepD (by with_reducible assumption))) | (with_reducible exact keepA _ (keepC hb2 (keepD (by with_reducible assumption)))) | ((refine hgr.cell ?_ ?_); (first | (with_reducible assumption) | (with_reducible exact keepA _ (keepC hb2 (keepD (by with_reducible assumption))))); (first | exact hne1 | exact hne2)) | (with_reducible exact True.intro)))) ((first | (go_at_call 129; refine hls.out.mono ?_; rintro e w2 ⟨v2, rfl, hO2, hb2⟩; obtain ⟨a2, c2, rfl⟩ := hO2.slice; have hz2 : wr.heap.size ≤ w2.heap.size := hb2.size; have hn2 := OwnSS.alloc (OwnSS.below hnd hb2) (.cells #[.slice a2 L.length c2] 80); have hu2 := OwnI.alloc hO2 (.cells #[.slice a2 L.length c2] 80); have hNa : BoxV 80 (w2.alloc (.cells #[.slice a2 L.length c2] 80)) w2.heap.size [.slice a2 L.length c2] := BoxV.new) | (refine append_own_step w.heap.size _ A L rfl _ _ rfl rfl hn2 rfl hNa hu2 (by exact hzq) (by omega) (by go_size) ?_; intro g4 cap4 w4 hn4 hgr hb4 hi4 hs4 hnb4)))
              have hz4 := hgr.size
              simp only [World.size_alloc, World.size_drew] at hz4
              have hown4 := hs4 _ _ _ (OwnSS.alloc (OwnSS.below hod hb2) _) (NB.apart HNB.out hlt5.out)
              have hu4 := hi4 _ _ _ (OwnI.alloc (OwnI.below hud hb2) _)
              have hB4 := hb4 _ _ ((keepB hb2 hbd (Nat.le_refl _)).alloc (by omega) _) (Nat.le_refl _)
              have hz5 : B3 ≤ w4.heap.size := by omega
              have hnb5 : NB B3 (.slice (some ⟨g4, 0, none⟩) (A.length + 1) cap4) := NB.new (hnb4 B3 (by simp only [World.size_alloc]; omega) HNB.out)
              clear hnb4 hs4 hi4 hb4 hgr hod hud hbd hn2 hu2 hNa hO2 hb2 hnd hls hne1 hne2 hx h5
              go_wp2
              go_roundw
              case rel => exact ⟨m + 1, by omega, by go_num, by rw [hst.out]; exact hn4, hnb5, by rw [hst.out], hown4, hu4, hB4, hz5⟩
              case measure => simp [intOf]; omega
            | false =>
              by_cases hqq : q < q'
              · rw [insStep_ins hq' hqq] at hst
                have hld := Lib.hid (l01Lead_any ob 0 obc s wr h10 (by rw [hsl.out]; omega))
                rw [ldI_some hq'] at hld
                have hqi : ((q : Int) < (q' : Int) : Prop) := by omega
                clear h6 h7 h8 h9 h10
                go_wp2_with (first | (go_at_call 130; refine hld.out.mono ?_; rintro e w2 ⟨rfl, rfl⟩) | (at_builtin; refine append_own w.heap.size _ A o hnw hu rfl _ _ rfl rfl rfl (by omega) (by exact hzw) ?_; intro g9 cap9 w9 hn9 hb9 hz9 hi9 hs9 hnb9))
                obtain ⟨A2, hA2⟩ : ∃ x, Hid (A ++ [o] = x) := ⟨_, rfl⟩
                have hA2l : A2.length ≤ 2 * m + 1 := by rw [← hA2.out]; simp; omega
                rw [hA2.out] at hn9 hst
                have hown9 := hs9 _ _ _ hown (NB.apart HNB.out hlt5.out)
                have HNB9 := Lib.hid (NB.new (n := A.length + 1) (c := cap9) (hnb9 B3 hzB HNB.out))
                have hu9 := hi9 _ _ hu
                have hB9 := hb9 _ _ hB (Nat.le_refl _)
                have hz9' : B3 ≤ w9.heap.size := by omega
                clear hnw hown hu hB hzB hs9 hi9 hb9 h5 hld hqi
                obtain ⟨og', oc', ob, obc, he5, h5, h6, h7, h8, h9, h10, h11⟩ := hown9.row2 hs (ne_of_len hsok.1 hqn')
                injection he5 with he5 _ he6
                injection he5 with he5
                injection he5 with he5
                subst he5 he6
                obtain ⟨hur, hul, _, _⟩ := hu9.rd (ne_of_len hoe.out hqn)
                have hx := h10.vat (show q < s.length by rw [hsl.out]; exact hqn)
                have hxr := vat_rng HP.out hsok q
                have hls := Lib.hid (l01Less_any p (vat s q) ob 0 obc g' 0 cg' n s o w9.drew HP.out h10 hur h9 hul hsok hook.out hxr.1 hxr.2 hn1000)
                have hql : q < s.length := by rw [hsl.out]; exact hqn
                have hne1 : some og ≠ (Value.slice (some ⟨g9, 0, none⟩) (A.length + 1) cap9).ownBlock := fun e => by
                  rcases NB.apart HNB9.out hlt5.out with h | h
                  · simp [Value.ownBlock] at h
                  · exact h e
                have hne2 : some ob ≠ (Value.slice (some ⟨g9, 0, none⟩) (A.length + 1) cap9).ownBlock := fun e => by
                  rcases OwnI.apartSS h11 hn9 with h | h
                  · simp [Value.ownBlock] at h
                  · exact h e
                have hnd := OwnSS.drew hn9
                simp only [Nat.zero_add] at hx
                generalize vat s q = x at *
                obtain ⟨L, hL⟩ : ∃ x', Hid (less p s o x = x') := ⟨_, rfl⟩
                rw [hL.out] at hls hst
                have hod := OwnSS.drew hown9
                have hud := OwnI.drew hu9
                have hbd := Below.drew hB9
                have hzd : B3 ≤ w9.heap.size := hz9'
                have hzq : w.heap.size ≤ w9.heap.size := Nat.le_trans hB3z hzd
                clear hur hul h6 h7 h8 h9 h10 h11 hxr
                go_region_held3 (fun w' => w'.cell? ⟨og, m, none⟩ = some (.slice (some ⟨ob, 0, none⟩) s.length obc) ∧ w'.cell? ⟨ob, q, none⟩ = some (.int .i64 x)) ((go_split_ands; (repeat (any_goals (with_reducible apply And.intro))) <;> (first | (with_reducible assumption) | (with_reducible exact keepD (by with_reducible assumption)) | (with_reducible exact keepC hb2 (keepD (by with_reducible assumption))) | (with_reducible exact keepA _ (keepC hb2 (keepD (by with_reducible assumption)))) | ((refine hgr.cell ?_ ?_); (first | (with_reducible assumption) | (with_reducible exact keepA _ (keepC hb2 (keepD (by with_reducible assumption))))); (first | exact hne1 | exact hne2)) | (with_reducible exact True.intro)))) ((first | (go_at_call 129; refine hls.out.mono ?_; rintro e w2 ⟨v2, rfl, hO2, hb2⟩; obtain ⟨a2, c2, rfl⟩ := hO2.slice; have hz2 : w9.heap.size ≤ w2.heap.size := hb2.size; have hn2 := OwnSS.alloc (OwnSS.below hnd hb2) (.cells #[.slice a2 L.length c2] 80); have hu2 := OwnI.alloc hO2 (.cells #[.slice a2 L.length c2] 80); have hNa : BoxV 80 (w2.alloc (.cells #[.slice a2 L.length c2] 80)) w2.heap.size [.slice a2 L.length c2] := BoxV.new) | (refine append_own_step w.heap.size _ A2 L rfl _ _ rfl rfl hn2 rfl hNa hu2 (by exact hzq) (by omega) (by go_size) ?_; intro g4 cap4 w4 hn4 hgr hb4 hi4 hs4 hnb4)))
                have hz4 := hgr.size
                simp only [World.size_alloc, World.size_drew] at hz4
                have hown4 := hs4 _ _ _ (OwnSS.alloc (OwnSS.below hod hb2) _) (NB.apart HNB9.out hlt5.out)
                have hu4 := hi4 _ _ _ (OwnI.alloc (OwnI.below hud hb2) _)
                have hB4 := hb4 _ _ ((keepB hb2 hbd (Nat.le_refl _)).alloc (by omega) _) (Nat.le_refl _)
                have hz5 : B3 ≤ w4.heap.size := by omega
                have hnb5 : NB B3 (.slice (some ⟨g4, 0, none⟩) (A2.length + 1) cap4) := NB.new (hnb4 B3 (by simp only [World.size_alloc]; omega) HNB9.out)
                clear hnb4 hs4 hi4 hb4 hgr hod hud hbd hn2 hu2 hNa hO2 hb2 hnd hls hne1 hne2 hx h5
                go_wp2
                go_roundw
                case rel => exact ⟨m + 1, by omega, by go_num, by rw [hst.out]; exact hn4, hnb5, by rw [hst.out], hown4, hu4, hB4, hz5⟩
                case measure => simp [intOf]; omega
              · rw [insStep_not hq' hqq] at hst
                have hld := Lib.hid (l01Lead_any ob 0 obc s wr h10 (by rw [hsl.out]; omega))
                rw [ldI_some hq'] at hld
                have hqi : (¬ (q : Int) < (q' : Int) : Prop) := by omega
                clear h6 h7 h8 h9 h10
                go_wp2_with (go_at_call 130; refine hld.out.mono ?_; rintro e w2 ⟨rfl, rfl⟩)
                clear h5 hld hqi
                obtain ⟨og', oc', ob, obc, he5, h5, h6, h7, h8, h9, h10, h11⟩ := hown.row2 hs (ne_of_len hsok.1 hqn')
                injection he5 with he5 _ he6
                injection he5 with he5
                injection he5 with he5
                subst he5 he6
                obtain ⟨hur, hul, _, _⟩ := hu.rd (ne_of_len hoe.out hqn)
                have hx := h10.vat (show q < s.length by rw [hsl.out]; exact hqn)
                have hxr := vat_rng HP.out hsok q
                have hls := Lib.hid (l01Less_any p (vat s q) ob 0 obc g' 0 cg' n s o wr.drew HP.out h10 hur h9 hul hsok hook.out hxr.1 hxr.2 hn1000)
                have hql : q < s.length := by rw [hsl.out]; exact hqn
                have hne1 : some og ≠ u10.ownBlock := fun e => by
                  rcases NB.apart HNB.out hlt5.out with h | h
                  · simp [Value.ownBlock] at h
                  · exact h e
                have hne2 : some ob ≠ u10.ownBlock := fun e => by
                  rcases OwnI.apartSS h11 hnw with h | h
                  · simp [Value.ownBlock] at h
                  · exact h e
                have hnd := OwnSS.drew hnw
                simp only [Nat.zero_add] at hx
                generalize vat s q = x at *
                obtain ⟨L, hL⟩ : ∃ x', Hid (less p s o x = x') := ⟨_, rfl⟩
                rw [hL.out] at hls hst
                have hod := OwnSS.drew hown
                have hud := OwnI.drew hu
                have hbd := Below.drew hB
                have hzd : B3 ≤ wr.heap.size := hzB
                have hzq : w.heap.size ≤ wr.heap.size := Nat.le_trans hB3z hzd
                clear hur hul h6 h7 h8 h9 h10 h11 hxr
                go_region_held3 (fun w' => w'.cell? ⟨og, m, none⟩ = some (.slice (some ⟨ob, 0, none⟩) s.length obc) ∧ w'.cell? ⟨ob, q, none⟩ = some (.int .i64 x)) ((go_split_ands; (repeat (any_goals (with_reducible apply And.intro))) <;> (first | (with_reducible assumption) | (with_reducible exact keepD (by with_reducible assumption)) | (with_reducible exact keepC hb2 (keepD (by with_reducible assumption))) | (with_reducible exact keepA _ (keepC hb2 (keepD (by with_reducible assumption)))) | ((refine hgr.cell ?_ ?_); (first | (with_reducible assumption) | (with_reducible exact keepA _ (keepC hb2 (keepD (by with_reducible assumption))))); (first | exact hne1 | exact hne2)) | (with_reducible exact True.intro)))) ((first | (go_at_call 129; refine hls.out.mono ?_; rintro e w2 ⟨v2, rfl, hO2, hb2⟩; obtain ⟨a2, c2, rfl⟩ := hO2.slice; have hz2 : wr.heap.size ≤ w2.heap.size := hb2.size; have hn2 := OwnSS.alloc (OwnSS.below hnd hb2) (.cells #[.slice a2 L.length c2] 80); have hu2 := OwnI.alloc hO2 (.cells #[.slice a2 L.length c2] 80); have hNa : BoxV 80 (w2.alloc (.cells #[.slice a2 L.length c2] 80)) w2.heap.size [.slice a2 L.length c2] := BoxV.new) | (refine append_own_step w.heap.size _ A L rfl _ _ rfl rfl hn2 rfl hNa hu2 (by exact hzq) (by omega) (by go_size) ?_; intro g4 cap4 w4 hn4 hgr hb4 hi4 hs4 hnb4)))
                have hz4 := hgr.size
                simp only [World.size_alloc, World.size_drew] at hz4
                have hown4 := hs4 _ _ _ (OwnSS.alloc (OwnSS.below hod hb2) _) (NB.apart HNB.out hlt5.out)
                have hu4 := hi4 _ _ _ (OwnI.alloc (OwnI.below hud hb2) _)
                have hB4 := hb4 _ _ ((keepB hb2 hbd (Nat.le_refl _)).alloc (by omega) _) (Nat.le_refl _)
                have hz5 : B3 ≤ w4.heap.size := by omega
                have hnb5 : NB B3 (.slice (some ⟨g4, 0, none⟩) (A.length + 1) cap4) := NB.new (hnb4 B3 (by simp only [World.size_alloc]; omega) HNB.out)
                clear hnb4 hs4 hi4 hb4 hgr hod hud hbd hn2 hu2 hNa hO2 hb2 hnd hls hne1 hne2 hx h5
                go_wp2
                go_roundw
                case rel => exact ⟨m + 1, by omega, by go_num, by rw [hst.out]; exact hn4, hnb5, by rw [hst.out], hown4, hu4, hB4, hz5⟩
                case measure => simp [intOf]; omega
          · obtain rfl : m = S.length := by omega
            rw [List.take_of_length_le (Nat.le_refl _)] at hnw hil
            have hfin := Lib.hid (insF_eq (p := p) (own := o) (q := q) S)
            simp only [List.take_of_length_le (Nat.le_refl S.length)]
            obtain ⟨⟨A, pt⟩, hacc⟩ : ∃ x, insF p o q S = x := ⟨_, rfl⟩
            rw [hacc] at hfin hil hnw
            simp only [hacc]
            have hAl : A.length ≤ 2 * S.length := hil.out
            replace hnw : OwnSS wr w.heap.size u10 A := hnw
            clear hacc
            cases pt with
            | true =>
              have hfin2 : Hid (ech p (rows.take (k + 1)) = A) := hnx3.out.trans hfin.out.symm
              have hnw2 := hnw
              clear hnw hfin hown hu
              go_wp2
              go_roundw
              case rel => exact ⟨k + 1, by omega, by go_num, by rw [hfin2.out]; exact hnw2, hB⟩
              case measure => simp [intOf]; omega
            | false =>
              have hfin2 : Hid (ech p (rows.take (k + 1)) = A ++ [o]) := hnx3.out.trans hfin.out.symm
              go_wp2_with (at_builtin; refine append_own w.heap.size _ A o hnw hu rfl _ _ rfl rfl rfl (by omega) (by exact hzw) ?_; intro g9 cap9 w9 hn9 hb9 hz9 hi9 hs9 hnb9)
              have hB9 := hb9 _ _ hB (Nat.le_refl _)
              have hnw2 := hn9
              clear hnw hfin hown hu hs9 hi9 hb9 hn9
              go_roundw
              case rel => exact ⟨k + 1, by omega, by go_num, by rw [hfin2.out]; exact hnw2, hB9⟩
              case measure => simp [intOf]; omega
    · have hown' : OwnSS wr w.heap.size u5 (ech p rows) := by rwa [List.take_of_length_le (by omega)] at hown
      clear hown
      obtain ⟨a5, c5, hv5⟩ := hown'.shape
      go_wp2
      go_ret
      exact ⟨_, rfl, hown', hB⟩
end Go.Proofs.Ytjfabhkgmelmgaa
