/- slices.IndexFunc and slices.DeleteFunc at points, and the points and lines for which something is so; what is asked of them is asked by a closure that makes memory of its own alone. -/
import Derived.Test.YthlmodofgoelbaaW12
import Derived.Test.YthlmodofgoelbaaX1
namespace Go.Proofs.Ythlmodofgoelbaa
open Go.RowKit
set_option linter.unusedSimpArgs false
set_option linter.unusedVariables false
set_option maxRecDepth 100000

theorem RdP.at_ {w : World} {b off : Nat} {ps : List P3} (h : RdP w b off ps) {k : Nat} (hk : k < ps.length) : w.cell? ⟨b, off + k * 3, none⟩ = some (.int .i64 ps[k].x) ∧ w.cell? ⟨b, off + k * 3 + 1, none⟩ = some (.int .i64 ps[k].y) ∧ w.cell? ⟨b, off + k * 3 + 2, none⟩ = some (.int .i64 ps[k].z) :=
  h k _ (List.getElem?_eq_getElem hk)
theorem OwnA.pts {E : Nat} {w : World} {base g len cap : Nat} {ps : List P3} (h : OwnA E 3 w base (.slice (some ⟨g, 0, none⟩) len cap) (rowsP ps)) : len = ps.length := by
  rcases h.2.2 with ⟨h2, _⟩ | ⟨g', cap', cur, hv, _⟩
  · cases h2
  · injection hv with _ hv2; rw [hv2, rowsP_len]
/-- What a closure with one captured value answers of each point. -/
def Asks (K : Nat) (c : Value) (d : P3 → Bool) (ps : List P3) (w : World) (row : Option Nat) : Prop :=
  ∀ a, a ∈ ps → ∀ w', w.grownBy w' row → Calls Try.prog K #[.agg #[.int .i64 (P3.x a), .int .i64 a.y, .int .i64 a.z], c] w' fun e w'' => e = .returned (.bool (d a)) ∧ Below w'.heap.size w' w''
theorem Asks.later {K : Nat} {c : Value} {d : P3 → Bool} {ps : List P3} {w w1 : World} {row : Option Nat} (h : Asks K c d ps w row) (hg : w.grownBy w1 row) : Asks K c d ps w1 row :=
  fun a ha w' h' => h a ha w' (grown_trans hg h')
theorem OwnA.keptBelow {E n : Nat} {w w' : World} {base : Nat} {v : Value} {rows : List (List Int)} (h : OwnA E n w base v rows) (hb : Below w.heap.size w w') : OwnA E n w' base v rows := h.below hb

set_option maxHeartbeats 1000000 in
theorem IndexFunc_pt (K : Nat) (c : Value) (d : P3 → Bool) (g off cap : Nat) (ps : List P3) (w : World) (row : Option Nat) (hR : RdP w g off ps) (hg : g < w.heap.size) (hm : ps.length ≤ 1000000)
    (hrun : ∀ args w', (callFunc K args).run Try.prog w' = .ok (.enter K args) w') (hA : Asks K c d ps w row) :
    Calls Try.prog 139 #[.slice (some ⟨g, off, none⟩) ps.length cap, .func (.func K) #[] #[c]] w fun e w' => e = .returned (.int .i64 (idxL d ps 0)) ∧ Below w.heap.size w w' := by
  have HA := Lib.hid hA; clear hA
  go_enter Try.func139, Try.ntmps139
  go_wp2
  go_loopw [8] (fun i wr => ∃ k : Nat, k ≤ ps.length ∧ i = .int .i64 k ∧ Below w.heap.size w wr ∧ Hid (idxL d ps 0 = idxL d (ps.drop k) k)) (fun i _ => ps.length - (intOf i).toNat)
  case atStart => exact ⟨0, Nat.zero_le _, rfl, Below.refl _ _, rfl⟩
  case round =>
    obtain ⟨k, hk, rfl, hB, hI⟩ := hrel
    have hBz := hB.size
    by_cases hlt : k < ps.length
    · have hcl := HA.out ps[k] (List.getElem_mem hlt) wr (grown_below hB row)
      have hs : Hid (ps[k]? = some ps[k]) := Lib.hid (List.getElem?_eq_getElem hlt)
      obtain ⟨p0, p1, p2⟩ := (hR.below hB hg).at_ hlt
      have hstep : Hid (idxL d ps 0 = if d ps[k] = true then (k : Int) else idxL d (ps.drop (k + 1)) (k + 1)) := by
        show _ = _; rw [hI.out, drop_cons hs.out, idxL]
      clear hI hs hR
      generalize hpk : ps[k] = a at *
      clear hpk
      cases hd : d a
      · have hn : Hid (idxL d ps 0 = idxL d (ps.drop (k + 1)) ((k + 1 : Nat) : Int)) := by show _ = _; rw [hstep.out, hd]; rfl
        clear hstep
        rw [hd] at hcl
        have hcl' := Lib.hid hcl; clear hcl hd
        go_wp2_with (refine Calls.mono hcl'.out ?_; rintro e w1 ⟨rfl, hb1⟩)
        go_roundw
        case rel => exact ⟨k + 1, by omega, by go_num, by (repeat' (first | (with_reducible exact Below.refl _ _) | (with_reducible assumption) | (with_reducible refine Below.alloc ?_ ?_ _) | (with_reducible refine Below.drew ?_) | (with_reducible refine below_drewN ?_ _) | (with_reducible refine Below.setCell ?_ ?_ _) | (refine Below.step ?_ (by with_reducible assumption) ?_) | go_size)), hn⟩
        case measure => simp [intOf]; omega
      · have hn : Hid (idxL d ps 0 = (k : Int)) := by show _ = _; rw [hstep.out, hd]; rfl
        clear hstep
        rw [hd] at hcl
        have hcl' := Lib.hid hcl; clear hcl hd
        go_wp2_with (refine Calls.mono hcl'.out ?_; rintro e w1 ⟨rfl, hb1⟩)
        go_ret
        exact ⟨ret_int hn.out.symm, by (repeat' (first | (with_reducible exact Below.refl _ _) | (with_reducible assumption) | (with_reducible refine Below.alloc ?_ ?_ _) | (with_reducible refine Below.drew ?_) | (with_reducible refine below_drewN ?_ _) | (with_reducible refine Below.setCell ?_ ?_ _) | (refine Below.step ?_ (by with_reducible assumption) ?_) | go_size))⟩
    · have hn : Hid (idxL d ps 0 = -1) := by show _ = _; rw [hI.out, List.drop_of_length_le (by omega)]; rfl
      clear hI
      go_wp2
      go_ret
      exact ⟨ret_int hn.out.symm, hB⟩

theorem OwnA.put3 {E : Nat} {wr : World} {base g len cap : Nat} {ps : List P3} {k : Nat} (hown : OwnA E 3 wr base (.slice (some ⟨g, 0, none⟩) len cap) (rowsP ps)) (hk : k < ps.length) (a : P3) :
    OwnA E 3 (((wr.setCell ⟨g, k * 3, none⟩ (.int .i64 a.x)).setCell ⟨g, k * 3 + 1, none⟩ (.int .i64 a.y)).setCell ⟨g, k * 3 + 2, none⟩ (.int .i64 a.z)) base (.slice (some ⟨g, 0, none⟩) len cap) (rowsP (ps.set k a)) := by
  have hk' : k < (rowsP ps).length := by rw [rowsP_len]; exact hk
  have h := ((hown.set a.x (i := k) (j := 0) hk' (by omega)).set a.y (i := k) (j := 1) (by simpa using hk') (by omega)).set a.z (i := k) (j := 2) (by simpa using hk') (by omega)
  have hl := hown.1 (rowsP ps)[k] (List.getElem_mem hk')
  obtain ⟨x0, x1, x2, he⟩ := len3 hl
  simp only [List.getElem_set_self, he, List.set_set] at h
  have e : rowsP (ps.set k a) = (rowsP ps).set k [a.x, a.y, a.z] := by simp [rowsP, List.map_set, P3.l]
  rw [e]
  simpa using h
theorem stored3_grown (w : World) (g : Nat) (j0 j1 j2 : Nat) (u0 u1 u2 : Value) : w.grownBy (((w.setCell ⟨g, j0, none⟩ u0).setCell ⟨g, j1, none⟩ u1).setCell ⟨g, j2, none⟩ u2) (some g) :=
  ⟨rfl, rfl, rfl, by simp, fun k _ hk => by
    have hne : k ≠ g := by intro e; exact hk (by rw [e])
    rw [Below.heap_setCell _ _ _ _ hne, Below.heap_setCell _ _ _ _ hne, Below.heap_setCell _ _ _ _ hne]⟩
def notB (d : P3 → Bool) : P3 → Bool := fun a => !d a
def DelPost (E : Nat) (d : P3 → Bool) (ps : List P3) (base g : Nat) (w : World) (e : Ending) (w' : World) : Prop :=
  ∃ v', e = .returned v' ∧ OwnA E 3 w' base v' (rowsP (ps.filter (notB d))) ∧ w.grownBy w' (some g)
theorem drop_get {α : Type} {qs ps : List α} {j : Nat} (h : qs.drop j = ps.drop j) (hl : qs.length = ps.length) : qs[j]? = ps[j]? := by
  have := congrArg (fun l => l[0]?) h
  simpa using this
theorem drop_next {α : Type} {qs ps : List α} {j : Nat} (h : qs.drop j = ps.drop j) : qs.drop (j + 1) = ps.drop (j + 1) := by
  rw [← List.drop_drop, ← List.drop_drop, h]
set_option maxHeartbeats 2000000 in
theorem DeleteFunc_pt (K : Nat) (c : Value) (d : P3 → Bool) (base g cap : Nat) (ps : List P3) (w : World) (hown : OwnA 43 3 w base (.slice (some ⟨g, 0, none⟩) ps.length cap) (rowsP ps)) (hne0 : ps ≠ []) (hm : ps.length ≤ 1000000)
    (hrun : ∀ args w', (callFunc K args).run Try.prog w' = .ok (.enter K args) w') (hA : Asks K c d ps w (some g)) :
    Calls Try.prog 118 #[.slice (some ⟨g, 0, none⟩) ps.length cap, .func (.func K) #[] #[c]] w (DelPost 43 d ps base g w) := by
  obtain ⟨hbg, hg, hR, hfz, hcap, _⟩ := hown.at_
  have hI := IndexFunc_pt K c d g 0 cap ps w (some g) hR.rdp hg hm hrun hA
  have HA := Lib.hid hA; clear hA
  rcases idxL_lo d ps 0 (by omega) with hn | ⟨hn0, hn1⟩
  · have hf : Hid (ps.filter (notB d) = ps) := idxL_none d ps 0 (by omega) hn
    rw [hn] at hI
    have HI := Lib.hid hI; clear hI hn hR hfz hne0
    go_enter Try.func118, Try.ntmps118
    go_wp2_with (go_at_call 139; refine Calls.mono HI.out ?_; rintro e w1 ⟨rfl, hb1⟩; obtain ⟨hc1, hf1⟩ := bcell hb1; have hz1 := hb1.size; (try simp only [World.size_alloc, World.size_setCell, World.size_drew] at hz1); (try (have hy1w0 : w.heap.size < w1.heap.size := by omega)); (try (have hy1w1 : w.heap.size + 1 < w1.heap.size := by omega)); (try (have hy1w2 : w.heap.size + 1 + 1 < w1.heap.size := by omega)); (try (have hy1w3 : w.heap.size + 1 + 1 + 1 < w1.heap.size := by omega)); (try (have hy1w4 : w.heap.size + 1 + 1 + 1 + 1 < w1.heap.size := by omega)))
    go_ret
    exact ⟨_, rfl, by rw [hf.out]; exact hown.below hb1, grown_below hb1 _⟩
  · obtain ⟨n, hn⟩ := Int.eq_ofNat_of_zero_le hn0
    obtain ⟨hf1, hf2, hf3⟩ := idxL_some d ps 0 n (by omega) (by rw [hn]; omega)
    have hf2' : Hid ((ps.take (n + 1)).filter (notB d) = ps.take n) := hf2
    rw [hn] at hI
    have HI := Lib.hid hI
    have hne : ((n : Int) == -1) = false := by rw [beq_eq_false_iff_ne]; omega
    clear hI hn hn0 hn1 hf1 hf2 hne0 hR
    generalize hlen : ps.length = len at *
    have HLEN := Lib.hid hlen; clear hlen
    go_enter Try.func118, Try.ntmps118
    go_wp2_with (go_at_call 139; refine Calls.mono HI.out ?_; rintro e w1 ⟨rfl, hb1⟩; obtain ⟨hc1, hf1⟩ := bcell hb1; have hz1 := hb1.size; (try simp only [World.size_alloc, World.size_setCell, World.size_drew] at hz1); (try (have hy1w0 : w.heap.size < w1.heap.size := by omega)); (try (have hy1w1 : w.heap.size + 1 < w1.heap.size := by omega)); (try (have hy1w2 : w.heap.size + 1 + 1 < w1.heap.size := by omega)); (try (have hy1w3 : w.heap.size + 1 + 1 + 1 < w1.heap.size := by omega)); (try (have hy1w4 : w.heap.size + 1 + 1 + 1 + 1 < w1.heap.size := by omega)))
    go_loopw [5, 6] (fun vi vj wr => ∃ (j n' : Nat) (qs : List P3), j ≤ len ∧ n' < j ∧ vi = .int .i64 n' ∧ vj = .int .i64 j ∧ Hid (qs.length = len) ∧ Hid (qs.take n' = (ps.take j).filter (notB d)) ∧ Hid (qs.drop j = ps.drop j) ∧ OwnA 43 3 wr base (.slice (some ⟨g, 0, none⟩) len cap) (rowsP qs) ∧ w.grownBy wr (some g)) (fun _ j _ => len - (intOf j).toNat)
    case atStart => exact ⟨n + 1, n, ps, by omega, by omega, rfl, by go_num, HLEN, hf2'.out.symm, rfl, hown.below hb1, grown_below hb1 _⟩
    case round =>
      clear hb1 hown HI hf2' hne hfz
      obtain ⟨j, n', qs, hj, hnj, rfl, rfl, hql, hqt, hqd, hown, hgr⟩ := hrel
      have hsz := hgr.size
      by_cases hlt : j < len
      · have hjp : Hid (j < ps.length) := by show _ < _; rw [HLEN.out]; exact hlt
        have hcl := fun (a : P3) (ha : a ∈ ps) (w' : World) (h' : wr.grownBy w' (some g)) => HA.out a ha w' (grown_trans hgr h')
        have HCL := Lib.hid hcl; clear hcl
        have hget : Hid (qs[j]? = some (ps[j]'(hjp.out))) := by show _ = _; rw [drop_get hqd.out (by rw [hql.out, HLEN.out]), List.getElem?_eq_getElem hjp.out]
        obtain ⟨_, hgl, hRq, hfq, _, _⟩ := hown.at_
        obtain ⟨p0, p1, p2⟩ := hRq.rdp j _ hget.out
        have hfs := Lib.hid (filter_snoc (f := notB d) (List.getElem?_eq_getElem hjp.out))
        have hqn := Lib.hid (drop_next hqd.out)
        have HFQ := Lib.hid hfq
        have hcall := HCL.out (ps[j]'(hjp.out)) (List.getElem_mem _)
        clear HCL
        generalize ps[j]'(hjp.out) = a at *
        have hni : Hid (n' < qs.length) := by show _ < _; rw [hql.out]; omega
        simp only [Nat.zero_add] at p0 p1 p2
        clear hRq hfq
        cases hd : d a
        · have hkeep : Hid ((ps.take (j + 1)).filter (notB d) = (ps.take j).filter (notB d) ++ [a]) := by show _ = _; rw [hfs.out, notB, hd]; rfl
          rw [hd] at hcall
          have HCALL := Lib.hid hcall
          clear hd hcall hfs
          have f0 := HFQ.out (n' * 3)
          have f1 := HFQ.out (n' * 3 + 1)
          have f2 := HFQ.out (n' * 3 + 2)
          obtain ⟨b, hb⟩ : ∃ b : P3, qs[n']? = some b := ⟨_, List.getElem?_eq_getElem hni.out⟩
          obtain ⟨_, _, hRq, _, _, _⟩ := hown.at_
          obtain ⟨q0, q1, q2⟩ := hRq.rdp n' _ hb
          clear hb hRq
          simp only [Nat.zero_add] at q0 q1 q2
          have hput := fun (w2 : World) (h2 : OwnA 43 3 w2 base (.slice (some ⟨g, 0, none⟩) len cap) (rowsP qs)) => h2.put3 hni.out a
          have HPUT := Lib.hid hput; clear hput
          go_wp2_with (refine Calls.mono (HCALL.out _ (grown_below (Below.alloc (Below.refl _ _) (Nat.le_refl _) _) _)) ?_; rintro e w1 ⟨rfl, hb1⟩; obtain ⟨hc1, hf1⟩ := bcell hb1; have hz1 := hb1.size; (try simp only [World.size_alloc, World.size_setCell, World.size_drew] at hz1); (try (have hy1w0 : w.heap.size < w1.heap.size := by omega)); (try (have hy1w1 : w.heap.size + 1 < w1.heap.size := by omega)); (try (have hy1w2 : w.heap.size + 1 + 1 < w1.heap.size := by omega)); (try (have hy1w3 : w.heap.size + 1 + 1 + 1 < w1.heap.size := by omega)); (try (have hy1w4 : w.heap.size + 1 + 1 + 1 + 1 < w1.heap.size := by omega)))
          have hbb : Below wr.heap.size wr w1 := by (repeat' (first | (with_reducible exact Below.refl _ _) | (with_reducible assumption) | (with_reducible refine Below.alloc ?_ ?_ _) | (with_reducible refine Below.drew ?_) | (with_reducible refine below_drewN ?_ _) | (with_reducible refine Below.setCell ?_ ?_ _) | (refine Below.step ?_ (by with_reducible assumption) ?_) | go_size))
          go_roundw
          case rel =>
            refine ⟨j + 1, n' + 1, qs.set n' a, by omega, by omega, by go_num, by go_num, by show _ = _; rw [List.length_set]; exact hql.out, ?_, ?_, HPUT.out _ (hown.below hbb), grown_trans hgr (grown_trans (grown_below hbb _) (stored3_grown _ _ _ _ _ _ _ _))⟩
            · show _ = _
              rw [hkeep.out, ← hqt.out, List.take_add_one, List.getElem?_set_self hni.out, List.take_set_of_le (by omega)]; rfl
            · show _ = _
              rw [List.drop_set_of_lt (by omega)]; exact hqn.out
          case measure => simp [intOf]; omega
        · have hkeep : Hid ((ps.take (j + 1)).filter (notB d) = (ps.take j).filter (notB d)) := by show _ = _; rw [hfs.out, notB, hd]; simp
          rw [hd] at hcall
          have HCALL := Lib.hid hcall
          clear hd hcall hfs
          go_wp2_with (refine Calls.mono (HCALL.out _ (grown_below (Below.alloc (Below.refl _ _) (Nat.le_refl _) _) _)) ?_; rintro e w1 ⟨rfl, hb1⟩; obtain ⟨hc1, hf1⟩ := bcell hb1; have hz1 := hb1.size; (try simp only [World.size_alloc, World.size_setCell, World.size_drew] at hz1); (try (have hy1w0 : w.heap.size < w1.heap.size := by omega)); (try (have hy1w1 : w.heap.size + 1 < w1.heap.size := by omega)); (try (have hy1w2 : w.heap.size + 1 + 1 < w1.heap.size := by omega)); (try (have hy1w3 : w.heap.size + 1 + 1 + 1 < w1.heap.size := by omega)); (try (have hy1w4 : w.heap.size + 1 + 1 + 1 + 1 < w1.heap.size := by omega)))
          go_roundw
          case rel => exact ⟨j + 1, n', qs, by omega, by omega, rfl, by go_num, hql, by rw [hkeep.out]; exact hqt, hqn, hown.below (by (repeat' (first | (with_reducible exact Below.refl _ _) | (with_reducible assumption) | (with_reducible refine Below.alloc ?_ ?_ _) | (with_reducible refine Below.drew ?_) | (with_reducible refine below_drewN ?_ _) | (with_reducible refine Below.setCell ?_ ?_ _) | (refine Below.step ?_ (by with_reducible assumption) ?_) | go_size))), grown_trans hgr (grown_below (by (repeat' (first | (with_reducible exact Below.refl _ _) | (with_reducible assumption) | (with_reducible refine Below.alloc ?_ ?_ _) | (with_reducible refine Below.drew ?_) | (with_reducible refine below_drewN ?_ _) | (with_reducible refine Below.setCell ?_ ?_ _) | (refine Below.step ?_ (by with_reducible assumption) ?_) | go_size))) _)⟩
          case measure => simp [intOf]; omega
      · obtain rfl : len = j := by omega
        have hres : Hid (rowsP (ps.filter (notB d)) = (rowsP qs).take n') := by
          show _ = _
          have h1 := hqt.out
          rw [List.take_of_length_le (l := ps) (by rw [HLEN.out]; omega)] at h1
          rw [← h1]; simp [rowsP, List.map_take]
        obtain ⟨W', hclr, hown', hgr'⟩ := clear_own (n := 3) (ty := 0) (zs := [.int .i64 0, .int .i64 0, .int .i64 0]) Try.underlying40 (z := .agg #[.int .i64 0, .int .i64 0, .int .i64 0]) (fun w => by kernel_rfl) rfl rfl (by intro u hu; simp at hu; subst hu; rfl) hown hnj
        have hcn : ¬ (cap = n') := by omega
        obtain ⟨_, hgl, _, _, _, _⟩ := hown.at_
        clear hqt hqd hql
        go_wp2
        go_ret
        exact ⟨_, rfl, by rw [hres.out]; exact hown', grown_trans hgr hgr'⟩
end Go.Proofs.Ythlmodofgoelbaa
