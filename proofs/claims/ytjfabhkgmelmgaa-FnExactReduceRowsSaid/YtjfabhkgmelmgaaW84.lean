/- ReduceRows' answer: compared, marked, looked at again; how the argument's copies are marked. -/
import Derived.Test.YtjfabhkgmelmgaaW83
import Derived.Test.YtjfabhkgmelmgaaI6
import Derived.StillTailTactics
namespace Go.Proofs.Ytjfabhkgmelmgaa
open Go.RowKit
set_option linter.unusedSimpArgs false
set_option linter.unusedVariables false
set_option maxRecDepth 100000

/-- n numbers, from k on. -/
def marks (k : Int) (n : Nat) : List Int := (List.range n).map fun i : Nat => k + (i : Int)
theorem marks_len (k : Int) (n : Nat) : (marks k n).length = n := by unfold marks; simp
theorem marks_get {k : Int} {n i : Nat} (h : i < n) : (marks k n)[i]? = some (k + (i : Int)) := by
  unfold marks; rw [List.getElem?_map, List.getElem?_range h]; rfl
theorem marks_snoc (k : Int) (n : Nat) : marks k (n + 1) = marks k n ++ [k + (n : Int)] := by
  unfold marks; rw [List.range_succ, List.map_append]; rfl
/-- A number that may be written. -/
def IntAt (w : World) (b o : Nat) : Prop := (∃ x, w.cell? ⟨b, o, none⟩ = some (.int .i64 x)) ∧ w.frozen? ⟨b, o, none⟩ = false
theorem IntAt.setCell {w : World} {b o b' o' : Nat} {y : Int} (h : IntAt w b o) : IntAt (w.setCell ⟨b', o', none⟩ (.int .i64 y)) b o := by
  obtain ⟨⟨x, hx⟩, hf⟩ := h
  refine ⟨?_, by rw [World.frozen?_setCell]; exact hf⟩
  by_cases e : (⟨b', o', none⟩ : Addr) = ⟨b, o, none⟩
  · rw [e, World.cell?_setCell_same _ _ _ hx]
    exact ⟨y, rfl⟩
  · exact ⟨x, by rw [World.cell?_setCell_other _ _ _ _ (by simpa using e)]; exact hx⟩
theorem IntAt.setRow {b o b' : Nat} (xs : List Int) : ∀ {w : World} (off : Nat), IntAt w b o → IntAt (setRow w b' off xs) b o := by
  induction xs with
  | nil => intro w off h; exact h
  | cons y ys ih => intro w off h; simp only [Go.Proofs.Ytjfabhkgmelmgaa.setRow]; exact ih _ h.setCell
theorem IntAt.below {w w' : World} {b o : Nat} (h : IntAt w b o) (hb : Below w.heap.size w w') : IntAt w' b o := by
  obtain ⟨⟨x, hx⟩, hf⟩ := h
  exact ⟨⟨x, keepC hb hx⟩, keepF hb (World.block_lt_of_cell? _ _ hx) hf⟩
set_option maxHeartbeats 1000000 in
theorem markInt64S_row (b off c n : Nat) (k : Int) (w : World) (h : ∀ i, i < n → IntAt w b (off + i)) (hk0 : 0 ≤ k) (hk1 : k ≤ 2000000000000) (hn : n ≤ 1000000) :
    Calls Try.prog 67 #[.slice (some ⟨b, off, none⟩) n c, .int .i64 k] w fun e w' => e = .returned (.int .i64 (k + (n : Int))) ∧ setRow w b off (marks k n) = w' := by
  have H := Lib.hid h; clear h
  go_enter Try.func67, Try.ntmps67
  go_wp2
  go_loopw [1, 5] (fun q i wr => ∃ j : Nat, j ≤ n ∧ q = .int .i64 (k + (j : Int)) ∧ i = .int .i64 j ∧ Hid (setRow w b off (marks k j) = wr)) (fun _ i _ => n - (intOf i).toNat)
  case atStart => exact ⟨0, Nat.zero_le _, by simp, rfl, rfl⟩
  case round =>
    obtain ⟨j, hj, rfl, rfl, hW⟩ := hrel
    by_cases hlt : j < n
    · obtain ⟨⟨x, hx⟩, hf⟩ := H.out j hlt
      have hc : wr.cell? ⟨b, off + j, none⟩ = some (.int .i64 x) := by
        rw [← hW.out, setRow_cell _ _ _ _ _ _ (by right; right; rw [marks_len]; omega)]; exact hx
      have hfr : wr.frozen? ⟨b, off + j, none⟩ = false := by rw [← hW.out, setRow_frozen]; exact hf
      have hnx : Hid (setRow w b off (marks k (j + 1)) = wr.setCell ⟨b, off + j, none⟩ (.int .i64 (k + (j : Int)))) := by
        show _ = _
        rw [marks_snoc, setRow_snoc, marks_len, hW.out]
      clear hx hf
      have hw1 : IntKind.i64.wrap (k + (j : Int)) = k + (j : Int) := by go_arith
      have hw2 : IntKind.i64.wrap (k + (j : Int) + 1) = k + ((j + 1 : Nat) : Int) := by go_arith
      go_wp2
      go_roundw
      case rel => exact ⟨j + 1, by omega, by go_num, by go_num, hnx⟩
      case measure => simp [intOf]; omega
    · obtain rfl : j = n := by omega
      go_wp2
      go_ret
      exact ⟨rfl, hW.out⟩
set_option maxHeartbeats 1000000 in
theorem heldInt64S_row (b off c n : Nat) (k : Int) (w : World) (h : Rd w b off (marks k n)) (hk0 : 0 ≤ k) (hk1 : k ≤ 2000000000000) (hn : n ≤ 1000000) :
    Calls Try.prog 68 #[.slice (some ⟨b, off, none⟩) n c, .int .i64 k] w fun e w' => e = .returned (.int .i64 (k + (n : Int))) ∧ w = w' := by
  have H := Lib.hid h; clear h
  go_enter Try.func68, Try.ntmps68
  go_wp2
  go_loop [1, 5] (fun q i => ∃ j : Nat, j ≤ n ∧ q = .int .i64 (k + (j : Int)) ∧ i = .int .i64 j) (fun _ i => n - (intOf i).toNat)
  case atStart => exact ⟨0, Nat.zero_le _, by simp, rfl⟩
  case round =>
    obtain ⟨j, hj, rfl, rfl⟩ := hrel
    by_cases hlt : j < n
    · have hx := H.out j _ (marks_get hlt)
      have hw2 : IntKind.i64.wrap (k + (j : Int) + 1) = k + ((j + 1 : Nat) : Int) := by go_arith
      have hw1 : IntKind.i64.wrap (k + (j : Int)) = k + (j : Int) := by go_arith
      go_wp2
      go_round
      case rel => exact ⟨j + 1, by omega, by go_num, by go_num⟩
      case measure => simp [intOf]; omega
    · obtain rfl : j = n := by omega
      go_wp2
      go_ret
      exact ⟨rfl, rfl⟩
theorem RedV.rows {w : World} {base : Nat} {v : Value} {L : List (List Int)} (h : RedV w base v L) : (L = [] ∧ ∃ a c, v = .slice a 0 c) ∨ ∃ g cap, v = .slice (some ⟨g, 0, none⟩) L.length cap ∧ ∀ (k : Nat) (r : List Int), L[k]? = some r → ∃ b c, w.cell? ⟨g, k, none⟩ = some (.slice (some ⟨b, 0, none⟩) r.length c) ∧ Rd w b 0 r := by
  rcases h with h | ⟨g, cap, n, vs, bs, cs, hn, rfl, hc, ho⟩
  · exact .inl h
  · refine .inr ⟨g, cap, rfl, fun k r hk => ?_⟩
    obtain ⟨e1, e2, _, _, _, e3, _⟩ := ho.get hk hn
    exact ⟨bs k, cs k, by rw [e3]; exact e1, e2⟩
set_option maxHeartbeats 2000000 in
theorem eqInt64SS_red (va vb : Value) (L : List (List Int)) (ba bb : Nat) (w : World) (ha : RedV w ba va L) (hb : OwnSS w bb vb L) (hl : L.length ≤ 1000) (hr : ∀ r ∈ L, 0 < r.length ∧ r.length ≤ 1000) :
    Calls Try.prog 17 #[va, vb] w fun e w' => e = .returned (.bool true) ∧ Below w.heap.size w w' := by
  have hv := ha.rows
  rcases hv with ⟨rfl, a, c, rfl⟩ | ⟨g, cap, rfl, hg⟩
  · obtain ⟨a2, c2, rfl⟩ := hb.shape
    clear ha hb
    go_enter Try.func17, Try.ntmps17
    go_wp2
    go_rounds 1
    go_ret
    exact ⟨rfl, by (repeat' (first | (with_reducible exact Below.refl _ _) | (with_reducible assumption) | (with_reducible refine Below.alloc ?_ ?_ _) | (with_reducible refine Below.drew ?_) | (with_reducible refine below_drewN ?_ _) | (with_reducible refine Below.setCell ?_ ?_ _) | (refine Below.step ?_ (by with_reducible assumption) ?_) | go_size))⟩
  · obtain ⟨a2, c2, rfl⟩ := hb.shape
    have HG := Lib.hid hg
    have HB := Lib.hid hb
    have HR := Lib.hid hr
    clear ha hb hg hr
    go_enter Try.func17, Try.ntmps17
    go_wp2
    go_loopw [5] (fun i wr => ∃ k : Nat, k ≤ L.length ∧ i = .int .i64 k ∧ Below w.heap.size w wr) (fun i _ => L.length - (intOf i).toNat)
    case atStart => exact ⟨0, Nat.zero_le _, rfl, Below.refl _ _⟩
    obtain ⟨k, hk, rfl, hC⟩ := hrel
    by_cases hlt : k < L.length
    · obtain ⟨r, hr⟩ : ∃ r, L[k]? = some r := ⟨_, List.getElem?_eq_getElem hlt⟩
      obtain ⟨b1, c1, e1, e2⟩ := HG.out k r hr
      have hrr := HR.out r (List.mem_of_getElem? hr)
      obtain ⟨g2, cap2, b2, c2', hv, e3, _, hg2, _, hb2, e4⟩ := (OwnSS.below HB.out hC).row hr (by intro e; rw [e] at hrr; simp at hrr)
      injection hv with hv _ hv3
      subst hv hv3
      have hbl1 : ∀ i, i < r.length → b1 < w.heap.size := fun i hi => World.block_lt_of_cell? w _ (e2.vat hi)
      have e1' := keepC hC e1
      have e2' : Rd wr b1 0 r := e2.below hC (hbl1 0 hrr.1)
      have hct := Lib.hid (eqInt64S_same b1 b2 c1 c2' r r.length wr.drew e2' e4 rfl (by omega))
      clear e1 e2 e4 e2' hr hbl1
      go_wp2
      refine wp_region_still_tail 8 (by kernel_rfl) (by kernel_rfl) ?_
      simp only [List.take_succ_cons, List.take_zero, List.drop_succ_cons, List.drop_zero]
      repeat still_step
      try refine wpStill_nil ?_
      change wpList _ _ _ _ _ wr.drew
      go_wp2_with (go_at_call 65; refine hct.out.mono ?_; rintro e w1 ⟨rfl, hb1⟩)
      go_roundw
      case rel => exact ⟨k + 1, by omega, by go_num, keepB hb1 hC.drew (Nat.le_refl _)⟩
      case measure => simp [intOf]; omega
    · go_wp2
      go_ret
      exact ⟨rfl, hC⟩
/-- The rows while they are marked: the first i hold numbers one after the other. -/
structure MarkTo (k : Int) (n i : Nat) (L M : List (List Int)) : Prop where
  len : M.length = L.length
  new : ∀ l, l < i → l < L.length → M[l]? = some (marks (k + ((l * n : Nat) : Int)) n)
  old : ∀ l, i ≤ l → M[l]? = L[l]?
theorem MarkTo.start (k : Int) (n : Nat) (L : List (List Int)) : MarkTo k n 0 L L := ⟨rfl, fun l h => absurd h (Nat.not_lt_zero l), fun _ _ => rfl⟩
theorem MarkTo.next {k : Int} {n i : Nat} {L M : List (List Int)} (h : MarkTo k n i L M) (hi : i < L.length) : MarkTo k n (i + 1) L (M.set i (marks (k + ((i * n : Nat) : Int)) n)) := by
  refine ⟨by rw [List.length_set]; exact h.len, fun l hl hL => ?_, fun l hl => ?_⟩
  · rw [List.getElem?_set]
    by_cases e : i = l
    · subst e; rw [if_pos rfl, if_pos (by rw [h.len]; exact hi)]
    · rw [if_neg e]; exact h.new l (by omega) hL
  · rw [List.getElem?_set, if_neg (by omega)]; exact h.old l (by omega)
set_option maxHeartbeats 2000000 in
theorem markInt64SS_out (g cap n base : Nat) (vs : List Value) (bs cs : Nat → Nat) (L : List (List Int)) (k : Int) (w : World) (h : OutB w base g n vs bs cs L) (hn0 : 0 < n) (hk0 : 0 ≤ k) (hk1 : k ≤ 1000000) (hn : n ≤ 1000) (hl : L.length ≤ 1000) :
    Calls Try.prog 19 #[.slice (some ⟨g, 0, none⟩) L.length cap, .int .i64 k] w fun e w' => e = .returned (.int .i64 (k + ((L.length * n : Nat) : Int))) ∧ (∃ M, MarkTo k n L.length L M ∧ OutB w' base g n vs bs cs M) ∧ ∀ B a, B ≤ base → Below B a w → Below B a w' := by
  have H := Lib.hid h; clear h
  go_enter Try.func19, Try.ntmps19
  go_wp2
  go_loopw [1, 5] (fun q i wr => ∃ (j : Nat) (M : List (List Int)), j ≤ L.length ∧ q = .int .i64 (k + ((j * n : Nat) : Int)) ∧ i = .int .i64 j ∧ Hid (MarkTo k n j L M) ∧ Hid (OutB wr base g n vs bs cs M) ∧ Hid (∀ B a, B ≤ base → Below B a w → Below B a wr)) (fun _ i _ => L.length - (intOf i).toNat)
  case atStart => exact ⟨0, L, Nat.zero_le _, by simp, rfl, MarkTo.start k n L, H, fun _ _ _ h => h⟩
  obtain ⟨j, M, hj, rfl, rfl, hM, hO, hK⟩ := hrel
  by_cases hlt : j < L.length
  · obtain ⟨r, hr⟩ : ∃ r, M[j]? = some r := ⟨_, List.getElem?_eq_getElem (by rw [hM.out.len]; exact hlt)⟩
    obtain ⟨e1, e2, e3, e4, e5, e6, _⟩ := hO.out.get hr hn0
    have hjn : j * n ≤ 1000 * 1000 := Nat.mul_le_mul (by omega) hn
    have hm := markInt64S_row (bs j) 0 (cs j) n (k + ((j * n : Nat) : Int)) wr (fun i hi => ⟨⟨_, e2.vat (show i < r.length by omega)⟩, by rw [Nat.zero_add]; exact e3 i⟩) (by omega) (by omega) (by omega)
    have hO2 := Lib.hid (hO.out.setRow (marks (k + ((j * n : Nat) : Int)) n) hr (marks_len _ _))
    have hK2 : Hid (∀ B a, B ≤ base → Below B a w → Below B a (setRow wr (bs j) 0 (marks (k + ((j * n : Nat) : Int)) n))) := fun B a hB h => setRow_below _ (Nat.le_trans hB e4) _ _ (hK.out B a hB h)
    have hM2 := Lib.hid (hM.out.next hlt)
    have hjj : k + ((j * n : Nat) : Int) + (n : Int) = k + (((j + 1) * n : Nat) : Int) := by rw [Nat.succ_mul]; omega
    rw [hjj] at hm
    have HM := Lib.hid hm
    clear e2 e3 hm hr hM hO hK hjj
    go_wp2_with (go_at_call 67; refine HM.out.mono ?_; rintro e w1 ⟨rfl, rfl⟩)
    go_roundw
    case rel => exact ⟨j + 1, _, by omega, rfl, by go_num, hM2, hO2, hK2⟩
    case measure => simp [intOf]; omega
  · obtain rfl : j = L.length := by omega
    go_wp2
    go_ret
    exact ⟨rfl, ⟨M, hM.out, hO.out⟩, hK.out⟩
set_option maxHeartbeats 2000000 in
theorem heldInt64SS_out (g cap n base : Nat) (vs : List Value) (bs cs : Nat → Nat) (L M : List (List Int)) (k : Int) (w : World) (h : OutB w base g n vs bs cs M) (hM : MarkTo k n L.length L M) (hn0 : 0 < n) (hk0 : 0 ≤ k) (hk1 : k ≤ 1000000) (hn : n ≤ 1000) (hl : L.length ≤ 1000) :
    Calls Try.prog 20 #[.slice (some ⟨g, 0, none⟩) L.length cap, .int .i64 k] w fun e w' => e = .returned (.int .i64 (k + ((L.length * n : Nat) : Int))) ∧ w = w' := by
  have H := Lib.hid h; clear h
  have HM := Lib.hid hM; clear hM
  go_enter Try.func20, Try.ntmps20
  go_wp2
  go_loop [1, 5] (fun q i => ∃ j : Nat, j ≤ L.length ∧ q = .int .i64 (k + ((j * n : Nat) : Int)) ∧ i = .int .i64 j) (fun _ i => L.length - (intOf i).toNat)
  case atStart => exact ⟨0, Nat.zero_le _, by simp, rfl⟩
  obtain ⟨j, hj, rfl, rfl⟩ := hrel
  by_cases hlt : j < L.length
  · obtain ⟨e1, e2, _⟩ := H.out.get (HM.out.new j hlt hlt) hn0
    have hjn : j * n ≤ 1000 * 1000 := Nat.mul_le_mul (by omega) hn
    have hm := heldInt64S_row (bs j) 0 (cs j) n (k + ((j * n : Nat) : Int)) w e2 (by omega) (by omega) (by omega)
    have hjj : k + ((j * n : Nat) : Int) + (n : Int) = k + (((j + 1) * n : Nat) : Int) := by rw [Nat.succ_mul]; omega
    rw [hjj] at hm
    have hnn : ¬ (k + (((j + 1) * n : Nat) : Int)) < 0 := by omega
    have HC := Lib.hid hm
    clear e2 hm hjj
    generalize hq : k + (((j + 1) * n : Nat) : Int) = q at *
    go_wp2_with (go_at_call 68; refine HC.out.mono ?_; rintro e w1 ⟨rfl, rfl⟩)
    go_round
    case rel => exact ⟨j + 1, by omega, by rw [hq], by go_num⟩
    case measure => simp [intOf]; omega
  · obtain rfl : j = L.length := by omega
    go_wp2
    go_ret
    exact ⟨rfl, rfl⟩
/-- What marks in blocks from lo to hi leave. -/
def Marked (lo hi : Nat) (w w' : World) : Prop := (∀ B a, B ≤ lo → Below B a w → Below B a w') ∧ ∀ k, hi ≤ k → w'.heap[k]? = w.heap[k]?
theorem Marked.setRow {lo hi b : Nat} {w w' : World} (h : Marked lo hi w w') (h1 : lo ≤ b) (h2 : b < hi) (xs : List Int) (off : Nat) : Marked lo hi w (setRow w' b off xs) :=
  ⟨fun B a hB hb => setRow_below _ (Nat.le_trans hB h1) _ _ (h.1 B a hB hb), fun k hk => (setRow_heap b xs w' off k (by omega)).trans (h.2 k hk)⟩
theorem OwnI.marked {lo hi base : Nat} {w w' : World} {u : Value} {r : List Int} (h : OwnI w base u r) (hm : Marked lo hi w w') (hb : hi ≤ base) : OwnI w' base u r := by
  obtain ⟨h1, h2⟩ := h
  refine ⟨h1, ?_⟩
  rcases h2 with h2 | ⟨g, cap, cur, hv, hg, hh, rest⟩
  · exact .inl h2
  · exact .inr ⟨g, cap, cur, hv, hg, by rw [hm.2 g (by omega)]; exact hh, rest⟩
theorem RedV.marked {lo hi base : Nat} {w w' : World} {v : Value} {L : List (List Int)} (h : RedV w base v L) (hm : Marked lo hi w w') (hb : hi ≤ base) : RedV w' base v L := by
  rcases h with h | ⟨g, cap, n, vs, bs, cs, hn, hv, hc, ho⟩
  · exact .inl h
  · refine .inr ⟨g, cap, n, vs, bs, cs, hn, hv, hc, ho.hg, ?_, ho.len, ho.hd, fun k r hk => ⟨(ho.row k r hk).1.marked hm hb, (ho.row k r hk).2⟩, ho.inj⟩
    have := ho.box
    unfold BoxV at *
    rw [hm.2 g (by have := ho.hg; omega)]; exact this
theorem RedV.below {base : Nat} {w w' : World} {v : Value} {L : List (List Int)} (h : RedV w base v L) (hb : Below w.heap.size w w') : RedV w' base v L := by
  rcases h with h | ⟨g, cap, n, vs, bs, cs, hn, hv, hc, ho⟩
  · exact .inl h
  · exact .inr ⟨g, cap, n, vs, bs, cs, hn, hv, hc, ho.below hb⟩
set_option maxHeartbeats 2000000 in
theorem markInt64SS_cp (v : Value) (rows : List (List Int)) (base : Nat) (w0 w : World) (h : MadeSS false w0 base v rows) (hb : Below w0.heap.size w0 w) (hl : rows.length ≤ 1000000) (hr : ∀ r ∈ rows, r.length ≤ 1000000) :
    Calls Try.prog 19 #[v, .int .i64 101] w fun e w' => ∃ t : Int, 0 ≤ t ∧ e = .returned (.int .i64 t) ∧ Marked base w0.heap.size w w' := by
  obtain ⟨g, vs, rfl, hg, hbox, hvl, h1, _⟩ := h
  have hrd : ∀ (k : Nat) (row : List Int), rows[k]? = some row → ∃ b c, w.cell? ⟨g, k, none⟩ = some (.slice (some ⟨b, 0, none⟩) row.length c) ∧ base ≤ b ∧ b ≠ g ∧ b < w0.heap.size ∧ ∀ i, i < row.length → IntAt w b i := fun k row hk => by
    obtain ⟨u, e1, e2⟩ := h1 k row hk
    obtain ⟨b, rfl, f1, f2, f3, f4⟩ := e2.copy
    refine ⟨b, _, keepC hb (hbox.cell k e1), by omega, by omega, f2, fun i hi => IntAt.below (w := w0) ⟨⟨row[i]'hi, ?_⟩, f4 i⟩ hb⟩
    have := f3 i (row[i]'hi) (by rw [List.getElem?_append_left hi]; exact List.getElem?_eq_getElem hi)
    simpa using this
  have HRD := Lib.hid hrd
  have HR := Lib.hid hr
  clear h1 hrd hr hbox hvl hb
  generalize room rows.length = rm at *
  go_enter Try.func19, Try.ntmps19
  go_wp2
  go_loopw [1, 5] (fun q i wr => ∃ (j : Nat) (t : Int), j ≤ rows.length ∧ q = .int .i64 t ∧ i = .int .i64 j ∧ 0 ≤ t ∧ t ≤ 101 + (j : Int) * 1000000 ∧ Hid (∀ b o u, (∀ c, b ≠ c ∨ True) → b = g → w.cell? ⟨b, o, none⟩ = some u → wr.cell? ⟨b, o, none⟩ = some u) ∧ Hid (∀ b o, IntAt w b o → IntAt wr b o) ∧ Hid (Marked base w0.heap.size w wr)) (fun _ i _ => rows.length - (intOf i).toNat)
  case atStart => exact ⟨0, 101, Nat.zero_le _, rfl, rfl, by omega, by omega, fun _ _ _ _ _ h => h, fun _ _ h => h, ⟨fun _ _ _ h => h, fun _ _ => rfl⟩⟩
  obtain ⟨j, t, hj, rfl, rfl, ht0, ht1, hC, hI, hK⟩ := hrel
  by_cases hlt : j < rows.length
  · obtain ⟨r, hr⟩ : ∃ r, rows[j]? = some r := ⟨_, List.getElem?_eq_getElem hlt⟩
    obtain ⟨b, c, e1, e2, e3, e4, e5⟩ := HRD.out j r hr
    have hrl := HR.out r (List.mem_of_getElem? hr)
    have e1' := hC.out g j _ (fun _ => .inr trivial) rfl e1
    have hm := Lib.hid (markInt64S_row b 0 c r.length t wr (fun i hi => by rw [Nat.zero_add]; exact hI.out _ _ (e5 i hi)) ht0 (by omega) hrl)
    have hC2 : Hid (∀ b' o u, (∀ c, b' ≠ c ∨ True) → b' = g → w.cell? ⟨b', o, none⟩ = some u → (setRow wr b 0 (marks t r.length)).cell? ⟨b', o, none⟩ = some u) := fun b' o u ha hb' hu => (by rw [setRow_cell _ _ _ _ _ _ (.inl (by rw [hb']; exact Ne.symm e3))]; exact hC.out b' o u ha hb' hu)
    have hI2 : Hid (∀ b' o, IntAt w b' o → IntAt (setRow wr b 0 (marks t r.length)) b' o) := fun b' o h => IntAt.setRow _ _ (hI.out b' o h)
    have hK2 := Lib.hid (hK.out.setRow e2 e4 (marks t r.length) 0)
    clear e1 e5 hr hC hI hK
    generalize r.length = n at *
    have ht2 : 0 ≤ t + (n : Int) := by omega
    have ht3 : t + (n : Int) ≤ 101 + ((j + 1 : Nat) : Int) * 1000000 := by omega
    go_wp2_with (go_at_call 67; refine hm.out.mono ?_; rintro e w1 ⟨rfl, rfl⟩)
    go_roundw
    case rel => exact ⟨j + 1, _, by omega, rfl, by go_num, ht2, ht3, hC2, hI2, hK2⟩
    case measure => simp [intOf]; omega
  · go_wp2
    go_ret
    exact ⟨_, ht0, rfl, hK.out⟩
theorem rrL_bd (p n : Int) (rows : List (List Int)) : (rrL p n rows).length ≤ 1000 ∧ ∀ r ∈ rrL p n rows, 0 < r.length ∧ r.length ≤ 1000 := by
  cases h : rrB p n rows
  · rw [(rr_no h).1]; simp
  · rw [(rr_yes h).1]
    unfold rrB at h
    simp only [Bool.and_eq_true] at h
    obtain ⟨hp, hi, hr, hl⟩ := h
    have hl' := of_decide_eq_true hl
    unfold inB at hi
    rw [Bool.and_eq_true] at hi
    have h1 := of_decide_eq_true hi.1
    have h2 := of_decide_eq_true hi.2
    obtain ⟨m, rfl⟩ : ∃ m : Nat, n = m := ⟨n.toNat, by omega⟩
    have hL := ech_len (p := p) rows rows.length
    have hD := ech_led hp (rowsB_ok hr) rows.length
    rw [List.take_of_length_le (Nat.le_refl _)] at hL hD
    refine ⟨by omega, fun r hr => ?_⟩
    obtain ⟨⟨h3, _⟩, q, _, h4⟩ := hD r hr
    omega
theorem markInt64SS_nil (a : Option Addr) (c : Nat) (w : World) : Calls Try.prog 19 #[.slice a 0 c, .int .i64 101] w fun e w' => e = .returned (.int .i64 101) ∧ w = w' := by
  go_enter Try.func19, Try.ntmps19
  go_wp2
  go_rounds 1
  go_ret
  exact ⟨rfl, rfl⟩
theorem heldInt64SS_nil (a : Option Addr) (c : Nat) (w : World) : Calls Try.prog 20 #[.slice a 0 c, .int .i64 101] w fun e w' => e = .returned (.int .i64 101) ∧ w = w' := by
  go_enter Try.func20, Try.ntmps20
  go_wp2
  go_rounds 1
  go_ret
  exact ⟨rfl, rfl⟩
/-- An answer whose numbers are marked: looking at it again gives t. -/
def HeldV (w : World) (base : Nat) (v : Value) (t : Int) : Prop :=
  (t = 101 ∧ ∃ a c, v = .slice a 0 c) ∨ ∃ g cap n vs bs cs L M, v = .slice (some ⟨g, 0, none⟩) (L : List (List Int)).length cap ∧ 0 < n ∧ n ≤ 1000 ∧ L.length ≤ 1000 ∧ OutB w base g n vs bs cs M ∧ MarkTo 101 n L.length L M ∧ t = 101 + ((L.length * n : Nat) : Int)
theorem HeldV.below {w w' : World} {base : Nat} {v : Value} {t : Int} (h : HeldV w base v t) (hb : Below w.heap.size w w') : HeldV w' base v t := by
  rcases h with h | ⟨g, cap, n, vs, bs, cs, L, M, h1, h2, h3, h4, h5, h6⟩
  · exact .inl h
  · exact .inr ⟨g, cap, n, vs, bs, cs, L, M, h1, h2, h3, h4, h5.below hb, h6⟩
theorem markRed (v : Value) (L : List (List Int)) (base : Nat) (w : World) (h : RedV w base v L) (hl : L.length ≤ 1000) (hr : ∀ r ∈ L, 0 < r.length ∧ r.length ≤ 1000) :
    Calls Try.prog 19 #[v, .int .i64 101] w fun e w' => ∃ t : Int, 0 ≤ t ∧ e = .returned (.int .i64 t) ∧ HeldV w' base v t ∧ ∀ B a, B ≤ base → Below B a w → Below B a w' := by
  have hnil : ∀ a c, v = .slice a 0 c → Calls Try.prog 19 #[v, .int .i64 101] w fun e w' => ∃ t : Int, 0 ≤ t ∧ e = .returned (.int .i64 t) ∧ HeldV w' base v t ∧ ∀ B a, B ≤ base → Below B a w → Below B a w' := fun a c hv => by
    subst hv
    exact (markInt64SS_nil a c w).mono fun e w' ⟨he, hw⟩ => ⟨101, by omega, he, .inl ⟨rfl, _, _, rfl⟩, fun B a _ h => hw ▸ h⟩
  rcases h with ⟨rfl, a, c, hv⟩ | ⟨g, cap, n, vs, bs, cs, hn, hv, hc, ho⟩
  · exact hnil a c hv
  · cases L with
    | nil => exact hnil _ _ hv
    | cons r0 L =>
      have hn1 : n ≤ 1000 := by
        have h1 := (ho.row 0 r0 rfl).2
        have h2 := hr r0 (by simp)
        omega
      subst hv
      exact (markInt64SS_out g cap n base vs bs cs (r0 :: L) 101 w ho hn (by omega) (by omega) hn1 hl).mono fun e w' ⟨he, ⟨M, hM, hO⟩, hK⟩ => ⟨_, by omega, he, .inr ⟨g, cap, n, vs, bs, cs, r0 :: L, M, rfl, hn, hn1, hl, hO, hM, rfl⟩, hK⟩
theorem heldRed (v : Value) (t : Int) (base : Nat) (w : World) (h : HeldV w base v t) :
    Calls Try.prog 20 #[v, .int .i64 101] w fun e w' => e = .returned (.int .i64 t) ∧ w = w' := by
  rcases h with ⟨rfl, a, c, rfl⟩ | ⟨g, cap, n, vs, bs, cs, L, M, rfl, h2, h3, h4, h5, h6, rfl⟩
  · exact heldInt64SS_nil a c w
  · exact heldInt64SS_out g cap n base vs bs cs L M 101 w h5 h6 h2 (by omega) (by omega) h3 h4
theorem MadeSS.rowsP {w : World} {base : Nat} {v : Value} {rows : List (List Int)} (h : MadeSS false w base v rows) : ∃ g cap, v = .slice (some ⟨g, 0, none⟩) rows.length cap ∧ g < w.heap.size ∧ RowsP w g 0 rows := by
  obtain ⟨g, vs, rfl, hg, hbox, hvl, h1, _⟩ := h
  refine ⟨g, _, rfl, hbox.lt, fun k row hk => ?_⟩
  obtain ⟨u, e1, e2⟩ := h1 k row hk
  obtain ⟨b, rfl, f1, f2, f3, f4⟩ := e2.copy
  exact ⟨b, 0, _, by rw [Nat.zero_add]; exact hbox.cell k e1, f2, fun i x hx => f3 i x (by rw [List.getElem?_append_left (List.getElem?_eq_some_iff.1 hx).1]; exact hx)⟩
end Go.Proofs.Ytjfabhkgmelmgaa
