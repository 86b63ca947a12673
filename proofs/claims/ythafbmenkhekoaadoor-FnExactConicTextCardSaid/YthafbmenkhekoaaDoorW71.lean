/- Points as texts, in the reference and in the program; PointText. -/
import Derived.Test.YthafbmenkhekoaaDoorW70
import Derived.Test.YthafbmenkhekoaaDoorW7
import Derived.Test.YthafbmenkhekoaaDoorW4
import Derived.StillTailTactics
import Derived.Deep.RegionWith
import Derived.Deep.DeepCutAuto
namespace Go.Proofs.YthafbmenkhekoaaDoor
open Go.RowKit
set_option linter.unusedSimpArgs false
set_option linter.unusedVariables false
set_option maxRecDepth 100000

theorem OwnT.made0 {w : World} {b base : Nat} (hb : b = w.heap.size) (hl : base ≤ w.heap.size) : OwnT (w.alloc (.cells #[] 9)) base (.slice (some ⟨b, 0, none⟩) 0 0) [] := by
  subst hb; exact OwnT.made w #[] 0 base hl (by unfold maxLen; omega) rfl
theorem l01Dec_any (n : Int) (w : World) (h : sm n) :
    Calls Tryd.prog 28 #[.int .i64 n] w fun e w' => e = .returned (.string (str (dec n))) ∧ Below w.heap.size w w' := by
  obtain ⟨h0, h1⟩ := h
  rcases Int.lt_or_le 9 n with h' | h'
  · obtain rfl | rfl | rfl : n = 10 ∨ n = 11 ∨ n = 12 := by omega
    · exact l01Dec_10 w
    · exact l01Dec_11 w
    · exact l01Dec_12 w
  · exact l01Dec_lo n w h0 h'
set_option maxHeartbeats 1000000 in
theorem l01Text_any (b off cap : Nat) (zs : List Int) (w : World) (hR : Rd w b off zs) (hbl : b < w.heap.size) (hs : ∀ z ∈ zs, sm z) (hm : zs.length ≤ 100) :
    Calls Tryd.prog 16 #[.slice (some ⟨b, off, none⟩) zs.length cap] w fun e w' => e = .returned (.string (str (txt zs))) ∧ Below w.heap.size w w' := by
  have HS := Lib.hid hs; clear hs
  go_enter Tryd.func16, Tryd.ntmps16
  go_wp2
  go_loopw [3, 4] (fun t i wr => ∃ (k : Nat) (s : ByteArray), k ≤ zs.length ∧ i = .int .i64 k ∧ t = .string s ∧ Hid (s = str (txt (zs.take k))) ∧ s.size ≤ 3 * k ∧ Below w.heap.size w wr) (fun _ i _ => zs.length - (intOf i).toNat)
  case atStart => exact ⟨0, ⟨#[]⟩, Nat.zero_le _, rfl, rfl, rfl, Nat.le_refl _, Below.refl _ _⟩
  case round =>
    obtain ⟨k, s, hk, rfl, rfl, hs, hsz, hB⟩ := hrel
    have hBz := hB.size
    by_cases hlt : k < zs.length
    · obtain ⟨x, hcell0, hx⟩ := hR.get hlt
      have hcell : wr.cell? ⟨b, off + k, none⟩ = some (.int .i64 x) := by rw [hB.cell (p := ⟨b, _, none⟩) hbl]; exact hcell0
      have hsx : sm x := HS.out x (List.mem_of_getElem? hx.out)
      have hD := fun w' => l01Dec_any x w' hsx
      have hdl := dec_len (n := x) (by have := hsx.2; omega)
      have hT := txt_take hx.out
      have hi0 : (0 : Int) ≤ (k : Int) := by omega
      have hi1 : (k : Int) < (zs.length : Int) := by omega
      obtain ⟨d, hd⟩ : ∃ d, str (dec x) = d := ⟨_, rfl⟩
      have hdz : d.size ≤ 2 := by rw [← hd, str_size]; exact hdl
      rw [hd] at hD
      have HD := Lib.hid hD; clear hD
      by_cases h0 : k = 0
      · subst h0
        simp only [Nat.add_zero] at hcell
        have hn : Hid (s ++ d = str (txt (zs.take (0 + 1)))) := by
          show _ = _; rw [hT, if_pos rfl, hs.out, ← hd]
          exact str_append [] (dec x)
        obtain ⟨s3, h3⟩ : ∃ s3, s ++ d = s3 := ⟨_, rfl⟩
        have hz3 : s3.size ≤ 3 := by rw [← h3, ByteArray.size_append]; omega
        rw [h3] at hn
        clear hR hcell0 hT hdl hs hd
        go_wp2_with (go_at_call 28; refine (HD.out _).mono ?_; rintro e w1 ⟨rfl, hb1⟩)
        go_roundw
        case rel => exact ⟨1, s3, by omega, by go_num, rfl, hn.out, by omega, by (repeat' (first | (with_reducible exact Below.refl _ _) | (with_reducible assumption) | (with_reducible refine Below.alloc ?_ ?_ _) | (with_reducible refine Below.drew ?_) | (with_reducible refine below_drewN ?_ _) | (with_reducible refine Below.setCell ?_ ?_ _) | (refine Below.step ?_ (by with_reducible assumption) ?_) | go_size))⟩
        case measure => simp [intOf]; omega
      · obtain ⟨s2, h2⟩ : ∃ s2, s ++ (⟨#[58]⟩ : ByteArray) = s2 := ⟨_, rfl⟩
        have hz2 : s2.size ≤ 3 * k + 1 := by rw [← h2, ByteArray.size_append]; have : (⟨#[58]⟩ : ByteArray).size = 1 := rfl; omega
        have hn : Hid (s2 ++ d = str (txt (zs.take (k + 1)))) := by
          show _ = _; rw [hT, if_neg h0, ← h2, hs.out, ← hd]
          rw [show (⟨#[58]⟩ : ByteArray) = str [58] from rfl, str_append, str_append]
        obtain ⟨s3, h3⟩ : ∃ s3, s2 ++ d = s3 := ⟨_, rfl⟩
        have hz3 : s3.size ≤ 3 * (k + 1) := by rw [← h3, ByteArray.size_append]; omega
        rw [h3] at hn
        have hkp : (0 : Int) < (k : Int) := by omega
        clear hR hcell0 hT hdl hs hd
        go_wp2_with (go_at_call 28; refine (HD.out _).mono ?_; rintro e w1 ⟨rfl, hb1⟩)
        go_roundw
        case rel => exact ⟨k + 1, s3, by omega, by go_num, rfl, hn.out, hz3, by (repeat' (first | (with_reducible exact Below.refl _ _) | (with_reducible assumption) | (with_reducible refine Below.alloc ?_ ?_ _) | (with_reducible refine Below.drew ?_) | (with_reducible refine below_drewN ?_ _) | (with_reducible refine Below.setCell ?_ ?_ _) | (refine Below.step ?_ (by with_reducible assumption) ?_) | go_size))⟩
        case measure => simp [intOf]; omega
    · have hn : Hid (s = str (txt zs)) := by show _ = _; have := hs.out; rwa [List.take_of_length_le (by omega)] at this
      clear hs hR
      go_wp2
      go_ret
      exact ⟨by rw [← hn.out]; rfl, hB⟩
set_option maxHeartbeats 400000 in
theorem l01List_any (a0 a1 a2 : Int) (w : World) :
    Calls Tryd.prog 17 #[.agg #[.int .i64 a0, .int .i64 a1, .int .i64 a2]] w fun e w' => ∃ g, e = .returned (.slice (some ⟨g, 0, none⟩) 3 3) ∧ Rd w' g 0 [a0, a1, a2] ∧ g < w'.heap.size ∧ Below w.heap.size w w' := by
  go_enter Tryd.func17, Tryd.ntmps17
  go_wp2
  go_ret
  exact ⟨_, rfl, rd3 (by go_cell) (by go_cell) (by go_cell), by go_size, by (repeat' (first | (with_reducible exact Below.refl _ _) | (with_reducible assumption) | (with_reducible refine Below.alloc ?_ ?_ _) | (with_reducible refine Below.drew ?_) | (with_reducible refine below_drewN ?_ _) | (with_reducible refine Below.setCell ?_ ?_ _) | (refine Below.step ?_ (by with_reducible assumption) ?_) | go_size))⟩
theorem wp_name3 {P : Program} {c : Code} {Q : Exit → Act → World → Prop} {a : Act} {W0 : World} (S : World → Prop) (h0 : S W0) (h : ∀ w, S w → c.wp P Q a w) : c.wp P Q a W0 := h W0 h0
set_option maxHeartbeats 1000000 in
theorem pointText_any (a0 a1 a2 : Int) (w : World) (s0 : sm a0) (s1 : sm a1) (s2 : sm a2) :
    Calls Tryd.prog 19 #[.agg #[.int .i64 a0, .int .i64 a1, .int .i64 a2]] w fun e w' => e = .returned (.string (str (txt [a0, a1, a2]))) ∧ Below w.heap.size w w' := by
  have HJ : Hid (∀ (w' : World) (g c : Nat), (∀ (j : Nat) x, [str (dec a0), str (dec a1), str (dec a2)][j]? = some x → w'.cell? ⟨g, 0 + j, none⟩ = some (.string x)) → g < w'.heap.size → 3 ≤ c → Calls Tryd.prog 33 #[.slice (some ⟨g, 0, none⟩) 3 c, .string ⟨#[58]⟩] w' fun e w'' => e = .returned (.string (str (txt [a0, a1, a2]))) ∧ Below w'.heap.size w' w'') := fun w' g c h1 h2 h3 => by
    have hl : (Lib.join ([str (dec a0), str (dec a1), str (dec a2)].map (·.data.toList)) (⟨#[58]⟩ : ByteArray).data.toList) = txt [a0, a1, a2] := by simp [txt, str]
    have hlen := txt_len (zs := [a0, a1, a2]) (by intro z hz; simp at hz; rcases hz with rfl | rfl | rfl <;> (first | have := s0.2; omega | have := s1.2; omega | have := s2.2; omega))
    have := Tryd.strings_Join g 0 c [str (dec a0), str (dec a1), str (dec a2)] ⟨#[58]⟩ w' h1 h2 (by simp) h3 (by rw [hl]; simp at hlen; omega)
    rw [hl] at this
    exact this
  have HF0 : Hid (∀ w', _) := fun w' => FormatInt_dec a0 w' s0.1 (by have := s0.2; omega)
  have HF1 : Hid (∀ w', _) := fun w' => FormatInt_dec a1 w' s1.1 (by have := s1.2; omega)
  have HF2 : Hid (∀ w', _) := fun w' => FormatInt_dec a2 w' s2.1 (by have := s2.2; omega)
  generalize str (txt [a0, a1, a2]) = t at *
  generalize str (dec a0) = d0 at *
  generalize str (dec a1) = d1 at *
  generalize str (dec a2) = d2 at *
  have hix0 : ∀ w, (Instr.index 22 (.agg #[.int .i64 a0, .int .i64 a1, .int .i64 a2]) (.int .i64 0)).run Tryd.prog w = .ok (.int .i64 a0) w := fun _ => by kernel_rfl
  have hix1 : ∀ w, (Instr.index 22 (.agg #[.int .i64 a0, .int .i64 a1, .int .i64 a2]) (.int .i64 1)).run Tryd.prog w = .ok (.int .i64 a1) w := fun _ => by kernel_rfl
  have hix2 : ∀ w, (Instr.index 22 (.agg #[.int .i64 a0, .int .i64 a1, .int .i64 a2]) (.int .i64 2)).run Tryd.prog w = .ok (.int .i64 a2) w := fun _ => by kernel_rfl
  go_enter Tryd.func19, Tryd.ntmps19
  go_upto_region 2 with fail
  refine wp_name3 (fun w' => OwnT w' (w.heap.size + 1) (.slice (some ⟨w.heap.size + 1, 0, none⟩) 0 0) [] ∧ w'.cell? ⟨w.heap.size, 0, none⟩ = some (.int .i64 a0) ∧ w'.cell? ⟨w.heap.size, 1, none⟩ = some (.int .i64 a1) ∧ w'.cell? ⟨w.heap.size, 2, none⟩ = some (.int .i64 a2) ∧ w.heap.size + 1 ≤ w'.heap.size ∧ Below w.heap.size w w') ⟨(by refine OwnT.made0 ?_ ?_ <;> simp), by go_cell, by go_cell, by go_cell, by go_size, by (repeat' (first | (with_reducible exact Below.refl _ _) | (with_reducible assumption) | (with_reducible refine Below.alloc ?_ ?_ _) | (with_reducible refine Below.drew ?_) | (with_reducible refine below_drewN ?_ _) | (with_reducible refine Below.setCell ?_ ?_ _) | (refine Below.step ?_ (by with_reducible assumption) ?_) | go_size))⟩ ?_
  rintro wq ⟨hown0, c0, c1, c2, hz0, hB0⟩
  go_wp2_with fail
  refine wp_loop_rounds 4 ?_
  rw [rounds_succ]
  go_wp2_with (first | (go_at_call 32; refine (HF0.out _).mono ?_; rintro e w' ⟨rfl, rfl⟩) | (at_builtin; refine append_str (w.heap.size + 1) _ _ hown0 rfl _ _ rfl rfl rfl (by simp) (by omega) ?_; intro v1 w1 hown1 hB1 hz1))
  rw [rounds_succ]
  go_wp2_with (first | (go_at_call 32; refine (HF1.out _).mono ?_; rintro e w' ⟨rfl, rfl⟩) | (at_builtin; refine append_str (w.heap.size + 1) _ _ hown1 rfl _ _ rfl rfl rfl (by simp) (by omega) ?_; intro v2 w2 hown2 hB2 hz2))
  rw [rounds_succ]
  go_wp2_with (first | (go_at_call 32; refine (HF2.out _).mono ?_; rintro e w' ⟨rfl, rfl⟩) | (at_builtin; refine append_str (w.heap.size + 1) _ _ hown2 rfl _ _ rfl rfl rfl (by simp) (by omega) ?_; intro v3 w3 hown3 hB3 hz3))
  have hC3 : Below w.heap.size w w3 := hB3 _ _ (hB2 _ _ (hB1 _ _ hB0 (by omega)) (by omega)) (by omega)
  obtain ⟨g, cap, rfl, hg, hcells, hcap⟩ := hown3.cells (by simp)
  have HC := Lib.hid hcells; clear hcells
  rw [rounds_succ]
  go_wp2_with (go_at_call 33; refine (HJ.out _ g cap HC.out hg hcap).mono ?_; rintro e w4 ⟨rfl, hb4⟩)
  go_ret
  exact ⟨rfl, by (repeat' (first | (with_reducible exact Below.refl _ _) | (with_reducible assumption) | (with_reducible refine Below.alloc ?_ ?_ _) | (with_reducible refine Below.drew ?_) | (with_reducible refine below_drewN ?_ _) | (with_reducible refine Below.setCell ?_ ?_ _) | (refine Below.step ?_ (by with_reducible assumption) ?_) | go_size))⟩
/-- What PointText returns. -/
def ptxR (p : Int) (a : P3) : ByteArray × Int := if codeOf p (allPt p [a]) = 0 then (str (txt a.l), 0) else (⟨#[]⟩, codeOf p (allPt p [a]))
set_option maxHeartbeats 1000000 in
theorem PointText_spec (p a0 a1 a2 : Int) (w : World) :
    Calls Tryd.prog 6 #[.int .i64 p, .agg #[.int .i64 a0, .int .i64 a1, .int .i64 a2]] w fun e w' => e = .returned (.tuple #[.string (ptxR p ⟨a0, a1, a2⟩).1, .int .i64 (ptxR p ⟨a0, a1, a2⟩).2]) ∧ Below w.heap.size w w' := by
  rcases code3 p (allPt p [⟨a0, a1, a2⟩]) with hk | hk | ⟨hp, hok, hk⟩
  · have hE : Hid (ptxR p ⟨a0, a1, a2⟩ = (⟨#[]⟩, 2)) := by show _ = _; unfold ptxR; rw [hk]; rfl
    go_enter Tryd.func6, Tryd.ntmps6
    go_wp2_with (go_at_call 15; refine (l01Code_any _ _ _ _ [⟨a0, a1, a2⟩] _ (rdp1 (by go_cell) (by go_cell) (by go_cell)) (by go_size) (by simp)).mono ?_; rintro e w1 ⟨rfl, hb1⟩; obtain ⟨hc1, hf1⟩ := bcell hb1; have hz1 := hb1.size; (try simp only [World.size_alloc, World.size_setCell, World.size_drew] at hz1); (try (have hy1w0 : w.heap.size < w1.heap.size := by omega)); (try (have hy1w1 : w.heap.size + 1 < w1.heap.size := by omega)); (try (have hy1w2 : w.heap.size + 1 + 1 < w1.heap.size := by omega)); (try (have hy1w3 : w.heap.size + 1 + 1 + 1 < w1.heap.size := by omega)); (try (have hy1w4 : w.heap.size + 1 + 1 + 1 + 1 < w1.heap.size := by omega)))
    go_returns
    exact ⟨by rw [hE.out]; try rfl, by (repeat' (first | (with_reducible exact Below.refl _ _) | (with_reducible assumption) | (with_reducible refine Below.alloc ?_ ?_ _) | (with_reducible refine Below.drew ?_) | (with_reducible refine below_drewN ?_ _) | (with_reducible refine Below.setCell ?_ ?_ _) | (refine Below.step ?_ (by with_reducible assumption) ?_) | go_size))⟩
  · have hE : Hid (ptxR p ⟨a0, a1, a2⟩ = (⟨#[]⟩, 1)) := by show _ = _; unfold ptxR; rw [hk]; rfl
    go_enter Tryd.func6, Tryd.ntmps6
    go_wp2_with (go_at_call 15; refine (l01Code_any _ _ _ _ [⟨a0, a1, a2⟩] _ (rdp1 (by go_cell) (by go_cell) (by go_cell)) (by go_size) (by simp)).mono ?_; rintro e w1 ⟨rfl, hb1⟩; obtain ⟨hc1, hf1⟩ := bcell hb1; have hz1 := hb1.size; (try simp only [World.size_alloc, World.size_setCell, World.size_drew] at hz1); (try (have hy1w0 : w.heap.size < w1.heap.size := by omega)); (try (have hy1w1 : w.heap.size + 1 < w1.heap.size := by omega)); (try (have hy1w2 : w.heap.size + 1 + 1 < w1.heap.size := by omega)); (try (have hy1w3 : w.heap.size + 1 + 1 + 1 < w1.heap.size := by omega)); (try (have hy1w4 : w.heap.size + 1 + 1 + 1 + 1 < w1.heap.size := by omega)))
    go_returns
    exact ⟨by rw [hE.out]; try rfl, by (repeat' (first | (with_reducible exact Below.refl _ _) | (with_reducible assumption) | (with_reducible refine Below.alloc ?_ ?_ _) | (with_reducible refine Below.drew ?_) | (with_reducible refine below_drewN ?_ _) | (with_reducible refine Below.setCell ?_ ?_ _) | (refine Below.step ?_ (by with_reducible assumption) ?_) | go_size))⟩
  · have hE : Hid (ptxR p ⟨a0, a1, a2⟩ = (str (txt [a0, a1, a2]), 0)) := by show _ = _; unfold ptxR; rw [hk]; rfl
    obtain ⟨s0, s1, s2⟩ := pts1 hok
    clear hok hp
    have hs : ∀ z ∈ [a0, a1, a2], sm z := by intro z hz; simp only [List.mem_cons, List.not_mem_nil, or_false] at hz; rcases hz with rfl | rfl | rfl <;> assumption
    go_enter Tryd.func6, Tryd.ntmps6
    go_wp2_with (first | (go_at_call 15; refine (l01Code_any _ _ _ _ [⟨a0, a1, a2⟩] _ (rdp1 (by go_cell) (by go_cell) (by go_cell)) (by go_size) (by simp)).mono ?_; rintro e w1 ⟨rfl, hb1⟩; obtain ⟨hc1, hf1⟩ := bcell hb1; have hz1 := hb1.size; (try simp only [World.size_alloc, World.size_setCell, World.size_drew] at hz1); (try (have hy1w0 : w.heap.size < w1.heap.size := by omega)); (try (have hy1w1 : w.heap.size + 1 < w1.heap.size := by omega)); (try (have hy1w2 : w.heap.size + 1 + 1 < w1.heap.size := by omega)); (try (have hy1w3 : w.heap.size + 1 + 1 + 1 < w1.heap.size := by omega)); (try (have hy1w4 : w.heap.size + 1 + 1 + 1 + 1 < w1.heap.size := by omega))) | (go_at_call 17; refine (l01List_any _ _ _ _).mono ?_; rintro e w2 ⟨g, rfl, hR, hg, hb2⟩; obtain ⟨hc2, hf2⟩ := bcell hb2; have hz2 := hb2.size; (try simp only [World.size_alloc, World.size_setCell, World.size_drew] at hz2); (try (have hy2w0 : w.heap.size < w2.heap.size := by omega)); (try (have hy2w1 : w.heap.size + 1 < w2.heap.size := by omega)); (try (have hy2w2 : w.heap.size + 1 + 1 < w2.heap.size := by omega)); (try (have hy2w3 : w.heap.size + 1 + 1 + 1 < w2.heap.size := by omega)); (try (have hy2w4 : w.heap.size + 1 + 1 + 1 + 1 < w2.heap.size := by omega)); (try (have hy2w10 : w1.heap.size < w2.heap.size := by omega)); (try (have hy2w11 : w1.heap.size + 1 < w2.heap.size := by omega)); (try (have hy2w12 : w1.heap.size + 1 + 1 < w2.heap.size := by omega)); (try (have hy2w13 : w1.heap.size + 1 + 1 + 1 < w2.heap.size := by omega)); (try (have hy2w14 : w1.heap.size + 1 + 1 + 1 + 1 < w2.heap.size := by omega))) | (go_at_call 16; refine (l01Text_any g 0 3 [a0, a1, a2] _ hR hg hs (by simp)).mono ?_; rintro e w3 ⟨rfl, hb3⟩; have hz3 := hb3.size))
    go_returns
    exact ⟨by rw [hE.out]; try rfl, by (repeat' (first | (with_reducible exact Below.refl _ _) | (with_reducible assumption) | (with_reducible refine Below.alloc ?_ ?_ _) | (with_reducible refine Below.drew ?_) | (with_reducible refine below_drewN ?_ _) | (with_reducible refine Below.setCell ?_ ?_ _) | (refine Below.step ?_ (by with_reducible assumption) ?_) | go_size))⟩
set_option maxHeartbeats 1000000 in
theorem PointText_any (p a0 a1 a2 : Int) (w : World) :
    Calls Tryd.prog 8 #[.int .i64 p, .agg #[.int .i64 a0, .int .i64 a1, .int .i64 a2]] w fun e w' => e = .returned (.tuple #[.string (ptxR p ⟨a0, a1, a2⟩).1, .int .i64 (ptxR p ⟨a0, a1, a2⟩).2]) ∧ Below w.heap.size w w' := by
  rcases code3 p (allPt p [⟨a0, a1, a2⟩]) with hk | hk | ⟨hp, hok, hk⟩
  · have hE : Hid (ptxR p ⟨a0, a1, a2⟩ = (⟨#[]⟩, 2)) := by show _ = _; unfold ptxR; rw [hk]; rfl
    go_enter Tryd.func8, Tryd.ntmps8
    go_wp2_with (go_at_call 18; refine (pointsCode_any _ _ _ [⟨a0, a1, a2⟩] _ (rdp1 (by go_cell) (by go_cell) (by go_cell)) (by go_size) (by simp)).mono ?_; rintro e w1 ⟨rfl, hb1⟩; obtain ⟨hc1, hf1⟩ := bcell hb1; have hz1 := hb1.size; (try simp only [World.size_alloc, World.size_setCell, World.size_drew] at hz1); (try (have hy1w0 : w.heap.size < w1.heap.size := by omega)); (try (have hy1w1 : w.heap.size + 1 < w1.heap.size := by omega)); (try (have hy1w2 : w.heap.size + 1 + 1 < w1.heap.size := by omega)); (try (have hy1w3 : w.heap.size + 1 + 1 + 1 < w1.heap.size := by omega)); (try (have hy1w4 : w.heap.size + 1 + 1 + 1 + 1 < w1.heap.size := by omega)))
    go_returns
    exact ⟨by rw [hE.out]; try rfl, by (repeat' (first | (with_reducible exact Below.refl _ _) | (with_reducible assumption) | (with_reducible refine Below.alloc ?_ ?_ _) | (with_reducible refine Below.drew ?_) | (with_reducible refine below_drewN ?_ _) | (with_reducible refine Below.setCell ?_ ?_ _) | (refine Below.step ?_ (by with_reducible assumption) ?_) | go_size))⟩
  · have hE : Hid (ptxR p ⟨a0, a1, a2⟩ = (⟨#[]⟩, 1)) := by show _ = _; unfold ptxR; rw [hk]; rfl
    go_enter Tryd.func8, Tryd.ntmps8
    go_wp2_with (go_at_call 18; refine (pointsCode_any _ _ _ [⟨a0, a1, a2⟩] _ (rdp1 (by go_cell) (by go_cell) (by go_cell)) (by go_size) (by simp)).mono ?_; rintro e w1 ⟨rfl, hb1⟩; obtain ⟨hc1, hf1⟩ := bcell hb1; have hz1 := hb1.size; (try simp only [World.size_alloc, World.size_setCell, World.size_drew] at hz1); (try (have hy1w0 : w.heap.size < w1.heap.size := by omega)); (try (have hy1w1 : w.heap.size + 1 < w1.heap.size := by omega)); (try (have hy1w2 : w.heap.size + 1 + 1 < w1.heap.size := by omega)); (try (have hy1w3 : w.heap.size + 1 + 1 + 1 < w1.heap.size := by omega)); (try (have hy1w4 : w.heap.size + 1 + 1 + 1 + 1 < w1.heap.size := by omega)))
    go_returns
    exact ⟨by rw [hE.out]; try rfl, by (repeat' (first | (with_reducible exact Below.refl _ _) | (with_reducible assumption) | (with_reducible refine Below.alloc ?_ ?_ _) | (with_reducible refine Below.drew ?_) | (with_reducible refine below_drewN ?_ _) | (with_reducible refine Below.setCell ?_ ?_ _) | (refine Below.step ?_ (by with_reducible assumption) ?_) | go_size))⟩
  · have hE : Hid (ptxR p ⟨a0, a1, a2⟩ = (str (txt [a0, a1, a2]), 0)) := by show _ = _; unfold ptxR; rw [hk]; rfl
    obtain ⟨s0, s1, s2⟩ := pts1 hok
    clear hok hp
    have hs : ∀ z ∈ [a0, a1, a2], sm z := by intro z hz; simp only [List.mem_cons, List.not_mem_nil, or_false] at hz; rcases hz with rfl | rfl | rfl <;> assumption
    go_enter Tryd.func8, Tryd.ntmps8
    go_wp2_with (first | (go_at_call 18; refine (pointsCode_any _ _ _ [⟨a0, a1, a2⟩] _ (rdp1 (by go_cell) (by go_cell) (by go_cell)) (by go_size) (by simp)).mono ?_; rintro e w1 ⟨rfl, hb1⟩; obtain ⟨hc1, hf1⟩ := bcell hb1; have hz1 := hb1.size; (try simp only [World.size_alloc, World.size_setCell, World.size_drew] at hz1); (try (have hy1w0 : w.heap.size < w1.heap.size := by omega)); (try (have hy1w1 : w.heap.size + 1 < w1.heap.size := by omega)); (try (have hy1w2 : w.heap.size + 1 + 1 < w1.heap.size := by omega)); (try (have hy1w3 : w.heap.size + 1 + 1 + 1 < w1.heap.size := by omega)); (try (have hy1w4 : w.heap.size + 1 + 1 + 1 + 1 < w1.heap.size := by omega))) | (go_at_call 19; refine (pointText_any _ _ _ _ s0 s1 s2).mono ?_; rintro e w2 ⟨rfl, hb2⟩; have hz2 := hb2.size))
    go_returns
    exact ⟨by rw [hE.out]; try rfl, by (repeat' (first | (with_reducible exact Below.refl _ _) | (with_reducible assumption) | (with_reducible refine Below.alloc ?_ ?_ _) | (with_reducible refine Below.drew ?_) | (with_reducible refine below_drewN ?_ _) | (with_reducible refine Below.setCell ?_ ?_ _) | (refine Below.step ?_ (by with_reducible assumption) ?_) | go_size))⟩
end Go.Proofs.YthafbmenkhekoaaDoor
