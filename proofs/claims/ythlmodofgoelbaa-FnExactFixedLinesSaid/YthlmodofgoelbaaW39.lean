/- FixedPoints and FixedLines: what the functions return; no condition on the exported ones. -/
import Derived.Test.YthlmodofgoelbaaW38
namespace Go.Proofs.Ythlmodofgoelbaa
open Go.RowKit
set_option linter.unusedSimpArgs false
set_option linter.unusedVariables false
set_option maxRecDepth 100000

def fxR (p : Int) (m : M9) : List P3 × Int := if mpCode p [m] = 0 then ((allP p).filter (fun a => decide (imM p m a = a)), 0) else ([], mpCode p [m])
def flR (p : Int) (m : M9) : List P3 × Int := if mpCode p [m] = 0 then ((allP p).filter (fun l => decide (imL p m l = l)), 0) else ([], mpCode p [m])
theorem mpCode_pr {p : Int} {m : M9} (h : mpCode p [m] = 0) : isP p = true := by
  rcases mpCode3 p [m] with h' | h' | ⟨h', _, _⟩
  · rw [h'] at h; cases h
  · rw [h'] at h; cases h
  · exact h'
theorem filt_len {p : Int} (hp : isP p = true) (f : P3 → Bool) : ((allP p).filter f).length ≤ 183 := Nat.le_trans (List.length_filter_le _ _) (allP_len hp)
theorem fxR_len (p : Int) (m : M9) : Hid ((rowsP (fxR p m).1).length ≤ 1000000) := by
  show _ ≤ _
  rw [rowsP_len]; unfold fxR
  split
  · rename_i h; have := filt_len (mpCode_pr h) (fun a => decide (imM p m a = a)); simp only; omega
  · simp
theorem flR_len (p : Int) (m : M9) : Hid ((rowsP (flR p m).1).length ≤ 1000000) := by
  show _ ≤ _
  rw [rowsP_len]; unfold flR
  split
  · rename_i h; have := filt_len (mpCode_pr h) (fun l => decide (imL p m l = l)); simp only; omega
  · simp
set_option maxHeartbeats 2000000 in
theorem l02Lines_any (p m0 m1 m2 m3 m4 m5 m6 m7 m8 : Int) (w : World) (hm : isMap p ⟨m0, m1, m2, m3, m4, m5, m6, m7, m8⟩ = true) :
    Calls Try.prog 78 #[.int .i64 p, .agg #[.int .i64 m0, .int .i64 m1, .int .i64 m2, .int .i64 m3, .int .i64 m4, .int .i64 m5, .int .i64 m6, .int .i64 m7, .int .i64 m8]] w (PtsPost 32 ((allP p).filter (fun l => decide (imL p ⟨m0, m1, m2, m3, m4, m5, m6, m7, m8⟩ l = l))) w) := by
  have hp := isMap_pr hm
  obtain ⟨sm0, sm1, sm2, sm3, sm4, sm5, sm6, sm7, sm8⟩ := isMap_sm hm
  replace sm0 : sm m0 := sm0; replace sm1 : sm m1 := sm1; replace sm2 : sm m2 := sm2; replace sm3 : sm m3 := sm3; replace sm4 : sm m4 := sm4; replace sm5 : sm m5 := sm5; replace sm6 : sm m6 := sm6; replace sm7 : sm m7 := sm7; replace sm8 : sm m8 := sm8
  obtain ⟨d0, d1, d2, d3, d4, d5, d6, d7, d8, hA⟩ := M9_eta (bkM p ⟨m0, m1, m2, m3, m4, m5, m6, m7, m8⟩)
  obtain ⟨e0, e1, e2, e3, e4, e5, e6, e7, e8, hB⟩ := M9_eta (nmM p (trM (bkM p ⟨m0, m1, m2, m3, m4, m5, m6, m7, m8⟩)))
  have hs := nmM_sm hp (trM (bkM p ⟨m0, m1, m2, m3, m4, m5, m6, m7, m8⟩))
  rw [hB] at hs
  obtain ⟨se0, se1, se2, se3, se4, se5, se6, se7, se8⟩ := hs
  replace se0 : sm e0 := se0; replace se1 : sm e1 := se1; replace se2 : sm e2 := se2; replace se3 : sm e3 := se3; replace se4 : sm e4 := se4; replace se5 : sm e5 := se5; replace se6 : sm e6 := se6; replace se7 : sm e7 := se7; replace se8 : sm e8 := se8
  have hL := fun l => imL_eq hm l
  rw [hB] at hL
  have hF : (allP p).filter (fun a => decide (imM p ⟨e0, e1, e2, e3, e4, e5, e6, e7, e8⟩ a = a)) = (allP p).filter (fun l => decide (imL p ⟨m0, m1, m2, m3, m4, m5, m6, m7, m8⟩ l = l)) := by simp only [hL]
  have hlen := filt_len hp (fun l => decide (imL p ⟨m0, m1, m2, m3, m4, m5, m6, m7, m8⟩ l = l))
  rw [hA] at hB
  have HA := Lib.hid hA; have HB := Lib.hid hB; clear hA hB hL hm
  have HIV : Hid (∀ w' : World, Calls Try.prog 59 #[.int .i64 p, .agg #[.int .i64 m0, .int .i64 m1, .int .i64 m2, .int .i64 m3, .int .i64 m4, .int .i64 m5, .int .i64 m6, .int .i64 m7, .int .i64 m8]] w' fun e w'' => e = .returned (.agg #[.int .i64 d0, .int .i64 d1, .int .i64 d2, .int .i64 d3, .int .i64 d4, .int .i64 d5, .int .i64 d6, .int .i64 d7, .int .i64 d8]) ∧ Below w'.heap.size w' w'') := fun w' => (l02Inverse_any p m0 m1 m2 m3 m4 m5 m6 m7 m8 w' hp sm0 sm1 sm2 sm3 sm4 sm5 sm6 sm7 sm8).mono fun _ _ h => ⟨by rw [h.1, HA.out], h.2⟩
  have HTR : Hid (∀ w' : World, Calls Try.prog 111 #[.int .i64 p, .agg #[.int .i64 d0, .int .i64 d1, .int .i64 d2, .int .i64 d3, .int .i64 d4, .int .i64 d5, .int .i64 d6, .int .i64 d7, .int .i64 d8]] w' fun e w'' => e = .returned (.agg #[.int .i64 e0, .int .i64 e1, .int .i64 e2, .int .i64 e3, .int .i64 e4, .int .i64 e5, .int .i64 e6, .int .i64 e7, .int .i64 e8]) ∧ Below w'.heap.size w' w'') := fun w' => (l02Turned_any p d0 d1 d2 d3 d4 d5 d6 d7 d8 w' hp).mono fun _ _ h => ⟨by rw [h.1, HB.out], h.2⟩
  have HFX : Hid (∀ w' : World, Calls Try.prog 74 #[.int .i64 p, .agg #[.int .i64 e0, .int .i64 e1, .int .i64 e2, .int .i64 e3, .int .i64 e4, .int .i64 e5, .int .i64 e6, .int .i64 e7, .int .i64 e8]] w' (PtsPost 43 ((allP p).filter (fun l => decide (imL p ⟨m0, m1, m2, m3, m4, m5, m6, m7, m8⟩ l = l))) w')) := fun w' => by rw [← hF]; exact l02Fixed_any p e0 e1 e2 e3 e4 e5 e6 e7 e8 w' hp se0 se1 se2 se3 se4 se5 se6 se7 se8
  have HL := Lib.hid hlen
  have HX : Hid ((allP p).filter (fun l => decide (imL p ⟨m0, m1, m2, m3, m4, m5, m6, m7, m8⟩ l = l)) = (allP p).filter (fun l => decide (imL p ⟨m0, m1, m2, m3, m4, m5, m6, m7, m8⟩ l = l))) := rfl
  clear hp sm0 sm1 sm2 sm3 sm4 sm5 sm6 sm7 sm8 se0 se1 se2 se3 se4 se5 se6 se7 se8 HA HB hF hlen
  generalize hps : (allP p).filter (fun l => decide (imL p ⟨m0, m1, m2, m3, m4, m5, m6, m7, m8⟩ l = l)) = ps at *
  clear hps HX
  go_enter Try.func78, Try.ntmps78
  go_wp2_with (first | (go_at_call 59; refine (HIV.out _).mono ?_; rintro e w1 ⟨rfl, hb1⟩; obtain ⟨hc1, hf1⟩ := bcell hb1; have hz1 := hb1.size; (try simp only [World.size_alloc, World.size_setCell, World.size_drew] at hz1); (try (have hy1w0 : w.heap.size < w1.heap.size := by omega)); (try (have hy1w1 : w.heap.size + 1 < w1.heap.size := by omega)); (try (have hy1w2 : w.heap.size + 1 + 1 < w1.heap.size := by omega)); (try (have hy1w3 : w.heap.size + 1 + 1 + 1 < w1.heap.size := by omega)); (try (have hy1w4 : w.heap.size + 1 + 1 + 1 + 1 < w1.heap.size := by omega))) | (go_at_call 111; refine (HTR.out _).mono ?_; rintro e w2 ⟨rfl, hb2⟩; obtain ⟨hc2, hf2⟩ := bcell hb2; have hz2 := hb2.size; (try simp only [World.size_alloc, World.size_setCell, World.size_drew] at hz2); (try (have hy2w0 : w.heap.size < w2.heap.size := by omega)); (try (have hy2w1 : w.heap.size + 1 < w2.heap.size := by omega)); (try (have hy2w2 : w.heap.size + 1 + 1 < w2.heap.size := by omega)); (try (have hy2w3 : w.heap.size + 1 + 1 + 1 < w2.heap.size := by omega)); (try (have hy2w4 : w.heap.size + 1 + 1 + 1 + 1 < w2.heap.size := by omega)); (try (have hy2w10 : w1.heap.size < w2.heap.size := by omega)); (try (have hy2w11 : w1.heap.size + 1 < w2.heap.size := by omega)); (try (have hy2w12 : w1.heap.size + 1 + 1 < w2.heap.size := by omega)); (try (have hy2w13 : w1.heap.size + 1 + 1 + 1 < w2.heap.size := by omega)); (try (have hy2w14 : w1.heap.size + 1 + 1 + 1 + 1 < w2.heap.size := by omega))) | (go_at_call 74; refine (HFX.out _).mono ?_; rintro e w3 ⟨v3, rfl, hown3, hb3⟩; obtain ⟨hc3, hf3⟩ := bcell hb3; have hz3 := hb3.size; (try simp only [World.size_alloc, World.size_setCell, World.size_drew] at hz3); (try (have hy3w0 : w.heap.size < w3.heap.size := by omega)); (try (have hy3w1 : w.heap.size + 1 < w3.heap.size := by omega)); (try (have hy3w2 : w.heap.size + 1 + 1 < w3.heap.size := by omega)); (try (have hy3w3 : w.heap.size + 1 + 1 + 1 < w3.heap.size := by omega)); (try (have hy3w4 : w.heap.size + 1 + 1 + 1 + 1 < w3.heap.size := by omega)); (try (have hy3w10 : w1.heap.size < w3.heap.size := by omega)); (try (have hy3w11 : w1.heap.size + 1 < w3.heap.size := by omega)); (try (have hy3w12 : w1.heap.size + 1 + 1 < w3.heap.size := by omega)); (try (have hy3w13 : w1.heap.size + 1 + 1 + 1 < w3.heap.size := by omega)); (try (have hy3w14 : w1.heap.size + 1 + 1 + 1 + 1 < w3.heap.size := by omega)); (try (have hy3w20 : w2.heap.size < w3.heap.size := by omega)); (try (have hy3w21 : w2.heap.size + 1 < w3.heap.size := by omega)); (try (have hy3w22 : w2.heap.size + 1 + 1 < w3.heap.size := by omega)); (try (have hy3w23 : w2.heap.size + 1 + 1 + 1 < w3.heap.size := by omega)); (try (have hy3w24 : w2.heap.size + 1 + 1 + 1 + 1 < w3.heap.size := by omega))))
  obtain ⟨a, cap, rfl, hsl⟩ := hown3.sl
  rw [rowsP_len]
  have hB3 : Below w.heap.size w w3 := by (repeat' (first | (with_reducible exact Below.refl _ _) | (with_reducible assumption) | (with_reducible refine Below.alloc ?_ ?_ _) | (with_reducible refine Below.drew ?_) | (with_reducible refine below_drewN ?_ _) | (with_reducible refine Below.setCell ?_ ?_ _) | (refine Below.step ?_ (by with_reducible assumption) ?_) | go_size))
  generalize hn : ps.length = n at *
  have HN := Lib.hid hn; clear hn
  have hn1 : n ≤ 1000000 := by have := HL.out; omega
  clear hown3
  go_wp2
  go_loopw [6, 7] (fun v i wr => ∃ k : Nat, k ≤ n ∧ i = .int .i64 k ∧ OwnA 32 3 wr w3.heap.size v (rowsP (ps.take k)) ∧ Below w3.heap.size w3 wr) (fun _ i _ => n - (intOf i).toNat)
  case atStart => exact ⟨0, Nat.zero_le _, rfl, OwnA.made 32 w3 #[] 0 _ (Nat.le_refl _) (by unfold maxLen; omega) rfl, by (repeat' (first | (with_reducible exact Below.refl _ _) | (with_reducible assumption) | (with_reducible refine Below.alloc ?_ ?_ _) | (with_reducible refine Below.drew ?_) | (with_reducible refine below_drewN ?_ _) | (with_reducible refine Below.setCell ?_ ?_ _) | (refine Below.step ?_ (by with_reducible assumption) ?_) | go_size))⟩
  case round =>
    obtain ⟨k, hk, rfl, hown, hC⟩ := hrel
    have hCz := hC.size
    by_cases hlt : k < n
    · have hkp : Hid (k < ps.length) := by show _ < _; rw [HN.out]; exact hlt
      rcases hsl with hnil | ⟨g, off, rfl, hg, hR⟩
      · exfalso
        have h1 := hkp.out
        rw [← rowsP_len, hnil] at h1
        simp at h1
      obtain ⟨p0, p1, p2⟩ := (hR.rdp.below hC hg).at_ hkp.out
      have hfs : Hid (ps.take (k + 1) = ps.take k ++ [ps[k]'(hkp.out)]) := by show _ = _; rw [List.take_succ_eq_append_getElem hkp.out]
      have hlk : Hid ((rowsP (ps.take k)).length ≤ 10000000) := by
        show _ ≤ _
        rw [rowsP_len, List.length_take]; omega
      generalize ps[k]'(hkp.out) = b at *
      clear hR
      go_wp2_with (at_builtin; refine append3 Try.underlying48 info_Line w3.heap.size _ _ hown rfl _ _ rfl rfl rfl hlk.out (by omega) ?_; intro v' w4 hown4 hB4 hz4)
      go_roundw
      case rel => exact ⟨k + 1, by omega, by go_num, by rw [rowsP_snoc, ← hfs.out] at hown4; exact hown4, hB4 _ _ hC (Nat.le_refl _)⟩
      case measure => simp [intOf]; omega
    · have hkn : Hid (ps.take k = ps) := List.take_of_length_le (by rw [HN.out]; omega)
      rw [hkn.out] at hown
      go_wp2
      go_ret
      exact ⟨_, rfl, hown.base_le hB3.size, hB3.trans (hC.mono hB3.size)⟩
set_option maxHeartbeats 2000000 in
theorem FixedPoints_any (p m0 m1 m2 m3 m4 m5 m6 m7 m8 : Int) (w : World) :
    Calls Try.prog 32 #[.int .i64 p, .agg #[.int .i64 m0, .int .i64 m1, .int .i64 m2, .int .i64 m3, .int .i64 m4, .int .i64 m5, .int .i64 m6, .int .i64 m7, .int .i64 m8]] w (PtsPost2 43 (fxR p ⟨m0, m1, m2, m3, m4, m5, m6, m7, m8⟩) w) := by
  rcases mpCode3 p [⟨m0, m1, m2, m3, m4, m5, m6, m7, m8⟩] with hk | hk | ⟨hp, hok, hk⟩
  · have hE : Hid (fxR p ⟨m0, m1, m2, m3, m4, m5, m6, m7, m8⟩ = ([], 2)) := by show _ = _; unfold fxR; rw [hk]; rfl
    go_enter Try.func32, Try.ntmps32
    go_wp2_with (go_at_call 56; refine (mapsCode_any p _ _ [⟨m0, m1, m2, m3, m4, m5, m6, m7, m8⟩] _ (rdM9_1 (by go_cell) (by go_cell) (by go_cell) (by go_cell) (by go_cell) (by go_cell) (by go_cell) (by go_cell) (by go_cell)) (by go_size) (by simp)).mono ?_; rintro e w1 ⟨rfl, hb1⟩; obtain ⟨hc1, hf1⟩ := bcell hb1; have hz1 := hb1.size; (try simp only [World.size_alloc, World.size_setCell, World.size_drew] at hz1); (try (have hy1w0 : w.heap.size < w1.heap.size := by omega)); (try (have hy1w1 : w.heap.size + 1 < w1.heap.size := by omega)); (try (have hy1w2 : w.heap.size + 1 + 1 < w1.heap.size := by omega)); (try (have hy1w3 : w.heap.size + 1 + 1 + 1 < w1.heap.size := by omega)); (try (have hy1w4 : w.heap.size + 1 + 1 + 1 + 1 < w1.heap.size := by omega)))
    go_ret2
    exact ⟨_, by rw [hE.out]; try rfl, by rw [hE.out]; exact OwnA.nil _ _ _ _, by (repeat' (first | (with_reducible exact Below.refl _ _) | (with_reducible assumption) | (with_reducible refine Below.alloc ?_ ?_ _) | (with_reducible refine Below.drew ?_) | (with_reducible refine below_drewN ?_ _) | (with_reducible refine Below.setCell ?_ ?_ _) | (refine Below.step ?_ (by with_reducible assumption) ?_) | go_size))⟩
  · have hE : Hid (fxR p ⟨m0, m1, m2, m3, m4, m5, m6, m7, m8⟩ = ([], 1)) := by show _ = _; unfold fxR; rw [hk]; rfl
    go_enter Try.func32, Try.ntmps32
    go_wp2_with (go_at_call 56; refine (mapsCode_any p _ _ [⟨m0, m1, m2, m3, m4, m5, m6, m7, m8⟩] _ (rdM9_1 (by go_cell) (by go_cell) (by go_cell) (by go_cell) (by go_cell) (by go_cell) (by go_cell) (by go_cell) (by go_cell)) (by go_size) (by simp)).mono ?_; rintro e w1 ⟨rfl, hb1⟩; obtain ⟨hc1, hf1⟩ := bcell hb1; have hz1 := hb1.size; (try simp only [World.size_alloc, World.size_setCell, World.size_drew] at hz1); (try (have hy1w0 : w.heap.size < w1.heap.size := by omega)); (try (have hy1w1 : w.heap.size + 1 < w1.heap.size := by omega)); (try (have hy1w2 : w.heap.size + 1 + 1 < w1.heap.size := by omega)); (try (have hy1w3 : w.heap.size + 1 + 1 + 1 < w1.heap.size := by omega)); (try (have hy1w4 : w.heap.size + 1 + 1 + 1 + 1 < w1.heap.size := by omega)))
    go_ret2
    exact ⟨_, by rw [hE.out]; try rfl, by rw [hE.out]; exact OwnA.nil _ _ _ _, by (repeat' (first | (with_reducible exact Below.refl _ _) | (with_reducible assumption) | (with_reducible refine Below.alloc ?_ ?_ _) | (with_reducible refine Below.drew ?_) | (with_reducible refine below_drewN ?_ _) | (with_reducible refine Below.setCell ?_ ?_ _) | (refine Below.step ?_ (by with_reducible assumption) ?_) | go_size))⟩
  · have hE : Hid (fxR p ⟨m0, m1, m2, m3, m4, m5, m6, m7, m8⟩ = ((allP p).filter (fun a => decide (imM p ⟨m0, m1, m2, m3, m4, m5, m6, m7, m8⟩ a = a)), 0)) := by show _ = _; unfold fxR; rw [hk]; rfl
    have HM := Lib.hid (mp1 hok).1
    obtain ⟨sm0, sm1, sm2, sm3, sm4, sm5, sm6, sm7, sm8⟩ := isMap_sm (mp1 hok).1
    replace sm0 : sm m0 := sm0; replace sm1 : sm m1 := sm1; replace sm2 : sm m2 := sm2; replace sm3 : sm m3 := sm3; replace sm4 : sm m4 := sm4; replace sm5 : sm m5 := sm5; replace sm6 : sm m6 := sm6; replace sm7 : sm m7 := sm7; replace sm8 : sm m8 := sm8
    have HP := Lib.hid hp; clear hp hok
    go_enter Try.func32, Try.ntmps32
    go_wp2_with (go_at_call 56; refine (mapsCode_any p _ _ [⟨m0, m1, m2, m3, m4, m5, m6, m7, m8⟩] _ (rdM9_1 (by go_cell) (by go_cell) (by go_cell) (by go_cell) (by go_cell) (by go_cell) (by go_cell) (by go_cell) (by go_cell)) (by go_size) (by simp)).mono ?_; rintro e w1 ⟨rfl, hb1⟩; obtain ⟨hc1, hf1⟩ := bcell hb1; have hz1 := hb1.size; (try simp only [World.size_alloc, World.size_setCell, World.size_drew] at hz1); (try (have hy1w0 : w.heap.size < w1.heap.size := by omega)); (try (have hy1w1 : w.heap.size + 1 < w1.heap.size := by omega)); (try (have hy1w2 : w.heap.size + 1 + 1 < w1.heap.size := by omega)); (try (have hy1w3 : w.heap.size + 1 + 1 + 1 < w1.heap.size := by omega)); (try (have hy1w4 : w.heap.size + 1 + 1 + 1 + 1 < w1.heap.size := by omega)))
    refine (pointsThat_any p _ _ _ (fun a => decide (imM p ⟨m0, m1, m2, m3, m4, m5, m6, m7, m8⟩ a = a)) _ HP.out (fun _ _ => by kernel_rfl) ?_).mono ?_
    · intro a ha w' hB
      obtain ⟨s0, s1, s2⟩ := allP_sm HP.out ha
      exact FixedPoints1 p m0 m1 m2 m3 m4 m5 m6 m7 m8 a.x a.y a.z _ _ w' HP.out sm0 sm1 sm2 sm3 sm4 sm5 sm6 sm7 sm8 s0 s1 s2 (keepC hB (by go_cell)) (keepC hB (by go_cell)) (keepC hB (by go_cell)) (keepC hB (by go_cell)) (keepC hB (by go_cell)) (keepC hB (by go_cell)) (keepC hB (by go_cell)) (keepC hB (by go_cell)) (keepC hB (by go_cell)) (keepC hB (by go_cell))
    rintro e w2 ⟨v2, rfl, hown2, hb2⟩
    obtain ⟨hc2, hf2⟩ := bcell hb2; have hz2 := hb2.size; (try simp only [World.size_alloc, World.size_setCell, World.size_drew] at hz2); (try (have hy2w0 : w.heap.size < w2.heap.size := by omega)); (try (have hy2w1 : w.heap.size + 1 < w2.heap.size := by omega)); (try (have hy2w2 : w.heap.size + 1 + 1 < w2.heap.size := by omega)); (try (have hy2w3 : w.heap.size + 1 + 1 + 1 < w2.heap.size := by omega)); (try (have hy2w4 : w.heap.size + 1 + 1 + 1 + 1 < w2.heap.size := by omega)); (try (have hy2w10 : w1.heap.size < w2.heap.size := by omega)); (try (have hy2w11 : w1.heap.size + 1 < w2.heap.size := by omega)); (try (have hy2w12 : w1.heap.size + 1 + 1 < w2.heap.size := by omega)); (try (have hy2w13 : w1.heap.size + 1 + 1 + 1 < w2.heap.size := by omega)); (try (have hy2w14 : w1.heap.size + 1 + 1 + 1 + 1 < w2.heap.size := by omega))
    go_wp2
    go_ret2
    exact ⟨_, by rw [hE.out]; try rfl, by rw [hE.out]; exact hown2.base_le (by (try simp only [World.size_alloc] at *); omega), by (repeat' (first | (with_reducible exact Below.refl _ _) | (with_reducible assumption) | (with_reducible refine Below.alloc ?_ ?_ _) | (with_reducible refine Below.drew ?_) | (with_reducible refine below_drewN ?_ _) | (with_reducible refine Below.setCell ?_ ?_ _) | (refine Below.step ?_ (by with_reducible assumption) ?_) | go_size))⟩
set_option maxHeartbeats 2000000 in
theorem FixedLines_any (p m0 m1 m2 m3 m4 m5 m6 m7 m8 : Int) (w : World) :
    Calls Try.prog 34 #[.int .i64 p, .agg #[.int .i64 m0, .int .i64 m1, .int .i64 m2, .int .i64 m3, .int .i64 m4, .int .i64 m5, .int .i64 m6, .int .i64 m7, .int .i64 m8]] w (PtsPost2 32 (flR p ⟨m0, m1, m2, m3, m4, m5, m6, m7, m8⟩) w) := by
  rcases mpCode3 p [⟨m0, m1, m2, m3, m4, m5, m6, m7, m8⟩] with hk | hk | ⟨hp, hok, hk⟩
  · have hE : Hid (flR p ⟨m0, m1, m2, m3, m4, m5, m6, m7, m8⟩ = ([], 2)) := by show _ = _; unfold flR; rw [hk]; rfl
    go_enter Try.func34, Try.ntmps34
    go_wp2_with (go_at_call 56; refine (mapsCode_any p _ _ [⟨m0, m1, m2, m3, m4, m5, m6, m7, m8⟩] _ (rdM9_1 (by go_cell) (by go_cell) (by go_cell) (by go_cell) (by go_cell) (by go_cell) (by go_cell) (by go_cell) (by go_cell)) (by go_size) (by simp)).mono ?_; rintro e w1 ⟨rfl, hb1⟩; obtain ⟨hc1, hf1⟩ := bcell hb1; have hz1 := hb1.size; (try simp only [World.size_alloc, World.size_setCell, World.size_drew] at hz1); (try (have hy1w0 : w.heap.size < w1.heap.size := by omega)); (try (have hy1w1 : w.heap.size + 1 < w1.heap.size := by omega)); (try (have hy1w2 : w.heap.size + 1 + 1 < w1.heap.size := by omega)); (try (have hy1w3 : w.heap.size + 1 + 1 + 1 < w1.heap.size := by omega)); (try (have hy1w4 : w.heap.size + 1 + 1 + 1 + 1 < w1.heap.size := by omega)))
    go_ret2
    exact ⟨_, by rw [hE.out]; try rfl, by rw [hE.out]; exact OwnA.nil _ _ _ _, by (repeat' (first | (with_reducible exact Below.refl _ _) | (with_reducible assumption) | (with_reducible refine Below.alloc ?_ ?_ _) | (with_reducible refine Below.drew ?_) | (with_reducible refine below_drewN ?_ _) | (with_reducible refine Below.setCell ?_ ?_ _) | (refine Below.step ?_ (by with_reducible assumption) ?_) | go_size))⟩
  · have hE : Hid (flR p ⟨m0, m1, m2, m3, m4, m5, m6, m7, m8⟩ = ([], 1)) := by show _ = _; unfold flR; rw [hk]; rfl
    go_enter Try.func34, Try.ntmps34
    go_wp2_with (go_at_call 56; refine (mapsCode_any p _ _ [⟨m0, m1, m2, m3, m4, m5, m6, m7, m8⟩] _ (rdM9_1 (by go_cell) (by go_cell) (by go_cell) (by go_cell) (by go_cell) (by go_cell) (by go_cell) (by go_cell) (by go_cell)) (by go_size) (by simp)).mono ?_; rintro e w1 ⟨rfl, hb1⟩; obtain ⟨hc1, hf1⟩ := bcell hb1; have hz1 := hb1.size; (try simp only [World.size_alloc, World.size_setCell, World.size_drew] at hz1); (try (have hy1w0 : w.heap.size < w1.heap.size := by omega)); (try (have hy1w1 : w.heap.size + 1 < w1.heap.size := by omega)); (try (have hy1w2 : w.heap.size + 1 + 1 < w1.heap.size := by omega)); (try (have hy1w3 : w.heap.size + 1 + 1 + 1 < w1.heap.size := by omega)); (try (have hy1w4 : w.heap.size + 1 + 1 + 1 + 1 < w1.heap.size := by omega)))
    go_ret2
    exact ⟨_, by rw [hE.out]; try rfl, by rw [hE.out]; exact OwnA.nil _ _ _ _, by (repeat' (first | (with_reducible exact Below.refl _ _) | (with_reducible assumption) | (with_reducible refine Below.alloc ?_ ?_ _) | (with_reducible refine Below.drew ?_) | (with_reducible refine below_drewN ?_ _) | (with_reducible refine Below.setCell ?_ ?_ _) | (refine Below.step ?_ (by with_reducible assumption) ?_) | go_size))⟩
  · have hE : Hid (flR p ⟨m0, m1, m2, m3, m4, m5, m6, m7, m8⟩ = ((allP p).filter (fun a => decide (imL p ⟨m0, m1, m2, m3, m4, m5, m6, m7, m8⟩ a = a)), 0)) := by show _ = _; unfold flR; rw [hk]; rfl
    have HM := Lib.hid (mp1 hok).1
    obtain ⟨sm0, sm1, sm2, sm3, sm4, sm5, sm6, sm7, sm8⟩ := isMap_sm (mp1 hok).1
    replace sm0 : sm m0 := sm0; replace sm1 : sm m1 := sm1; replace sm2 : sm m2 := sm2; replace sm3 : sm m3 := sm3; replace sm4 : sm m4 := sm4; replace sm5 : sm m5 := sm5; replace sm6 : sm m6 := sm6; replace sm7 : sm m7 := sm7; replace sm8 : sm m8 := sm8
    have HP := Lib.hid hp; clear hp hok
    go_enter Try.func34, Try.ntmps34
    go_wp2_with (go_at_call 56; refine (mapsCode_any p _ _ [⟨m0, m1, m2, m3, m4, m5, m6, m7, m8⟩] _ (rdM9_1 (by go_cell) (by go_cell) (by go_cell) (by go_cell) (by go_cell) (by go_cell) (by go_cell) (by go_cell) (by go_cell)) (by go_size) (by simp)).mono ?_; rintro e w1 ⟨rfl, hb1⟩; obtain ⟨hc1, hf1⟩ := bcell hb1; have hz1 := hb1.size; (try simp only [World.size_alloc, World.size_setCell, World.size_drew] at hz1); (try (have hy1w0 : w.heap.size < w1.heap.size := by omega)); (try (have hy1w1 : w.heap.size + 1 < w1.heap.size := by omega)); (try (have hy1w2 : w.heap.size + 1 + 1 < w1.heap.size := by omega)); (try (have hy1w3 : w.heap.size + 1 + 1 + 1 < w1.heap.size := by omega)); (try (have hy1w4 : w.heap.size + 1 + 1 + 1 + 1 < w1.heap.size := by omega)))
    refine (linesThat_any p _ _ _ (fun a => decide (imL p ⟨m0, m1, m2, m3, m4, m5, m6, m7, m8⟩ a = a)) _ HP.out (fun _ _ => by kernel_rfl) ?_).mono ?_
    · intro a ha w' hB
      obtain ⟨s0, s1, s2⟩ := allP_sm HP.out ha
      exact FixedLines1 p m0 m1 m2 m3 m4 m5 m6 m7 m8 a.x a.y a.z _ _ w' HP.out sm0 sm1 sm2 sm3 sm4 sm5 sm6 sm7 sm8 s0 s1 s2 (keepC hB (by go_cell)) (keepC hB (by go_cell)) (keepC hB (by go_cell)) (keepC hB (by go_cell)) (keepC hB (by go_cell)) (keepC hB (by go_cell)) (keepC hB (by go_cell)) (keepC hB (by go_cell)) (keepC hB (by go_cell)) (keepC hB (by go_cell))
    rintro e w2 ⟨v2, rfl, hown2, hb2⟩
    obtain ⟨hc2, hf2⟩ := bcell hb2; have hz2 := hb2.size; (try simp only [World.size_alloc, World.size_setCell, World.size_drew] at hz2); (try (have hy2w0 : w.heap.size < w2.heap.size := by omega)); (try (have hy2w1 : w.heap.size + 1 < w2.heap.size := by omega)); (try (have hy2w2 : w.heap.size + 1 + 1 < w2.heap.size := by omega)); (try (have hy2w3 : w.heap.size + 1 + 1 + 1 < w2.heap.size := by omega)); (try (have hy2w4 : w.heap.size + 1 + 1 + 1 + 1 < w2.heap.size := by omega)); (try (have hy2w10 : w1.heap.size < w2.heap.size := by omega)); (try (have hy2w11 : w1.heap.size + 1 < w2.heap.size := by omega)); (try (have hy2w12 : w1.heap.size + 1 + 1 < w2.heap.size := by omega)); (try (have hy2w13 : w1.heap.size + 1 + 1 + 1 < w2.heap.size := by omega)); (try (have hy2w14 : w1.heap.size + 1 + 1 + 1 + 1 < w2.heap.size := by omega))
    go_wp2
    go_ret2
    exact ⟨_, by rw [hE.out]; try rfl, by rw [hE.out]; exact hown2.base_le (by (try simp only [World.size_alloc] at *); omega), by (repeat' (first | (with_reducible exact Below.refl _ _) | (with_reducible assumption) | (with_reducible refine Below.alloc ?_ ?_ _) | (with_reducible refine Below.drew ?_) | (with_reducible refine below_drewN ?_ _) | (with_reducible refine Below.setCell ?_ ?_ _) | (refine Below.step ?_ (by with_reducible assumption) ?_) | go_size))⟩
set_option maxHeartbeats 2000000 in
theorem FixedPoints_spec (p m0 m1 m2 m3 m4 m5 m6 m7 m8 : Int) (w : World) :
    Calls Try.prog 31 #[.int .i64 p, .agg #[.int .i64 m0, .int .i64 m1, .int .i64 m2, .int .i64 m3, .int .i64 m4, .int .i64 m5, .int .i64 m6, .int .i64 m7, .int .i64 m8]] w (PtsPost2 43 (fxR p ⟨m0, m1, m2, m3, m4, m5, m6, m7, m8⟩) w) := by
  rcases mpCode3 p [⟨m0, m1, m2, m3, m4, m5, m6, m7, m8⟩] with hk | hk | ⟨hp, hok, hk⟩
  · have hE : Hid (fxR p ⟨m0, m1, m2, m3, m4, m5, m6, m7, m8⟩ = ([], 2)) := by show _ = _; unfold fxR; rw [hk]; rfl
    go_enter Try.func31, Try.ntmps31
    go_wp2_with (go_at_call 53; refine (l02Code_any p _ _ _ [⟨m0, m1, m2, m3, m4, m5, m6, m7, m8⟩] _ (rdM9_1 (by go_cell) (by go_cell) (by go_cell) (by go_cell) (by go_cell) (by go_cell) (by go_cell) (by go_cell) (by go_cell)) (by go_size) (by simp)).mono ?_; rintro e w1 ⟨rfl, hb1⟩; obtain ⟨hc1, hf1⟩ := bcell hb1; have hz1 := hb1.size; (try simp only [World.size_alloc, World.size_setCell, World.size_drew] at hz1); (try (have hy1w0 : w.heap.size < w1.heap.size := by omega)); (try (have hy1w1 : w.heap.size + 1 < w1.heap.size := by omega)); (try (have hy1w2 : w.heap.size + 1 + 1 < w1.heap.size := by omega)); (try (have hy1w3 : w.heap.size + 1 + 1 + 1 < w1.heap.size := by omega)); (try (have hy1w4 : w.heap.size + 1 + 1 + 1 + 1 < w1.heap.size := by omega)))
    go_ret2
    exact ⟨_, by rw [hE.out]; try rfl, by rw [hE.out]; exact OwnA.nil _ _ _ _, by (repeat' (first | (with_reducible exact Below.refl _ _) | (with_reducible assumption) | (with_reducible refine Below.alloc ?_ ?_ _) | (with_reducible refine Below.drew ?_) | (with_reducible refine below_drewN ?_ _) | (with_reducible refine Below.setCell ?_ ?_ _) | (refine Below.step ?_ (by with_reducible assumption) ?_) | go_size))⟩
  · have hE : Hid (fxR p ⟨m0, m1, m2, m3, m4, m5, m6, m7, m8⟩ = ([], 1)) := by show _ = _; unfold fxR; rw [hk]; rfl
    go_enter Try.func31, Try.ntmps31
    go_wp2_with (go_at_call 53; refine (l02Code_any p _ _ _ [⟨m0, m1, m2, m3, m4, m5, m6, m7, m8⟩] _ (rdM9_1 (by go_cell) (by go_cell) (by go_cell) (by go_cell) (by go_cell) (by go_cell) (by go_cell) (by go_cell) (by go_cell)) (by go_size) (by simp)).mono ?_; rintro e w1 ⟨rfl, hb1⟩; obtain ⟨hc1, hf1⟩ := bcell hb1; have hz1 := hb1.size; (try simp only [World.size_alloc, World.size_setCell, World.size_drew] at hz1); (try (have hy1w0 : w.heap.size < w1.heap.size := by omega)); (try (have hy1w1 : w.heap.size + 1 < w1.heap.size := by omega)); (try (have hy1w2 : w.heap.size + 1 + 1 < w1.heap.size := by omega)); (try (have hy1w3 : w.heap.size + 1 + 1 + 1 < w1.heap.size := by omega)); (try (have hy1w4 : w.heap.size + 1 + 1 + 1 + 1 < w1.heap.size := by omega)))
    go_ret2
    exact ⟨_, by rw [hE.out]; try rfl, by rw [hE.out]; exact OwnA.nil _ _ _ _, by (repeat' (first | (with_reducible exact Below.refl _ _) | (with_reducible assumption) | (with_reducible refine Below.alloc ?_ ?_ _) | (with_reducible refine Below.drew ?_) | (with_reducible refine below_drewN ?_ _) | (with_reducible refine Below.setCell ?_ ?_ _) | (refine Below.step ?_ (by with_reducible assumption) ?_) | go_size))⟩
  · have hE : Hid (fxR p ⟨m0, m1, m2, m3, m4, m5, m6, m7, m8⟩ = ((allP p).filter (fun a => decide (imM p ⟨m0, m1, m2, m3, m4, m5, m6, m7, m8⟩ a = a)), 0)) := by show _ = _; unfold fxR; rw [hk]; rfl
    have HM := Lib.hid (mp1 hok).1
    obtain ⟨sm0, sm1, sm2, sm3, sm4, sm5, sm6, sm7, sm8⟩ := isMap_sm (mp1 hok).1
    replace sm0 : sm m0 := sm0; replace sm1 : sm m1 := sm1; replace sm2 : sm m2 := sm2; replace sm3 : sm m3 := sm3; replace sm4 : sm m4 := sm4; replace sm5 : sm m5 := sm5; replace sm6 : sm m6 := sm6; replace sm7 : sm m7 := sm7; replace sm8 : sm m8 := sm8
    have HP := Lib.hid hp; clear hp hok
    go_enter Try.func31, Try.ntmps31
    go_wp2_with (first | (go_at_call 53; refine (l02Code_any p _ _ _ [⟨m0, m1, m2, m3, m4, m5, m6, m7, m8⟩] _ (rdM9_1 (by go_cell) (by go_cell) (by go_cell) (by go_cell) (by go_cell) (by go_cell) (by go_cell) (by go_cell) (by go_cell)) (by go_size) (by simp)).mono ?_; rintro e w1 ⟨rfl, hb1⟩; obtain ⟨hc1, hf1⟩ := bcell hb1; have hz1 := hb1.size; (try simp only [World.size_alloc, World.size_setCell, World.size_drew] at hz1); (try (have hy1w0 : w.heap.size < w1.heap.size := by omega)); (try (have hy1w1 : w.heap.size + 1 < w1.heap.size := by omega)); (try (have hy1w2 : w.heap.size + 1 + 1 < w1.heap.size := by omega)); (try (have hy1w3 : w.heap.size + 1 + 1 + 1 < w1.heap.size := by omega)); (try (have hy1w4 : w.heap.size + 1 + 1 + 1 + 1 < w1.heap.size := by omega))) | (go_at_call 74; refine (l02Fixed_any p m0 m1 m2 m3 m4 m5 m6 m7 m8 _ HP.out sm0 sm1 sm2 sm3 sm4 sm5 sm6 sm7 sm8).mono ?_; rintro e w2 ⟨v2, rfl, hown2, hb2⟩; obtain ⟨hc2, hf2⟩ := bcell hb2; have hz2 := hb2.size; (try simp only [World.size_alloc, World.size_setCell, World.size_drew] at hz2); (try (have hy2w0 : w.heap.size < w2.heap.size := by omega)); (try (have hy2w1 : w.heap.size + 1 < w2.heap.size := by omega)); (try (have hy2w2 : w.heap.size + 1 + 1 < w2.heap.size := by omega)); (try (have hy2w3 : w.heap.size + 1 + 1 + 1 < w2.heap.size := by omega)); (try (have hy2w4 : w.heap.size + 1 + 1 + 1 + 1 < w2.heap.size := by omega)); (try (have hy2w10 : w1.heap.size < w2.heap.size := by omega)); (try (have hy2w11 : w1.heap.size + 1 < w2.heap.size := by omega)); (try (have hy2w12 : w1.heap.size + 1 + 1 < w2.heap.size := by omega)); (try (have hy2w13 : w1.heap.size + 1 + 1 + 1 < w2.heap.size := by omega)); (try (have hy2w14 : w1.heap.size + 1 + 1 + 1 + 1 < w2.heap.size := by omega))))
    go_ret2
    exact ⟨_, by rw [hE.out]; try rfl, by rw [hE.out]; exact hown2.base_le (by (try simp only [World.size_alloc] at *); omega), by (repeat' (first | (with_reducible exact Below.refl _ _) | (with_reducible assumption) | (with_reducible refine Below.alloc ?_ ?_ _) | (with_reducible refine Below.drew ?_) | (with_reducible refine below_drewN ?_ _) | (with_reducible refine Below.setCell ?_ ?_ _) | (refine Below.step ?_ (by with_reducible assumption) ?_) | go_size))⟩
set_option maxHeartbeats 2000000 in
theorem FixedLines_spec (p m0 m1 m2 m3 m4 m5 m6 m7 m8 : Int) (w : World) :
    Calls Try.prog 33 #[.int .i64 p, .agg #[.int .i64 m0, .int .i64 m1, .int .i64 m2, .int .i64 m3, .int .i64 m4, .int .i64 m5, .int .i64 m6, .int .i64 m7, .int .i64 m8]] w (PtsPost2 32 (flR p ⟨m0, m1, m2, m3, m4, m5, m6, m7, m8⟩) w) := by
  rcases mpCode3 p [⟨m0, m1, m2, m3, m4, m5, m6, m7, m8⟩] with hk | hk | ⟨hp, hok, hk⟩
  · have hE : Hid (flR p ⟨m0, m1, m2, m3, m4, m5, m6, m7, m8⟩ = ([], 2)) := by show _ = _; unfold flR; rw [hk]; rfl
    go_enter Try.func33, Try.ntmps33
    go_wp2_with (go_at_call 53; refine (l02Code_any p _ _ _ [⟨m0, m1, m2, m3, m4, m5, m6, m7, m8⟩] _ (rdM9_1 (by go_cell) (by go_cell) (by go_cell) (by go_cell) (by go_cell) (by go_cell) (by go_cell) (by go_cell) (by go_cell)) (by go_size) (by simp)).mono ?_; rintro e w1 ⟨rfl, hb1⟩; obtain ⟨hc1, hf1⟩ := bcell hb1; have hz1 := hb1.size; (try simp only [World.size_alloc, World.size_setCell, World.size_drew] at hz1); (try (have hy1w0 : w.heap.size < w1.heap.size := by omega)); (try (have hy1w1 : w.heap.size + 1 < w1.heap.size := by omega)); (try (have hy1w2 : w.heap.size + 1 + 1 < w1.heap.size := by omega)); (try (have hy1w3 : w.heap.size + 1 + 1 + 1 < w1.heap.size := by omega)); (try (have hy1w4 : w.heap.size + 1 + 1 + 1 + 1 < w1.heap.size := by omega)))
    go_ret2
    exact ⟨_, by rw [hE.out]; try rfl, by rw [hE.out]; exact OwnA.nil _ _ _ _, by (repeat' (first | (with_reducible exact Below.refl _ _) | (with_reducible assumption) | (with_reducible refine Below.alloc ?_ ?_ _) | (with_reducible refine Below.drew ?_) | (with_reducible refine below_drewN ?_ _) | (with_reducible refine Below.setCell ?_ ?_ _) | (refine Below.step ?_ (by with_reducible assumption) ?_) | go_size))⟩
  · have hE : Hid (flR p ⟨m0, m1, m2, m3, m4, m5, m6, m7, m8⟩ = ([], 1)) := by show _ = _; unfold flR; rw [hk]; rfl
    go_enter Try.func33, Try.ntmps33
    go_wp2_with (go_at_call 53; refine (l02Code_any p _ _ _ [⟨m0, m1, m2, m3, m4, m5, m6, m7, m8⟩] _ (rdM9_1 (by go_cell) (by go_cell) (by go_cell) (by go_cell) (by go_cell) (by go_cell) (by go_cell) (by go_cell) (by go_cell)) (by go_size) (by simp)).mono ?_; rintro e w1 ⟨rfl, hb1⟩; obtain ⟨hc1, hf1⟩ := bcell hb1; have hz1 := hb1.size; (try simp only [World.size_alloc, World.size_setCell, World.size_drew] at hz1); (try (have hy1w0 : w.heap.size < w1.heap.size := by omega)); (try (have hy1w1 : w.heap.size + 1 < w1.heap.size := by omega)); (try (have hy1w2 : w.heap.size + 1 + 1 < w1.heap.size := by omega)); (try (have hy1w3 : w.heap.size + 1 + 1 + 1 < w1.heap.size := by omega)); (try (have hy1w4 : w.heap.size + 1 + 1 + 1 + 1 < w1.heap.size := by omega)))
    go_ret2
    exact ⟨_, by rw [hE.out]; try rfl, by rw [hE.out]; exact OwnA.nil _ _ _ _, by (repeat' (first | (with_reducible exact Below.refl _ _) | (with_reducible assumption) | (with_reducible refine Below.alloc ?_ ?_ _) | (with_reducible refine Below.drew ?_) | (with_reducible refine below_drewN ?_ _) | (with_reducible refine Below.setCell ?_ ?_ _) | (refine Below.step ?_ (by with_reducible assumption) ?_) | go_size))⟩
  · have hE : Hid (flR p ⟨m0, m1, m2, m3, m4, m5, m6, m7, m8⟩ = ((allP p).filter (fun a => decide (imL p ⟨m0, m1, m2, m3, m4, m5, m6, m7, m8⟩ a = a)), 0)) := by show _ = _; unfold flR; rw [hk]; rfl
    have HM := Lib.hid (mp1 hok).1
    obtain ⟨sm0, sm1, sm2, sm3, sm4, sm5, sm6, sm7, sm8⟩ := isMap_sm (mp1 hok).1
    replace sm0 : sm m0 := sm0; replace sm1 : sm m1 := sm1; replace sm2 : sm m2 := sm2; replace sm3 : sm m3 := sm3; replace sm4 : sm m4 := sm4; replace sm5 : sm m5 := sm5; replace sm6 : sm m6 := sm6; replace sm7 : sm m7 := sm7; replace sm8 : sm m8 := sm8
    have HP := Lib.hid hp; clear hp hok
    go_enter Try.func33, Try.ntmps33
    go_wp2_with (first | (go_at_call 53; refine (l02Code_any p _ _ _ [⟨m0, m1, m2, m3, m4, m5, m6, m7, m8⟩] _ (rdM9_1 (by go_cell) (by go_cell) (by go_cell) (by go_cell) (by go_cell) (by go_cell) (by go_cell) (by go_cell) (by go_cell)) (by go_size) (by simp)).mono ?_; rintro e w1 ⟨rfl, hb1⟩; obtain ⟨hc1, hf1⟩ := bcell hb1; have hz1 := hb1.size; (try simp only [World.size_alloc, World.size_setCell, World.size_drew] at hz1); (try (have hy1w0 : w.heap.size < w1.heap.size := by omega)); (try (have hy1w1 : w.heap.size + 1 < w1.heap.size := by omega)); (try (have hy1w2 : w.heap.size + 1 + 1 < w1.heap.size := by omega)); (try (have hy1w3 : w.heap.size + 1 + 1 + 1 < w1.heap.size := by omega)); (try (have hy1w4 : w.heap.size + 1 + 1 + 1 + 1 < w1.heap.size := by omega))) | (go_at_call 78; refine (l02Lines_any p m0 m1 m2 m3 m4 m5 m6 m7 m8 _ HM.out).mono ?_; rintro e w2 ⟨v2, rfl, hown2, hb2⟩; obtain ⟨hc2, hf2⟩ := bcell hb2; have hz2 := hb2.size; (try simp only [World.size_alloc, World.size_setCell, World.size_drew] at hz2); (try (have hy2w0 : w.heap.size < w2.heap.size := by omega)); (try (have hy2w1 : w.heap.size + 1 < w2.heap.size := by omega)); (try (have hy2w2 : w.heap.size + 1 + 1 < w2.heap.size := by omega)); (try (have hy2w3 : w.heap.size + 1 + 1 + 1 < w2.heap.size := by omega)); (try (have hy2w4 : w.heap.size + 1 + 1 + 1 + 1 < w2.heap.size := by omega)); (try (have hy2w10 : w1.heap.size < w2.heap.size := by omega)); (try (have hy2w11 : w1.heap.size + 1 < w2.heap.size := by omega)); (try (have hy2w12 : w1.heap.size + 1 + 1 < w2.heap.size := by omega)); (try (have hy2w13 : w1.heap.size + 1 + 1 + 1 < w2.heap.size := by omega)); (try (have hy2w14 : w1.heap.size + 1 + 1 + 1 + 1 < w2.heap.size := by omega))))
    go_ret2
    exact ⟨_, by rw [hE.out]; try rfl, by rw [hE.out]; exact hown2.base_le (by (try simp only [World.size_alloc] at *); omega), by (repeat' (first | (with_reducible exact Below.refl _ _) | (with_reducible assumption) | (with_reducible refine Below.alloc ?_ ?_ _) | (with_reducible refine Below.drew ?_) | (with_reducible refine below_drewN ?_ _) | (with_reducible refine Below.setCell ?_ ?_ _) | (refine Below.step ?_ (by with_reducible assumption) ?_) | go_size))⟩
end Go.Proofs.Ythlmodofgoelbaa
