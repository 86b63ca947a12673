/- OrderOfMap: what the functions return; no condition on the exported ones. -/
import Derived.Test.YthlmodofgoelbaaW30
import Derived.Test.YthlmodofgoelbaaP7
import Derived.Test.YthlmodofgoelbaaE9
import Derived.Deep.RegionWith
import Derived.StillTailTactics
namespace Go.Proofs.Ythlmodofgoelbaa
open Go.RowKit
set_option linter.unusedSimpArgs false
set_option linter.unusedVariables false
set_option maxRecDepth 100000

theorem M9_et (e : M9) : ∃ d0 d1 d2 d3 d4 d5 d6 d7 d8, e = ⟨d0, d1, d2, d3, d4, d5, d6, d7, d8⟩ := ⟨_, _, _, _, _, _, _, _, _, rfl⟩
/-- n is one less than the order of the map. -/
def OrdN (p : Int) (m : M9) (n : Nat) : Prop := n < 10604499373 ∧ pwM p m n = unM ∧ ∀ k, k < n → pwM p m k ≠ unM
theorem Box.set9 {E : Nat} {w : World} {b : Nat} {vs : List Int} (h : Box E w b vs) (hl : vs.length = 9) : ∃ u0 u1 u2 u3 u4 u5 u6 u7 u8, Box E w b [u0, u1, u2, u3, u4, u5, u6, u7, u8] := by
  match vs, hl with
  | [u0, u1, u2, u3, u4, u5, u6, u7, u8], _ => exact ⟨_, _, _, _, _, _, _, _, _, h⟩
set_option maxHeartbeats 400000 in
theorem unit_any (w : World) : Calls Try.prog 116 #[] w fun e w' => e = .returned (.agg #[.int .i64 1, .int .i64 0, .int .i64 0, .int .i64 0, .int .i64 1, .int .i64 0, .int .i64 0, .int .i64 0, .int .i64 1]) ∧ Below w.heap.size w w' := by
  go_enter Try.func116, Try.ntmps116
  go_wp2
  (try simp only [Exit.inBlock, Exit.then]); refine bodyPost_ret (by simp [results, Try.results116, go_sem, *]; try rfl) rfl ?_
  exact ⟨rfl, by (repeat' (first | (with_reducible exact Below.refl _ _) | (with_reducible assumption) | (with_reducible refine Below.alloc ?_ ?_ _) | (with_reducible refine Below.drew ?_) | (with_reducible refine below_drewN ?_ _) | (with_reducible refine Below.setCell ?_ ?_ _) | (refine Below.step ?_ (by with_reducible assumption) ?_) | go_size))⟩
set_option maxHeartbeats 400000 in
theorem l02Unit_any (w : World) : Calls Try.prog 68 #[] w fun e w' => e = .returned (.agg #[.int .i64 1, .int .i64 0, .int .i64 0, .int .i64 0, .int .i64 1, .int .i64 0, .int .i64 0, .int .i64 0, .int .i64 1]) ∧ Below w.heap.size w w' := by
  go_enter Try.func68, Try.ntmps68
  go_wp2
  (try simp only [Exit.inBlock, Exit.then]); refine bodyPost_ret (by simp [results, Try.results68, go_sem, *]; try rfl) rfl ?_
  exact ⟨rfl, by (repeat' (first | (with_reducible exact Below.refl _ _) | (with_reducible assumption) | (with_reducible refine Below.alloc ?_ ?_ _) | (with_reducible refine Below.drew ?_) | (with_reducible refine below_drewN ?_ _) | (with_reducible refine Below.setCell ?_ ?_ _) | (refine Below.step ?_ (by with_reducible assumption) ?_) | go_size))⟩
set_option maxHeartbeats 4000000 in
theorem order_any (p m0 m1 m2 m3 m4 m5 m6 m7 m8 : Int) (n : Nat) (w : World) (hm : isMap p ⟨m0, m1, m2, m3, m4, m5, m6, m7, m8⟩ = true) (hn : OrdN p ⟨m0, m1, m2, m3, m4, m5, m6, m7, m8⟩ n) :
    Calls Try.prog 69 #[.int .i64 p, .agg #[.int .i64 m0, .int .i64 m1, .int .i64 m2, .int .i64 m3, .int .i64 m4, .int .i64 m5, .int .i64 m6, .int .i64 m7, .int .i64 m8]] w fun e w' => e = .returned (.int .i64 ((n : Int) + 1)) ∧ Below w.heap.size w w' := by
  obtain ⟨hn1, hn2, hn3⟩ := hn
  have hp := isMap_pr hm
  obtain ⟨sm0, sm1, sm2, sm3, sm4, sm5, sm6, sm7, sm8⟩ := isMap_sm hm
  replace sm0 : sm m0 := sm0; replace sm1 : sm m1 := sm1; replace sm2 : sm m2 := sm2; replace sm3 : sm m3 := sm3; replace sm4 : sm m4 := sm4; replace sm5 : sm m5 := sm5; replace sm6 : sm m6 := sm6; replace sm7 : sm m7 := sm7; replace sm8 : sm m8 := sm8
  have hsx := fun k => isMap_sm (pwM_map hm k)
  have HT : Hid (∀ (k : Nat) (w' : World), Calls Try.prog 57 #[.int .i64 p, .agg #[.int .i64 (pwM p ⟨m0, m1, m2, m3, m4, m5, m6, m7, m8⟩ k).m0, .int .i64 (pwM p ⟨m0, m1, m2, m3, m4, m5, m6, m7, m8⟩ k).m1, .int .i64 (pwM p ⟨m0, m1, m2, m3, m4, m5, m6, m7, m8⟩ k).m2, .int .i64 (pwM p ⟨m0, m1, m2, m3, m4, m5, m6, m7, m8⟩ k).m3, .int .i64 (pwM p ⟨m0, m1, m2, m3, m4, m5, m6, m7, m8⟩ k).m4, .int .i64 (pwM p ⟨m0, m1, m2, m3, m4, m5, m6, m7, m8⟩ k).m5, .int .i64 (pwM p ⟨m0, m1, m2, m3, m4, m5, m6, m7, m8⟩ k).m6, .int .i64 (pwM p ⟨m0, m1, m2, m3, m4, m5, m6, m7, m8⟩ k).m7, .int .i64 (pwM p ⟨m0, m1, m2, m3, m4, m5, m6, m7, m8⟩ k).m8], .agg #[.int .i64 m0, .int .i64 m1, .int .i64 m2, .int .i64 m3, .int .i64 m4, .int .i64 m5, .int .i64 m6, .int .i64 m7, .int .i64 m8]] w' fun e w'' => e = .returned (.agg #[.int .i64 (pwM p ⟨m0, m1, m2, m3, m4, m5, m6, m7, m8⟩ (k + 1)).m0, .int .i64 (pwM p ⟨m0, m1, m2, m3, m4, m5, m6, m7, m8⟩ (k + 1)).m1, .int .i64 (pwM p ⟨m0, m1, m2, m3, m4, m5, m6, m7, m8⟩ (k + 1)).m2, .int .i64 (pwM p ⟨m0, m1, m2, m3, m4, m5, m6, m7, m8⟩ (k + 1)).m3, .int .i64 (pwM p ⟨m0, m1, m2, m3, m4, m5, m6, m7, m8⟩ (k + 1)).m4, .int .i64 (pwM p ⟨m0, m1, m2, m3, m4, m5, m6, m7, m8⟩ (k + 1)).m5, .int .i64 (pwM p ⟨m0, m1, m2, m3, m4, m5, m6, m7, m8⟩ (k + 1)).m6, .int .i64 (pwM p ⟨m0, m1, m2, m3, m4, m5, m6, m7, m8⟩ (k + 1)).m7, .int .i64 (pwM p ⟨m0, m1, m2, m3, m4, m5, m6, m7, m8⟩ (k + 1)).m8]) ∧ Below w'.heap.size w' w'') := fun k w' => by
    obtain ⟨s0, s1, s2, s3, s4, s5, s6, s7, s8⟩ := hsx k
    exact times_any p (pwM p ⟨m0, m1, m2, m3, m4, m5, m6, m7, m8⟩ k).m0 (pwM p ⟨m0, m1, m2, m3, m4, m5, m6, m7, m8⟩ k).m1 (pwM p ⟨m0, m1, m2, m3, m4, m5, m6, m7, m8⟩ k).m2 (pwM p ⟨m0, m1, m2, m3, m4, m5, m6, m7, m8⟩ k).m3 (pwM p ⟨m0, m1, m2, m3, m4, m5, m6, m7, m8⟩ k).m4 (pwM p ⟨m0, m1, m2, m3, m4, m5, m6, m7, m8⟩ k).m5 (pwM p ⟨m0, m1, m2, m3, m4, m5, m6, m7, m8⟩ k).m6 (pwM p ⟨m0, m1, m2, m3, m4, m5, m6, m7, m8⟩ k).m7 (pwM p ⟨m0, m1, m2, m3, m4, m5, m6, m7, m8⟩ k).m8 m0 m1 m2 m3 m4 m5 m6 m7 m8 w' hp s0 s1 s2 s3 s4 s5 s6 s7 s8 sm0 sm1 sm2 sm3 sm4 sm5 sm6 sm7 sm8
  have HU : Hid (∀ (k : Nat), k < n → ∀ w' : World, (binOp .neq 24 (.agg #[.int .i64 (pwM p ⟨m0, m1, m2, m3, m4, m5, m6, m7, m8⟩ k).m0, .int .i64 (pwM p ⟨m0, m1, m2, m3, m4, m5, m6, m7, m8⟩ k).m1, .int .i64 (pwM p ⟨m0, m1, m2, m3, m4, m5, m6, m7, m8⟩ k).m2, .int .i64 (pwM p ⟨m0, m1, m2, m3, m4, m5, m6, m7, m8⟩ k).m3, .int .i64 (pwM p ⟨m0, m1, m2, m3, m4, m5, m6, m7, m8⟩ k).m4, .int .i64 (pwM p ⟨m0, m1, m2, m3, m4, m5, m6, m7, m8⟩ k).m5, .int .i64 (pwM p ⟨m0, m1, m2, m3, m4, m5, m6, m7, m8⟩ k).m6, .int .i64 (pwM p ⟨m0, m1, m2, m3, m4, m5, m6, m7, m8⟩ k).m7, .int .i64 (pwM p ⟨m0, m1, m2, m3, m4, m5, m6, m7, m8⟩ k).m8]) (.agg #[.int .i64 1, .int .i64 0, .int .i64 0, .int .i64 0, .int .i64 1, .int .i64 0, .int .i64 0, .int .i64 0, .int .i64 1])).run Try.prog w' = .ok (.bool true) w') := fun k hk w' => by
    have := (eqM (pwM p ⟨m0, m1, m2, m3, m4, m5, m6, m7, m8⟩ k) unM w').2
    simp only [hn3 k hk, decide_false, Bool.not_false] at this
    exact this
  have HV : Hid (∀ w' : World, (binOp .neq 24 (.agg #[.int .i64 (pwM p ⟨m0, m1, m2, m3, m4, m5, m6, m7, m8⟩ n).m0, .int .i64 (pwM p ⟨m0, m1, m2, m3, m4, m5, m6, m7, m8⟩ n).m1, .int .i64 (pwM p ⟨m0, m1, m2, m3, m4, m5, m6, m7, m8⟩ n).m2, .int .i64 (pwM p ⟨m0, m1, m2, m3, m4, m5, m6, m7, m8⟩ n).m3, .int .i64 (pwM p ⟨m0, m1, m2, m3, m4, m5, m6, m7, m8⟩ n).m4, .int .i64 (pwM p ⟨m0, m1, m2, m3, m4, m5, m6, m7, m8⟩ n).m5, .int .i64 (pwM p ⟨m0, m1, m2, m3, m4, m5, m6, m7, m8⟩ n).m6, .int .i64 (pwM p ⟨m0, m1, m2, m3, m4, m5, m6, m7, m8⟩ n).m7, .int .i64 (pwM p ⟨m0, m1, m2, m3, m4, m5, m6, m7, m8⟩ n).m8]) (.agg #[.int .i64 1, .int .i64 0, .int .i64 0, .int .i64 0, .int .i64 1, .int .i64 0, .int .i64 0, .int .i64 0, .int .i64 1])).run Try.prog w' = .ok (.bool false) w') := fun w' => by
    have := (eqM (pwM p ⟨m0, m1, m2, m3, m4, m5, m6, m7, m8⟩ n) unM w').2
    simp only [hn2, decide_true, Bool.not_true] at this
    rw [hn2]
    exact this
  have hf0 : pwM p ⟨m0, m1, m2, m3, m4, m5, m6, m7, m8⟩ 0 = ⟨m0, m1, m2, m3, m4, m5, m6, m7, m8⟩ := rfl
  generalize pwM p ⟨m0, m1, m2, m3, m4, m5, m6, m7, m8⟩ = f at *
  have HF := Lib.hid hf0
  clear hf0 hsx hp hn2 hn3 sm0 sm1 sm2 sm3 sm4 sm5 sm6 sm7 sm8
  go_enter Try.func69, Try.ntmps69
  go_wp2
  go_loopw [5, 6] (fun v q wr => ∃ j g : Nat, j ≤ n ∧ v = .int .i64 ((j : Int) + 1) ∧ q = .pointer (some ⟨g, 0, none⟩) ∧ w.heap.size + 1 ≤ g ∧ Box 24 wr g [(f (j)).m0, (f (j)).m1, (f (j)).m2, (f (j)).m3, (f (j)).m4, (f (j)).m5, (f (j)).m6, (f (j)).m7, (f (j)).m8] ∧ Box 24 wr w.heap.size [m0, m1, m2, m3, m4, m5, m6, m7, m8] ∧ Below w.heap.size w wr) (fun v _ _ => n + 1 - (intOf v).toNat)
  case atStart => exact ⟨0, w.heap.size + 1, Nat.zero_le _, rfl, rfl, Nat.le_refl _, by rw [HF.out]; exact Box.new [m0, m1, m2, m3, m4, m5, m6, m7, m8] (by simp), Box.alloc (Box.new [m0, m1, m2, m3, m4, m5, m6, m7, m8] rfl) _, by (repeat' (first | (with_reducible exact Below.refl _ _) | (with_reducible assumption) | (with_reducible refine Below.alloc ?_ ?_ _) | (with_reducible refine Below.drew ?_) | (with_reducible refine below_drewN ?_ _) | (with_reducible refine Below.setCell ?_ ?_ _) | (refine Below.step ?_ (by with_reducible assumption) ?_) | go_size))⟩
  case round =>
    obtain ⟨j, g, hj, rfl, rfl, hgb, BN, BM, hC⟩ := hrel
    have hCz := hC.size
    have hgl := BN.lt
    have x0 := BN.cell 0 rfl; have x1 := BN.cell 1 rfl; have x2 := BN.cell 2 rfl; have x3 := BN.cell 3 rfl; have x4 := BN.cell 4 rfl; have x5 := BN.cell 5 rfl; have x6 := BN.cell 6 rfl; have x7 := BN.cell 7 rfl; have x8 := BN.cell 8 rfl
    have hsz : wr.heap.size ≤ wr.drew.heap.size := Nat.le_refl _
    have hw : IntKind.i64.wrap ((j : Int) + 1 + 1) = (j : Int) + 1 + 1 := by go_arith
    by_cases hjn : j = n
    · subst hjn
      have hq := HV.out
      go_wp2
      go_region_with (go_at_call 116; refine (unit_any _).mono ?_; rintro e w2 ⟨rfl, hb2⟩; have BN2 := Box.below hb2 (Box.drew BN); have BM2 := Box.below hb2 (Box.drew BM); have y0 := BN2.cell 0 rfl; have y1 := BN2.cell 1 rfl; have y2 := BN2.cell 2 rfl; have y3 := BN2.cell 3 rfl; have y4 := BN2.cell 4 rfl; have y5 := BN2.cell 5 rfl; have y6 := BN2.cell 6 rfl; have y7 := BN2.cell 7 rfl; have y8 := BN2.cell 8 rfl; have z0 := BM2.cell 0 rfl; have z1 := BM2.cell 1 rfl; have z2 := BM2.cell 2 rfl; have z3 := BM2.cell 3 rfl; have z4 := BM2.cell 4 rfl; have z5 := BM2.cell 5 rfl; have z6 := BM2.cell 6 rfl; have z7 := BM2.cell 7 rfl; have z8 := BM2.cell 8 rfl; have hz2 : wr.heap.size ≤ w2.heap.size := hb2.size; have hl2 := BM2.lt; have hl3 := BN2.lt)
      all_goals (go_wp2_with fail; go_returns; exact ⟨rfl, by (repeat' (first | (with_reducible exact Below.refl _ _) | (with_reducible assumption) | (with_reducible refine Below.alloc ?_ ?_ _) | (with_reducible refine Below.drew ?_) | (with_reducible refine below_drewN ?_ _) | (with_reducible refine Below.setCell ?_ ?_ _) | (refine Below.step ?_ (by with_reducible assumption) ?_) | go_size))⟩)
    · have hq := HU.out j (by omega)
      go_wp2
      go_region_with (go_at_call 116; refine (unit_any _).mono ?_; rintro e w2 ⟨rfl, hb2⟩; have BN2 := Box.below hb2 (Box.drew BN); have BM2 := Box.below hb2 (Box.drew BM); have y0 := BN2.cell 0 rfl; have y1 := BN2.cell 1 rfl; have y2 := BN2.cell 2 rfl; have y3 := BN2.cell 3 rfl; have y4 := BN2.cell 4 rfl; have y5 := BN2.cell 5 rfl; have y6 := BN2.cell 6 rfl; have y7 := BN2.cell 7 rfl; have y8 := BN2.cell 8 rfl; have z0 := BM2.cell 0 rfl; have z1 := BM2.cell 1 rfl; have z2 := BM2.cell 2 rfl; have z3 := BM2.cell 3 rfl; have z4 := BM2.cell 4 rfl; have z5 := BM2.cell 5 rfl; have z6 := BM2.cell 6 rfl; have z7 := BM2.cell 7 rfl; have z8 := BM2.cell 8 rfl; have hz2 : wr.heap.size ≤ w2.heap.size := hb2.size; have hl2 := BM2.lt; have hl3 := BN2.lt)
      all_goals (go_wp2_with (go_at_call 57; refine (HT.out j _).mono ?_; rintro e w3 ⟨rfl, hb3⟩; have BN3 : Box 24 w3 w2.heap.size [(f (j)).m0, (f (j)).m1, (f (j)).m2, (f (j)).m3, (f (j)).m4, (f (j)).m5, (f (j)).m6, (f (j)).m7, (f (j)).m8] := Box.below hb3 (Box.new [(f (j)).m0, (f (j)).m1, (f (j)).m2, (f (j)).m3, (f (j)).m4, (f (j)).m5, (f (j)).m6, (f (j)).m7, (f (j)).m8] rfl); have BM3 := Box.below hb3 (Box.alloc BM2 _); have u0 := BN3.cell 0 rfl; have uf0 := BN3.frz 0; have u1 := BN3.cell 1 rfl; have uf1 := BN3.frz 1; have u2 := BN3.cell 2 rfl; have uf2 := BN3.frz 2; have u3 := BN3.cell 3 rfl; have uf3 := BN3.frz 3; have u4 := BN3.cell 4 rfl; have uf4 := BN3.frz 4; have u5 := BN3.cell 5 rfl; have uf5 := BN3.frz 5; have u6 := BN3.cell 6 rfl; have uf6 := BN3.frz 6; have u7 := BN3.cell 7 rfl; have uf7 := BN3.frz 7; have u8 := BN3.cell 8 rfl; have uf8 := BN3.frz 8; have hz3 := hb3.size; simp only [World.size_alloc] at hz3))
      all_goals (go_roundw; rotate_left; (simp [intOf]; omega); exact ⟨j + 1, w2.heap.size, by omega, by go_num, rfl, by omega, Box.fill9 BN3, Box.far9 BM3 (by omega), by (repeat' (first | (with_reducible exact Below.refl _ _) | (with_reducible assumption) | (with_reducible refine Below.alloc ?_ ?_ _) | (with_reducible refine Below.drew ?_) | (with_reducible refine below_drewN ?_ _) | (with_reducible refine Below.setCell ?_ ?_ _) | (refine Below.step ?_ (by with_reducible assumption) ?_) | go_size))⟩)
def ordR (p : Int) (m : M9) (n : Nat) : Int × Int := if mpCode p [m] = 0 then ((n : Int) + 1, 0) else (0, mpCode p [m])
set_option maxHeartbeats 4000000 in
theorem OrderOfMap_any (p m0 m1 m2 m3 m4 m5 m6 m7 m8 : Int) (n : Nat) (w : World) (hn : mpCode p [⟨m0, m1, m2, m3, m4, m5, m6, m7, m8⟩] = 0 → OrdN p ⟨m0, m1, m2, m3, m4, m5, m6, m7, m8⟩ n) :
    Calls Try.prog 24 #[.int .i64 p, .agg #[.int .i64 m0, .int .i64 m1, .int .i64 m2, .int .i64 m3, .int .i64 m4, .int .i64 m5, .int .i64 m6, .int .i64 m7, .int .i64 m8]] w fun e w' => e = .returned (.tuple #[.int .i64 (ordR p ⟨m0, m1, m2, m3, m4, m5, m6, m7, m8⟩ n).1, .int .i64 (ordR p ⟨m0, m1, m2, m3, m4, m5, m6, m7, m8⟩ n).2]) ∧ Below w.heap.size w w' := by
  rcases mpCode3 p [⟨m0, m1, m2, m3, m4, m5, m6, m7, m8⟩] with hk | hk | ⟨hp, hok, hk⟩
  · have hE : Hid (ordR p ⟨m0, m1, m2, m3, m4, m5, m6, m7, m8⟩ n = (0, 2)) := by show _ = _; unfold ordR; rw [hk]; rfl
    clear hn
    go_enter Try.func24, Try.ntmps24
    go_wp2_with (go_at_call 56; refine (mapsCode_any p _ _ [⟨m0, m1, m2, m3, m4, m5, m6, m7, m8⟩] _ (rdM9_1 (by go_cell) (by go_cell) (by go_cell) (by go_cell) (by go_cell) (by go_cell) (by go_cell) (by go_cell) (by go_cell)) (by go_size) (by simp)).mono ?_; rintro e w1 ⟨rfl, hb1⟩; obtain ⟨hc1, hf1⟩ := bcell hb1; have hz1 := hb1.size; (try simp only [World.size_alloc, World.size_setCell, World.size_drew] at hz1); (try (have hy1w0 : w.heap.size < w1.heap.size := by omega)); (try (have hy1w1 : w.heap.size + 1 < w1.heap.size := by omega)); (try (have hy1w2 : w.heap.size + 1 + 1 < w1.heap.size := by omega)); (try (have hy1w3 : w.heap.size + 1 + 1 + 1 < w1.heap.size := by omega)); (try (have hy1w4 : w.heap.size + 1 + 1 + 1 + 1 < w1.heap.size := by omega)))
    go_returns
    exact ⟨by rw [hE.out]; try rfl, by (repeat' (first | (with_reducible exact Below.refl _ _) | (with_reducible assumption) | (with_reducible refine Below.alloc ?_ ?_ _) | (with_reducible refine Below.drew ?_) | (with_reducible refine below_drewN ?_ _) | (with_reducible refine Below.setCell ?_ ?_ _) | (refine Below.step ?_ (by with_reducible assumption) ?_) | go_size))⟩
  · have hE : Hid (ordR p ⟨m0, m1, m2, m3, m4, m5, m6, m7, m8⟩ n = (0, 1)) := by show _ = _; unfold ordR; rw [hk]; rfl
    clear hn
    go_enter Try.func24, Try.ntmps24
    go_wp2_with (go_at_call 56; refine (mapsCode_any p _ _ [⟨m0, m1, m2, m3, m4, m5, m6, m7, m8⟩] _ (rdM9_1 (by go_cell) (by go_cell) (by go_cell) (by go_cell) (by go_cell) (by go_cell) (by go_cell) (by go_cell) (by go_cell)) (by go_size) (by simp)).mono ?_; rintro e w1 ⟨rfl, hb1⟩; obtain ⟨hc1, hf1⟩ := bcell hb1; have hz1 := hb1.size; (try simp only [World.size_alloc, World.size_setCell, World.size_drew] at hz1); (try (have hy1w0 : w.heap.size < w1.heap.size := by omega)); (try (have hy1w1 : w.heap.size + 1 < w1.heap.size := by omega)); (try (have hy1w2 : w.heap.size + 1 + 1 < w1.heap.size := by omega)); (try (have hy1w3 : w.heap.size + 1 + 1 + 1 < w1.heap.size := by omega)); (try (have hy1w4 : w.heap.size + 1 + 1 + 1 + 1 < w1.heap.size := by omega)))
    go_returns
    exact ⟨by rw [hE.out]; try rfl, by (repeat' (first | (with_reducible exact Below.refl _ _) | (with_reducible assumption) | (with_reducible refine Below.alloc ?_ ?_ _) | (with_reducible refine Below.drew ?_) | (with_reducible refine below_drewN ?_ _) | (with_reducible refine Below.setCell ?_ ?_ _) | (refine Below.step ?_ (by with_reducible assumption) ?_) | go_size))⟩
  · have hE : Hid (ordR p ⟨m0, m1, m2, m3, m4, m5, m6, m7, m8⟩ n = ((n : Int) + 1, 0)) := by show _ = _; unfold ordR; rw [hk]; rfl
    have HM := Lib.hid (mp1 hok).1
    have HN := Lib.hid (hn hk)
    clear hn hp hok
    go_enter Try.func24, Try.ntmps24
    go_wp2_with (first | (go_at_call 56; refine (mapsCode_any p _ _ [⟨m0, m1, m2, m3, m4, m5, m6, m7, m8⟩] _ (rdM9_1 (by go_cell) (by go_cell) (by go_cell) (by go_cell) (by go_cell) (by go_cell) (by go_cell) (by go_cell) (by go_cell)) (by go_size) (by simp)).mono ?_; rintro e w1 ⟨rfl, hb1⟩; obtain ⟨hc1, hf1⟩ := bcell hb1; have hz1 := hb1.size; (try simp only [World.size_alloc, World.size_setCell, World.size_drew] at hz1); (try (have hy1w0 : w.heap.size < w1.heap.size := by omega)); (try (have hy1w1 : w.heap.size + 1 < w1.heap.size := by omega)); (try (have hy1w2 : w.heap.size + 1 + 1 < w1.heap.size := by omega)); (try (have hy1w3 : w.heap.size + 1 + 1 + 1 < w1.heap.size := by omega)); (try (have hy1w4 : w.heap.size + 1 + 1 + 1 + 1 < w1.heap.size := by omega))) | (go_at_call 69; refine (order_any p m0 m1 m2 m3 m4 m5 m6 m7 m8 n _ HM.out HN.out).mono ?_; rintro e w2 ⟨rfl, hb2⟩; obtain ⟨hc2, hf2⟩ := bcell hb2; have hz2 := hb2.size; (try simp only [World.size_alloc, World.size_setCell, World.size_drew] at hz2); (try (have hy2w0 : w.heap.size < w2.heap.size := by omega)); (try (have hy2w1 : w.heap.size + 1 < w2.heap.size := by omega)); (try (have hy2w2 : w.heap.size + 1 + 1 < w2.heap.size := by omega)); (try (have hy2w3 : w.heap.size + 1 + 1 + 1 < w2.heap.size := by omega)); (try (have hy2w4 : w.heap.size + 1 + 1 + 1 + 1 < w2.heap.size := by omega)); (try (have hy2w10 : w1.heap.size < w2.heap.size := by omega)); (try (have hy2w11 : w1.heap.size + 1 < w2.heap.size := by omega)); (try (have hy2w12 : w1.heap.size + 1 + 1 < w2.heap.size := by omega)); (try (have hy2w13 : w1.heap.size + 1 + 1 + 1 < w2.heap.size := by omega)); (try (have hy2w14 : w1.heap.size + 1 + 1 + 1 + 1 < w2.heap.size := by omega))))
    go_returns
    exact ⟨by rw [hE.out]; try rfl, by (repeat' (first | (with_reducible exact Below.refl _ _) | (with_reducible assumption) | (with_reducible refine Below.alloc ?_ ?_ _) | (with_reducible refine Below.drew ?_) | (with_reducible refine below_drewN ?_ _) | (with_reducible refine Below.setCell ?_ ?_ _) | (refine Below.step ?_ (by with_reducible assumption) ?_) | go_size))⟩
set_option maxHeartbeats 4000000 in
theorem OrderOfMap_spec (p m0 m1 m2 m3 m4 m5 m6 m7 m8 : Int) (n : Nat) (w : World) (hn : mpCode p [⟨m0, m1, m2, m3, m4, m5, m6, m7, m8⟩] = 0 → OrdN p ⟨m0, m1, m2, m3, m4, m5, m6, m7, m8⟩ n) :
    Calls Try.prog 23 #[.int .i64 p, .agg #[.int .i64 m0, .int .i64 m1, .int .i64 m2, .int .i64 m3, .int .i64 m4, .int .i64 m5, .int .i64 m6, .int .i64 m7, .int .i64 m8]] w fun e w' => e = .returned (.tuple #[.int .i64 (ordR p ⟨m0, m1, m2, m3, m4, m5, m6, m7, m8⟩ n).1, .int .i64 (ordR p ⟨m0, m1, m2, m3, m4, m5, m6, m7, m8⟩ n).2]) ∧ Below w.heap.size w w' := by
  rcases mpCode3 p [⟨m0, m1, m2, m3, m4, m5, m6, m7, m8⟩] with hk | hk | ⟨hp, hok, hk⟩
  · have hE : Hid (ordR p ⟨m0, m1, m2, m3, m4, m5, m6, m7, m8⟩ n = (0, 2)) := by show _ = _; unfold ordR; rw [hk]; rfl
    clear hn
    go_enter Try.func23, Try.ntmps23
    go_wp2_with (go_at_call 53; refine (l02Code_any p _ _ _ [⟨m0, m1, m2, m3, m4, m5, m6, m7, m8⟩] _ (rdM9_1 (by go_cell) (by go_cell) (by go_cell) (by go_cell) (by go_cell) (by go_cell) (by go_cell) (by go_cell) (by go_cell)) (by go_size) (by simp)).mono ?_; rintro e w1 ⟨rfl, hb1⟩; obtain ⟨hc1, hf1⟩ := bcell hb1; have hz1 := hb1.size; (try simp only [World.size_alloc, World.size_setCell, World.size_drew] at hz1); (try (have hy1w0 : w.heap.size < w1.heap.size := by omega)); (try (have hy1w1 : w.heap.size + 1 < w1.heap.size := by omega)); (try (have hy1w2 : w.heap.size + 1 + 1 < w1.heap.size := by omega)); (try (have hy1w3 : w.heap.size + 1 + 1 + 1 < w1.heap.size := by omega)); (try (have hy1w4 : w.heap.size + 1 + 1 + 1 + 1 < w1.heap.size := by omega)))
    go_returns
    exact ⟨by rw [hE.out]; try rfl, by (repeat' (first | (with_reducible exact Below.refl _ _) | (with_reducible assumption) | (with_reducible refine Below.alloc ?_ ?_ _) | (with_reducible refine Below.drew ?_) | (with_reducible refine below_drewN ?_ _) | (with_reducible refine Below.setCell ?_ ?_ _) | (refine Below.step ?_ (by with_reducible assumption) ?_) | go_size))⟩
  · have hE : Hid (ordR p ⟨m0, m1, m2, m3, m4, m5, m6, m7, m8⟩ n = (0, 1)) := by show _ = _; unfold ordR; rw [hk]; rfl
    clear hn
    go_enter Try.func23, Try.ntmps23
    go_wp2_with (go_at_call 53; refine (l02Code_any p _ _ _ [⟨m0, m1, m2, m3, m4, m5, m6, m7, m8⟩] _ (rdM9_1 (by go_cell) (by go_cell) (by go_cell) (by go_cell) (by go_cell) (by go_cell) (by go_cell) (by go_cell) (by go_cell)) (by go_size) (by simp)).mono ?_; rintro e w1 ⟨rfl, hb1⟩; obtain ⟨hc1, hf1⟩ := bcell hb1; have hz1 := hb1.size; (try simp only [World.size_alloc, World.size_setCell, World.size_drew] at hz1); (try (have hy1w0 : w.heap.size < w1.heap.size := by omega)); (try (have hy1w1 : w.heap.size + 1 < w1.heap.size := by omega)); (try (have hy1w2 : w.heap.size + 1 + 1 < w1.heap.size := by omega)); (try (have hy1w3 : w.heap.size + 1 + 1 + 1 < w1.heap.size := by omega)); (try (have hy1w4 : w.heap.size + 1 + 1 + 1 + 1 < w1.heap.size := by omega)))
    go_returns
    exact ⟨by rw [hE.out]; try rfl, by (repeat' (first | (with_reducible exact Below.refl _ _) | (with_reducible assumption) | (with_reducible refine Below.alloc ?_ ?_ _) | (with_reducible refine Below.drew ?_) | (with_reducible refine below_drewN ?_ _) | (with_reducible refine Below.setCell ?_ ?_ _) | (refine Below.step ?_ (by with_reducible assumption) ?_) | go_size))⟩
  · have hE : Hid (ordR p ⟨m0, m1, m2, m3, m4, m5, m6, m7, m8⟩ n = ((n : Int) + 1, 0)) := by show _ = _; unfold ordR; rw [hk]; rfl
    have hm := (mp1 hok).1
    obtain ⟨hn1, hn2, hn3⟩ := hn hk
    clear hok
    generalize ordR p ⟨m0, m1, m2, m3, m4, m5, m6, m7, m8⟩ n = R at *
    have hp := isMap_pr hm
    obtain ⟨sm0, sm1, sm2, sm3, sm4, sm5, sm6, sm7, sm8⟩ := isMap_sm hm
    replace sm0 : sm m0 := sm0; replace sm1 : sm m1 := sm1; replace sm2 : sm m2 := sm2; replace sm3 : sm m3 := sm3; replace sm4 : sm m4 := sm4; replace sm5 : sm m5 := sm5; replace sm6 : sm m6 := sm6; replace sm7 : sm m7 := sm7; replace sm8 : sm m8 := sm8
    have hsx := fun k => isMap_sm (pwM_map hm k)
    have HT : Hid (∀ (k : Nat) (w' : World), Calls Try.prog 54 #[.int .i64 p, .agg #[.int .i64 (pwM p ⟨m0, m1, m2, m3, m4, m5, m6, m7, m8⟩ k).m0, .int .i64 (pwM p ⟨m0, m1, m2, m3, m4, m5, m6, m7, m8⟩ k).m1, .int .i64 (pwM p ⟨m0, m1, m2, m3, m4, m5, m6, m7, m8⟩ k).m2, .int .i64 (pwM p ⟨m0, m1, m2, m3, m4, m5, m6, m7, m8⟩ k).m3, .int .i64 (pwM p ⟨m0, m1, m2, m3, m4, m5, m6, m7, m8⟩ k).m4, .int .i64 (pwM p ⟨m0, m1, m2, m3, m4, m5, m6, m7, m8⟩ k).m5, .int .i64 (pwM p ⟨m0, m1, m2, m3, m4, m5, m6, m7, m8⟩ k).m6, .int .i64 (pwM p ⟨m0, m1, m2, m3, m4, m5, m6, m7, m8⟩ k).m7, .int .i64 (pwM p ⟨m0, m1, m2, m3, m4, m5, m6, m7, m8⟩ k).m8], .agg #[.int .i64 m0, .int .i64 m1, .int .i64 m2, .int .i64 m3, .int .i64 m4, .int .i64 m5, .int .i64 m6, .int .i64 m7, .int .i64 m8]] w' fun e w'' => e = .returned (.agg #[.int .i64 (pwM p ⟨m0, m1, m2, m3, m4, m5, m6, m7, m8⟩ (k + 1)).m0, .int .i64 (pwM p ⟨m0, m1, m2, m3, m4, m5, m6, m7, m8⟩ (k + 1)).m1, .int .i64 (pwM p ⟨m0, m1, m2, m3, m4, m5, m6, m7, m8⟩ (k + 1)).m2, .int .i64 (pwM p ⟨m0, m1, m2, m3, m4, m5, m6, m7, m8⟩ (k + 1)).m3, .int .i64 (pwM p ⟨m0, m1, m2, m3, m4, m5, m6, m7, m8⟩ (k + 1)).m4, .int .i64 (pwM p ⟨m0, m1, m2, m3, m4, m5, m6, m7, m8⟩ (k + 1)).m5, .int .i64 (pwM p ⟨m0, m1, m2, m3, m4, m5, m6, m7, m8⟩ (k + 1)).m6, .int .i64 (pwM p ⟨m0, m1, m2, m3, m4, m5, m6, m7, m8⟩ (k + 1)).m7, .int .i64 (pwM p ⟨m0, m1, m2, m3, m4, m5, m6, m7, m8⟩ (k + 1)).m8]) ∧ Below w'.heap.size w' w'') := fun k w' => by
      obtain ⟨s0, s1, s2, s3, s4, s5, s6, s7, s8⟩ := hsx k
      exact l02Times_any p (pwM p ⟨m0, m1, m2, m3, m4, m5, m6, m7, m8⟩ k).m0 (pwM p ⟨m0, m1, m2, m3, m4, m5, m6, m7, m8⟩ k).m1 (pwM p ⟨m0, m1, m2, m3, m4, m5, m6, m7, m8⟩ k).m2 (pwM p ⟨m0, m1, m2, m3, m4, m5, m6, m7, m8⟩ k).m3 (pwM p ⟨m0, m1, m2, m3, m4, m5, m6, m7, m8⟩ k).m4 (pwM p ⟨m0, m1, m2, m3, m4, m5, m6, m7, m8⟩ k).m5 (pwM p ⟨m0, m1, m2, m3, m4, m5, m6, m7, m8⟩ k).m6 (pwM p ⟨m0, m1, m2, m3, m4, m5, m6, m7, m8⟩ k).m7 (pwM p ⟨m0, m1, m2, m3, m4, m5, m6, m7, m8⟩ k).m8 m0 m1 m2 m3 m4 m5 m6 m7 m8 w' hp s0 s1 s2 s3 s4 s5 s6 s7 s8 sm0 sm1 sm2 sm3 sm4 sm5 sm6 sm7 sm8
    have HU : Hid (∀ (k : Nat), k < n → ∀ w' : World, (binOp .neq 24 (.agg #[.int .i64 (pwM p ⟨m0, m1, m2, m3, m4, m5, m6, m7, m8⟩ k).m0, .int .i64 (pwM p ⟨m0, m1, m2, m3, m4, m5, m6, m7, m8⟩ k).m1, .int .i64 (pwM p ⟨m0, m1, m2, m3, m4, m5, m6, m7, m8⟩ k).m2, .int .i64 (pwM p ⟨m0, m1, m2, m3, m4, m5, m6, m7, m8⟩ k).m3, .int .i64 (pwM p ⟨m0, m1, m2, m3, m4, m5, m6, m7, m8⟩ k).m4, .int .i64 (pwM p ⟨m0, m1, m2, m3, m4, m5, m6, m7, m8⟩ k).m5, .int .i64 (pwM p ⟨m0, m1, m2, m3, m4, m5, m6, m7, m8⟩ k).m6, .int .i64 (pwM p ⟨m0, m1, m2, m3, m4, m5, m6, m7, m8⟩ k).m7, .int .i64 (pwM p ⟨m0, m1, m2, m3, m4, m5, m6, m7, m8⟩ k).m8]) (.agg #[.int .i64 1, .int .i64 0, .int .i64 0, .int .i64 0, .int .i64 1, .int .i64 0, .int .i64 0, .int .i64 0, .int .i64 1])).run Try.prog w' = .ok (.bool true) w') := fun k hk w' => by
      have := (eqM (pwM p ⟨m0, m1, m2, m3, m4, m5, m6, m7, m8⟩ k) unM w').2
      simp only [hn3 k hk, decide_false, Bool.not_false] at this
      exact this
    have HV : Hid (∀ w' : World, (binOp .neq 24 (.agg #[.int .i64 (pwM p ⟨m0, m1, m2, m3, m4, m5, m6, m7, m8⟩ n).m0, .int .i64 (pwM p ⟨m0, m1, m2, m3, m4, m5, m6, m7, m8⟩ n).m1, .int .i64 (pwM p ⟨m0, m1, m2, m3, m4, m5, m6, m7, m8⟩ n).m2, .int .i64 (pwM p ⟨m0, m1, m2, m3, m4, m5, m6, m7, m8⟩ n).m3, .int .i64 (pwM p ⟨m0, m1, m2, m3, m4, m5, m6, m7, m8⟩ n).m4, .int .i64 (pwM p ⟨m0, m1, m2, m3, m4, m5, m6, m7, m8⟩ n).m5, .int .i64 (pwM p ⟨m0, m1, m2, m3, m4, m5, m6, m7, m8⟩ n).m6, .int .i64 (pwM p ⟨m0, m1, m2, m3, m4, m5, m6, m7, m8⟩ n).m7, .int .i64 (pwM p ⟨m0, m1, m2, m3, m4, m5, m6, m7, m8⟩ n).m8]) (.agg #[.int .i64 1, .int .i64 0, .int .i64 0, .int .i64 0, .int .i64 1, .int .i64 0, .int .i64 0, .int .i64 0, .int .i64 1])).run Try.prog w' = .ok (.bool false) w') := fun w' => by
      have := (eqM (pwM p ⟨m0, m1, m2, m3, m4, m5, m6, m7, m8⟩ n) unM w').2
      simp only [hn2, decide_true, Bool.not_true] at this
      rw [hn2]
      exact this
    have hf0 : pwM p ⟨m0, m1, m2, m3, m4, m5, m6, m7, m8⟩ 0 = ⟨m0, m1, m2, m3, m4, m5, m6, m7, m8⟩ := rfl
    generalize pwM p ⟨m0, m1, m2, m3, m4, m5, m6, m7, m8⟩ = f at *
    have HF := Lib.hid hf0
    clear hf0 hsx hp hn2 hn3 sm0 sm1 sm2 sm3 sm4 sm5 sm6 sm7 sm8
    clear hn
    go_enter Try.func23, Try.ntmps23
    go_wp2_with ((go_at_call 53; refine (l02Code_any p _ _ _ [⟨m0, m1, m2, m3, m4, m5, m6, m7, m8⟩] _ (rdM9_1 (by go_cell) (by go_cell) (by go_cell) (by go_cell) (by go_cell) (by go_cell) (by go_cell) (by go_cell) (by go_cell)) (by go_size) (by simp)).mono ?_; rintro e w1 ⟨rfl, hb1⟩; obtain ⟨hc1, hf1⟩ := bcell hb1; have hz1 := hb1.size; (try simp only [World.size_alloc, World.size_setCell, World.size_drew] at hz1); (try (have hy1w0 : w.heap.size < w1.heap.size := by omega)); (try (have hy1w1 : w.heap.size + 1 < w1.heap.size := by omega)); (try (have hy1w2 : w.heap.size + 1 + 1 < w1.heap.size := by omega)); (try (have hy1w3 : w.heap.size + 1 + 1 + 1 < w1.heap.size := by omega)); (try (have hy1w4 : w.heap.size + 1 + 1 + 1 + 1 < w1.heap.size := by omega))); have BM1 : Box 24 w1 w.heap.size [m0, m1, m2, m3, m4, m5, m6, m7, m8] := Box.below hb1 (Box.alloc (Box.new [m0, m1, m2, m3, m4, m5, m6, m7, m8] rfl) _); have z0 := BM1.cell 0 rfl; have z1 := BM1.cell 1 rfl; have z2 := BM1.cell 2 rfl; have z3 := BM1.cell 3 rfl; have z4 := BM1.cell 4 rfl; have z5 := BM1.cell 5 rfl; have z6 := BM1.cell 6 rfl; have z7 := BM1.cell 7 rfl; have z8 := BM1.cell 8 rfl; have hl1 := BM1.lt)
    have hB1 : Below w.heap.size w w1 := by (repeat' (first | (with_reducible exact Below.refl _ _) | (with_reducible assumption) | (with_reducible refine Below.alloc ?_ ?_ _) | (with_reducible refine Below.drew ?_) | (with_reducible refine below_drewN ?_ _) | (with_reducible refine Below.setCell ?_ ?_ _) | (refine Below.step ?_ (by with_reducible assumption) ?_) | go_size))
    go_loopw [8] (fun v wr => ∃ j : Nat, j ≤ n ∧ v = .int .i64 ((j : Int) + 1) ∧ Box 24 wr w1.heap.size [(f (j)).m0, (f (j)).m1, (f (j)).m2, (f (j)).m3, (f (j)).m4, (f (j)).m5, (f (j)).m6, (f (j)).m7, (f (j)).m8] ∧ Box 24 wr w.heap.size [m0, m1, m2, m3, m4, m5, m6, m7, m8] ∧ Below w.heap.size w wr) (fun v _ => n + 1 - (intOf v).toNat)
    case atStart => exact ⟨0, Nat.zero_le _, rfl, by rw [HF.out]; exact Box.new [m0, m1, m2, m3, m4, m5, m6, m7, m8] rfl, Box.alloc BM1 _, by (repeat' (first | (with_reducible exact Below.refl _ _) | (with_reducible assumption) | (with_reducible refine Below.alloc ?_ ?_ _) | (with_reducible refine Below.drew ?_) | (with_reducible refine below_drewN ?_ _) | (with_reducible refine Below.setCell ?_ ?_ _) | (refine Below.step ?_ (by with_reducible assumption) ?_) | go_size))⟩
    case round =>
      obtain ⟨j, hj, rfl, BN, BM, hC⟩ := hrel
      have hCz := hC.size
      have hgl := BN.lt
      have x0 := BN.cell 0 rfl; have x1 := BN.cell 1 rfl; have x2 := BN.cell 2 rfl; have x3 := BN.cell 3 rfl; have x4 := BN.cell 4 rfl; have x5 := BN.cell 5 rfl; have x6 := BN.cell 6 rfl; have x7 := BN.cell 7 rfl; have x8 := BN.cell 8 rfl
      have hw : IntKind.i64.wrap ((j : Int) + 1 + 1) = (j : Int) + 1 + 1 := by go_arith
      by_cases hjn : j = n
      · subst hjn
        have hq := HV.out
        go_wp2
        go_region_with (go_at_call 68; refine (l02Unit_any _).mono ?_; rintro e w2 ⟨rfl, hb2⟩; have BN2 := Box.below hb2 (Box.drew BN); have BM2 := Box.below hb2 (Box.drew BM); have y0 := BN2.cell 0 rfl; have y1 := BN2.cell 1 rfl; have y2 := BN2.cell 2 rfl; have y3 := BN2.cell 3 rfl; have y4 := BN2.cell 4 rfl; have y5 := BN2.cell 5 rfl; have y6 := BN2.cell 6 rfl; have y7 := BN2.cell 7 rfl; have y8 := BN2.cell 8 rfl; have z0 := BM2.cell 0 rfl; have z1 := BM2.cell 1 rfl; have z2 := BM2.cell 2 rfl; have z3 := BM2.cell 3 rfl; have z4 := BM2.cell 4 rfl; have z5 := BM2.cell 5 rfl; have z6 := BM2.cell 6 rfl; have z7 := BM2.cell 7 rfl; have z8 := BM2.cell 8 rfl; have hz2 : wr.heap.size ≤ w2.heap.size := hb2.size; have hl2 := BM2.lt; have hl3 := BN2.lt)
        all_goals (go_wp2_with fail; go_returns; exact ⟨by rw [hE.out]; try rfl, by (repeat' (first | (with_reducible exact Below.refl _ _) | (with_reducible assumption) | (with_reducible refine Below.alloc ?_ ?_ _) | (with_reducible refine Below.drew ?_) | (with_reducible refine below_drewN ?_ _) | (with_reducible refine Below.setCell ?_ ?_ _) | (refine Below.step ?_ (by with_reducible assumption) ?_) | go_size))⟩)
      · have hq := HU.out j (by omega)
        go_wp2
        go_region_with (go_at_call 68; refine (l02Unit_any _).mono ?_; rintro e w2 ⟨rfl, hb2⟩; have BN2 := Box.below hb2 (Box.drew BN); have BM2 := Box.below hb2 (Box.drew BM); have y0 := BN2.cell 0 rfl; have y1 := BN2.cell 1 rfl; have y2 := BN2.cell 2 rfl; have y3 := BN2.cell 3 rfl; have y4 := BN2.cell 4 rfl; have y5 := BN2.cell 5 rfl; have y6 := BN2.cell 6 rfl; have y7 := BN2.cell 7 rfl; have y8 := BN2.cell 8 rfl; have z0 := BM2.cell 0 rfl; have z1 := BM2.cell 1 rfl; have z2 := BM2.cell 2 rfl; have z3 := BM2.cell 3 rfl; have z4 := BM2.cell 4 rfl; have z5 := BM2.cell 5 rfl; have z6 := BM2.cell 6 rfl; have z7 := BM2.cell 7 rfl; have z8 := BM2.cell 8 rfl; have hz2 : wr.heap.size ≤ w2.heap.size := hb2.size; have hl2 := BM2.lt; have hl3 := BN2.lt)
        all_goals (go_wp2_with (go_at_call 54; refine (HT.out j _).mono ?_; rintro e w3 ⟨rfl, hb3⟩; have BN3 := Box.below hb3 BN2; have BM3 := Box.below hb3 BM2; have u0 := BN3.cell 0 rfl; have uf0 := BN3.frz 0; have u1 := BN3.cell 1 rfl; have uf1 := BN3.frz 1; have u2 := BN3.cell 2 rfl; have uf2 := BN3.frz 2; have u3 := BN3.cell 3 rfl; have uf3 := BN3.frz 3; have u4 := BN3.cell 4 rfl; have uf4 := BN3.frz 4; have u5 := BN3.cell 5 rfl; have uf5 := BN3.frz 5; have u6 := BN3.cell 6 rfl; have uf6 := BN3.frz 6; have u7 := BN3.cell 7 rfl; have uf7 := BN3.frz 7; have u8 := BN3.cell 8 rfl; have uf8 := BN3.frz 8; have hz3 : w2.heap.size ≤ w3.heap.size := hb3.size; have hg3 := BN3.lt))
        all_goals (go_roundw; rotate_left; (simp [intOf]; omega); exact ⟨j + 1, by omega, by go_num, Box.fill9 BN3, Box.far9 BM3 (by omega), by (repeat' (first | (with_reducible exact Below.refl _ _) | (with_reducible assumption) | (with_reducible refine Below.alloc ?_ ?_ _) | (with_reducible refine Below.drew ?_) | (with_reducible refine below_drewN ?_ _) | (with_reducible refine Below.setCell ?_ ?_ _) | (refine Below.step ?_ (by with_reducible assumption) ?_) | go_size))⟩)
end Go.Proofs.Ythlmodofgoelbaa
