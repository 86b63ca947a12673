/- Orbits of points under maps, in the program and in the reference; p is a prime. -/
import Derived.Test.YthlmodofgoelbaaW12
import Derived.Test.YthlmodofgoelbaaW32
import Derived.Test.YthlmodofgoelbaaW33
import Derived.Test.YthlmodofgoelbaaP7
import Derived.Test.YthlmodofgoelbaaE2
namespace Go.Proofs.Ythlmodofgoelbaa
open Go.RowKit
set_option linter.unusedSimpArgs false
set_option linter.unusedVariables false
set_option maxRecDepth 100000

/-- The first images of a point. -/
def orbL (p : Int) (m : M9) (a : P3) (k : Nat) : List P3 := (List.range k).map fun i => itr (imM p m) i a
/-- n images ahead of the one that is the point again. -/
def OrbN (p : Int) (m : M9) (a : P3) (n : Nat) : Prop := n < 2197 ∧ itr (imM p m) (n + 1) a = a ∧ ∀ k, k < n → itr (imM p m) (k + 1) a ≠ a
theorem orbL_succ (p : Int) (m : M9) (a : P3) (k : Nat) : orbL p m a (k + 1) = orbL p m a k ++ [itr (imM p m) k a] := by simp [orbL, List.range_succ]
theorem orbL_len (p : Int) (m : M9) (a : P3) (k : Nat) : (orbL p m a k).length = k := by simp [orbL]
def slen : Value → Nat
  | .slice _ n _ => n
  | _ => 0
theorem OwnA.slen {E n : Nat} {w : World} {base : Nat} {v : Value} {rows : List (List Int)} (h : OwnA E n w base v rows) (hne : rows ≠ []) : slen v = rows.length := by
  obtain ⟨g, cap, rfl, _⟩ := h.shape hne
  rfl
theorem OwnA.ne_new {E n : Nat} {w : World} {base : Nat} {v : Value} {rows : List (List Int)} (h : OwnA E n w base v rows) : v.ownBlock ≠ some w.heap.size := by
  intro e
  have := (h.2.lt _ e).2
  omega
theorem OwnA.ne_low {E n b : Nat} {w : World} {base : Nat} {v : Value} {rows : List (List Int)} (h : OwnA E n w base v rows) (hb : b < base) : v.ownBlock ≠ some b := by
  intro e
  have := (h.2.lt _ e).1
  omega
theorem OwnA.lit1 {E : Nat} {w : World} {b base : Nat} {x y z : Int} (hb : b = w.heap.size) (hl : base ≤ w.heap.size) : OwnA E 3 (w.alloc (.cells #[.int .i64 x, .int .i64 y, .int .i64 z] E)) base (.slice (some ⟨b, 0, none⟩) 1 1) [[x, y, z]] := by
  subst hb
  exact OwnA.lit (n := 3) E w [[x, y, z]] base (by simp) hl (by simp [maxLen])
theorem stored3_grw (w : World) (g : Nat) (j0 j1 j2 : Nat) (u0 u1 u2 : Value) : w.grownBy (((w.setCell ⟨g, j0, none⟩ u0).setCell ⟨g, j1, none⟩ u1).setCell ⟨g, j2, none⟩ u2) (some g) :=
  ⟨rfl, rfl, rfl, by simp, fun k _ hk => by
    have hne : k ≠ g := by intro e; exact hk (by rw [e])
    rw [Below.heap_setCell _ _ _ _ hne, Below.heap_setCell _ _ _ _ hne, Below.heap_setCell _ _ _ _ hne]⟩
def notB (d : P3 → Bool) : P3 → Bool := fun a => !d a
def DelPost (E : Nat) (d : P3 → Bool) (ps : List P3) (base g : Nat) (w : World) (e : Ending) (w' : World) : Prop :=
  ∃ v', e = .returned v' ∧ OwnA E 3 w' base v' (rowsP (ps.filter (notB d))) ∧ w.grownBy w' (some g)
theorem Box.grownN {E : Nat} {w w' : World} {b : Nat} {vs : List Int} {v : Value} (h : Box E w b vs) (hne : v.ownBlock ≠ some b) (hg : w.grownBy w' v.ownBlock) : Box E w' b vs := by
  have hlt := h.lt
  unfold Box at *
  rw [hg.block b hlt (fun e => hne e.symm)]
  exact h
set_option maxHeartbeats 4000000 in
theorem orbit_any (p m0 m1 m2 m3 m4 m5 m6 m7 m8 a0 a1 a2 : Int) (n : Nat) (w : World) (hm : isMap p ⟨m0, m1, m2, m3, m4, m5, m6, m7, m8⟩ = true) (ha : isPt p ⟨a0, a1, a2⟩ = true) (hn : OrbN p ⟨m0, m1, m2, m3, m4, m5, m6, m7, m8⟩ ⟨a0, a1, a2⟩ n) :
    Calls Try.prog 73 #[.int .i64 p, .agg #[.int .i64 m0, .int .i64 m1, .int .i64 m2, .int .i64 m3, .int .i64 m4, .int .i64 m5, .int .i64 m6, .int .i64 m7, .int .i64 m8], .agg #[.int .i64 a0, .int .i64 a1, .int .i64 a2]] w (PtsPost 43 (orbL p ⟨m0, m1, m2, m3, m4, m5, m6, m7, m8⟩ ⟨a0, a1, a2⟩ (n + 1)) w) := by
  obtain ⟨hn1, hn2, hn3⟩ := hn
  have hp := isMap_pr hm
  obtain ⟨sm0, sm1, sm2, sm3, sm4, sm5, sm6, sm7, sm8⟩ := isMap_sm hm
  replace sm0 : sm m0 := sm0; replace sm1 : sm m1 := sm1; replace sm2 : sm m2 := sm2; replace sm3 : sm m3 := sm3; replace sm4 : sm m4 := sm4; replace sm5 : sm m5 := sm5; replace sm6 : sm m6 := sm6; replace sm7 : sm m7 := sm7; replace sm8 : sm m8 := sm8
  have hsx := fun k => isPt_sm (orb_pt hm ha k)
  have HI : Hid (∀ (k : Nat) (w' : World), Calls Try.prog 77 #[.int .i64 p, .agg #[.int .i64 m0, .int .i64 m1, .int .i64 m2, .int .i64 m3, .int .i64 m4, .int .i64 m5, .int .i64 m6, .int .i64 m7, .int .i64 m8], .agg #[.int .i64 (itr (imM p ⟨m0, m1, m2, m3, m4, m5, m6, m7, m8⟩) k ⟨a0, a1, a2⟩).x, .int .i64 (itr (imM p ⟨m0, m1, m2, m3, m4, m5, m6, m7, m8⟩) k ⟨a0, a1, a2⟩).y, .int .i64 (itr (imM p ⟨m0, m1, m2, m3, m4, m5, m6, m7, m8⟩) k ⟨a0, a1, a2⟩).z]] w' fun e w'' => e = .returned (.agg #[.int .i64 (itr (imM p ⟨m0, m1, m2, m3, m4, m5, m6, m7, m8⟩) (k + 1) ⟨a0, a1, a2⟩).x, .int .i64 (itr (imM p ⟨m0, m1, m2, m3, m4, m5, m6, m7, m8⟩) (k + 1) ⟨a0, a1, a2⟩).y, .int .i64 (itr (imM p ⟨m0, m1, m2, m3, m4, m5, m6, m7, m8⟩) (k + 1) ⟨a0, a1, a2⟩).z]) ∧ Below w'.heap.size w' w'') := fun k w' => by
    obtain ⟨s0, s1, s2⟩ := hsx k
    exact image_any p m0 m1 m2 m3 m4 m5 m6 m7 m8 (itr (imM p ⟨m0, m1, m2, m3, m4, m5, m6, m7, m8⟩) k ⟨a0, a1, a2⟩).x (itr (imM p ⟨m0, m1, m2, m3, m4, m5, m6, m7, m8⟩) k ⟨a0, a1, a2⟩).y (itr (imM p ⟨m0, m1, m2, m3, m4, m5, m6, m7, m8⟩) k ⟨a0, a1, a2⟩).z w' hp sm0 sm1 sm2 sm3 sm4 sm5 sm6 sm7 sm8 s0 s1 s2
  have HI0 : Hid (∀ (w' : World), Calls Try.prog 77 #[.int .i64 p, .agg #[.int .i64 m0, .int .i64 m1, .int .i64 m2, .int .i64 m3, .int .i64 m4, .int .i64 m5, .int .i64 m6, .int .i64 m7, .int .i64 m8], .agg #[.int .i64 a0, .int .i64 a1, .int .i64 a2]] w' fun e w'' => e = .returned (.agg #[.int .i64 (itr (imM p ⟨m0, m1, m2, m3, m4, m5, m6, m7, m8⟩) (0 + 1) ⟨a0, a1, a2⟩).x, .int .i64 (itr (imM p ⟨m0, m1, m2, m3, m4, m5, m6, m7, m8⟩) (0 + 1) ⟨a0, a1, a2⟩).y, .int .i64 (itr (imM p ⟨m0, m1, m2, m3, m4, m5, m6, m7, m8⟩) (0 + 1) ⟨a0, a1, a2⟩).z]) ∧ Below w'.heap.size w' w'') := fun w' => HI.out 0 w'
  have HU : Hid (∀ (k : Nat), k < n → ∀ w' : World, (binOp .neq 43 (.agg #[.int .i64 (itr (imM p ⟨m0, m1, m2, m3, m4, m5, m6, m7, m8⟩) (k + 1) ⟨a0, a1, a2⟩).x, .int .i64 (itr (imM p ⟨m0, m1, m2, m3, m4, m5, m6, m7, m8⟩) (k + 1) ⟨a0, a1, a2⟩).y, .int .i64 (itr (imM p ⟨m0, m1, m2, m3, m4, m5, m6, m7, m8⟩) (k + 1) ⟨a0, a1, a2⟩).z]) (.agg #[.int .i64 a0, .int .i64 a1, .int .i64 a2])).run Try.prog w' = .ok (.bool true) w') := fun k hk w' => by
    have := (eqP3 (t := 43) (by kernel_rfl) (itr (imM p ⟨m0, m1, m2, m3, m4, m5, m6, m7, m8⟩) (k + 1) ⟨a0, a1, a2⟩) ⟨a0, a1, a2⟩ w').2
    simp only [hn3 k hk, decide_false, Bool.not_false] at this
    exact this
  have HV : Hid (∀ w' : World, (binOp .neq 43 (.agg #[.int .i64 (itr (imM p ⟨m0, m1, m2, m3, m4, m5, m6, m7, m8⟩) (n + 1) ⟨a0, a1, a2⟩).x, .int .i64 (itr (imM p ⟨m0, m1, m2, m3, m4, m5, m6, m7, m8⟩) (n + 1) ⟨a0, a1, a2⟩).y, .int .i64 (itr (imM p ⟨m0, m1, m2, m3, m4, m5, m6, m7, m8⟩) (n + 1) ⟨a0, a1, a2⟩).z]) (.agg #[.int .i64 a0, .int .i64 a1, .int .i64 a2])).run Try.prog w' = .ok (.bool false) w') := fun w' => by
    have := (eqP3 (t := 43) (by kernel_rfl) (itr (imM p ⟨m0, m1, m2, m3, m4, m5, m6, m7, m8⟩) (n + 1) ⟨a0, a1, a2⟩) ⟨a0, a1, a2⟩ w').2
    simp only [hn2, decide_true, Bool.not_true] at this
    rw [hn2]
    exact this
  have HG : Hid (∀ k, orbL p ⟨m0, m1, m2, m3, m4, m5, m6, m7, m8⟩ ⟨a0, a1, a2⟩ (k + 1) = orbL p ⟨m0, m1, m2, m3, m4, m5, m6, m7, m8⟩ ⟨a0, a1, a2⟩ k ++ [itr (imM p ⟨m0, m1, m2, m3, m4, m5, m6, m7, m8⟩) k ⟨a0, a1, a2⟩]) := fun k => orbL_succ p ⟨m0, m1, m2, m3, m4, m5, m6, m7, m8⟩ ⟨a0, a1, a2⟩ k
  have HL : Hid (∀ k, (orbL p ⟨m0, m1, m2, m3, m4, m5, m6, m7, m8⟩ ⟨a0, a1, a2⟩ k).length = k) := fun k => orbL_len p ⟨m0, m1, m2, m3, m4, m5, m6, m7, m8⟩ ⟨a0, a1, a2⟩ k
  have HG1 : Hid (rowsP (orbL p ⟨m0, m1, m2, m3, m4, m5, m6, m7, m8⟩ ⟨a0, a1, a2⟩ (0 + 1)) = [[a0, a1, a2]]) := rfl
  have HR : Hid (orbL p ⟨m0, m1, m2, m3, m4, m5, m6, m7, m8⟩ ⟨a0, a1, a2⟩ (n + 1) = orbL p ⟨m0, m1, m2, m3, m4, m5, m6, m7, m8⟩ ⟨a0, a1, a2⟩ (n + 1)) := rfl
  obtain ⟨f, hfe⟩ : ∃ f : Nat → P3, ∀ k, itr (imM p ⟨m0, m1, m2, m3, m4, m5, m6, m7, m8⟩) k ⟨a0, a1, a2⟩ = f k := ⟨_, fun _ => rfl⟩
  generalize hg0 : orbL p ⟨m0, m1, m2, m3, m4, m5, m6, m7, m8⟩ ⟨a0, a1, a2⟩ = g0 at *
  have HG0 := Lib.hid hg0
  clear hn2 hn3 hsx hp sm0 sm1 sm2 sm3 sm4 sm5 sm6 sm7 sm8 hm ha HR hg0
  simp only [hfe] at HI HI0 HU HV HG
  clear hfe
  go_enter Try.func73, Try.ntmps73
  go_wp2_with (go_at_call 77; refine (HI0.out _).mono ?_; rintro e w1 ⟨rfl, hb1⟩; have BM1 : Box 24 w1 w.heap.size [m0, m1, m2, m3, m4, m5, m6, m7, m8] := Box.below hb1 (Box.alloc (Box.alloc (Box.new [m0, m1, m2, m3, m4, m5, m6, m7, m8] rfl) _) _); have BA1 : Box 43 w1 (w.heap.size + 1) [a0, a1, a2] := Box.below hb1 (Box.alloc (Box.new [a0, a1, a2] (by simp)) _); have HO0 : OwnA 43 3 (((w.alloc (.cells #[.int .i64 m0, .int .i64 m1, .int .i64 m2, .int .i64 m3, .int .i64 m4, .int .i64 m5, .int .i64 m6, .int .i64 m7, .int .i64 m8] 24)).alloc (.cells #[.int .i64 a0, .int .i64 a1, .int .i64 a2] 43)).alloc (.cells #[.int .i64 a0, .int .i64 a1, .int .i64 a2] 43)) (w.heap.size + 2) (.slice (some ⟨w.heap.size + 1 + 1, 0, none⟩) 1 1) [[a0, a1, a2]] := (by refine OwnA.lit1 ?_ ?_ <;> simp only [World.size_alloc] <;> omega); have HO1 := OwnA.below HO0 hb1; have hz1 := hb1.size; simp only [World.size_alloc] at hz1)
  go_loopw [7, 8] (fun v q wr => ∃ j g : Nat, j ≤ n ∧ q = .pointer (some ⟨g, 0, none⟩) ∧ OwnA 43 3 wr (w.heap.size + 2) v (rowsP (g0 (j + 1))) ∧ v.ownBlock ≠ some g ∧ w.heap.size + 2 ≤ g ∧ Box 43 wr g [(f (j + 1)).x, (f (j + 1)).y, (f (j + 1)).z] ∧ Box 24 wr w.heap.size [m0, m1, m2, m3, m4, m5, m6, m7, m8] ∧ Box 43 wr (w.heap.size + 1) [a0, a1, a2] ∧ Below w.heap.size w wr) (fun v _ _ => n + 1 - slen v)
  case atStart => exact ⟨0, w1.heap.size, Nat.zero_le _, rfl, by rw [HG1.out]; exact OwnA.alloc HO1 _, HO1.ne_new, by omega, Box.new [(f (0 + 1)).x, (f (0 + 1)).y, (f (0 + 1)).z] rfl, Box.alloc BM1 _, Box.alloc BA1 _, by (repeat' (first | (with_reducible exact Below.refl _ _) | (with_reducible assumption) | (with_reducible refine Below.alloc ?_ ?_ _) | (with_reducible refine Below.drew ?_) | (with_reducible refine below_drewN ?_ _) | (with_reducible refine Below.setCell ?_ ?_ _) | (refine Below.step ?_ (by with_reducible assumption) ?_) | go_size))⟩
  case round =>
    obtain ⟨j, g, hj, rfl, hown, hnb, hgb, BN, BM, BA, hC⟩ := hrel
    have hCz := hC.size
    have hgl := BN.lt
    have x0 := BN.cell 0 rfl; have x1 := BN.cell 1 rfl; have x2 := BN.cell 2 rfl
    have y0 := BA.cell 0 rfl; have y1 := BA.cell 1 rfl; have y2 := BA.cell 2 rfl
    have hle := HL.out (j + 1)
    have hlk : Hid ((rowsP (g0 (j + 1))).length ≤ 10000000) := by show _ ≤ _; rw [rowsP_len, hle]; omega
    have hsl := hown.slen (by intro h; have := congrArg List.length h; rw [rowsP_len, hle] at this; simp at this)
    rw [rowsP_len, hle] at hsl
    by_cases hjn : j = n
    · subst hjn
      have hq := HV.out
      go_wp2
      go_ret
      exact ⟨_, rfl, hown.base_le (by omega), hC⟩
    · have hq := HU.out j (by omega)
      have hgs : Hid (rowsP (g0 (j + 1)) ++ [[(f (j + 1)).x, (f (j + 1)).y, (f (j + 1)).z]] = rowsP (g0 (j + 1 + 1))) := by show _ = _; rw [HG.out (j + 1), rowsP_snoc]
      go_wp2_with (first | (go_at_call 77; refine (HI.out (j + 1) _).mono ?_; rintro e w4 ⟨rfl, hb4⟩; have BN4 : Box 43 w4 w3.heap.size [(f (j + 1)).x, (f (j + 1)).y, (f (j + 1)).z] := Box.below hb4 (Box.new [(f (j + 1)).x, (f (j + 1)).y, (f (j + 1)).z] rfl); have BM4 := Box.below hb4 (Box.alloc BM3 _); have BA4 := Box.below hb4 (Box.alloc BA3 _); have HO4 := (OwnA.alloc hown3 _).below hb4; have s0 := BN4.cell 0 rfl; have sf0 := BN4.frz 0; have s1 := BN4.cell 1 rfl; have sf1 := BN4.frz 1; have s2 := BN4.cell 2 rfl; have sf2 := BN4.frz 2; have hz4 := hb4.size; simp only [World.size_alloc] at hz4) | (at_builtin; refine append3' Try.underlying40 info_Point (w.heap.size + 2) _ _ hown rfl _ _ rfl rfl rfl hlk.out (by omega) ?_; intro v' w3 hown3 hB3 hz3 hL3; have hC3 := hB3 _ _ hC (by omega); have BN3 := Box.grownN BN hnb hL3.1; have BM3 := Box.grownN BM (hown.ne_low (by omega)) hL3.1; have BA3 := Box.grownN BA (hown.ne_low (by omega)) hL3.1; have n0 := BN3.cell 0 rfl; have n1 := BN3.cell 1 rfl; have n2 := BN3.cell 2 rfl; have u0 := BM3.cell 0 rfl; have u1 := BM3.cell 1 rfl; have u2 := BM3.cell 2 rfl; have u3 := BM3.cell 3 rfl; have u4 := BM3.cell 4 rfl; have u5 := BM3.cell 5 rfl; have u6 := BM3.cell 6 rfl; have u7 := BM3.cell 7 rfl; have u8 := BM3.cell 8 rfl; have hlm := BM3.lt; have hnn := hown3.ne_new))
      go_roundw
      case rel => exact ⟨j + 1, w3.heap.size, by omega, rfl, by rw [hgs.out] at HO4; exact HO4.grown (stored3_grw _ _ _ _ _ _ _ _) (.inr hnn), hnn, by omega, Box.fill3 BN4, Box.far3 BM4 (by omega), Box.far3 BA4 (by omega), by (repeat' (first | (with_reducible exact Below.refl _ _) | (with_reducible assumption) | (with_reducible refine Below.alloc ?_ ?_ _) | (with_reducible refine Below.drew ?_) | (with_reducible refine below_drewN ?_ _) | (with_reducible refine Below.setCell ?_ ?_ _) | (refine Below.step ?_ (by with_reducible assumption) ?_) | go_size))⟩
      case measure =>
        have h5 := HO4.slen (by simp)
        have hle2 := HL.out (j + 1 + 1)
        rw [hgs.out, rowsP_len, hle2] at h5
        simp only [h5]
        omega
set_option maxHeartbeats 4000000 in
theorem l02Orbit_any (p m0 m1 m2 m3 m4 m5 m6 m7 m8 a0 a1 a2 : Int) (n : Nat) (w : World) (hm : isMap p ⟨m0, m1, m2, m3, m4, m5, m6, m7, m8⟩ = true) (ha : isPt p ⟨a0, a1, a2⟩ = true) (hn : OrbN p ⟨m0, m1, m2, m3, m4, m5, m6, m7, m8⟩ ⟨a0, a1, a2⟩ n) :
    Calls Try.prog 70 #[.int .i64 p, .agg #[.int .i64 m0, .int .i64 m1, .int .i64 m2, .int .i64 m3, .int .i64 m4, .int .i64 m5, .int .i64 m6, .int .i64 m7, .int .i64 m8], .agg #[.int .i64 a0, .int .i64 a1, .int .i64 a2]] w (PtsPost 43 (orbL p ⟨m0, m1, m2, m3, m4, m5, m6, m7, m8⟩ ⟨a0, a1, a2⟩ (n + 1)) w) := by
  obtain ⟨hn1, hn2, hn3⟩ := hn
  have hp := isMap_pr hm
  obtain ⟨sm0, sm1, sm2, sm3, sm4, sm5, sm6, sm7, sm8⟩ := isMap_sm hm
  replace sm0 : sm m0 := sm0; replace sm1 : sm m1 := sm1; replace sm2 : sm m2 := sm2; replace sm3 : sm m3 := sm3; replace sm4 : sm m4 := sm4; replace sm5 : sm m5 := sm5; replace sm6 : sm m6 := sm6; replace sm7 : sm m7 := sm7; replace sm8 : sm m8 := sm8
  have hsx := fun k => isPt_sm (orb_pt hm ha k)
  have HI : Hid (∀ (k : Nat) (w' : World), Calls Try.prog 110 #[.int .i64 p, .agg #[.int .i64 m0, .int .i64 m1, .int .i64 m2, .int .i64 m3, .int .i64 m4, .int .i64 m5, .int .i64 m6, .int .i64 m7, .int .i64 m8], .agg #[.int .i64 (itr (imM p ⟨m0, m1, m2, m3, m4, m5, m6, m7, m8⟩) k ⟨a0, a1, a2⟩).x, .int .i64 (itr (imM p ⟨m0, m1, m2, m3, m4, m5, m6, m7, m8⟩) k ⟨a0, a1, a2⟩).y, .int .i64 (itr (imM p ⟨m0, m1, m2, m3, m4, m5, m6, m7, m8⟩) k ⟨a0, a1, a2⟩).z]] w' fun e w'' => e = .returned (.agg #[.int .i64 (itr (imM p ⟨m0, m1, m2, m3, m4, m5, m6, m7, m8⟩) (k + 1) ⟨a0, a1, a2⟩).x, .int .i64 (itr (imM p ⟨m0, m1, m2, m3, m4, m5, m6, m7, m8⟩) (k + 1) ⟨a0, a1, a2⟩).y, .int .i64 (itr (imM p ⟨m0, m1, m2, m3, m4, m5, m6, m7, m8⟩) (k + 1) ⟨a0, a1, a2⟩).z]) ∧ Below w'.heap.size w' w'') := fun k w' => by
    obtain ⟨s0, s1, s2⟩ := hsx k
    exact l02Image_any p m0 m1 m2 m3 m4 m5 m6 m7 m8 (itr (imM p ⟨m0, m1, m2, m3, m4, m5, m6, m7, m8⟩) k ⟨a0, a1, a2⟩).x (itr (imM p ⟨m0, m1, m2, m3, m4, m5, m6, m7, m8⟩) k ⟨a0, a1, a2⟩).y (itr (imM p ⟨m0, m1, m2, m3, m4, m5, m6, m7, m8⟩) k ⟨a0, a1, a2⟩).z w' hp sm0 sm1 sm2 sm3 sm4 sm5 sm6 sm7 sm8 s0 s1 s2
  have HI0 : Hid (∀ (w' : World), Calls Try.prog 110 #[.int .i64 p, .agg #[.int .i64 m0, .int .i64 m1, .int .i64 m2, .int .i64 m3, .int .i64 m4, .int .i64 m5, .int .i64 m6, .int .i64 m7, .int .i64 m8], .agg #[.int .i64 a0, .int .i64 a1, .int .i64 a2]] w' fun e w'' => e = .returned (.agg #[.int .i64 (itr (imM p ⟨m0, m1, m2, m3, m4, m5, m6, m7, m8⟩) (0 + 1) ⟨a0, a1, a2⟩).x, .int .i64 (itr (imM p ⟨m0, m1, m2, m3, m4, m5, m6, m7, m8⟩) (0 + 1) ⟨a0, a1, a2⟩).y, .int .i64 (itr (imM p ⟨m0, m1, m2, m3, m4, m5, m6, m7, m8⟩) (0 + 1) ⟨a0, a1, a2⟩).z]) ∧ Below w'.heap.size w' w'') := fun w' => HI.out 0 w'
  have HU : Hid (∀ (k : Nat), k < n → ∀ w' : World, (binOp .neq 43 (.agg #[.int .i64 (itr (imM p ⟨m0, m1, m2, m3, m4, m5, m6, m7, m8⟩) (k + 1) ⟨a0, a1, a2⟩).x, .int .i64 (itr (imM p ⟨m0, m1, m2, m3, m4, m5, m6, m7, m8⟩) (k + 1) ⟨a0, a1, a2⟩).y, .int .i64 (itr (imM p ⟨m0, m1, m2, m3, m4, m5, m6, m7, m8⟩) (k + 1) ⟨a0, a1, a2⟩).z]) (.agg #[.int .i64 a0, .int .i64 a1, .int .i64 a2])).run Try.prog w' = .ok (.bool true) w') := fun k hk w' => by
    have := (eqP3 (t := 43) (by kernel_rfl) (itr (imM p ⟨m0, m1, m2, m3, m4, m5, m6, m7, m8⟩) (k + 1) ⟨a0, a1, a2⟩) ⟨a0, a1, a2⟩ w').2
    simp only [hn3 k hk, decide_false, Bool.not_false] at this
    exact this
  have HV : Hid (∀ w' : World, (binOp .neq 43 (.agg #[.int .i64 (itr (imM p ⟨m0, m1, m2, m3, m4, m5, m6, m7, m8⟩) (n + 1) ⟨a0, a1, a2⟩).x, .int .i64 (itr (imM p ⟨m0, m1, m2, m3, m4, m5, m6, m7, m8⟩) (n + 1) ⟨a0, a1, a2⟩).y, .int .i64 (itr (imM p ⟨m0, m1, m2, m3, m4, m5, m6, m7, m8⟩) (n + 1) ⟨a0, a1, a2⟩).z]) (.agg #[.int .i64 a0, .int .i64 a1, .int .i64 a2])).run Try.prog w' = .ok (.bool false) w') := fun w' => by
    have := (eqP3 (t := 43) (by kernel_rfl) (itr (imM p ⟨m0, m1, m2, m3, m4, m5, m6, m7, m8⟩) (n + 1) ⟨a0, a1, a2⟩) ⟨a0, a1, a2⟩ w').2
    simp only [hn2, decide_true, Bool.not_true] at this
    rw [hn2]
    exact this
  have HG : Hid (∀ k, orbL p ⟨m0, m1, m2, m3, m4, m5, m6, m7, m8⟩ ⟨a0, a1, a2⟩ (k + 1) = orbL p ⟨m0, m1, m2, m3, m4, m5, m6, m7, m8⟩ ⟨a0, a1, a2⟩ k ++ [itr (imM p ⟨m0, m1, m2, m3, m4, m5, m6, m7, m8⟩) k ⟨a0, a1, a2⟩]) := fun k => orbL_succ p ⟨m0, m1, m2, m3, m4, m5, m6, m7, m8⟩ ⟨a0, a1, a2⟩ k
  have HL : Hid (∀ k, (orbL p ⟨m0, m1, m2, m3, m4, m5, m6, m7, m8⟩ ⟨a0, a1, a2⟩ k).length = k) := fun k => orbL_len p ⟨m0, m1, m2, m3, m4, m5, m6, m7, m8⟩ ⟨a0, a1, a2⟩ k
  have HG1 : Hid (rowsP (orbL p ⟨m0, m1, m2, m3, m4, m5, m6, m7, m8⟩ ⟨a0, a1, a2⟩ (0 + 1)) = [[a0, a1, a2]]) := rfl
  have HR : Hid (orbL p ⟨m0, m1, m2, m3, m4, m5, m6, m7, m8⟩ ⟨a0, a1, a2⟩ (n + 1) = orbL p ⟨m0, m1, m2, m3, m4, m5, m6, m7, m8⟩ ⟨a0, a1, a2⟩ (n + 1)) := rfl
  obtain ⟨f, hfe⟩ : ∃ f : Nat → P3, ∀ k, itr (imM p ⟨m0, m1, m2, m3, m4, m5, m6, m7, m8⟩) k ⟨a0, a1, a2⟩ = f k := ⟨_, fun _ => rfl⟩
  generalize hg0 : orbL p ⟨m0, m1, m2, m3, m4, m5, m6, m7, m8⟩ ⟨a0, a1, a2⟩ = g0 at *
  have HG0 := Lib.hid hg0
  clear hn2 hn3 hsx hp sm0 sm1 sm2 sm3 sm4 sm5 sm6 sm7 sm8 hm ha HR hg0
  simp only [hfe] at HI HI0 HU HV HG
  clear hfe
  go_enter Try.func70, Try.ntmps70
  go_wp2_with (go_at_call 110; refine (HI0.out _).mono ?_; rintro e w1 ⟨rfl, hb1⟩; have BM1 : Box 24 w1 w.heap.size [m0, m1, m2, m3, m4, m5, m6, m7, m8] := Box.below hb1 (Box.alloc (Box.alloc (Box.new [m0, m1, m2, m3, m4, m5, m6, m7, m8] rfl) _) _); have BA1 : Box 43 w1 (w.heap.size + 1) [a0, a1, a2] := Box.below hb1 (Box.alloc (Box.new [a0, a1, a2] (by simp)) _); have HO0 : OwnA 43 3 (((w.alloc (.cells #[.int .i64 m0, .int .i64 m1, .int .i64 m2, .int .i64 m3, .int .i64 m4, .int .i64 m5, .int .i64 m6, .int .i64 m7, .int .i64 m8] 24)).alloc (.cells #[.int .i64 a0, .int .i64 a1, .int .i64 a2] 43)).alloc (.cells #[.int .i64 a0, .int .i64 a1, .int .i64 a2] 43)) (w.heap.size + 2) (.slice (some ⟨w.heap.size + 1 + 1, 0, none⟩) 1 1) [[a0, a1, a2]] := (by refine OwnA.lit1 ?_ ?_ <;> simp only [World.size_alloc] <;> omega); have HO1 := OwnA.below HO0 hb1; have hz1 := hb1.size; simp only [World.size_alloc] at hz1)
  go_loopw [7, 8] (fun v q wr => ∃ j g : Nat, j ≤ n ∧ q = .pointer (some ⟨g, 0, none⟩) ∧ OwnA 43 3 wr (w.heap.size + 2) v (rowsP (g0 (j + 1))) ∧ v.ownBlock ≠ some g ∧ w.heap.size + 2 ≤ g ∧ Box 43 wr g [(f (j + 1)).x, (f (j + 1)).y, (f (j + 1)).z] ∧ Box 24 wr w.heap.size [m0, m1, m2, m3, m4, m5, m6, m7, m8] ∧ Box 43 wr (w.heap.size + 1) [a0, a1, a2] ∧ Below w.heap.size w wr) (fun v _ _ => n + 1 - slen v)
  case atStart => exact ⟨0, w1.heap.size, Nat.zero_le _, rfl, by rw [HG1.out]; exact OwnA.alloc HO1 _, HO1.ne_new, by omega, Box.new [(f (0 + 1)).x, (f (0 + 1)).y, (f (0 + 1)).z] rfl, Box.alloc BM1 _, Box.alloc BA1 _, by (repeat' (first | (with_reducible exact Below.refl _ _) | (with_reducible assumption) | (with_reducible refine Below.alloc ?_ ?_ _) | (with_reducible refine Below.drew ?_) | (with_reducible refine below_drewN ?_ _) | (with_reducible refine Below.setCell ?_ ?_ _) | (refine Below.step ?_ (by with_reducible assumption) ?_) | go_size))⟩
  case round =>
    obtain ⟨j, g, hj, rfl, hown, hnb, hgb, BN, BM, BA, hC⟩ := hrel
    have hCz := hC.size
    have hgl := BN.lt
    have x0 := BN.cell 0 rfl; have x1 := BN.cell 1 rfl; have x2 := BN.cell 2 rfl
    have y0 := BA.cell 0 rfl; have y1 := BA.cell 1 rfl; have y2 := BA.cell 2 rfl
    have hle := HL.out (j + 1)
    have hlk : Hid ((rowsP (g0 (j + 1))).length ≤ 10000000) := by show _ ≤ _; rw [rowsP_len, hle]; omega
    have hsl := hown.slen (by intro h; have := congrArg List.length h; rw [rowsP_len, hle] at this; simp at this)
    rw [rowsP_len, hle] at hsl
    by_cases hjn : j = n
    · subst hjn
      have hq := HV.out
      go_wp2
      go_ret
      exact ⟨_, rfl, hown.base_le (by omega), hC⟩
    · have hq := HU.out j (by omega)
      have hgs : Hid (rowsP (g0 (j + 1)) ++ [[(f (j + 1)).x, (f (j + 1)).y, (f (j + 1)).z]] = rowsP (g0 (j + 1 + 1))) := by show _ = _; rw [HG.out (j + 1), rowsP_snoc]
      go_wp2_with (first | (go_at_call 110; refine (HI.out (j + 1) _).mono ?_; rintro e w4 ⟨rfl, hb4⟩; have BN4 : Box 43 w4 w3.heap.size [(f (j + 1)).x, (f (j + 1)).y, (f (j + 1)).z] := Box.below hb4 (Box.new [(f (j + 1)).x, (f (j + 1)).y, (f (j + 1)).z] rfl); have BM4 := Box.below hb4 (Box.alloc BM3 _); have BA4 := Box.below hb4 (Box.alloc BA3 _); have HO4 := (OwnA.alloc hown3 _).below hb4; have s0 := BN4.cell 0 rfl; have sf0 := BN4.frz 0; have s1 := BN4.cell 1 rfl; have sf1 := BN4.frz 1; have s2 := BN4.cell 2 rfl; have sf2 := BN4.frz 2; have hz4 := hb4.size; simp only [World.size_alloc] at hz4) | (at_builtin; refine append3' Try.underlying40 info_Point (w.heap.size + 2) _ _ hown rfl _ _ rfl rfl rfl hlk.out (by omega) ?_; intro v' w3 hown3 hB3 hz3 hL3; have hC3 := hB3 _ _ hC (by omega); have BN3 := Box.grownN BN hnb hL3.1; have BM3 := Box.grownN BM (hown.ne_low (by omega)) hL3.1; have BA3 := Box.grownN BA (hown.ne_low (by omega)) hL3.1; have n0 := BN3.cell 0 rfl; have n1 := BN3.cell 1 rfl; have n2 := BN3.cell 2 rfl; have u0 := BM3.cell 0 rfl; have u1 := BM3.cell 1 rfl; have u2 := BM3.cell 2 rfl; have u3 := BM3.cell 3 rfl; have u4 := BM3.cell 4 rfl; have u5 := BM3.cell 5 rfl; have u6 := BM3.cell 6 rfl; have u7 := BM3.cell 7 rfl; have u8 := BM3.cell 8 rfl; have hlm := BM3.lt; have hnn := hown3.ne_new))
      go_roundw
      case rel => exact ⟨j + 1, w3.heap.size, by omega, rfl, by rw [hgs.out] at HO4; exact HO4.grown (stored3_grw _ _ _ _ _ _ _ _) (.inr hnn), hnn, by omega, Box.fill3 BN4, Box.far3 BM4 (by omega), Box.far3 BA4 (by omega), by (repeat' (first | (with_reducible exact Below.refl _ _) | (with_reducible assumption) | (with_reducible refine Below.alloc ?_ ?_ _) | (with_reducible refine Below.drew ?_) | (with_reducible refine below_drewN ?_ _) | (with_reducible refine Below.setCell ?_ ?_ _) | (refine Below.step ?_ (by with_reducible assumption) ?_) | go_size))⟩
      case measure =>
        have h5 := HO4.slen (by simp)
        have hle2 := HL.out (j + 1 + 1)
        rw [hgs.out, rowsP_len, hle2] at h5
        simp only [h5]
        omega
end Go.Proofs.Ythlmodofgoelbaa
