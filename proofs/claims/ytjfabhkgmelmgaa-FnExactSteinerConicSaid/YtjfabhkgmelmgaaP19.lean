/- Sums of products of two lines, as the program and as the reference add them up: the same conic; plain arithmetic modulo a prime. -/
import Derived.Test.YtjfabhkgmelmgaaP17
import Derived.Test.YtjfabhkgmelmgaaW52
import Derived.Test.YtjfabhkgmelmgaaW9
import Derived.Test.YtjfabhkgmelmgaaW80
import Derived.Test.YtjfabhkgmelmgaaH2
import Derived.Test.YtjfabhkgmelmgaaW87
import Derived.Test.YtjfabhkgmelmgaaW3
import Derived.Test.YtjfabhkgmelmgaaE1
import Derived.Deep.QuietTactic
namespace Go.Proofs.Ytjfabhkgmelmgaa
set_option linter.unusedSimpArgs false
set_option linter.unusedVariables false

/-- The six numbers of the product of two linear forms. -/
def qL (f g : P3) : List Int := [f.x * g.x, f.y * g.y, f.z * g.z, f.x * g.y + f.y * g.x, f.x * g.z + f.z * g.x, f.y * g.z + f.z * g.y]
def add6 (k : Int) (L Q : List Int) : List Int := List.zipWith (fun x y => x + k * y) L Q
def mod6 (p : Int) (L : List Int) : List Int := L.map (· % p)
theorem add6_len (k : Int) {L Q : List Int} (hL : L.length = 6) (hQ : Q.length = 6) : (add6 k L Q).length = 6 := by unfold add6; rw [List.length_zipWith]; omega
theorem six_of {L : List Int} (h : L.length = 6) : ∃ x0 x1 x2 x3 x4 x5 : Int, L = [x0, x1, x2, x3, x4, x5] := by
  match L, h with
  | [x0, x1, x2, x3, x4, x5], _ => exact ⟨x0, x1, x2, x3, x4, x5, rfl⟩
/-- Numbers of at most B. -/
def bd (B : Int) (x : Int) : Prop := -B ≤ x ∧ x ≤ B
theorem bd_mul {k y A B : Int} (hk : bd A k) (hy : 0 ≤ y ∧ y ≤ B) (hA : 0 ≤ A) : bd (A * B) (k * y) := by
  obtain ⟨a, b⟩ := hk
  have := mul_bs (a := y) (A := B) (b := k) (B := A) hy.1 hy.2 a b
  rw [Int.mul_comm y k, Int.mul_comm B A] at this
  exact this
/-- The conic that a list gives. -/
def nm6 (p : Int) : List Int → C6
  | [x0, x1, x2, x3, x4, x5] => nmC p x0 x1 x2 x3 x4 x5
  | _ => ⟨0, 0, 0, 0, 0, 0⟩
theorem nr_mod (p f x : Int) : nr p f (x % p) = nr p f x := by
  unfold nr; rw [Int.emod_emod_of_dvd _ (Int.dvd_refl p)]
theorem nm6_mod (p : Int) {L : List Int} (h : L.length = 6) : nm6 p (mod6 p L) = nm6 p L := by
  obtain ⟨x0, x1, x2, x3, x4, x5, rfl⟩ := six_of h
  show nmC p (x0 % p) (x1 % p) (x2 % p) (x3 % p) (x4 % p) (x5 % p) = nmC p x0 x1 x2 x3 x4 x5
  unfold nmC
  have hf : fac p [x0 % p, x1 % p, x2 % p, x3 % p, x4 % p, x5 % p] = fac p [x0, x1, x2, x3, x4, x5] := fac_mod (p := p) [x0, x1, x2, x3, x4, x5]
  rw [hf]
  simp only [nr_mod]
theorem mod6_add (p k : Int) (L Q : List Int) : mod6 p (add6 k (mod6 p L) Q) = mod6 p (add6 k L Q) := by
  unfold mod6 add6
  rw [List.map_zipWith, List.map_zipWith, List.zipWith_map_left]
  congr 1
  funext x y
  exact ((Cg.mod p x).add (Cg.refl p (k * y))).em
theorem mod6_mod (p : Int) (L : List Int) : mod6 p (mod6 p L) = mod6 p L := by
  unfold mod6; rw [List.map_map]; congr 1; funext x; exact Int.emod_emod_of_dvd _ (Int.dvd_refl p)
theorem mod6_cg {p : Int} (k : Int) {X Y : List Int} (Q : List Int) (h : mod6 p X = mod6 p Y) : mod6 p (add6 k X Q) = mod6 p (add6 k Y Q) := by
  rw [← mod6_add p k X Q, h, mod6_add]
def Z6 : List Int := [0, 0, 0, 0, 0, 0]
/-- The program's sum. -/
def stI (m : M4) (a b c d : P3) : List Int := add6 (-m.b) (add6 m.a (add6 (-m.d) (add6 m.c Z6 (qL a c)) (qL b c)) (qL a d)) (qL b d)
/-- The reference's. -/
def stS (p : Int) (m : M4) (a b c d : P3) : List Int := mod6 p (add6 (-m.b) (mod6 p (add6 m.a (mod6 p (add6 (-m.d) (mod6 p (add6 m.c Z6 (qL a c))) (qL b c))) (qL a d))) (qL b d))
theorem qL_len (f g : P3) : (qL f g).length = 6 := rfl
theorem stI_len (m : M4) (a b c d : P3) : (stI m a b c d).length = 6 := rfl
theorem st_eq (p : Int) (m : M4) (a b c d : P3) : nm6 p (stS p m a b c d) = nm6 p (stI m a b c d) := by
  have h : stS p m a b c d = mod6 p (stI m a b c d) := by
    unfold stS stI
    exact (mod6_cg _ _ ((mod6_mod _ _).trans (mod6_cg _ _ ((mod6_mod _ _).trans (mod6_cg _ _ (mod6_mod _ _))))))
  rw [h, nm6_mod p (stI_len m a b c d)]
def stR (p : Int) (o q : P3) (m : M4) : C6 × Int :=
  if codeOf p (allPt p [o, q] && isMoE p m) = 0 then (if o = q then (⟨0, 0, 0, 0, 0, 0⟩, 5) else (nm6 p (stI m (buU p o) (buV p o) (buU p q) (buV p q)), 0)) else (⟨0, 0, 0, 0, 0, 0⟩, codeOf p (allPt p [o, q] && isMoE p m))
open Go.RowKit
set_option maxRecDepth 100000

theorem rounds_name {P : Program} {c : Code} {Q : Exit → Act → World → Prop} {n : Nat} {a : Act} {W0 : World} (S : World → Prop) (h0 : S W0) (h : ∀ w, S w → Code.rounds P c Q n a w) : Code.rounds P c Q n a W0 := h W0 h0
theorem grown_set {w w' : World} {B i : Nat} {v : Value} (h : w.grownBy w' (some B)) : w.grownBy (w'.setCell ⟨B, i, none⟩ v) (some B) :=
  grown_trans h (setCells_grown B [v] w' i)
set_option maxHeartbeats 8000000 in
theorem Steiner2_any (k f0 f1 f2 g0 g1 g2 c0 c1 c2 c3 c4 c5 : Int) (B : Nat) (w : World) (hk : bd 12 k) (hf0 : sm f0) (hf1 : sm f1) (hf2 : sm f2) (hg0 : sm g0) (hg1 : sm g1) (hg2 : sm g2) (hc0 : bd 20000 c0) (hc1 : bd 20000 c1) (hc2 : bd 20000 c2) (hc3 : bd 20000 c3) (hc4 : bd 20000 c4) (hc5 : bd 20000 c5) (hB : Box 44 w B [c0, c1, c2, c3, c4, c5]) :
    Calls Try.prog 101 #[.int .i64 k, .agg #[.int .i64 f0, .int .i64 f1, .int .i64 f2], .agg #[.int .i64 g0, .int .i64 g1, .int .i64 g2], .pointer (some ⟨B, 0, none⟩)] w fun e w' => e = .returned (.tuple #[]) ∧ Box 44 w' B (add6 k [c0, c1, c2, c3, c4, c5] (qL ⟨f0, f1, f2⟩ ⟨g0, g1, g2⟩)) ∧ w.grownBy w' (some B) := by
  obtain ⟨hf0, hf0'⟩ := hf0; obtain ⟨hf1, hf1'⟩ := hf1; obtain ⟨hf2, hf2'⟩ := hf2
  obtain ⟨hg0, hg0'⟩ := hg0; obtain ⟨hg1, hg1'⟩ := hg1; obtain ⟨hg2, hg2'⟩ := hg2
  have hb0 := mul_bd (a := f0) (b := g0) (A := 12) (B := 12) (by omega) (by omega) (by omega) (by omega)
  have hw0 : IntKind.i64.wrap (f0 * g0) = f0 * g0 := by go_arith
  have hb1 := mul_bd (a := f1) (b := g1) (A := 12) (B := 12) (by omega) (by omega) (by omega) (by omega)
  have hw1 : IntKind.i64.wrap (f1 * g1) = f1 * g1 := by go_arith
  have hb2 := mul_bd (a := f2) (b := g2) (A := 12) (B := 12) (by omega) (by omega) (by omega) (by omega)
  have hw2 : IntKind.i64.wrap (f2 * g2) = f2 * g2 := by go_arith
  have hb3 := mul_bd (a := f0) (b := g1) (A := 12) (B := 12) (by omega) (by omega) (by omega) (by omega)
  have hw3 : IntKind.i64.wrap (f0 * g1) = f0 * g1 := by go_arith
  have hb4 := mul_bd (a := f1) (b := g0) (A := 12) (B := 12) (by omega) (by omega) (by omega) (by omega)
  have hw4 : IntKind.i64.wrap (f1 * g0) = f1 * g0 := by go_arith
  have hb5 := mul_bd (a := f0) (b := g2) (A := 12) (B := 12) (by omega) (by omega) (by omega) (by omega)
  have hw5 : IntKind.i64.wrap (f0 * g2) = f0 * g2 := by go_arith
  have hb6 := mul_bd (a := f2) (b := g0) (A := 12) (B := 12) (by omega) (by omega) (by omega) (by omega)
  have hw6 : IntKind.i64.wrap (f2 * g0) = f2 * g0 := by go_arith
  have hb7 := mul_bd (a := f1) (b := g2) (A := 12) (B := 12) (by omega) (by omega) (by omega) (by omega)
  have hw7 : IntKind.i64.wrap (f1 * g2) = f1 * g2 := by go_arith
  have hb8 := mul_bd (a := f2) (b := g1) (A := 12) (B := 12) (by omega) (by omega) (by omega) (by omega)
  have hw8 : IntKind.i64.wrap (f2 * g1) = f2 * g1 := by go_arith
  have hs3 : IntKind.i64.wrap (f0 * g1 + f1 * g0) = f0 * g1 + f1 * g0 := by go_arith
  have hs4 : IntKind.i64.wrap (f0 * g2 + f2 * g0) = f0 * g2 + f2 * g0 := by go_arith
  have hs5 : IntKind.i64.wrap (f1 * g2 + f2 * g1) = f1 * g2 + f2 * g1 := by go_arith
  have hlt := hB.lt
  obtain ⟨q0, hq0⟩ : ∃ x, Hid (f0 * g0 = x) := ⟨_, rfl⟩
  obtain ⟨q1, hq1⟩ : ∃ x, Hid (f1 * g1 = x) := ⟨_, rfl⟩
  obtain ⟨q2, hq2⟩ : ∃ x, Hid (f2 * g2 = x) := ⟨_, rfl⟩
  obtain ⟨q3, hq3⟩ : ∃ x, Hid (f0 * g1 + f1 * g0 = x) := ⟨_, rfl⟩
  obtain ⟨q4, hq4⟩ : ∃ x, Hid (f0 * g2 + f2 * g0 = x) := ⟨_, rfl⟩
  obtain ⟨q5, hq5⟩ : ∃ x, Hid (f1 * g2 + f2 * g1 = x) := ⟨_, rfl⟩
  have hqb0 : 0 ≤ q0 ∧ q0 ≤ 288 := by rw [← hq0.out]; omega
  have hqb1 : 0 ≤ q1 ∧ q1 ≤ 288 := by rw [← hq1.out]; omega
  have hqb2 : 0 ≤ q2 ∧ q2 ≤ 288 := by rw [← hq2.out]; omega
  have hqb3 : 0 ≤ q3 ∧ q3 ≤ 288 := by rw [← hq3.out]; omega
  have hqb4 : 0 ≤ q4 ∧ q4 ≤ 288 := by rw [← hq4.out]; omega
  have hqb5 : 0 ≤ q5 ∧ q5 ≤ 288 := by rw [← hq5.out]; omega
  have hkb0 := bd_mul (A := 12) (B := 288) hk hqb0 (by omega)
  have hkw0 : IntKind.i64.wrap (k * q0) = k * q0 := by unfold bd at hkb0; go_arith
  have hcw0 : IntKind.i64.wrap (c0 + k * q0) = c0 + k * q0 := by unfold bd at hkb0 hc0; go_arith
  have hkb1 := bd_mul (A := 12) (B := 288) hk hqb1 (by omega)
  have hkw1 : IntKind.i64.wrap (k * q1) = k * q1 := by unfold bd at hkb1; go_arith
  have hcw1 : IntKind.i64.wrap (c1 + k * q1) = c1 + k * q1 := by unfold bd at hkb1 hc1; go_arith
  have hkb2 := bd_mul (A := 12) (B := 288) hk hqb2 (by omega)
  have hkw2 : IntKind.i64.wrap (k * q2) = k * q2 := by unfold bd at hkb2; go_arith
  have hcw2 : IntKind.i64.wrap (c2 + k * q2) = c2 + k * q2 := by unfold bd at hkb2 hc2; go_arith
  have hkb3 := bd_mul (A := 12) (B := 288) hk hqb3 (by omega)
  have hkw3 : IntKind.i64.wrap (k * q3) = k * q3 := by unfold bd at hkb3; go_arith
  have hcw3 : IntKind.i64.wrap (c3 + k * q3) = c3 + k * q3 := by unfold bd at hkb3 hc3; go_arith
  have hkb4 := bd_mul (A := 12) (B := 288) hk hqb4 (by omega)
  have hkw4 : IntKind.i64.wrap (k * q4) = k * q4 := by unfold bd at hkb4; go_arith
  have hcw4 : IntKind.i64.wrap (c4 + k * q4) = c4 + k * q4 := by unfold bd at hkb4 hc4; go_arith
  have hkb5 := bd_mul (A := 12) (B := 288) hk hqb5 (by omega)
  have hkw5 : IntKind.i64.wrap (k * q5) = k * q5 := by unfold bd at hkb5; go_arith
  have hcw5 : IntKind.i64.wrap (c5 + k * q5) = c5 + k * q5 := by unfold bd at hkb5 hc5; go_arith
  clear hqb0 hkb0 hc0 hqb1 hkb1 hc1 hqb2 hkb2 hc2 hqb3 hkb3 hc3 hqb4 hkb4 hc4 hqb5 hkb5 hc5
  have HE : Hid (add6 k [c0, c1, c2, c3, c4, c5] (qL ⟨f0, f1, f2⟩ ⟨g0, g1, g2⟩) = [c0 + k * q0, c1 + k * q1, c2 + k * q2, c3 + k * q3, c4 + k * q4, c5 + k * q5]) := by
    show _ = _
    rw [← hq0.out, ← hq1.out, ← hq2.out, ← hq3.out, ← hq4.out, ← hq5.out]; rfl
  go_enter Try.func101, Try.ntmps101
  have hix0 : ∀ w, (Instr.index 43 (.agg #[.int .i64 (f0 * g0), .int .i64 (f1 * g1), .int .i64 (f2 * g2), .int .i64 (f0 * g1 + f1 * g0), .int .i64 (f0 * g2 + f2 * g0), .int .i64 (f1 * g2 + f2 * g1)]) (.int .i64 0)).run Try.prog w = .ok (.int .i64 q0) w := by rw [← hq0.out]; exact fun _ => by kernel_rfl
  have hix1 : ∀ w, (Instr.index 43 (.agg #[.int .i64 (f0 * g0), .int .i64 (f1 * g1), .int .i64 (f2 * g2), .int .i64 (f0 * g1 + f1 * g0), .int .i64 (f0 * g2 + f2 * g0), .int .i64 (f1 * g2 + f2 * g1)]) (.int .i64 1)).run Try.prog w = .ok (.int .i64 q1) w := by rw [← hq1.out]; exact fun _ => by kernel_rfl
  have hix2 : ∀ w, (Instr.index 43 (.agg #[.int .i64 (f0 * g0), .int .i64 (f1 * g1), .int .i64 (f2 * g2), .int .i64 (f0 * g1 + f1 * g0), .int .i64 (f0 * g2 + f2 * g0), .int .i64 (f1 * g2 + f2 * g1)]) (.int .i64 2)).run Try.prog w = .ok (.int .i64 q2) w := by rw [← hq2.out]; exact fun _ => by kernel_rfl
  have hix3 : ∀ w, (Instr.index 43 (.agg #[.int .i64 (f0 * g0), .int .i64 (f1 * g1), .int .i64 (f2 * g2), .int .i64 (f0 * g1 + f1 * g0), .int .i64 (f0 * g2 + f2 * g0), .int .i64 (f1 * g2 + f2 * g1)]) (.int .i64 3)).run Try.prog w = .ok (.int .i64 q3) w := by rw [← hq3.out]; exact fun _ => by kernel_rfl
  have hix4 : ∀ w, (Instr.index 43 (.agg #[.int .i64 (f0 * g0), .int .i64 (f1 * g1), .int .i64 (f2 * g2), .int .i64 (f0 * g1 + f1 * g0), .int .i64 (f0 * g2 + f2 * g0), .int .i64 (f1 * g2 + f2 * g1)]) (.int .i64 4)).run Try.prog w = .ok (.int .i64 q4) w := by rw [← hq4.out]; exact fun _ => by kernel_rfl
  have hix5 : ∀ w, (Instr.index 43 (.agg #[.int .i64 (f0 * g0), .int .i64 (f1 * g1), .int .i64 (f2 * g2), .int .i64 (f0 * g1 + f1 * g0), .int .i64 (f0 * g2 + f2 * g0), .int .i64 (f1 * g2 + f2 * g1)]) (.int .i64 5)).run Try.prog w = .ok (.int .i64 q5) w := by rw [← hq5.out]; exact fun _ => by kernel_rfl
  go_wp2_with fail
  refine wp_name (fun w' => Box 44 w' B [c0, c1, c2, c3, c4, c5] ∧ w.grownBy w' (some B)) ⟨(hB.alloc _).alloc _, grown_trans (World.grownBy_alloc _ _ _) (World.grownBy_alloc _ _ _)⟩ ?_
  rintro wq0 ⟨B0, G0⟩
  refine wp_loop_rounds 7 ?_
  clear hB hlt hb0 hb1 hb2 hb3 hb4 hb5 hb6 hb7 hb8 hw0 hw1 hw2 hw3 hw4 hw5 hw6 hw7 hw8 hs3 hs4 hs5
  rw [rounds_succ]
  have st := B0.cell 0 rfl
  have sf := B0.frz 0
  go_wp2_with fail
  refine rounds_name (fun w' => Box 44 w' B [c0 + k * q0, c1, c2, c3, c4, c5] ∧ w.grownBy w' (some B)) ⟨(B0.set 0 (c0 + k * q0)).cast rfl, grown_set G0⟩ ?_
  rintro wq1 ⟨B1, G1⟩
  clear st sf B0 G0
  rw [rounds_succ]
  have st := B1.cell 1 rfl
  have sf := B1.frz 1
  go_wp2_with fail
  refine rounds_name (fun w' => Box 44 w' B [c0 + k * q0, c1 + k * q1, c2, c3, c4, c5] ∧ w.grownBy w' (some B)) ⟨(B1.set 1 (c1 + k * q1)).cast rfl, grown_set G1⟩ ?_
  rintro wq2 ⟨B2, G2⟩
  clear st sf B1 G1
  rw [rounds_succ]
  have st := B2.cell 2 rfl
  have sf := B2.frz 2
  go_wp2_with fail
  refine rounds_name (fun w' => Box 44 w' B [c0 + k * q0, c1 + k * q1, c2 + k * q2, c3, c4, c5] ∧ w.grownBy w' (some B)) ⟨(B2.set 2 (c2 + k * q2)).cast rfl, grown_set G2⟩ ?_
  rintro wq3 ⟨B3, G3⟩
  clear st sf B2 G2
  rw [rounds_succ]
  have st := B3.cell 3 rfl
  have sf := B3.frz 3
  go_wp2_with fail
  refine rounds_name (fun w' => Box 44 w' B [c0 + k * q0, c1 + k * q1, c2 + k * q2, c3 + k * q3, c4, c5] ∧ w.grownBy w' (some B)) ⟨(B3.set 3 (c3 + k * q3)).cast rfl, grown_set G3⟩ ?_
  rintro wq4 ⟨B4, G4⟩
  clear st sf B3 G3
  rw [rounds_succ]
  have st := B4.cell 4 rfl
  have sf := B4.frz 4
  go_wp2_with fail
  refine rounds_name (fun w' => Box 44 w' B [c0 + k * q0, c1 + k * q1, c2 + k * q2, c3 + k * q3, c4 + k * q4, c5] ∧ w.grownBy w' (some B)) ⟨(B4.set 4 (c4 + k * q4)).cast rfl, grown_set G4⟩ ?_
  rintro wq5 ⟨B5, G5⟩
  clear st sf B4 G4
  rw [rounds_succ]
  have st := B5.cell 5 rfl
  have sf := B5.frz 5
  go_wp2_with fail
  refine rounds_name (fun w' => Box 44 w' B [c0 + k * q0, c1 + k * q1, c2 + k * q2, c3 + k * q3, c4 + k * q4, c5 + k * q5] ∧ w.grownBy w' (some B)) ⟨(B5.set 5 (c5 + k * q5)).cast rfl, grown_set G5⟩ ?_
  rintro wq6 ⟨B6, G6⟩
  clear st sf B5 G5
  rw [rounds_succ]
  go_wp2_with fail
  go_returns
  exact ⟨rfl, by rw [HE.out]; exact B6, G6⟩
theorem form_snoc {p k x y : Int} {L Q : List Int} {j : Nat} (hx : L[j]? = some x) (hy : Q[j]? = some y) : (mod6 p (add6 k L Q)).take (j + 1) = (mod6 p (add6 k L Q)).take j ++ [(x + k * y) % p] := by
  rw [List.take_add_one]
  congr 1
  unfold mod6 add6
  rw [List.getElem?_map, List.getElem?_zipWith, hx, hy]; rfl
theorem below_n {n : Nat} {w : World} (h : n ≤ w.heap.size) : Below n w w := ⟨rfl, rfl, rfl, Nat.le_refl _, fun _ _ => rfl⟩
theorem keepCn {n : Nat} {w w' : World} (hb : Below n w w') {b o : Nat} {v : Value} (h : w.cell? ⟨b, o, none⟩ = some v) (hl : b < n) : w'.cell? ⟨b, o, none⟩ = some v := by
  rw [hb.cell (p := ⟨b, o, none⟩) hl]; exact h
theorem form_len {p k : Int} {L Q : List Int} (hL : L.length = 6) (hQ : Q.length = 6) : (mod6 p (add6 k L Q)).length = 6 := by unfold mod6; rw [List.length_map]; exact add6_len k hL hQ
set_option maxHeartbeats 8000000 in
theorem l05Form_any (p k f0 f1 f2 g0 g1 g2 : Int) (b off c : Nat) (L : List Int) (w : World) (hp : isP p = true) (hk : bd 12 k) (hf0 : sm f0) (hf1 : sm f1) (hf2 : sm f2) (hg0 : sm g0) (hg1 : sm g1) (hg2 : sm g2) (hL : L.length = 6) (hbL : ∀ x ∈ L, bd 20000 x) (hR : Rd w b off L) (hbl : b < w.heap.size) :
    Calls Try.prog 95 #[.int .i64 p, .slice (some ⟨b, off, none⟩) 6 c, .agg #[.int .i64 f0, .int .i64 f1, .int .i64 f2], .agg #[.int .i64 g0, .int .i64 g1, .int .i64 g2], .int .i64 k] w fun e w' => ∃ v, e = .returned v ∧ OwnI w' w.heap.size v (mod6 p (add6 k L (qL ⟨f0, f1, f2⟩ ⟨g0, g1, g2⟩))) ∧ Below w.heap.size w w' := by
  have k1 := isP_lo hp
  have k2 := isP_hi hp
  obtain ⟨hf0, hf0'⟩ := hf0; obtain ⟨hf1, hf1'⟩ := hf1; obtain ⟨hf2, hf2'⟩ := hf2
  obtain ⟨hg0, hg0'⟩ := hg0; obtain ⟨hg1, hg1'⟩ := hg1; obtain ⟨hg2, hg2'⟩ := hg2
  have hb0 := mul_bd (a := f0) (b := g0) (A := 12) (B := 12) (by omega) (by omega) (by omega) (by omega)
  have hw0 : IntKind.i64.wrap (f0 * g0) = f0 * g0 := by go_arith
  have hb1 := mul_bd (a := f1) (b := g1) (A := 12) (B := 12) (by omega) (by omega) (by omega) (by omega)
  have hw1 : IntKind.i64.wrap (f1 * g1) = f1 * g1 := by go_arith
  have hb2 := mul_bd (a := f2) (b := g2) (A := 12) (B := 12) (by omega) (by omega) (by omega) (by omega)
  have hw2 : IntKind.i64.wrap (f2 * g2) = f2 * g2 := by go_arith
  have hb3 := mul_bd (a := f0) (b := g1) (A := 12) (B := 12) (by omega) (by omega) (by omega) (by omega)
  have hw3 : IntKind.i64.wrap (f0 * g1) = f0 * g1 := by go_arith
  have hb4 := mul_bd (a := f1) (b := g0) (A := 12) (B := 12) (by omega) (by omega) (by omega) (by omega)
  have hw4 : IntKind.i64.wrap (f1 * g0) = f1 * g0 := by go_arith
  have hb5 := mul_bd (a := f0) (b := g2) (A := 12) (B := 12) (by omega) (by omega) (by omega) (by omega)
  have hw5 : IntKind.i64.wrap (f0 * g2) = f0 * g2 := by go_arith
  have hb6 := mul_bd (a := f2) (b := g0) (A := 12) (B := 12) (by omega) (by omega) (by omega) (by omega)
  have hw6 : IntKind.i64.wrap (f2 * g0) = f2 * g0 := by go_arith
  have hb7 := mul_bd (a := f1) (b := g2) (A := 12) (B := 12) (by omega) (by omega) (by omega) (by omega)
  have hw7 : IntKind.i64.wrap (f1 * g2) = f1 * g2 := by go_arith
  have hb8 := mul_bd (a := f2) (b := g1) (A := 12) (B := 12) (by omega) (by omega) (by omega) (by omega)
  have hw8 : IntKind.i64.wrap (f2 * g1) = f2 * g1 := by go_arith
  have hs3 : IntKind.i64.wrap (f0 * g1 + f1 * g0) = f0 * g1 + f1 * g0 := by go_arith
  have hs4 : IntKind.i64.wrap (f0 * g2 + f2 * g0) = f0 * g2 + f2 * g0 := by go_arith
  have hs5 : IntKind.i64.wrap (f1 * g2 + f2 * g1) = f1 * g2 + f2 * g1 := by go_arith
  obtain ⟨q0, hq0⟩ : ∃ x, Hid (f0 * g0 = x) := ⟨_, rfl⟩
  obtain ⟨q1, hq1⟩ : ∃ x, Hid (f1 * g1 = x) := ⟨_, rfl⟩
  obtain ⟨q2, hq2⟩ : ∃ x, Hid (f2 * g2 = x) := ⟨_, rfl⟩
  obtain ⟨q3, hq3⟩ : ∃ x, Hid (f0 * g1 + f1 * g0 = x) := ⟨_, rfl⟩
  obtain ⟨q4, hq4⟩ : ∃ x, Hid (f0 * g2 + f2 * g0 = x) := ⟨_, rfl⟩
  obtain ⟨q5, hq5⟩ : ∃ x, Hid (f1 * g2 + f2 * g1 = x) := ⟨_, rfl⟩
  have hqb0 : 0 ≤ q0 ∧ q0 ≤ 288 := by rw [← hq0.out]; omega
  have hqb1 : 0 ≤ q1 ∧ q1 ≤ 288 := by rw [← hq1.out]; omega
  have hqb2 : 0 ≤ q2 ∧ q2 ≤ 288 := by rw [← hq2.out]; omega
  have hqb3 : 0 ≤ q3 ∧ q3 ≤ 288 := by rw [← hq3.out]; omega
  have hqb4 : 0 ≤ q4 ∧ q4 ≤ 288 := by rw [← hq4.out]; omega
  have hqb5 : 0 ≤ q5 ∧ q5 ≤ 288 := by rw [← hq5.out]; omega
  have HE : Hid (qL ⟨f0, f1, f2⟩ ⟨g0, g1, g2⟩ = [q0, q1, q2, q3, q4, q5]) := by
    show _ = _
    rw [← hq0.out, ← hq1.out, ← hq2.out, ← hq3.out, ← hq4.out, ← hq5.out]; rfl
  have hQb : ∀ y ∈ [q0, q1, q2, q3, q4, q5], 0 ≤ y ∧ y ≤ 288 := fun y hy => (by
    simp only [List.mem_cons, List.not_mem_nil, or_false] at hy
    rcases hy with rfl | rfl | rfl | rfl | rfl | rfl
    · exact hqb0
    · exact hqb1
    · exact hqb2
    · exact hqb3
    · exact hqb4
    · exact hqb5)
  have HQB := Lib.hid hQb; have HLB := Lib.hid hbL
  have HQL : Hid (([q0, q1, q2, q3, q4, q5] : List Int).length = 6) := rfl
  clear hQb hbL hqb0 hqb1 hqb2 hqb3 hqb4 hqb5
  have HLL := Lib.hid hL; clear hL
  go_enter Try.func95, Try.ntmps95
  go_wp2_with fail
  refine wp_name (fun w' => Box 2 w' (w.heap.size + 1 + 1) [q0, q1, q2, q3, q4, q5] ∧ OwnI w' (w.heap.size + 1 + 1 + 1) (.slice (some ⟨w.heap.size + 1 + 1 + 1, 0, none⟩) 0 0) [] ∧ w.heap.size + 1 + 1 + 1 ≤ w'.heap.size ∧ Below w.heap.size w w') ⟨Box.alloc ((Box.new [f0 * g0, f1 * g1, f2 * g2, f0 * g1 + f1 * g0, f0 * g2 + f2 * g0, f1 * g2 + f2 * g1] (by simp)).cast (by rw [hq0.out, hq1.out, hq2.out, hq3.out, hq4.out, hq5.out])) _, OwnI.made0 (by simp) (by simp), by simp only [World.size_alloc]; omega, by (repeat' (first | (with_reducible exact Below.refl _ _) | (with_reducible assumption) | (with_reducible refine Below.alloc ?_ ?_ _) | (with_reducible refine Below.drew ?_) | (with_reducible refine below_drewN ?_ _) | (with_reducible refine Below.setCell ?_ ?_ _) | (refine Below.step ?_ (by with_reducible assumption) ?_) | go_size))⟩ ?_
  rintro w1 ⟨BQ, hO0, hz1, hB1⟩
  have hR1 := hR.below hB1 hbl
  have hbl1 : b < w1.heap.size := Nat.lt_of_lt_of_le hbl hB1.size
  have hq1 := BQ.lt
  have HQR := Lib.hid BQ.rd
  clear hR BQ hb0 hw0 hb1 hw1 hb2 hw2 hb3 hw3 hb4 hw4 hb5 hw5 hb6 hw6 hb7 hw7 hb8 hw8 hs3 hs4 hs5
  have HFS : Hid (∀ j x y, L[j]? = some x → [q0, q1, q2, q3, q4, q5][j]? = some y → (mod6 p (add6 k L [q0, q1, q2, q3, q4, q5])).take (j + 1) = (mod6 p (add6 k L [q0, q1, q2, q3, q4, q5])).take j ++ [(x + k * y) % p]) := fun j x y h1 h2 => form_snoc h1 h2
  have HFL : Hid ((mod6 p (add6 k L [q0, q1, q2, q3, q4, q5])).length = 6) := form_len HLL.out rfl
  generalize [q0, q1, q2, q3, q4, q5] = QQ at *
  generalize hML : mod6 p (add6 k L QQ) = ML at *
  have HML := Lib.hid hML; clear hML
  go_loopw [12, 13] (fun v i wr => ∃ j : Nat, j ≤ 6 ∧ i = .int .i64 j ∧ OwnI wr (w.heap.size + 1 + 1 + 1) v (ML.take j) ∧ Below (w.heap.size + 1 + 1 + 1) w1 wr ∧ Below w.heap.size w wr) (fun _ i _ => 6 - (intOf i).toNat)
  case atStart => exact ⟨0, Nat.zero_le _, rfl, hO0, below_n hz1, hB1⟩
  clear hO0 hB1
  obtain ⟨j, hj, rfl, hown, hC, hB⟩ := hrel
  have hBz := hB.size
  have hCz : w.heap.size + 1 + 1 + 1 ≤ wr.heap.size := Nat.le_trans hz1 hC.size
  have hzz : w.heap.size + 1 + 1 + 1 ≤ (wr.alloc (.cells #[.int .i64 0] 2)).heap.size := by simp; omega
  by_cases hlt : j < 6
  · obtain ⟨x, hx⟩ : ∃ x, L[j]? = some x := ⟨_, List.getElem?_eq_getElem (by rw [HLL.out]; exact hlt)⟩
    obtain ⟨y, hy⟩ : ∃ y, QQ[j]? = some y := ⟨_, List.getElem?_eq_getElem (by rw [HQL.out]; exact hlt)⟩
    have e1 := keepCn hC (hR1 j x hx) (by omega)
    have e2 := keepCn hC (HQR.out j y hy) (by omega)
    simp only [Nat.zero_add] at e2
    have hyb := HQB.out y (List.mem_of_getElem? hy)
    have hxb := HLB.out x (List.mem_of_getElem? hx)
    have hkb := bd_mul (A := 12) (B := 288) hk hyb (by omega)
    have hw1 : IntKind.i64.wrap (k * y) = k * y := by unfold bd at hkb; go_arith
    have hw2 : IntKind.i64.wrap (x + k * y) = x + k * y := by unfold bd at hkb hxb; go_arith
    have hnext := Lib.hid (HFS.out j x y hx hy)
    obtain ⟨z, hz⟩ : ∃ z, Hid ((x + k * y) % p = z) := ⟨_, rfl⟩
    have hmd := Lib.hid ((l01Mod_any p (x + k * y) wr.drew k1 k2).mono fun _ _ h => And.intro h.1 h.2.symm)
    rw [hz.out] at hmd hnext
    have htk : Hid ((ML.take j).length = j) := by show _ = _; rw [List.length_take, HFL.out]; omega
    have hlk : (ML.take j).length ≤ 1000 := by rw [htk.out]; omega
    have hOa : OwnI (wr.alloc (.cells #[.int .i64 z] 2)).drew (w.heap.size + 1 + 1 + 1) u12 (ML.take j) := OwnI.alloc hown _
    have hNa : Box 2 (wr.alloc (.cells #[.int .i64 z] 2)).drew wr.heap.size [z] := Box.new [z] rfl
    have hne1 : some b ≠ u12.ownBlock := fun e => by have := (World.ownsRow.lt hown b e.symm).1; omega
    have hne2 : some (w.heap.size + 1 + 1) ≠ u12.ownBlock := fun e => by have := (World.ownsRow.lt hown _ e.symm).1; omega
    clear hyb hxb hkb hx hy
    go_wp2
    go_region_held3 (fun w' => w'.cell? ⟨b, off + j, none⟩ = some (.int .i64 x) ∧ w'.cell? ⟨w.heap.size + 1 + 1, j, none⟩ = some (.int .i64 y)) ((go_split_ands; (repeat (any_goals (with_reducible apply And.intro))) <;> (first | (with_reducible assumption) | (with_reducible exact keepD (by with_reducible assumption)) | (with_reducible exact keepD (keepA _ (by with_reducible assumption))) | (with_reducible exact True.intro) | ((refine hgr.cell ?_ ?_); (first | (with_reducible assumption) | (with_reducible exact keepD (keepA _ (by with_reducible assumption)))); (first | exact hne1 | exact hne2))))) ((first | (go_at_call 69; refine hmd.out.mono ?_; rintro e w1 ⟨rfl, rfl⟩) | (refine appI_step rfl _ _ rfl (w.heap.size + 1 + 1 + 1) _ (ML.take j) [z] rfl hOa rfl hNa rfl (by decide) (by (try simp only [List.length_singleton]); omega) (by simp; omega) ?_; intro g1 cap1 wq1 hown1 hgr hBk)))
    rw [List.length_take] at hown1
    have hown2 : OwnI wq1 (w.heap.size + 1 + 1 + 1) (.slice (some ⟨g1, 0, none⟩) (min j ML.length + 1) cap1) (ML.take (j + 1)) := by rw [hnext.out]; exact hown1
    have hB2 := hBk _ _ (Below.drew (Below.alloc hB hBz _)) (by omega)
    have hC2 := hBk _ _ (Below.drew (Below.alloc hC hCz _)) (Nat.le_refl _)
    clear hown1 hBk hgr hOa hNa hown hB hC
    go_wp2
    go_roundw
    case rel => exact ⟨j + 1, by omega, by go_num, hown2, hC2, hB2⟩
    case measure => simp [intOf]; omega
  · have hown' : OwnI wr (w.heap.size + 1 + 1 + 1) u12 ML := by rwa [List.take_of_length_le (by rw [HFL.out]; omega)] at hown
    clear hown
    go_wp2
    go_ret
    exact ⟨_, rfl, by rw [HE.out, HML.out]; exact hown'.base_le (by omega), hB⟩
set_option maxHeartbeats 4000000 in
theorem Steiner1_any (p o0 o1 o2 q0 q1 q2 m0 m1 m2 m3 : Int) (u bo bq bm : Nat) (w : World) (k1 : 3 ≤ p) (k2 : p ≤ 13) (hu : w.cell? ⟨u, 0, none⟩ = some (.int .i64 p))
    (ho0 : w.cell? ⟨bo, 0, none⟩ = some (.int .i64 o0)) (ho1 : w.cell? ⟨bo, 1, none⟩ = some (.int .i64 o1)) (ho2 : w.cell? ⟨bo, 2, none⟩ = some (.int .i64 o2)) (hq0 : w.cell? ⟨bq, 0, none⟩ = some (.int .i64 q0)) (hq1 : w.cell? ⟨bq, 1, none⟩ = some (.int .i64 q1)) (hq2 : w.cell? ⟨bq, 2, none⟩ = some (.int .i64 q2)) (hm0 : w.cell? ⟨bm, 0, none⟩ = some (.int .i64 m0)) (hm1 : w.cell? ⟨bm, 1, none⟩ = some (.int .i64 m1)) (hm2 : w.cell? ⟨bm, 2, none⟩ = some (.int .i64 m2)) (hm3 : w.cell? ⟨bm, 3, none⟩ = some (.int .i64 m3)) :
    ClB Try.prog 97 #[.pointer (some ⟨u, 0, none⟩), .pointer (some ⟨bo, 0, none⟩), .pointer (some ⟨bq, 0, none⟩), .pointer (some ⟨bm, 0, none⟩)] w (allPt p [⟨o0, o1, o2⟩, ⟨q0, q1, q2⟩] && isMoE p ⟨m0, m1, m2, m3⟩) := by
  unfold ClB
  have hmo : isMoE p ⟨m0, m1, m2, m3⟩ = isMo p m0 m1 m2 m3 := rfl
  rw [hmo]
  cases ha : allPt p [⟨o0, o1, o2⟩, ⟨q0, q1, q2⟩]
  · have HA := Lib.hid ha; clear ha hmo
    go_enter Try.func97, Try.ntmps97
    go_wp2_with (go_at_call 98; refine (arePoints_any p _ 0 _ [⟨o0, o1, o2⟩, ⟨q0, q1, q2⟩] _ (rdp2 (by go_cell) (by go_cell) (by go_cell) (by go_cell) (by go_cell) (by go_cell)) (by go_size) (by simp)).mono ?_; rw [HA.out]; rintro e w1 ⟨rfl, hb1⟩)
    go_returns
    exact ⟨rfl, by (repeat' (first | (with_reducible exact Below.refl _ _) | (with_reducible assumption) | (with_reducible refine Below.alloc ?_ ?_ _) | (with_reducible refine Below.drew ?_) | (with_reducible refine below_drewN ?_ _) | (with_reducible refine Below.setCell ?_ ?_ _) | (refine Below.step ?_ (by with_reducible assumption) ?_) | go_size))⟩
  · have HA := Lib.hid ha; clear ha hmo
    go_enter Try.func97, Try.ntmps97
    go_wp2_with (first | (go_at_call 98; refine (arePoints_any p _ 0 _ [⟨o0, o1, o2⟩, ⟨q0, q1, q2⟩] _ (rdp2 (by go_cell) (by go_cell) (by go_cell) (by go_cell) (by go_cell) (by go_cell)) (by go_size) (by simp)).mono ?_; rw [HA.out]; rintro e w1 ⟨rfl, hb1⟩; have hu' : w1.cell? ⟨u, 0, none⟩ = some (.int .i64 p) := keepC hb1 (keepA _ hu); have hm0' : w1.cell? ⟨bm, 0, none⟩ = some (.int .i64 m0) := keepC hb1 (keepA _ hm0); have hm1' : w1.cell? ⟨bm, 1, none⟩ = some (.int .i64 m1) := keepC hb1 (keepA _ hm1); have hm2' : w1.cell? ⟨bm, 2, none⟩ = some (.int .i64 m2) := keepC hb1 (keepA _ hm2); have hm3' : w1.cell? ⟨bm, 3, none⟩ = some (.int .i64 m3) := keepC hb1 (keepA _ hm3)) | (go_at_call 99; refine (isMoebius_any p m0 m1 m2 m3 _ k1 k2).mono ?_; rintro e w2 ⟨rfl, hb2⟩))
    go_returns
    have hA1 : Below w.heap.size w w1 := keepB hb1 ((Below.refl _ _).alloc (Nat.le_refl _) _) (Nat.le_refl _)
    exact ⟨rfl, keepB hb2 hA1 (Nat.le_refl _)⟩
theorem qL_bd {f g : P3} (h : (sm f.x ∧ sm f.y ∧ sm f.z) ∧ (sm g.x ∧ sm g.y ∧ sm g.z)) : ∀ y ∈ qL f g, 0 ≤ y ∧ y ≤ 288 := by
  obtain ⟨⟨⟨a0, a1⟩, ⟨b0, b1⟩, ⟨c0, c1⟩⟩, ⟨d0, d1⟩, ⟨e0, e1⟩, ⟨f0, f1⟩⟩ := h
  have h0 := mul_bd a0 a1 d0 d1; have h1 := mul_bd b0 b1 e0 e1; have h2 := mul_bd c0 c1 f0 f1
  have h3 := mul_bd a0 a1 e0 e1; have h4 := mul_bd b0 b1 d0 d1; have h5 := mul_bd a0 a1 f0 f1
  have h6 := mul_bd c0 c1 d0 d1; have h7 := mul_bd b0 b1 f0 f1; have h8 := mul_bd c0 c1 e0 e1
  intro y hy
  unfold qL at hy
  simp only [List.mem_cons, List.not_mem_nil, or_false] at hy
  rcases hy with rfl | rfl | rfl | rfl | rfl | rfl <;> omega
theorem add6_bd {A k : Int} {L Q : List Int} (hk : bd 12 k) (hL : ∀ x ∈ L, bd A x) (hQ : ∀ y ∈ Q, 0 ≤ y ∧ y ≤ 288) : ∀ x ∈ add6 k L Q, bd (A + 3456) x := by
  intro z hz
  obtain ⟨i, hi⟩ := List.getElem?_of_mem hz
  unfold add6 at hi
  rw [List.getElem?_zipWith] at hi
  cases hx : L[i]? with
  | none => rw [hx] at hi; cases hi
  | some x =>
    cases hy : Q[i]? with
    | none => rw [hx, hy] at hi; cases hi
    | some y =>
      rw [hx, hy] at hi
      simp only [Option.some.injEq] at hi
      subst hi
      have h1 := hL x (List.mem_of_getElem? hx)
      have h2 := bd_mul hk (hQ y (List.mem_of_getElem? hy)) (by omega : (0 : Int) ≤ 12)
      unfold bd at *
      omega
theorem Box.setRow' {E b : Nat} : ∀ (ys : List Int) {w : World} {pre old : List Int}, Box E w b (pre ++ old) → old.length = ys.length → Box E (setRow w b pre.length ys) b (pre ++ ys)
  | [], w, pre, old, h, hl => by
    have : old = [] := List.length_eq_zero_iff.1 hl
    subst this; exact h
  | y :: ys, w, pre, x :: old, h, hl => by
    have h1 := h.set pre.length y
    rw [set_mid] at h1
    have h2 := Box.setRow' ys (pre := pre ++ [y]) (old := old) (by simpa using h1) (by simpa using hl)
    simpa [setRow] using h2
theorem Box.grownB {E b g : Nat} {w w' : World} {vs : List Int} (h : Box E w b vs) (hg : w.grownBy w' (some g)) (hne : b ≠ g) : Box E w' b vs := by
  have hl := h.lt
  unfold Box at *
  rw [hg.block b hl (by intro e; exact hne (Option.some.inj e))]; exact h
theorem setRow_grown (b : Nat) (ys : List Int) : ∀ (w : World) (off : Nat), w.grownBy (setRow w b off ys) (some b) := by
  induction ys with
  | nil => intro w off; exact ⟨rfl, rfl, rfl, Nat.le_refl _, fun _ _ _ => rfl⟩
  | cons y ys ih => intro w off; simp only [setRow]; exact grown_trans (setCells_grown b [.int .i64 y] w off) (ih _ _)
theorem Steiner2_L (k : Int) (f g : P3) (L : List Int) (B : Nat) (w : World) (hk : bd 12 k) (hf : sm f.x ∧ sm f.y ∧ sm f.z) (hg : sm g.x ∧ sm g.y ∧ sm g.z) (hL : L.length = 6) (hb : ∀ x ∈ L, bd 20000 x) (hB : Box 44 w B L) :
    Calls Try.prog 101 #[.int .i64 k, .agg #[.int .i64 f.x, .int .i64 f.y, .int .i64 f.z], .agg #[.int .i64 g.x, .int .i64 g.y, .int .i64 g.z], .pointer (some ⟨B, 0, none⟩)] w fun e w' => e = .returned (.tuple #[]) ∧ Box 44 w' B (add6 k L (qL f g)) ∧ w.grownBy w' (some B) := by
  obtain ⟨c0, c1, c2, c3, c4, c5, rfl⟩ := six_of hL
  exact Steiner2_any k f.x f.y f.z g.x g.y g.z c0 c1 c2 c3 c4 c5 B w hk hf.1 hf.2.1 hf.2.2 hg.1 hg.2.1 hg.2.2 (hb _ (by simp)) (hb _ (by simp)) (hb _ (by simp)) (hb _ (by simp)) (hb _ (by simp)) (hb _ (by simp)) hB
set_option maxHeartbeats 16000000 in
theorem SteinerConic_any (p o0 o1 o2 q0 q1 q2 m0 m1 m2 m3 : Int) (w : World) :
    Calls Try.prog 44 #[.int .i64 p, .agg #[.int .i64 o0, .int .i64 o1, .int .i64 o2], .agg #[.int .i64 q0, .int .i64 q1, .int .i64 q2], .agg #[.int .i64 m0, .int .i64 m1, .int .i64 m2, .int .i64 m3]] w fun e w' => e = .returned (.tuple #[.agg #[.int .i64 ((stR p ⟨o0, o1, o2⟩ ⟨q0, q1, q2⟩ ⟨m0, m1, m2, m3⟩).1).c0, .int .i64 ((stR p ⟨o0, o1, o2⟩ ⟨q0, q1, q2⟩ ⟨m0, m1, m2, m3⟩).1).c1, .int .i64 ((stR p ⟨o0, o1, o2⟩ ⟨q0, q1, q2⟩ ⟨m0, m1, m2, m3⟩).1).c2, .int .i64 ((stR p ⟨o0, o1, o2⟩ ⟨q0, q1, q2⟩ ⟨m0, m1, m2, m3⟩).1).c3, .int .i64 ((stR p ⟨o0, o1, o2⟩ ⟨q0, q1, q2⟩ ⟨m0, m1, m2, m3⟩).1).c4, .int .i64 ((stR p ⟨o0, o1, o2⟩ ⟨q0, q1, q2⟩ ⟨m0, m1, m2, m3⟩).1).c5], .int .i64 (stR p ⟨o0, o1, o2⟩ ⟨q0, q1, q2⟩ ⟨m0, m1, m2, m3⟩).2]) ∧ Below w.heap.size w w' := by
  have hE0 : stR p ⟨o0, o1, o2⟩ ⟨q0, q1, q2⟩ ⟨m0, m1, m2, m3⟩ = if codeOf p (allPt p [⟨o0, o1, o2⟩, ⟨q0, q1, q2⟩] && isMoE p ⟨m0, m1, m2, m3⟩) = 0 then (if (⟨o0, o1, o2⟩ : P3) = ⟨q0, q1, q2⟩ then (⟨0, 0, 0, 0, 0, 0⟩, 5) else (nm6 p (stI ⟨m0, m1, m2, m3⟩ (buU p ⟨o0, o1, o2⟩) (buV p ⟨o0, o1, o2⟩) (buU p ⟨q0, q1, q2⟩) (buV p ⟨q0, q1, q2⟩)), 0)) else (⟨0, 0, 0, 0, 0, 0⟩, codeOf p (allPt p [⟨o0, o1, o2⟩, ⟨q0, q1, q2⟩] && isMoE p ⟨m0, m1, m2, m3⟩)) := rfl
  have HPC : Hid (∀ (w' : World) (u bo bq bm : Nat), w'.cell? ⟨u, 0, none⟩ = some (.int .i64 p) → w'.cell? ⟨bo, 0, none⟩ = some (.int .i64 o0) → w'.cell? ⟨bo, 1, none⟩ = some (.int .i64 o1) → w'.cell? ⟨bo, 2, none⟩ = some (.int .i64 o2) → w'.cell? ⟨bq, 0, none⟩ = some (.int .i64 q0) → w'.cell? ⟨bq, 1, none⟩ = some (.int .i64 q1) → w'.cell? ⟨bq, 2, none⟩ = some (.int .i64 q2) → w'.cell? ⟨bm, 0, none⟩ = some (.int .i64 m0) → w'.cell? ⟨bm, 1, none⟩ = some (.int .i64 m1) → w'.cell? ⟨bm, 2, none⟩ = some (.int .i64 m2) → w'.cell? ⟨bm, 3, none⟩ = some (.int .i64 m3) → Calls Try.prog 96 #[.int .i64 p, .func (.func 97) #[] #[.pointer (some ⟨u, 0, none⟩), .pointer (some ⟨bo, 0, none⟩), .pointer (some ⟨bq, 0, none⟩), .pointer (some ⟨bm, 0, none⟩)]] w' fun e w'' => e = .returned (.int .i64 (codeOf p (allPt p [⟨o0, o1, o2⟩, ⟨q0, q1, q2⟩] && isMoE p ⟨m0, m1, m2, m3⟩))) ∧ Below w'.heap.size w' w'') := fun w' u bo bq bm h0 h1 h2 h3 h4 h5 h6 h7 h8 h9 h10 => planeCode4 p _ _ _ _ _ _ w' (fun _ _ => by kernel_rfl) (fun hp => Steiner1_any p o0 o1 o2 q0 q1 q2 m0 m1 m2 m3 u bo bq bm w' (isP_lo hp) (isP_hi hp) h0 h1 h2 h3 h4 h5 h6 h7 h8 h9 h10)
  rcases code3 p (allPt p [⟨o0, o1, o2⟩, ⟨q0, q1, q2⟩] && isMoE p ⟨m0, m1, m2, m3⟩) with hk | hk | ⟨hp, hok, hk⟩
  · rw [hk] at hE0 HPC
    have hE := Lib.hid (hE0.trans (by rw [if_neg (by decide)])); clear hE0
    go_enter Try.func44, Try.ntmps44
    go_wp2_with (go_at_call 96; refine (HPC.out _ _ _ _ _ (by go_cell) (by go_cell) (by go_cell) (by go_cell) (by go_cell) (by go_cell) (by go_cell) (by go_cell) (by go_cell) (by go_cell) (by go_cell)).mono ?_; rintro e w1 ⟨rfl, hb1⟩; obtain ⟨hc1, hf1⟩ := bcell hb1; have hz1 := hb1.size; (try simp only [World.size_alloc, World.size_setCell, World.size_drew] at hz1); (try (have hy1w0 : w.heap.size < w1.heap.size := by omega)); (try (have hy1w1 : w.heap.size + 1 < w1.heap.size := by omega)); (try (have hy1w2 : w.heap.size + 1 + 1 < w1.heap.size := by omega)); (try (have hy1w3 : w.heap.size + 1 + 1 + 1 < w1.heap.size := by omega)); (try (have hy1w4 : w.heap.size + 1 + 1 + 1 + 1 < w1.heap.size := by omega)); have z0 : w1.cell? ⟨w.heap.size + 1 + 1 + 1 + 1, 0, none⟩ = some (.int .i64 0) := keepC hb1 (by go_cell); have z1 : w1.cell? ⟨w.heap.size + 1 + 1 + 1 + 1, 1, none⟩ = some (.int .i64 0) := keepC hb1 (by go_cell); have z2 : w1.cell? ⟨w.heap.size + 1 + 1 + 1 + 1, 2, none⟩ = some (.int .i64 0) := keepC hb1 (by go_cell); have z3 : w1.cell? ⟨w.heap.size + 1 + 1 + 1 + 1, 3, none⟩ = some (.int .i64 0) := keepC hb1 (by go_cell); have z4 : w1.cell? ⟨w.heap.size + 1 + 1 + 1 + 1, 4, none⟩ = some (.int .i64 0) := keepC hb1 (by go_cell); have z5 : w1.cell? ⟨w.heap.size + 1 + 1 + 1 + 1, 5, none⟩ = some (.int .i64 0) := keepC hb1 (by go_cell))
    (try simp only [Exit.inBlock, Exit.then]); refine bodyPost_ret (by simp [results, Try.results44, go_sem, *]; try rfl) rfl ?_
    exact ⟨by rw [hE.out], by (repeat' (first | (with_reducible exact Below.refl _ _) | (with_reducible assumption) | (with_reducible refine Below.alloc ?_ ?_ _) | (with_reducible refine Below.drew ?_) | (with_reducible refine below_drewN ?_ _) | (with_reducible refine Below.setCell ?_ ?_ _) | (refine Below.step ?_ (by with_reducible assumption) ?_) | go_size))⟩
  · rw [hk] at hE0 HPC
    have hE := Lib.hid (hE0.trans (by rw [if_neg (by decide)])); clear hE0
    go_enter Try.func44, Try.ntmps44
    go_wp2_with (go_at_call 96; refine (HPC.out _ _ _ _ _ (by go_cell) (by go_cell) (by go_cell) (by go_cell) (by go_cell) (by go_cell) (by go_cell) (by go_cell) (by go_cell) (by go_cell) (by go_cell)).mono ?_; rintro e w1 ⟨rfl, hb1⟩; obtain ⟨hc1, hf1⟩ := bcell hb1; have hz1 := hb1.size; (try simp only [World.size_alloc, World.size_setCell, World.size_drew] at hz1); (try (have hy1w0 : w.heap.size < w1.heap.size := by omega)); (try (have hy1w1 : w.heap.size + 1 < w1.heap.size := by omega)); (try (have hy1w2 : w.heap.size + 1 + 1 < w1.heap.size := by omega)); (try (have hy1w3 : w.heap.size + 1 + 1 + 1 < w1.heap.size := by omega)); (try (have hy1w4 : w.heap.size + 1 + 1 + 1 + 1 < w1.heap.size := by omega)); have z0 : w1.cell? ⟨w.heap.size + 1 + 1 + 1 + 1, 0, none⟩ = some (.int .i64 0) := keepC hb1 (by go_cell); have z1 : w1.cell? ⟨w.heap.size + 1 + 1 + 1 + 1, 1, none⟩ = some (.int .i64 0) := keepC hb1 (by go_cell); have z2 : w1.cell? ⟨w.heap.size + 1 + 1 + 1 + 1, 2, none⟩ = some (.int .i64 0) := keepC hb1 (by go_cell); have z3 : w1.cell? ⟨w.heap.size + 1 + 1 + 1 + 1, 3, none⟩ = some (.int .i64 0) := keepC hb1 (by go_cell); have z4 : w1.cell? ⟨w.heap.size + 1 + 1 + 1 + 1, 4, none⟩ = some (.int .i64 0) := keepC hb1 (by go_cell); have z5 : w1.cell? ⟨w.heap.size + 1 + 1 + 1 + 1, 5, none⟩ = some (.int .i64 0) := keepC hb1 (by go_cell))
    (try simp only [Exit.inBlock, Exit.then]); refine bodyPost_ret (by simp [results, Try.results44, go_sem, *]; try rfl) rfl ?_
    exact ⟨by rw [hE.out], by (repeat' (first | (with_reducible exact Below.refl _ _) | (with_reducible assumption) | (with_reducible refine Below.alloc ?_ ?_ _) | (with_reducible refine Below.drew ?_) | (with_reducible refine below_drewN ?_ _) | (with_reducible refine Below.setCell ?_ ?_ _) | (refine Below.step ?_ (by with_reducible assumption) ?_) | go_size))⟩
  · rw [hk] at hE0 HPC
    rw [if_pos rfl] at hE0
    have k1 := isP_lo hp; have k2 := isP_hi hp
    by_cases hoq : (⟨o0, o1, o2⟩ : P3) = ⟨q0, q1, q2⟩
    · rw [if_pos hoq] at hE0
      have hE := Lib.hid hE0; clear hE0 hok hk
      obtain ⟨rfl, rfl, rfl⟩ : o0 = q0 ∧ o1 = q1 ∧ o2 = q2 := (by injection hoq with a b c; exact ⟨a, b, c⟩)
      have hqq := fun w' => (eq3_yes (t := 58) Try.underlying58 o0 o1 o2 w').1
      clear hoq
      go_enter Try.func44, Try.ntmps44
      go_wp2_with (go_at_call 96; refine (HPC.out _ _ _ _ _ (by go_cell) (by go_cell) (by go_cell) (by go_cell) (by go_cell) (by go_cell) (by go_cell) (by go_cell) (by go_cell) (by go_cell) (by go_cell)).mono ?_; rintro e w1 ⟨rfl, hb1⟩; obtain ⟨hc1, hf1⟩ := bcell hb1; have hz1 := hb1.size; (try simp only [World.size_alloc, World.size_setCell, World.size_drew] at hz1); (try (have hy1w0 : w.heap.size < w1.heap.size := by omega)); (try (have hy1w1 : w.heap.size + 1 < w1.heap.size := by omega)); (try (have hy1w2 : w.heap.size + 1 + 1 < w1.heap.size := by omega)); (try (have hy1w3 : w.heap.size + 1 + 1 + 1 < w1.heap.size := by omega)); (try (have hy1w4 : w.heap.size + 1 + 1 + 1 + 1 < w1.heap.size := by omega)); have z0 : w1.cell? ⟨w.heap.size + 1 + 1 + 1 + 1, 0, none⟩ = some (.int .i64 0) := keepC hb1 (by go_cell); have z1 : w1.cell? ⟨w.heap.size + 1 + 1 + 1 + 1, 1, none⟩ = some (.int .i64 0) := keepC hb1 (by go_cell); have z2 : w1.cell? ⟨w.heap.size + 1 + 1 + 1 + 1, 2, none⟩ = some (.int .i64 0) := keepC hb1 (by go_cell); have z3 : w1.cell? ⟨w.heap.size + 1 + 1 + 1 + 1, 3, none⟩ = some (.int .i64 0) := keepC hb1 (by go_cell); have z4 : w1.cell? ⟨w.heap.size + 1 + 1 + 1 + 1, 4, none⟩ = some (.int .i64 0) := keepC hb1 (by go_cell); have z5 : w1.cell? ⟨w.heap.size + 1 + 1 + 1 + 1, 5, none⟩ = some (.int .i64 0) := keepC hb1 (by go_cell); have co0 : w1.cell? ⟨w.heap.size + 1, 0, none⟩ = some (.int .i64 o0) := keepC hb1 (by go_cell); have cq0 : w1.cell? ⟨w.heap.size + 1 + 1, 0, none⟩ = some (.int .i64 o0) := keepC hb1 (by go_cell); have co1 : w1.cell? ⟨w.heap.size + 1, 1, none⟩ = some (.int .i64 o1) := keepC hb1 (by go_cell); have cq1 : w1.cell? ⟨w.heap.size + 1 + 1, 1, none⟩ = some (.int .i64 o1) := keepC hb1 (by go_cell); have co2 : w1.cell? ⟨w.heap.size + 1, 2, none⟩ = some (.int .i64 o2) := keepC hb1 (by go_cell); have cq2 : w1.cell? ⟨w.heap.size + 1 + 1, 2, none⟩ = some (.int .i64 o2) := keepC hb1 (by go_cell))
      (try simp only [Exit.inBlock, Exit.then]); refine bodyPost_ret (by simp [results, Try.results44, go_sem, *]; try rfl) rfl ?_
      exact ⟨by rw [hE.out], by (repeat' (first | (with_reducible exact Below.refl _ _) | (with_reducible assumption) | (with_reducible refine Below.alloc ?_ ?_ _) | (with_reducible refine Below.drew ?_) | (with_reducible refine below_drewN ?_ _) | (with_reducible refine Below.setCell ?_ ?_ _) | (refine Below.step ?_ (by with_reducible assumption) ?_) | go_size))⟩
    · rw [if_neg hoq] at hE0
      have hE := Lib.hid hE0; clear hE0
      have hqq := fun w' => (eq3_no (t := 58) Try.underlying58 (a0 := o0) (a1 := o1) (a2 := o2) (b0 := q0) (b1 := q1) (b2 := q2) (by rintro ⟨rfl, rfl, rfl⟩; exact hoq rfl) w').1
      rw [Bool.and_eq_true] at hok
      obtain ⟨hpo, h⟩ := pt1 hok.1
      obtain ⟨hpq, _⟩ := pt1 h
      have HBO := Lib.hid (fun w' => bundle_any p o0 o1 o2 w' hpo)
      have HBQ := Lib.hid (fun w' => bundle_any p q0 q1 q2 w' hpq)
      have HP := Lib.hid hp
      have hmo := hok.2
      unfold isMoE isMo at hmo
      rw [Bool.and_eq_true] at hmo
      obtain ⟨bm0, bm1, bm2, bm3⟩ := isN4 hmo.1
      dsimp only at bm0 bm1 bm2 bm3
      have HK0 : Hid (bd 12 m0) := ⟨by omega, by omega⟩
      have HK1 : Hid (bd 12 (-m1)) := ⟨by omega, by omega⟩
      have HK2 : Hid (bd 12 m2) := ⟨by omega, by omega⟩
      have HK3 : Hid (bd 12 (-m3)) := ⟨by omega, by omega⟩
      have hn1 : IntKind.i64.wrap (-m1) = -m1 := by go_arith
      have hn3 : IntKind.i64.wrap (-m3) = -m3 := by go_arith
      have hsb : ∀ {o : P3}, isPt p o = true → (sm (buU p o).x ∧ sm (buU p o).y ∧ sm (buU p o).z) ∧ (sm (buV p o).x ∧ sm (buV p o).y ∧ sm (buV p o).z) := fun {o} h => (by
        have hb := (bun_two h).2
        have f : ∀ a : P3, okR p 3 a.l → sm a.x ∧ sm a.y ∧ sm a.z := fun a ha => (by
          have e : ∀ x ∈ a.l, sm x := fun x hx => ⟨(ha.2 x hx).1, by have := (ha.2 x hx).2; omega⟩
          exact ⟨e _ (by simp [P3.l]), e _ (by simp [P3.l]), e _ (by simp [P3.l])⟩)
        exact ⟨f _ hb.ou, f _ hb.ov⟩)
      have HSO := Lib.hid (hsb hpo); have HSQ := Lib.hid (hsb hpq)
      clear hok hk hpo hpq h hoq hp hmo bm0 bm1 bm2 bm3 hsb
      generalize buU p ⟨o0, o1, o2⟩ = A at *
      generalize buV p ⟨o0, o1, o2⟩ = B at *
      generalize buU p ⟨q0, q1, q2⟩ = C at *
      generalize buV p ⟨q0, q1, q2⟩ = D at *
      go_enter Try.func44, Try.ntmps44
      go_upto_region 9 with (first | (go_at_call 96; refine (HPC.out _ _ _ _ _ (by go_cell) (by go_cell) (by go_cell) (by go_cell) (by go_cell) (by go_cell) (by go_cell) (by go_cell) (by go_cell) (by go_cell) (by go_cell)).mono ?_; rintro e w1 ⟨rfl, hb1⟩; obtain ⟨hc1, hf1⟩ := bcell hb1; have hz1 := hb1.size; (try simp only [World.size_alloc, World.size_setCell, World.size_drew] at hz1); (try (have hy1w0 : w.heap.size < w1.heap.size := by omega)); (try (have hy1w1 : w.heap.size + 1 < w1.heap.size := by omega)); (try (have hy1w2 : w.heap.size + 1 + 1 < w1.heap.size := by omega)); (try (have hy1w3 : w.heap.size + 1 + 1 + 1 < w1.heap.size := by omega)); (try (have hy1w4 : w.heap.size + 1 + 1 + 1 + 1 < w1.heap.size := by omega)); have cp_1 : w1.cell? ⟨w.heap.size, 0, none⟩ = some (.int .i64 p) := keepC hb1 (by go_cell); have co0_1 : w1.cell? ⟨w.heap.size + 1, 0, none⟩ = some (.int .i64 o0) := keepC hb1 (by go_cell); have co1_1 : w1.cell? ⟨w.heap.size + 1, 1, none⟩ = some (.int .i64 o1) := keepC hb1 (by go_cell); have co2_1 : w1.cell? ⟨w.heap.size + 1, 2, none⟩ = some (.int .i64 o2) := keepC hb1 (by go_cell); have cq0_1 : w1.cell? ⟨w.heap.size + 1 + 1, 0, none⟩ = some (.int .i64 q0) := keepC hb1 (by go_cell); have cq1_1 : w1.cell? ⟨w.heap.size + 1 + 1, 1, none⟩ = some (.int .i64 q1) := keepC hb1 (by go_cell); have cq2_1 : w1.cell? ⟨w.heap.size + 1 + 1, 2, none⟩ = some (.int .i64 q2) := keepC hb1 (by go_cell); have cm0_1 : w1.cell? ⟨w.heap.size + 1 + 1 + 1, 0, none⟩ = some (.int .i64 m0) := keepC hb1 (by go_cell); have cm1_1 : w1.cell? ⟨w.heap.size + 1 + 1 + 1, 1, none⟩ = some (.int .i64 m1) := keepC hb1 (by go_cell); have cm2_1 : w1.cell? ⟨w.heap.size + 1 + 1 + 1, 2, none⟩ = some (.int .i64 m2) := keepC hb1 (by go_cell); have cm3_1 : w1.cell? ⟨w.heap.size + 1 + 1 + 1, 3, none⟩ = some (.int .i64 m3) := keepC hb1 (by go_cell); have z0_1 : w1.cell? ⟨w.heap.size + 1 + 1 + 1 + 1, 0, none⟩ = some (.int .i64 0) := keepC hb1 (by go_cell); have z1_1 : w1.cell? ⟨w.heap.size + 1 + 1 + 1 + 1, 1, none⟩ = some (.int .i64 0) := keepC hb1 (by go_cell); have z2_1 : w1.cell? ⟨w.heap.size + 1 + 1 + 1 + 1, 2, none⟩ = some (.int .i64 0) := keepC hb1 (by go_cell); have z3_1 : w1.cell? ⟨w.heap.size + 1 + 1 + 1 + 1, 3, none⟩ = some (.int .i64 0) := keepC hb1 (by go_cell); have z4_1 : w1.cell? ⟨w.heap.size + 1 + 1 + 1 + 1, 4, none⟩ = some (.int .i64 0) := keepC hb1 (by go_cell); have z5_1 : w1.cell? ⟨w.heap.size + 1 + 1 + 1 + 1, 5, none⟩ = some (.int .i64 0) := keepC hb1 (by go_cell)) | (go_at_call_of 100 (Value.agg #[Value.int IntKind.i64 o0, Value.int IntKind.i64 o1, Value.int IntKind.i64 o2]); refine (HBO.out _).mono ?_; rintro e w2 ⟨rfl, hb2⟩; obtain ⟨hc2, hf2⟩ := bcell hb2; have hz2 := hb2.size; (try simp only [World.size_alloc, World.size_setCell, World.size_drew] at hz2); (try (have hy2w0 : w.heap.size < w2.heap.size := by omega)); (try (have hy2w1 : w.heap.size + 1 < w2.heap.size := by omega)); (try (have hy2w2 : w.heap.size + 1 + 1 < w2.heap.size := by omega)); (try (have hy2w3 : w.heap.size + 1 + 1 + 1 < w2.heap.size := by omega)); (try (have hy2w4 : w.heap.size + 1 + 1 + 1 + 1 < w2.heap.size := by omega)); (try (have hy2w10 : w1.heap.size < w2.heap.size := by omega)); (try (have hy2w11 : w1.heap.size + 1 < w2.heap.size := by omega)); (try (have hy2w12 : w1.heap.size + 1 + 1 < w2.heap.size := by omega)); (try (have hy2w13 : w1.heap.size + 1 + 1 + 1 < w2.heap.size := by omega)); (try (have hy2w14 : w1.heap.size + 1 + 1 + 1 + 1 < w2.heap.size := by omega)); have cp_2 : w2.cell? ⟨w.heap.size, 0, none⟩ = some (.int .i64 p) := keepC hb2 (by go_cell); have co0_2 : w2.cell? ⟨w.heap.size + 1, 0, none⟩ = some (.int .i64 o0) := keepC hb2 (by go_cell); have co1_2 : w2.cell? ⟨w.heap.size + 1, 1, none⟩ = some (.int .i64 o1) := keepC hb2 (by go_cell); have co2_2 : w2.cell? ⟨w.heap.size + 1, 2, none⟩ = some (.int .i64 o2) := keepC hb2 (by go_cell); have cq0_2 : w2.cell? ⟨w.heap.size + 1 + 1, 0, none⟩ = some (.int .i64 q0) := keepC hb2 (by go_cell); have cq1_2 : w2.cell? ⟨w.heap.size + 1 + 1, 1, none⟩ = some (.int .i64 q1) := keepC hb2 (by go_cell); have cq2_2 : w2.cell? ⟨w.heap.size + 1 + 1, 2, none⟩ = some (.int .i64 q2) := keepC hb2 (by go_cell); have cm0_2 : w2.cell? ⟨w.heap.size + 1 + 1 + 1, 0, none⟩ = some (.int .i64 m0) := keepC hb2 (by go_cell); have cm1_2 : w2.cell? ⟨w.heap.size + 1 + 1 + 1, 1, none⟩ = some (.int .i64 m1) := keepC hb2 (by go_cell); have cm2_2 : w2.cell? ⟨w.heap.size + 1 + 1 + 1, 2, none⟩ = some (.int .i64 m2) := keepC hb2 (by go_cell); have cm3_2 : w2.cell? ⟨w.heap.size + 1 + 1 + 1, 3, none⟩ = some (.int .i64 m3) := keepC hb2 (by go_cell); have z0_2 : w2.cell? ⟨w.heap.size + 1 + 1 + 1 + 1, 0, none⟩ = some (.int .i64 0) := keepC hb2 (by go_cell); have z1_2 : w2.cell? ⟨w.heap.size + 1 + 1 + 1 + 1, 1, none⟩ = some (.int .i64 0) := keepC hb2 (by go_cell); have z2_2 : w2.cell? ⟨w.heap.size + 1 + 1 + 1 + 1, 2, none⟩ = some (.int .i64 0) := keepC hb2 (by go_cell); have z3_2 : w2.cell? ⟨w.heap.size + 1 + 1 + 1 + 1, 3, none⟩ = some (.int .i64 0) := keepC hb2 (by go_cell); have z4_2 : w2.cell? ⟨w.heap.size + 1 + 1 + 1 + 1, 4, none⟩ = some (.int .i64 0) := keepC hb2 (by go_cell); have z5_2 : w2.cell? ⟨w.heap.size + 1 + 1 + 1 + 1, 5, none⟩ = some (.int .i64 0) := keepC hb2 (by go_cell)) | (go_at_call_of 100 (Value.agg #[Value.int IntKind.i64 q0, Value.int IntKind.i64 q1, Value.int IntKind.i64 q2]); refine (HBQ.out _).mono ?_; rintro e w3 ⟨rfl, hb3⟩; obtain ⟨hc3, hf3⟩ := bcell hb3; have hz3 := hb3.size; (try simp only [World.size_alloc, World.size_setCell, World.size_drew] at hz3); (try (have hy3w0 : w.heap.size < w3.heap.size := by omega)); (try (have hy3w1 : w.heap.size + 1 < w3.heap.size := by omega)); (try (have hy3w2 : w.heap.size + 1 + 1 < w3.heap.size := by omega)); (try (have hy3w3 : w.heap.size + 1 + 1 + 1 < w3.heap.size := by omega)); (try (have hy3w4 : w.heap.size + 1 + 1 + 1 + 1 < w3.heap.size := by omega)); (try (have hy3w10 : w1.heap.size < w3.heap.size := by omega)); (try (have hy3w11 : w1.heap.size + 1 < w3.heap.size := by omega)); (try (have hy3w12 : w1.heap.size + 1 + 1 < w3.heap.size := by omega)); (try (have hy3w13 : w1.heap.size + 1 + 1 + 1 < w3.heap.size := by omega)); (try (have hy3w14 : w1.heap.size + 1 + 1 + 1 + 1 < w3.heap.size := by omega)); (try (have hy3w20 : w2.heap.size < w3.heap.size := by omega)); (try (have hy3w21 : w2.heap.size + 1 < w3.heap.size := by omega)); (try (have hy3w22 : w2.heap.size + 1 + 1 < w3.heap.size := by omega)); (try (have hy3w23 : w2.heap.size + 1 + 1 + 1 < w3.heap.size := by omega)); (try (have hy3w24 : w2.heap.size + 1 + 1 + 1 + 1 < w3.heap.size := by omega)); have cp_3 : w3.cell? ⟨w.heap.size, 0, none⟩ = some (.int .i64 p) := keepC hb3 (by go_cell); have co0_3 : w3.cell? ⟨w.heap.size + 1, 0, none⟩ = some (.int .i64 o0) := keepC hb3 (by go_cell); have co1_3 : w3.cell? ⟨w.heap.size + 1, 1, none⟩ = some (.int .i64 o1) := keepC hb3 (by go_cell); have co2_3 : w3.cell? ⟨w.heap.size + 1, 2, none⟩ = some (.int .i64 o2) := keepC hb3 (by go_cell); have cq0_3 : w3.cell? ⟨w.heap.size + 1 + 1, 0, none⟩ = some (.int .i64 q0) := keepC hb3 (by go_cell); have cq1_3 : w3.cell? ⟨w.heap.size + 1 + 1, 1, none⟩ = some (.int .i64 q1) := keepC hb3 (by go_cell); have cq2_3 : w3.cell? ⟨w.heap.size + 1 + 1, 2, none⟩ = some (.int .i64 q2) := keepC hb3 (by go_cell); have cm0_3 : w3.cell? ⟨w.heap.size + 1 + 1 + 1, 0, none⟩ = some (.int .i64 m0) := keepC hb3 (by go_cell); have cm1_3 : w3.cell? ⟨w.heap.size + 1 + 1 + 1, 1, none⟩ = some (.int .i64 m1) := keepC hb3 (by go_cell); have cm2_3 : w3.cell? ⟨w.heap.size + 1 + 1 + 1, 2, none⟩ = some (.int .i64 m2) := keepC hb3 (by go_cell); have cm3_3 : w3.cell? ⟨w.heap.size + 1 + 1 + 1, 3, none⟩ = some (.int .i64 m3) := keepC hb3 (by go_cell); have z0_3 : w3.cell? ⟨w.heap.size + 1 + 1 + 1 + 1, 0, none⟩ = some (.int .i64 0) := keepC hb3 (by go_cell); have z1_3 : w3.cell? ⟨w.heap.size + 1 + 1 + 1 + 1, 1, none⟩ = some (.int .i64 0) := keepC hb3 (by go_cell); have z2_3 : w3.cell? ⟨w.heap.size + 1 + 1 + 1 + 1, 2, none⟩ = some (.int .i64 0) := keepC hb3 (by go_cell); have z3_3 : w3.cell? ⟨w.heap.size + 1 + 1 + 1 + 1, 3, none⟩ = some (.int .i64 0) := keepC hb3 (by go_cell); have z4_3 : w3.cell? ⟨w.heap.size + 1 + 1 + 1 + 1, 4, none⟩ = some (.int .i64 0) := keepC hb3 (by go_cell); have z5_3 : w3.cell? ⟨w.heap.size + 1 + 1 + 1 + 1, 5, none⟩ = some (.int .i64 0) := keepC hb3 (by go_cell); have cAx_3 : w3.cell? ⟨w2.heap.size, 0, none⟩ = some (.int .i64 A.x) := keepC hb3 (by go_cell); have cAy_3 : w3.cell? ⟨w2.heap.size, 1, none⟩ = some (.int .i64 A.y) := keepC hb3 (by go_cell); have cAz_3 : w3.cell? ⟨w2.heap.size, 2, none⟩ = some (.int .i64 A.z) := keepC hb3 (by go_cell); have cBx_3 : w3.cell? ⟨w2.heap.size + 1, 0, none⟩ = some (.int .i64 B.x) := keepC hb3 (by go_cell); have cBy_3 : w3.cell? ⟨w2.heap.size + 1, 1, none⟩ = some (.int .i64 B.y) := keepC hb3 (by go_cell); have cBz_3 : w3.cell? ⟨w2.heap.size + 1, 2, none⟩ = some (.int .i64 B.z) := keepC hb3 (by go_cell)))
      have hsz2 := hb3.size
      simp only [World.size_alloc, World.size_setCell, World.size_drew] at hsz2
      have hsz1 : w.heap.size + 1 + 1 + 1 + 1 + 1 ≤ w2.heap.size := (by have h1 := hb1.size; have h2 := hb2.size; (try simp only [World.size_alloc, World.size_setCell, World.size_drew] at h1 h2); omega)
      have hBw : Below w.heap.size w w3 := by (repeat' (first | (with_reducible exact Below.refl _ _) | (with_reducible assumption) | (with_reducible refine Below.alloc ?_ ?_ _) | (with_reducible refine Below.drew ?_) | (with_reducible refine below_drewN ?_ _) | (with_reducible refine Below.setCell ?_ ?_ _) | (refine Below.step ?_ (by with_reducible assumption) ?_) | go_size))
      have ZB1 : Box 44 w1 (w.heap.size + 1 + 1 + 1 + 1) [0, 0, 0, 0, 0, 0] := Box.below hb1 (Box.new [0, 0, 0, 0, 0, 0] (by simp))
      have ZB3 := Box.below hb3 (Box.alloc (Box.alloc (Box.below hb2 ZB1) (.cells #[.int .i64 A.x, .int .i64 A.y, .int .i64 A.z] 55)) (.cells #[.int .i64 B.x, .int .i64 B.y, .int .i64 B.z] 55))
      refine wp_name (fun w' => w'.cell? ⟨w.heap.size, 0, none⟩ = some (.int .i64 p) ∧ w'.cell? ⟨w.heap.size + 1 + 1 + 1, 0, none⟩ = some (.int .i64 m0) ∧ w'.cell? ⟨w.heap.size + 1 + 1 + 1, 1, none⟩ = some (.int .i64 m1) ∧ w'.cell? ⟨w.heap.size + 1 + 1 + 1, 2, none⟩ = some (.int .i64 m2) ∧ w'.cell? ⟨w.heap.size + 1 + 1 + 1, 3, none⟩ = some (.int .i64 m3) ∧ w'.cell? ⟨w2.heap.size, 0, none⟩ = some (.int .i64 A.x) ∧ w'.cell? ⟨w2.heap.size, 1, none⟩ = some (.int .i64 A.y) ∧ w'.cell? ⟨w2.heap.size, 2, none⟩ = some (.int .i64 A.z) ∧ w'.cell? ⟨w2.heap.size + 1, 0, none⟩ = some (.int .i64 B.x) ∧ w'.cell? ⟨w2.heap.size + 1, 1, none⟩ = some (.int .i64 B.y) ∧ w'.cell? ⟨w2.heap.size + 1, 2, none⟩ = some (.int .i64 B.z) ∧ w'.cell? ⟨w3.heap.size, 0, none⟩ = some (.int .i64 C.x) ∧ w'.cell? ⟨w3.heap.size, 1, none⟩ = some (.int .i64 C.y) ∧ w'.cell? ⟨w3.heap.size, 2, none⟩ = some (.int .i64 C.z) ∧ w'.cell? ⟨w3.heap.size + 1, 0, none⟩ = some (.int .i64 D.x) ∧ w'.cell? ⟨w3.heap.size + 1, 1, none⟩ = some (.int .i64 D.y) ∧ w'.cell? ⟨w3.heap.size + 1, 2, none⟩ = some (.int .i64 D.z) ∧ Box 44 w' (w.heap.size + 1 + 1 + 1 + 1) [0, 0, 0, 0, 0, 0] ∧ Box 44 w' (w3.heap.size + 1 + 1) [0, 0, 0, 0, 0, 0] ∧ Below w.heap.size w w' ∧ w3.heap.size + 1 + 1 < w'.heap.size) ⟨keepA _ (keepA _ (keepA _ cp_3)), keepA _ (keepA _ (keepA _ cm0_3)), keepA _ (keepA _ (keepA _ cm1_3)), keepA _ (keepA _ (keepA _ cm2_3)), keepA _ (keepA _ (keepA _ cm3_3)), keepA _ (keepA _ (keepA _ cAx_3)), keepA _ (keepA _ (keepA _ cAy_3)), keepA _ (keepA _ (keepA _ cAz_3)), keepA _ (keepA _ (keepA _ cBx_3)), keepA _ (keepA _ (keepA _ cBy_3)), keepA _ (keepA _ (keepA _ cBz_3)), (Box.alloc (Box.alloc (Box.new (E := 55) [C.x, C.y, C.z] rfl) _) _).cell 0 rfl, (Box.alloc (Box.alloc (Box.new (E := 55) [C.x, C.y, C.z] rfl) _) _).cell 1 rfl, (Box.alloc (Box.alloc (Box.new (E := 55) [C.x, C.y, C.z] rfl) _) _).cell 2 rfl, (Box.alloc (Box.new (E := 55) [D.x, D.y, D.z] (by simp)) _).cell 0 rfl, (Box.alloc (Box.new (E := 55) [D.x, D.y, D.z] (by simp)) _).cell 1 rfl, (Box.alloc (Box.new (E := 55) [D.x, D.y, D.z] (by simp)) _).cell 2 rfl, Box.alloc (Box.alloc (Box.alloc ZB3 _) _) _, Box.new [0, 0, 0, 0, 0, 0] (by simp), by (repeat' (first | (with_reducible exact Below.refl _ _) | (with_reducible assumption) | (with_reducible refine Below.alloc ?_ ?_ _) | (with_reducible refine Below.drew ?_) | (with_reducible refine below_drewN ?_ _) | (with_reducible refine Below.setCell ?_ ?_ _) | (refine Below.step ?_ (by with_reducible assumption) ?_) | go_size)), by simp⟩ ?_
      rintro w4 ⟨cp_4, cm0_4, cm1_4, cm2_4, cm3_4, cAx_4, cAy_4, cAz_4, cBx_4, cBy_4, cBz_4, cCx_4, cCy_4, cCz_4, cDx_4, cDy_4, cDz_4, zb4, BX, hB4, hz4⟩
      have ZB4 := Lib.hid zb4; clear zb4
      clear hb1 hb2 hb3 hBw ZB1 ZB3 cp_1 co0_1 co1_1 co2_1 cq0_1 cq1_1 cq2_1 cm0_1 cm1_1 cm2_1 cm3_1 z0_1 z1_1 z2_1 z3_1 z4_1 z5_1 cp_2 co0_2 co1_2 co2_2 cq0_2 cq1_2 cq2_2 cm0_2 cm1_2 cm2_2 cm3_2 z0_2 z1_2 z2_2 z3_2 z4_2 z5_2 cp_3 co0_3 co1_3 co2_3 cq0_3 cq1_3 cq2_3 cm0_3 cm1_3 cm2_3 cm3_3 z0_3 z1_3 z2_3 z3_3 z4_3 z5_3 cAx_3 cAy_3 cAz_3 cBx_3 cBy_3 cBz_3
      generalize w2.heap.size = ga at *
      generalize w3.heap.size = gc at *
      have hl0 : ([0, 0, 0, 0, 0, 0] : List Int).length = 6 := rfl
      have hd0 : ∀ x ∈ ([0, 0, 0, 0, 0, 0] : List Int), bd 0 x := fun x hx => (by simp at hx; subst hx; exact ⟨by omega, by omega⟩)
      obtain ⟨hA, hB⟩ := HSO.out
      obtain ⟨hC, hD⟩ := HSQ.out
      have hl1 := add6_len m2 hl0 (qL_len A C)
      have hd1 := add6_bd HK2.out hd0 (qL_bd ⟨hA, hC⟩)
      have hl2 := add6_len (-m3) hl1 (qL_len B C)
      have hd2 := add6_bd HK3.out hd1 (qL_bd ⟨hB, hC⟩)
      have hl3 := add6_len m0 hl2 (qL_len A D)
      have hd3 := add6_bd HK0.out hd2 (qL_bd ⟨hA, hD⟩)
      have up : ∀ {X : Int} {L : List Int}, X ≤ 20000 → (∀ x ∈ L, bd X x) → ∀ x ∈ L, bd 20000 x := fun hX h x hx => (by have := h x hx; unfold bd at *; omega)
      have C1 := Lib.hid (fun w' hB' => Steiner2_L m2 A C _ (gc + 1 + 1) w' HK2.out hA hC hl0 (up (by omega) hd0) hB')
      have C2 := Lib.hid (fun w' hB' => Steiner2_L (-m3) B C _ (gc + 1 + 1) w' HK3.out hB hC hl1 (up (by omega) hd1) hB')
      have C3 := Lib.hid (fun w' hB' => Steiner2_L m0 A D _ (gc + 1 + 1) w' HK0.out hA hD hl2 (up (by omega) hd2) hB')
      have C4 := Lib.hid (fun w' hB' => Steiner2_L (-m1) B D _ (gc + 1 + 1) w' HK1.out hB hD hl3 (up (by omega) hd3) hB')
      obtain ⟨x0, x1, x2, x3, x4, x5, hxx⟩ := six_of (add6_len (-m1) hl3 (qL_len B D))
      have HX := Lib.hid hxx
      have HST : Hid (stI ⟨m0, m1, m2, m3⟩ A B C D = [x0, x1, x2, x3, x4, x5]) := hxx
      clear hxx up hl0 hd0 hl1 hd1 hl2 hd2 hl3 hd3 hA hB hC hD HSO HSQ HK0 HK1 HK2 HK3
      have BX4 := Lib.hid BX; clear BX
      go_upto_region 11 with (go_at_call 101; refine (C1.out _ BX4.out).mono ?_; rintro e w5 ⟨rfl, bx5, G5⟩; have cp_5 := G5.cell cp_4 (by intro e; have e' := Option.some.inj e; dsimp only at e'; omega); have cm0_5 := G5.cell cm0_4 (by intro e; have e' := Option.some.inj e; dsimp only at e'; omega); have cm1_5 := G5.cell cm1_4 (by intro e; have e' := Option.some.inj e; dsimp only at e'; omega); have cm2_5 := G5.cell cm2_4 (by intro e; have e' := Option.some.inj e; dsimp only at e'; omega); have cm3_5 := G5.cell cm3_4 (by intro e; have e' := Option.some.inj e; dsimp only at e'; omega); have cAx_5 := G5.cell cAx_4 (by intro e; have e' := Option.some.inj e; dsimp only at e'; omega); have cAy_5 := G5.cell cAy_4 (by intro e; have e' := Option.some.inj e; dsimp only at e'; omega); have cAz_5 := G5.cell cAz_4 (by intro e; have e' := Option.some.inj e; dsimp only at e'; omega); have cBx_5 := G5.cell cBx_4 (by intro e; have e' := Option.some.inj e; dsimp only at e'; omega); have cBy_5 := G5.cell cBy_4 (by intro e; have e' := Option.some.inj e; dsimp only at e'; omega); have cBz_5 := G5.cell cBz_4 (by intro e; have e' := Option.some.inj e; dsimp only at e'; omega); have cCx_5 := G5.cell cCx_4 (by intro e; have e' := Option.some.inj e; dsimp only at e'; omega); have cCy_5 := G5.cell cCy_4 (by intro e; have e' := Option.some.inj e; dsimp only at e'; omega); have cCz_5 := G5.cell cCz_4 (by intro e; have e' := Option.some.inj e; dsimp only at e'; omega); have cDx_5 := G5.cell cDx_4 (by intro e; have e' := Option.some.inj e; dsimp only at e'; omega); have cDy_5 := G5.cell cDy_4 (by intro e; have e' := Option.some.inj e; dsimp only at e'; omega); have cDz_5 := G5.cell cDz_4 (by intro e; have e' := Option.some.inj e; dsimp only at e'; omega); have BX5 := Lib.hid bx5; have ZB5 := Lib.hid (Box.grownB ZB4.out G5 (by omega)))
      have hz5 : gc + 1 + 1 < w5.heap.size := Nat.lt_of_lt_of_le hz4 G5.size
      have hB5 : Below w.heap.size w w5 := hB4.grown G5 (by omega) (fun q hq => by have hq' := Option.some.inj hq; omega)
      clear bx5 BX4 ZB4 G5 C1 hz4 hB4 cp_4 cm0_4 cm1_4 cm2_4 cm3_4 cAx_4 cAy_4 cAz_4 cBx_4 cBy_4 cBz_4 cCx_4 cCy_4 cCz_4 cDx_4 cDy_4 cDz_4
      go_upto_region 12 with (go_at_call 101; refine (C2.out _ BX5.out).mono ?_; rintro e w6 ⟨rfl, bx6, G6⟩; have cp_6 := G6.cell cp_5 (by intro e; have e' := Option.some.inj e; dsimp only at e'; omega); have cm0_6 := G6.cell cm0_5 (by intro e; have e' := Option.some.inj e; dsimp only at e'; omega); have cm1_6 := G6.cell cm1_5 (by intro e; have e' := Option.some.inj e; dsimp only at e'; omega); have cm2_6 := G6.cell cm2_5 (by intro e; have e' := Option.some.inj e; dsimp only at e'; omega); have cm3_6 := G6.cell cm3_5 (by intro e; have e' := Option.some.inj e; dsimp only at e'; omega); have cAx_6 := G6.cell cAx_5 (by intro e; have e' := Option.some.inj e; dsimp only at e'; omega); have cAy_6 := G6.cell cAy_5 (by intro e; have e' := Option.some.inj e; dsimp only at e'; omega); have cAz_6 := G6.cell cAz_5 (by intro e; have e' := Option.some.inj e; dsimp only at e'; omega); have cBx_6 := G6.cell cBx_5 (by intro e; have e' := Option.some.inj e; dsimp only at e'; omega); have cBy_6 := G6.cell cBy_5 (by intro e; have e' := Option.some.inj e; dsimp only at e'; omega); have cBz_6 := G6.cell cBz_5 (by intro e; have e' := Option.some.inj e; dsimp only at e'; omega); have cCx_6 := G6.cell cCx_5 (by intro e; have e' := Option.some.inj e; dsimp only at e'; omega); have cCy_6 := G6.cell cCy_5 (by intro e; have e' := Option.some.inj e; dsimp only at e'; omega); have cCz_6 := G6.cell cCz_5 (by intro e; have e' := Option.some.inj e; dsimp only at e'; omega); have cDx_6 := G6.cell cDx_5 (by intro e; have e' := Option.some.inj e; dsimp only at e'; omega); have cDy_6 := G6.cell cDy_5 (by intro e; have e' := Option.some.inj e; dsimp only at e'; omega); have cDz_6 := G6.cell cDz_5 (by intro e; have e' := Option.some.inj e; dsimp only at e'; omega); have BX6 := Lib.hid bx6; have ZB6 := Lib.hid (Box.grownB ZB5.out G6 (by omega)))
      have hz6 : gc + 1 + 1 < w6.heap.size := Nat.lt_of_lt_of_le hz5 G6.size
      have hB6 : Below w.heap.size w w6 := hB5.grown G6 (by omega) (fun q hq => by have hq' := Option.some.inj hq; omega)
      clear bx6 BX5 ZB5 G6 C2 hz5 hB5 cp_5 cm0_5 cm1_5 cm2_5 cm3_5 cAx_5 cAy_5 cAz_5 cBx_5 cBy_5 cBz_5 cCx_5 cCy_5 cCz_5 cDx_5 cDy_5 cDz_5
      go_upto_region 13 with (go_at_call 101; refine (C3.out _ BX6.out).mono ?_; rintro e w7 ⟨rfl, bx7, G7⟩; have cp_7 := G7.cell cp_6 (by intro e; have e' := Option.some.inj e; dsimp only at e'; omega); have cm0_7 := G7.cell cm0_6 (by intro e; have e' := Option.some.inj e; dsimp only at e'; omega); have cm1_7 := G7.cell cm1_6 (by intro e; have e' := Option.some.inj e; dsimp only at e'; omega); have cm2_7 := G7.cell cm2_6 (by intro e; have e' := Option.some.inj e; dsimp only at e'; omega); have cm3_7 := G7.cell cm3_6 (by intro e; have e' := Option.some.inj e; dsimp only at e'; omega); have cAx_7 := G7.cell cAx_6 (by intro e; have e' := Option.some.inj e; dsimp only at e'; omega); have cAy_7 := G7.cell cAy_6 (by intro e; have e' := Option.some.inj e; dsimp only at e'; omega); have cAz_7 := G7.cell cAz_6 (by intro e; have e' := Option.some.inj e; dsimp only at e'; omega); have cBx_7 := G7.cell cBx_6 (by intro e; have e' := Option.some.inj e; dsimp only at e'; omega); have cBy_7 := G7.cell cBy_6 (by intro e; have e' := Option.some.inj e; dsimp only at e'; omega); have cBz_7 := G7.cell cBz_6 (by intro e; have e' := Option.some.inj e; dsimp only at e'; omega); have cCx_7 := G7.cell cCx_6 (by intro e; have e' := Option.some.inj e; dsimp only at e'; omega); have cCy_7 := G7.cell cCy_6 (by intro e; have e' := Option.some.inj e; dsimp only at e'; omega); have cCz_7 := G7.cell cCz_6 (by intro e; have e' := Option.some.inj e; dsimp only at e'; omega); have cDx_7 := G7.cell cDx_6 (by intro e; have e' := Option.some.inj e; dsimp only at e'; omega); have cDy_7 := G7.cell cDy_6 (by intro e; have e' := Option.some.inj e; dsimp only at e'; omega); have cDz_7 := G7.cell cDz_6 (by intro e; have e' := Option.some.inj e; dsimp only at e'; omega); have BX7 := Lib.hid bx7; have ZB7 := Lib.hid (Box.grownB ZB6.out G7 (by omega)))
      have hz7 : gc + 1 + 1 < w7.heap.size := Nat.lt_of_lt_of_le hz6 G7.size
      have hB7 : Below w.heap.size w w7 := hB6.grown G7 (by omega) (fun q hq => by have hq' := Option.some.inj hq; omega)
      clear bx7 BX6 ZB6 G7 C3 hz6 hB6 cp_6 cm0_6 cm1_6 cm2_6 cm3_6 cAx_6 cAy_6 cAz_6 cBx_6 cBy_6 cBz_6 cCx_6 cCy_6 cCz_6 cDx_6 cDy_6 cDz_6
      go_upto_region 14 with (go_at_call 101; refine (C4.out _ BX7.out).mono ?_; rintro e w8 ⟨rfl, bx8, G8⟩; have cp_8 := G8.cell cp_7 (by intro e; have e' := Option.some.inj e; dsimp only at e'; omega); have cm0_8 := G8.cell cm0_7 (by intro e; have e' := Option.some.inj e; dsimp only at e'; omega); have cm1_8 := G8.cell cm1_7 (by intro e; have e' := Option.some.inj e; dsimp only at e'; omega); have cm2_8 := G8.cell cm2_7 (by intro e; have e' := Option.some.inj e; dsimp only at e'; omega); have cm3_8 := G8.cell cm3_7 (by intro e; have e' := Option.some.inj e; dsimp only at e'; omega); have cAx_8 := G8.cell cAx_7 (by intro e; have e' := Option.some.inj e; dsimp only at e'; omega); have cAy_8 := G8.cell cAy_7 (by intro e; have e' := Option.some.inj e; dsimp only at e'; omega); have cAz_8 := G8.cell cAz_7 (by intro e; have e' := Option.some.inj e; dsimp only at e'; omega); have cBx_8 := G8.cell cBx_7 (by intro e; have e' := Option.some.inj e; dsimp only at e'; omega); have cBy_8 := G8.cell cBy_7 (by intro e; have e' := Option.some.inj e; dsimp only at e'; omega); have cBz_8 := G8.cell cBz_7 (by intro e; have e' := Option.some.inj e; dsimp only at e'; omega); have cCx_8 := G8.cell cCx_7 (by intro e; have e' := Option.some.inj e; dsimp only at e'; omega); have cCy_8 := G8.cell cCy_7 (by intro e; have e' := Option.some.inj e; dsimp only at e'; omega); have cCz_8 := G8.cell cCz_7 (by intro e; have e' := Option.some.inj e; dsimp only at e'; omega); have cDx_8 := G8.cell cDx_7 (by intro e; have e' := Option.some.inj e; dsimp only at e'; omega); have cDy_8 := G8.cell cDy_7 (by intro e; have e' := Option.some.inj e; dsimp only at e'; omega); have cDz_8 := G8.cell cDz_7 (by intro e; have e' := Option.some.inj e; dsimp only at e'; omega); have BX8 := Lib.hid bx8; have ZB8 := Lib.hid (Box.grownB ZB7.out G8 (by omega)))
      have hz8 : gc + 1 + 1 < w8.heap.size := Nat.lt_of_lt_of_le hz7 G8.size
      have hB8 : Below w.heap.size w w8 := hB7.grown G8 (by omega) (fun q hq => by have hq' := Option.some.inj hq; omega)
      clear bx8 BX7 ZB7 G8 C4 hz7 hB7 cp_7 cm0_7 cm1_7 cm2_7 cm3_7 cAx_7 cAy_7 cAz_7 cBx_7 cBy_7 cBz_7 cCx_7 cCy_7 cCz_7 cDx_7 cDy_7 cDz_7
      have BN := BX8.out
      rw [HX.out] at BN
      have hnm := normal_any p (gc + 1 + 1) 0 6 [x0, x1, x2, x3, x4, x5] w8.drew HP.out BN.rd (fun i hi => BN.frz _) (by simp)
      have hnm2 : Hid (Calls Try.prog 102 #[.int .i64 p, .slice (some ⟨gc + 1 + 1, 0, none⟩) 6 6] w8.drew fun e w' => ∃ bb, e = .returned (.bool bb) ∧ Box 44 w' (gc + 1 + 1) (nrm p [x0, x1, x2, x3, x4, x5]) ∧ w8.drew.grownBy w' (some (gc + 1 + 1))) := hnm.mono fun e w' ⟨he, hw⟩ => ⟨_, he, hw ▸ Box.setRow' (pre := []) (old := [x0, x1, x2, x3, x4, x5]) (nrm p [x0, x1, x2, x3, x4, x5]) (Box.drew BN) (nrm_len p _).symm, hw ▸ setRow_grown _ _ _ _⟩
      clear hnm BN
      refine wp_region_still_tail 2 (by kernel_rfl) (by kernel_rfl) ?_
      simp only [List.take_succ_cons, List.take_zero, List.drop_succ_cons, List.drop_zero]
      repeat still_step
      try refine wpStill_nil ?_
      change wpList _ _ _ _ _ w8.drew
      go_wp2_with (go_at_call 102; refine hnm2.out.mono ?_; rintro e w9 ⟨bb, rfl, BN9, G9⟩; have zb9 := Box.grownB (Box.drew ZB8.out) G9 (by omega); have z0_9 := zb9.cell 0 rfl; have fz0_9 := zb9.frz 0; have z1_9 := zb9.cell 1 rfl; have fz1_9 := zb9.frz 1; have z2_9 := zb9.cell 2 rfl; have fz2_9 := zb9.frz 2; have z3_9 := zb9.cell 3 rfl; have fz3_9 := zb9.frz 3; have z4_9 := zb9.cell 4 rfl; have fz4_9 := zb9.frz 4; have z5_9 := zb9.cell 5 rfl; have fz5_9 := zb9.frz 5; have n0_9 := BN9.cell 0 rfl; have n1_9 := BN9.cell 1 rfl; have n2_9 := BN9.cell 2 rfl; have n3_9 := BN9.cell 3 rfl; have n4_9 := BN9.cell 4 rfl; have n5_9 := BN9.cell 5 rfl)
      (try simp only [Exit.inBlock, Exit.then]); refine bodyPost_ret (by simp [results, Try.results44, go_sem, *]; try rfl) rfl ?_
      exact ⟨by rw [hE.out]; show _ = Ending.returned (.tuple #[.agg #[.int .i64 (nm6 p (stI ⟨m0, m1, m2, m3⟩ A B C D)).c0, .int .i64 (nm6 p (stI ⟨m0, m1, m2, m3⟩ A B C D)).c1, .int .i64 (nm6 p (stI ⟨m0, m1, m2, m3⟩ A B C D)).c2, .int .i64 (nm6 p (stI ⟨m0, m1, m2, m3⟩ A B C D)).c3, .int .i64 (nm6 p (stI ⟨m0, m1, m2, m3⟩ A B C D)).c4, .int .i64 (nm6 p (stI ⟨m0, m1, m2, m3⟩ A B C D)).c5], .int .i64 0]); rw [HST.out]; rfl, by (repeat (refine setB2 ?_ (by omega))); exact hB8.drew.grown G9 (by show w.heap.size ≤ w8.heap.size; omega) (fun q hq => by have hq' := Option.some.inj hq; omega)⟩
end Go.Proofs.Ytjfabhkgmelmgaa
