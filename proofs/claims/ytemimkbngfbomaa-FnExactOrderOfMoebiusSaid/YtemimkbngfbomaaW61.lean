/- OrderOfMoebius: what the functions return; no condition on the exported ones. -/
import Derived.Test.YtemimkbngfbomaaP9
import Derived.Test.YtemimkbngfbomaaH2
import Derived.StillTailTactics
namespace Go.Proofs.Ytemimkbngfbomaa
open Go.RowKit
set_option linter.unusedSimpArgs false
set_option linter.unusedVariables false
set_option maxRecDepth 100000

/-- n is one less than the order of the Moebius map. -/
def MoOrd (p : Int) (m : M4) (n : Nat) : Prop := n < 28561 ∧ moPw p m n = unMo ∧ ∀ k, k < n → moPw p m k ≠ unMo
theorem Box.fill4 {E : Nat} {w : World} {b : Nat} {u0 u1 u2 u3 x0 x1 x2 x3 : Int} (h : Box E w b [u0, u1, u2, u3]) : Box E ((((w.setCell ⟨b, 0, none⟩ (.int .i64 x0)).setCell ⟨b, 1, none⟩ (.int .i64 x1)).setCell ⟨b, 2, none⟩ (.int .i64 x2)).setCell ⟨b, 3, none⟩ (.int .i64 x3)) b [x0, x1, x2, x3] :=
  ((((h.set 0 x0).set 1 x1).set 2 x2).set 3 x3).cast rfl
theorem Box.far4 {E : Nat} {w : World} {b c : Nat} {vs : List Int} {x0 x1 x2 x3 : Value} (h : Box E w b vs) (hn : b ≠ c) : Box E ((((w.setCell ⟨c, 0, none⟩ x0).setCell ⟨c, 1, none⟩ x1).setCell ⟨c, 2, none⟩ x2).setCell ⟨c, 3, none⟩ x3) b vs := (((h.far hn).far hn).far hn).far hn
theorem eqMo {t : Nat} (ht : Try.prog.underlying t = some (.array 4 2)) (x y : M4) (w : World) :
    (binOp .neq t (.agg #[.int .i64 (x).a, .int .i64 (x).b, .int .i64 (x).c, .int .i64 (x).d]) (.agg #[.int .i64 (y).a, .int .i64 (y).b, .int .i64 (y).c, .int .i64 (y).d])).run Try.prog w = .ok (.bool (!decide (x = y))) w := by
  by_cases h : x = y
  · subst h
    have := (eq4_yes ht x.a x.b x.c x.d w).2
    simpa using this
  · have := (eq4_no ht (a0 := x.a) (a1 := x.b) (a2 := x.c) (a3 := x.d) (b0 := y.a) (b1 := y.b) (b2 := y.c) (b3 := y.d) (by rintro ⟨h0, h1, h2, h3⟩; apply h; cases x; cases y; simp only at h0 h1 h2 h3; rw [h0, h1, h2, h3]) w).2
    simpa [h] using this
set_option maxHeartbeats 2000000 in
theorem moOrder_any (p m0 m1 m2 m3 : Int) (n : Nat) (w : World) (hp : isP p = true) (hm : isMoE p ⟨m0, m1, m2, m3⟩ = true) (hn : MoOrd p ⟨m0, m1, m2, m3⟩ n) :
    Calls Try.prog 84 #[.agg #[.int .i64 m0, .int .i64 m1, .int .i64 m2, .int .i64 m3], .int .i64 p] w fun e w' => e = .returned (.int .i64 ((n : Int) + 1)) ∧ Below w.heap.size w w' := by
  obtain ⟨hn1, hn2, hn3⟩ := hn
  have hsx := fun k => isMoE_sm hp (moPw_mo hp hm k)
  have hsm := isMoE_sm hp hm
  obtain ⟨sm0, sm1, sm2, sm3⟩ := hsm
  replace sm0 : sm m0 := sm0; replace sm1 : sm m1 := sm1; replace sm2 : sm m2 := sm2; replace sm3 : sm m3 := sm3
  have HT : Hid (∀ (k : Nat) (w' : World), Calls Try.prog 127 #[.agg #[.int .i64 (moPw p ⟨m0, m1, m2, m3⟩ k).a, .int .i64 (moPw p ⟨m0, m1, m2, m3⟩ k).b, .int .i64 (moPw p ⟨m0, m1, m2, m3⟩ k).c, .int .i64 (moPw p ⟨m0, m1, m2, m3⟩ k).d], .int .i64 p, .agg #[.int .i64 m0, .int .i64 m1, .int .i64 m2, .int .i64 m3]] w' fun e w'' => e = .returned (.agg #[.int .i64 (moPw p ⟨m0, m1, m2, m3⟩ (k + 1)).a, .int .i64 (moPw p ⟨m0, m1, m2, m3⟩ (k + 1)).b, .int .i64 (moPw p ⟨m0, m1, m2, m3⟩ (k + 1)).c, .int .i64 (moPw p ⟨m0, m1, m2, m3⟩ (k + 1)).d]) ∧ Below w'.heap.size w' w'') := fun k w' => by
    obtain ⟨s0, s1, s2, s3⟩ := hsx k
    exact moThen_any p (moPw p ⟨m0, m1, m2, m3⟩ k).a (moPw p ⟨m0, m1, m2, m3⟩ k).b (moPw p ⟨m0, m1, m2, m3⟩ k).c (moPw p ⟨m0, m1, m2, m3⟩ k).d m0 m1 m2 m3 w' hp s0 s1 s2 s3 sm0 sm1 sm2 sm3
  have HU : Hid (∀ (k : Nat), k < n → ∀ w' : World, (binOp .neq 61 (.agg #[.int .i64 (moPw p ⟨m0, m1, m2, m3⟩ k).a, .int .i64 (moPw p ⟨m0, m1, m2, m3⟩ k).b, .int .i64 (moPw p ⟨m0, m1, m2, m3⟩ k).c, .int .i64 (moPw p ⟨m0, m1, m2, m3⟩ k).d]) (.agg #[.int .i64 1, .int .i64 0, .int .i64 0, .int .i64 1])).run Try.prog w' = .ok (.bool true) w') := fun k hk w' => by
    have := eqMo (t := 61) Try.underlying61 (moPw p ⟨m0, m1, m2, m3⟩ k) unMo w'
    simp only [hn3 k hk, decide_false, Bool.not_false] at this
    exact this
  have HV : Hid (∀ w' : World, (binOp .neq 61 (.agg #[.int .i64 (moPw p ⟨m0, m1, m2, m3⟩ n).a, .int .i64 (moPw p ⟨m0, m1, m2, m3⟩ n).b, .int .i64 (moPw p ⟨m0, m1, m2, m3⟩ n).c, .int .i64 (moPw p ⟨m0, m1, m2, m3⟩ n).d]) (.agg #[.int .i64 1, .int .i64 0, .int .i64 0, .int .i64 1])).run Try.prog w' = .ok (.bool false) w') := fun w' => by
    have := eqMo (t := 61) Try.underlying61 (moPw p ⟨m0, m1, m2, m3⟩ n) unMo w'
    simp only [hn2, decide_true, Bool.not_true] at this
    rw [hn2]
    exact this
  have hf0 : moPw p ⟨m0, m1, m2, m3⟩ 0 = ⟨m0, m1, m2, m3⟩ := rfl
  generalize moPw p ⟨m0, m1, m2, m3⟩ = f at *
  have HF := Lib.hid hf0
  clear hf0 hsx hn2 hn3 hp sm0 sm1 sm2 sm3
  clear hm
  go_enter Try.func84, Try.ntmps84
  go_wp2
  go_loopw [5, 6] (fun v q wr => ∃ j g : Nat, j ≤ n ∧ v = .int .i64 ((j : Int) + 1) ∧ q = .pointer (some ⟨g, 0, none⟩) ∧ w.heap.size + 1 ≤ g ∧ Box 61 wr g [(f (j)).a, (f (j)).b, (f (j)).c, (f (j)).d] ∧ Box 61 wr w.heap.size [m0, m1, m2, m3] ∧ Below w.heap.size w wr) (fun v _ _ => n + 1 - (intOf v).toNat)
  case atStart => exact ⟨0, w.heap.size + 1, Nat.zero_le _, rfl, rfl, Nat.le_refl _, by rw [HF.out]; exact Box.new [m0, m1, m2, m3] (by simp), Box.alloc (Box.new [m0, m1, m2, m3] rfl) _, by (repeat' (first | (with_reducible exact Below.refl _ _) | (with_reducible assumption) | (with_reducible refine Below.alloc ?_ ?_ _) | (with_reducible refine Below.drew ?_) | (with_reducible refine below_drewN ?_ _) | (with_reducible refine Below.setCell ?_ ?_ _) | (refine Below.step ?_ (by with_reducible assumption) ?_) | go_size))⟩
  case round =>
    obtain ⟨j, g, hj, rfl, rfl, hgb, BN, BM, hC⟩ := hrel
    have hCz := hC.size
    have hgl := BN.lt
    have hml := BM.lt
    have x0 := BN.cell 0 rfl; have x1 := BN.cell 1 rfl; have x2 := BN.cell 2 rfl; have x3 := BN.cell 3 rfl; have z0 := BM.cell 0 rfl; have z1 := BM.cell 1 rfl; have z2 := BM.cell 2 rfl; have z3 := BM.cell 3 rfl
    have hw : IntKind.i64.wrap ((j : Int) + 1 + 1) = (j : Int) + 1 + 1 := by go_arith
    by_cases hjn : j = n
    · subst hjn
      have hq := HV.out
      go_wp2
      go_returns
      exact ⟨rfl, by (repeat' (first | (with_reducible exact Below.refl _ _) | (with_reducible assumption) | (with_reducible refine Below.alloc ?_ ?_ _) | (with_reducible refine Below.drew ?_) | (with_reducible refine below_drewN ?_ _) | (with_reducible refine Below.setCell ?_ ?_ _) | (refine Below.step ?_ (by with_reducible assumption) ?_) | go_size))⟩
    · have hq := HU.out j (by omega)
      go_wp2_with (go_at_call 127; refine (HT.out j _).mono ?_; rintro e w3 ⟨rfl, hb3⟩; have BN3 : Box 61 w3 wr.heap.size [(f (j)).a, (f (j)).b, (f (j)).c, (f (j)).d] := Box.below hb3 (Box.new [(f (j)).a, (f (j)).b, (f (j)).c, (f (j)).d] rfl); have BM3 := Box.below hb3 (Box.alloc BM _); have u0 := BN3.cell 0 rfl; have uf0 := BN3.frz 0; have u1 := BN3.cell 1 rfl; have uf1 := BN3.frz 1; have u2 := BN3.cell 2 rfl; have uf2 := BN3.frz 2; have u3 := BN3.cell 3 rfl; have uf3 := BN3.frz 3; have hz3 := hb3.size; simp only [World.size_alloc] at hz3)
      go_roundw
      rotate_left
      (simp [intOf]; omega)
      exact ⟨j + 1, wr.heap.size, by omega, by go_num, rfl, by omega, Box.fill4 BN3, Box.far4 BM3 (by omega), by (repeat' (first | (with_reducible exact Below.refl _ _) | (with_reducible assumption) | (with_reducible refine Below.alloc ?_ ?_ _) | (with_reducible refine Below.drew ?_) | (with_reducible refine below_drewN ?_ _) | (with_reducible refine Below.setCell ?_ ?_ _) | (refine Below.step ?_ (by with_reducible assumption) ?_) | go_size))⟩
set_option maxHeartbeats 2000000 in
theorem l05Order_any (p m0 m1 m2 m3 : Int) (n : Nat) (w : World) (hp : isP p = true) (hm : isMoE p ⟨m0, m1, m2, m3⟩ = true) (hn : MoOrd p ⟨m0, m1, m2, m3⟩ n) :
    Calls Try.prog 82 #[.int .i64 p, .agg #[.int .i64 m0, .int .i64 m1, .int .i64 m2, .int .i64 m3]] w fun e w' => e = .returned (.int .i64 ((n : Int) + 1)) ∧ Below w.heap.size w w' := by
  obtain ⟨hn1, hn2, hn3⟩ := hn
  have hsx := fun k => isMoE_sm hp (moPw_mo hp hm k)
  have hsm := isMoE_sm hp hm
  obtain ⟨sm0, sm1, sm2, sm3⟩ := hsm
  replace sm0 : sm m0 := sm0; replace sm1 : sm m1 := sm1; replace sm2 : sm m2 := sm2; replace sm3 : sm m3 := sm3
  have HT : Hid (∀ (k : Nat) (w' : World), Calls Try.prog 122 #[.int .i64 p, .agg #[.int .i64 (moPw p ⟨m0, m1, m2, m3⟩ k).a, .int .i64 (moPw p ⟨m0, m1, m2, m3⟩ k).b, .int .i64 (moPw p ⟨m0, m1, m2, m3⟩ k).c, .int .i64 (moPw p ⟨m0, m1, m2, m3⟩ k).d], .agg #[.int .i64 m0, .int .i64 m1, .int .i64 m2, .int .i64 m3]] w' fun e w'' => e = .returned (.agg #[.int .i64 (moPw p ⟨m0, m1, m2, m3⟩ (k + 1)).a, .int .i64 (moPw p ⟨m0, m1, m2, m3⟩ (k + 1)).b, .int .i64 (moPw p ⟨m0, m1, m2, m3⟩ (k + 1)).c, .int .i64 (moPw p ⟨m0, m1, m2, m3⟩ (k + 1)).d]) ∧ Below w'.heap.size w' w'') := fun k w' => by
    obtain ⟨s0, s1, s2, s3⟩ := hsx k
    exact l05Times_any p (moPw p ⟨m0, m1, m2, m3⟩ k).a (moPw p ⟨m0, m1, m2, m3⟩ k).b (moPw p ⟨m0, m1, m2, m3⟩ k).c (moPw p ⟨m0, m1, m2, m3⟩ k).d m0 m1 m2 m3 w' hp s0 s1 s2 s3 sm0 sm1 sm2 sm3
  have HU : Hid (∀ (k : Nat), k < n → ∀ w' : World, (binOp .neq 61 (.agg #[.int .i64 (moPw p ⟨m0, m1, m2, m3⟩ k).a, .int .i64 (moPw p ⟨m0, m1, m2, m3⟩ k).b, .int .i64 (moPw p ⟨m0, m1, m2, m3⟩ k).c, .int .i64 (moPw p ⟨m0, m1, m2, m3⟩ k).d]) (.agg #[.int .i64 1, .int .i64 0, .int .i64 0, .int .i64 1])).run Try.prog w' = .ok (.bool true) w') := fun k hk w' => by
    have := eqMo (t := 61) Try.underlying61 (moPw p ⟨m0, m1, m2, m3⟩ k) unMo w'
    simp only [hn3 k hk, decide_false, Bool.not_false] at this
    exact this
  have HV : Hid (∀ w' : World, (binOp .neq 61 (.agg #[.int .i64 (moPw p ⟨m0, m1, m2, m3⟩ n).a, .int .i64 (moPw p ⟨m0, m1, m2, m3⟩ n).b, .int .i64 (moPw p ⟨m0, m1, m2, m3⟩ n).c, .int .i64 (moPw p ⟨m0, m1, m2, m3⟩ n).d]) (.agg #[.int .i64 1, .int .i64 0, .int .i64 0, .int .i64 1])).run Try.prog w' = .ok (.bool false) w') := fun w' => by
    have := eqMo (t := 61) Try.underlying61 (moPw p ⟨m0, m1, m2, m3⟩ n) unMo w'
    simp only [hn2, decide_true, Bool.not_true] at this
    rw [hn2]
    exact this
  have hf0 : moPw p ⟨m0, m1, m2, m3⟩ 0 = ⟨m0, m1, m2, m3⟩ := rfl
  generalize moPw p ⟨m0, m1, m2, m3⟩ = f at *
  have HF := Lib.hid hf0
  clear hf0 hsx hn2 hn3 hp sm0 sm1 sm2 sm3
  clear hm
  go_enter Try.func82, Try.ntmps82
  go_wp2
  go_loopw [6] (fun v wr => ∃ j : Nat, j ≤ n ∧ v = .int .i64 ((j : Int) + 1) ∧ Box 61 wr (w.heap.size + 1) [(f (j)).a, (f (j)).b, (f (j)).c, (f (j)).d] ∧ Box 61 wr w.heap.size [m0, m1, m2, m3] ∧ Below w.heap.size w wr) (fun v _ => n + 1 - (intOf v).toNat)
  case atStart => exact ⟨0, Nat.zero_le _, rfl, by rw [HF.out]; exact Box.new [m0, m1, m2, m3] (by simp), Box.alloc (Box.new [m0, m1, m2, m3] rfl) _, by (repeat' (first | (with_reducible exact Below.refl _ _) | (with_reducible assumption) | (with_reducible refine Below.alloc ?_ ?_ _) | (with_reducible refine Below.drew ?_) | (with_reducible refine below_drewN ?_ _) | (with_reducible refine Below.setCell ?_ ?_ _) | (refine Below.step ?_ (by with_reducible assumption) ?_) | go_size))⟩
  case round =>
    obtain ⟨j, hj, rfl, BN, BM, hC⟩ := hrel
    have hCz := hC.size
    have hgl := BN.lt
    have x0 := BN.cell 0 rfl; have x1 := BN.cell 1 rfl; have x2 := BN.cell 2 rfl; have x3 := BN.cell 3 rfl; have z0 := BM.cell 0 rfl; have z1 := BM.cell 1 rfl; have z2 := BM.cell 2 rfl; have z3 := BM.cell 3 rfl
    have hw : IntKind.i64.wrap ((j : Int) + 1 + 1) = (j : Int) + 1 + 1 := by go_arith
    by_cases hjn : j = n
    · subst hjn
      have hq := HV.out
      go_wp2
      go_returns
      exact ⟨rfl, by (repeat' (first | (with_reducible exact Below.refl _ _) | (with_reducible assumption) | (with_reducible refine Below.alloc ?_ ?_ _) | (with_reducible refine Below.drew ?_) | (with_reducible refine below_drewN ?_ _) | (with_reducible refine Below.setCell ?_ ?_ _) | (refine Below.step ?_ (by with_reducible assumption) ?_) | go_size))⟩
    · have hq := HU.out j (by omega)
      go_wp2_with (go_at_call 122; refine (HT.out j _).mono ?_; rintro e w3 ⟨rfl, hb3⟩; have BN3 := Box.below hb3 BN; have BM3 := Box.below hb3 BM; have u0 := BN3.cell 0 rfl; have uf0 := BN3.frz 0; have u1 := BN3.cell 1 rfl; have uf1 := BN3.frz 1; have u2 := BN3.cell 2 rfl; have uf2 := BN3.frz 2; have u3 := BN3.cell 3 rfl; have uf3 := BN3.frz 3; have hz3 := hb3.size)
      go_roundw
      rotate_left
      (simp [intOf]; omega)
      exact ⟨j + 1, by omega, by go_num, Box.fill4 BN3, Box.far4 BM3 (by omega), by (repeat' (first | (with_reducible exact Below.refl _ _) | (with_reducible assumption) | (with_reducible refine Below.alloc ?_ ?_ _) | (with_reducible refine Below.drew ?_) | (with_reducible refine below_drewN ?_ _) | (with_reducible refine Below.setCell ?_ ?_ _) | (refine Below.step ?_ (by with_reducible assumption) ?_) | go_size))⟩
/-- What the exported functions return, n being one less than the order. -/
def moOrR (p : Int) (m : M4) (n : Nat) : Int × Int := if moCode p [m] = 0 then ((n : Int) + 1, 0) else (0, moCode p [m])
theorem moOrd_ex (p : Int) (m : M4) : ∃ n, n ≤ 1000000 ∧ (moCode p [m] = 0 → MoOrd p m n) := by
  rcases moCode3 p [m] with h | h | ⟨hp, hok, h⟩
  · exact ⟨0, by omega, fun h' => by rw [h] at h'; cases h'⟩
  · exact ⟨0, by omega, fun h' => by rw [h] at h'; cases h'⟩
  · have hm : isMoE p m = true := by simpa using hok
    obtain ⟨n, h1, h2, h3⟩ := moOrder_ex hp hm
    exact ⟨n, by omega, fun _ => ⟨h1, h2, h3⟩⟩
set_option maxHeartbeats 1000000 in
theorem OrderOfMoebius_any (p m0 m1 m2 m3 : Int) (n : Nat) (w : World) (hn : moCode p [⟨m0, m1, m2, m3⟩] = 0 → MoOrd p ⟨m0, m1, m2, m3⟩ n) :
    Calls Try.prog 40 #[.int .i64 p, .agg #[.int .i64 m0, .int .i64 m1, .int .i64 m2, .int .i64 m3]] w fun e w' => e = .returned (.tuple #[.int .i64 (moOrR p ⟨m0, m1, m2, m3⟩ n).1, .int .i64 (moOrR p ⟨m0, m1, m2, m3⟩ n).2]) ∧ Below w.heap.size w w' := by
  rcases moCode3 p [⟨m0, m1, m2, m3⟩] with hk | hk | ⟨hp, hok, hk⟩
  · have hE : Hid (moOrR p ⟨m0, m1, m2, m3⟩ n = (0, 2)) := by show _ = _; unfold moOrR; rw [hk]; rfl
    clear hn
    go_enter Try.func40, Try.ntmps40
    go_wp2_with (go_at_call 83; refine (moebiusCode_nil p _ _ [⟨m0, m1, m2, m3⟩] _ (rdM4_1 (by go_cell) (by go_cell) (by go_cell) (by go_cell)) (by go_size) (by simp)).mono ?_; rintro e w1 ⟨rfl, hb1⟩; obtain ⟨hc1, hf1⟩ := bcell hb1; have hz1 := hb1.size; (try simp only [World.size_alloc, World.size_setCell, World.size_drew] at hz1); (try (have hy1w0 : w.heap.size < w1.heap.size := by omega)); (try (have hy1w1 : w.heap.size + 1 < w1.heap.size := by omega)); (try (have hy1w2 : w.heap.size + 1 + 1 < w1.heap.size := by omega)); (try (have hy1w3 : w.heap.size + 1 + 1 + 1 < w1.heap.size := by omega)); (try (have hy1w4 : w.heap.size + 1 + 1 + 1 + 1 < w1.heap.size := by omega)))
    go_returns
    exact ⟨by rw [hE.out]; try rfl, by (repeat' (first | (with_reducible exact Below.refl _ _) | (with_reducible assumption) | (with_reducible refine Below.alloc ?_ ?_ _) | (with_reducible refine Below.drew ?_) | (with_reducible refine below_drewN ?_ _) | (with_reducible refine Below.setCell ?_ ?_ _) | (refine Below.step ?_ (by with_reducible assumption) ?_) | go_size))⟩
  · have hE : Hid (moOrR p ⟨m0, m1, m2, m3⟩ n = (0, 1)) := by show _ = _; unfold moOrR; rw [hk]; rfl
    clear hn
    go_enter Try.func40, Try.ntmps40
    go_wp2_with (go_at_call 83; refine (moebiusCode_nil p _ _ [⟨m0, m1, m2, m3⟩] _ (rdM4_1 (by go_cell) (by go_cell) (by go_cell) (by go_cell)) (by go_size) (by simp)).mono ?_; rintro e w1 ⟨rfl, hb1⟩; obtain ⟨hc1, hf1⟩ := bcell hb1; have hz1 := hb1.size; (try simp only [World.size_alloc, World.size_setCell, World.size_drew] at hz1); (try (have hy1w0 : w.heap.size < w1.heap.size := by omega)); (try (have hy1w1 : w.heap.size + 1 < w1.heap.size := by omega)); (try (have hy1w2 : w.heap.size + 1 + 1 < w1.heap.size := by omega)); (try (have hy1w3 : w.heap.size + 1 + 1 + 1 < w1.heap.size := by omega)); (try (have hy1w4 : w.heap.size + 1 + 1 + 1 + 1 < w1.heap.size := by omega)))
    go_returns
    exact ⟨by rw [hE.out]; try rfl, by (repeat' (first | (with_reducible exact Below.refl _ _) | (with_reducible assumption) | (with_reducible refine Below.alloc ?_ ?_ _) | (with_reducible refine Below.drew ?_) | (with_reducible refine below_drewN ?_ _) | (with_reducible refine Below.setCell ?_ ?_ _) | (refine Below.step ?_ (by with_reducible assumption) ?_) | go_size))⟩
  · have hE : Hid (moOrR p ⟨m0, m1, m2, m3⟩ n = ((n : Int) + 1, 0)) := by show _ = _; unfold moOrR; rw [hk]; rfl
    have hm : isMoE p ⟨m0, m1, m2, m3⟩ = true := by simpa using hok
    have HO : Hid (∀ w' : World, _) := fun w' => moOrder_any p m0 m1 m2 m3 n w' hp hm (hn hk)
    clear hn hok hm hp
    go_enter Try.func40, Try.ntmps40
    go_wp2_with (first | (go_at_call 83; refine (moebiusCode_nil p _ _ [⟨m0, m1, m2, m3⟩] _ (rdM4_1 (by go_cell) (by go_cell) (by go_cell) (by go_cell)) (by go_size) (by simp)).mono ?_; rintro e w1 ⟨rfl, hb1⟩; obtain ⟨hc1, hf1⟩ := bcell hb1; have hz1 := hb1.size; (try simp only [World.size_alloc, World.size_setCell, World.size_drew] at hz1); (try (have hy1w0 : w.heap.size < w1.heap.size := by omega)); (try (have hy1w1 : w.heap.size + 1 < w1.heap.size := by omega)); (try (have hy1w2 : w.heap.size + 1 + 1 < w1.heap.size := by omega)); (try (have hy1w3 : w.heap.size + 1 + 1 + 1 < w1.heap.size := by omega)); (try (have hy1w4 : w.heap.size + 1 + 1 + 1 + 1 < w1.heap.size := by omega))) | (go_at_call 84; refine (HO.out _).mono ?_; rintro e w2 ⟨rfl, hb2⟩; obtain ⟨hc2, hf2⟩ := bcell hb2; have hz2 := hb2.size; (try simp only [World.size_alloc, World.size_setCell, World.size_drew] at hz2); (try (have hy2w0 : w.heap.size < w2.heap.size := by omega)); (try (have hy2w1 : w.heap.size + 1 < w2.heap.size := by omega)); (try (have hy2w2 : w.heap.size + 1 + 1 < w2.heap.size := by omega)); (try (have hy2w3 : w.heap.size + 1 + 1 + 1 < w2.heap.size := by omega)); (try (have hy2w4 : w.heap.size + 1 + 1 + 1 + 1 < w2.heap.size := by omega)); (try (have hy2w10 : w1.heap.size < w2.heap.size := by omega)); (try (have hy2w11 : w1.heap.size + 1 < w2.heap.size := by omega)); (try (have hy2w12 : w1.heap.size + 1 + 1 < w2.heap.size := by omega)); (try (have hy2w13 : w1.heap.size + 1 + 1 + 1 < w2.heap.size := by omega)); (try (have hy2w14 : w1.heap.size + 1 + 1 + 1 + 1 < w2.heap.size := by omega))))
    go_returns
    exact ⟨by rw [hE.out]; try rfl, by (repeat' (first | (with_reducible exact Below.refl _ _) | (with_reducible assumption) | (with_reducible refine Below.alloc ?_ ?_ _) | (with_reducible refine Below.drew ?_) | (with_reducible refine below_drewN ?_ _) | (with_reducible refine Below.setCell ?_ ?_ _) | (refine Below.step ?_ (by with_reducible assumption) ?_) | go_size))⟩
set_option maxHeartbeats 1000000 in
theorem OrderOfMoebius_spec (p m0 m1 m2 m3 : Int) (n : Nat) (w : World) (hn : moCode p [⟨m0, m1, m2, m3⟩] = 0 → MoOrd p ⟨m0, m1, m2, m3⟩ n) :
    Calls Try.prog 38 #[.int .i64 p, .agg #[.int .i64 m0, .int .i64 m1, .int .i64 m2, .int .i64 m3]] w fun e w' => e = .returned (.tuple #[.int .i64 (moOrR p ⟨m0, m1, m2, m3⟩ n).1, .int .i64 (moOrR p ⟨m0, m1, m2, m3⟩ n).2]) ∧ Below w.heap.size w w' := by
  rcases moCode3 p [⟨m0, m1, m2, m3⟩] with hk | hk | ⟨hp, hok, hk⟩
  · have hE : Hid (moOrR p ⟨m0, m1, m2, m3⟩ n = (0, 2)) := by show _ = _; unfold moOrR; rw [hk]; rfl
    clear hn
    go_enter Try.func38, Try.ntmps38
    go_wp2_with (go_at_call 81; refine (l05Code_nil p _ _ _ [⟨m0, m1, m2, m3⟩] _ (rdM4_1 (by go_cell) (by go_cell) (by go_cell) (by go_cell)) (by go_size) (by simp)).mono ?_; rintro e w1 ⟨rfl, hb1⟩; obtain ⟨hc1, hf1⟩ := bcell hb1; have hz1 := hb1.size; (try simp only [World.size_alloc, World.size_setCell, World.size_drew] at hz1); (try (have hy1w0 : w.heap.size < w1.heap.size := by omega)); (try (have hy1w1 : w.heap.size + 1 < w1.heap.size := by omega)); (try (have hy1w2 : w.heap.size + 1 + 1 < w1.heap.size := by omega)); (try (have hy1w3 : w.heap.size + 1 + 1 + 1 < w1.heap.size := by omega)); (try (have hy1w4 : w.heap.size + 1 + 1 + 1 + 1 < w1.heap.size := by omega)))
    go_returns
    exact ⟨by rw [hE.out]; try rfl, by (repeat' (first | (with_reducible exact Below.refl _ _) | (with_reducible assumption) | (with_reducible refine Below.alloc ?_ ?_ _) | (with_reducible refine Below.drew ?_) | (with_reducible refine below_drewN ?_ _) | (with_reducible refine Below.setCell ?_ ?_ _) | (refine Below.step ?_ (by with_reducible assumption) ?_) | go_size))⟩
  · have hE : Hid (moOrR p ⟨m0, m1, m2, m3⟩ n = (0, 1)) := by show _ = _; unfold moOrR; rw [hk]; rfl
    clear hn
    go_enter Try.func38, Try.ntmps38
    go_wp2_with (go_at_call 81; refine (l05Code_nil p _ _ _ [⟨m0, m1, m2, m3⟩] _ (rdM4_1 (by go_cell) (by go_cell) (by go_cell) (by go_cell)) (by go_size) (by simp)).mono ?_; rintro e w1 ⟨rfl, hb1⟩; obtain ⟨hc1, hf1⟩ := bcell hb1; have hz1 := hb1.size; (try simp only [World.size_alloc, World.size_setCell, World.size_drew] at hz1); (try (have hy1w0 : w.heap.size < w1.heap.size := by omega)); (try (have hy1w1 : w.heap.size + 1 < w1.heap.size := by omega)); (try (have hy1w2 : w.heap.size + 1 + 1 < w1.heap.size := by omega)); (try (have hy1w3 : w.heap.size + 1 + 1 + 1 < w1.heap.size := by omega)); (try (have hy1w4 : w.heap.size + 1 + 1 + 1 + 1 < w1.heap.size := by omega)))
    go_returns
    exact ⟨by rw [hE.out]; try rfl, by (repeat' (first | (with_reducible exact Below.refl _ _) | (with_reducible assumption) | (with_reducible refine Below.alloc ?_ ?_ _) | (with_reducible refine Below.drew ?_) | (with_reducible refine below_drewN ?_ _) | (with_reducible refine Below.setCell ?_ ?_ _) | (refine Below.step ?_ (by with_reducible assumption) ?_) | go_size))⟩
  · have hE : Hid (moOrR p ⟨m0, m1, m2, m3⟩ n = ((n : Int) + 1, 0)) := by show _ = _; unfold moOrR; rw [hk]; rfl
    have hm : isMoE p ⟨m0, m1, m2, m3⟩ = true := by simpa using hok
    have HO : Hid (∀ w' : World, _) := fun w' => l05Order_any p m0 m1 m2 m3 n w' hp hm (hn hk)
    clear hn hok hm hp
    go_enter Try.func38, Try.ntmps38
    go_wp2_with (first | (go_at_call 81; refine (l05Code_nil p _ _ _ [⟨m0, m1, m2, m3⟩] _ (rdM4_1 (by go_cell) (by go_cell) (by go_cell) (by go_cell)) (by go_size) (by simp)).mono ?_; rintro e w1 ⟨rfl, hb1⟩; obtain ⟨hc1, hf1⟩ := bcell hb1; have hz1 := hb1.size; (try simp only [World.size_alloc, World.size_setCell, World.size_drew] at hz1); (try (have hy1w0 : w.heap.size < w1.heap.size := by omega)); (try (have hy1w1 : w.heap.size + 1 < w1.heap.size := by omega)); (try (have hy1w2 : w.heap.size + 1 + 1 < w1.heap.size := by omega)); (try (have hy1w3 : w.heap.size + 1 + 1 + 1 < w1.heap.size := by omega)); (try (have hy1w4 : w.heap.size + 1 + 1 + 1 + 1 < w1.heap.size := by omega))) | (go_at_call 82; refine (HO.out _).mono ?_; rintro e w2 ⟨rfl, hb2⟩; obtain ⟨hc2, hf2⟩ := bcell hb2; have hz2 := hb2.size; (try simp only [World.size_alloc, World.size_setCell, World.size_drew] at hz2); (try (have hy2w0 : w.heap.size < w2.heap.size := by omega)); (try (have hy2w1 : w.heap.size + 1 < w2.heap.size := by omega)); (try (have hy2w2 : w.heap.size + 1 + 1 < w2.heap.size := by omega)); (try (have hy2w3 : w.heap.size + 1 + 1 + 1 < w2.heap.size := by omega)); (try (have hy2w4 : w.heap.size + 1 + 1 + 1 + 1 < w2.heap.size := by omega)); (try (have hy2w10 : w1.heap.size < w2.heap.size := by omega)); (try (have hy2w11 : w1.heap.size + 1 < w2.heap.size := by omega)); (try (have hy2w12 : w1.heap.size + 1 + 1 < w2.heap.size := by omega)); (try (have hy2w13 : w1.heap.size + 1 + 1 + 1 < w2.heap.size := by omega)); (try (have hy2w14 : w1.heap.size + 1 + 1 + 1 + 1 < w2.heap.size := by omega))))
    go_returns
    exact ⟨by rw [hE.out]; try rfl, by (repeat' (first | (with_reducible exact Below.refl _ _) | (with_reducible assumption) | (with_reducible refine Below.alloc ?_ ?_ _) | (with_reducible refine Below.drew ?_) | (with_reducible refine below_drewN ?_ _) | (with_reducible refine Below.setCell ?_ ?_ _) | (refine Below.step ?_ (by with_reducible assumption) ?_) | go_size))⟩
end Go.Proofs.Ytemimkbngfbomaa
