/- Members of pencils, both sides; p is a prime. -/
import Derived.Test.YtemimkbngfbomaaW52
import Derived.Test.YtemimkbngfbomaaW57
import Derived.Test.YtemimkbngfbomaaA4
import Derived.Deep.RegionWith
import Derived.Deep.RegionHeld3
import Derived.StillTailTactics
namespace Go.Proofs.Ytemimkbngfbomaa
open Go.RowKit
set_option linter.unusedSimpArgs false
set_option linter.unusedVariables false
set_option maxRecDepth 100000

def mbL (s t : Int) (cl dl : List Int) : List Int := List.zipWith (fun c d => s * c + t * d) cl dl
def mbV (p : Int) (c d : C6) (s t : Int) : C6 := nmC p (s * c.c0 + t * d.c0) (s * c.c1 + t * d.c1) (s * c.c2 + t * d.c2) (s * c.c3 + t * d.c3) (s * c.c4 + t * d.c4) (s * c.c5 + t * d.c5)
theorem mbL_get {s t c d : Int} {cl dl : List Int} {k : Nat} (h : cl[k]? = some c) (g : dl[k]? = some d) : (mbL s t cl dl)[k]? = some (s * c + t * d) := by
  unfold mbL; rw [List.getElem?_zipWith, h, g]
theorem nr_zero (p x : Int) : nr p 0 x = 0 := by unfold nr; simp
theorem nr_md (p f x : Int) : nr p f (x % p) = nr p f x := by unfold nr; rw [Int.emod_emod_of_dvd _ (Int.dvd_refl p)]
theorem mdC_fst (p x0 x1 x2 x3 x4 x5 : Int) : (mdC p (x0 % p) (x1 % p) (x2 % p) (x3 % p) (x4 % p) (x5 % p)).1 = nmC p x0 x1 x2 x3 x4 x5 := by
  have hf : fac p [x0 % p, x1 % p, x2 % p, x3 % p, x4 % p, x5 % p] = fac p [x0, x1, x2, x3, x4, x5] := fac_mod [x0, x1, x2, x3, x4, x5]
  unfold mdC nmC
  rw [hf]
  simp only [nr_md]
  split
  · rename_i h; rw [h]; simp only [nr_zero]
  · rfl
theorem mem6 {l : List Int} {k : Nat} {x : Int} (h : l[k]? = some x) (hs : ∀ y ∈ l, sm y) : sm x := hs x (List.mem_of_getElem? h)
theorem lin_bd {s t c d : Int} (hs : sm s) (ht : sm t) (hc : sm c) (hd : sm d) : (0 ≤ s * c ∧ s * c ≤ 144) ∧ (0 ≤ t * d ∧ t * d ≤ 144) := by
  obtain ⟨s0, s1⟩ := hs; obtain ⟨t0, t1⟩ := ht; obtain ⟨c0, c1⟩ := hc; obtain ⟨d0, d1⟩ := hd
  have h1 := mul_bd (a := s) (b := c) (A := 12) (B := 12) s0 s1 c0 c1
  have h2 := mul_bd (a := t) (b := d) (A := 12) (B := 12) t0 t1 d0 d1
  exact ⟨⟨h1.1, by omega⟩, h2.1, by omega⟩
set_option maxHeartbeats 4000000 in
theorem member_any (p c0 c1 c2 c3 c4 c5 d0 d1 d2 d3 d4 d5 s t : Int) (w : World) (hp : isP p = true) (hs : sm s) (ht : sm t) (sc0 : sm c0) (sc1 : sm c1) (sc2 : sm c2) (sc3 : sm c3) (sc4 : sm c4) (sc5 : sm c5) (sd0 : sm d0) (sd1 : sm d1) (sd2 : sm d2) (sd3 : sm d3) (sd4 : sm d4) (sd5 : sm d5) :
    Calls Try.prog 67 #[.int .i64 p, .agg #[.int .i64 c0, .int .i64 c1, .int .i64 c2, .int .i64 c3, .int .i64 c4, .int .i64 c5], .agg #[.int .i64 d0, .int .i64 d1, .int .i64 d2, .int .i64 d3, .int .i64 d4, .int .i64 d5], .int .i64 s, .int .i64 t] w fun e w' => e = .returned (.agg #[.int .i64 (mbV p ⟨c0, c1, c2, c3, c4, c5⟩ ⟨d0, d1, d2, d3, d4, d5⟩ s t).c0, .int .i64 (mbV p ⟨c0, c1, c2, c3, c4, c5⟩ ⟨d0, d1, d2, d3, d4, d5⟩ s t).c1, .int .i64 (mbV p ⟨c0, c1, c2, c3, c4, c5⟩ ⟨d0, d1, d2, d3, d4, d5⟩ s t).c2, .int .i64 (mbV p ⟨c0, c1, c2, c3, c4, c5⟩ ⟨d0, d1, d2, d3, d4, d5⟩ s t).c3, .int .i64 (mbV p ⟨c0, c1, c2, c3, c4, c5⟩ ⟨d0, d1, d2, d3, d4, d5⟩ s t).c4, .int .i64 (mbV p ⟨c0, c1, c2, c3, c4, c5⟩ ⟨d0, d1, d2, d3, d4, d5⟩ s t).c5]) ∧ Below w.heap.size w w' := by
  have hcs : ∀ y ∈ [c0, c1, c2, c3, c4, c5], sm y := by intro y hy; simp only [List.mem_cons, List.not_mem_nil, or_false] at hy; rcases hy with rfl | rfl | rfl | rfl | rfl | rfl <;> assumption
  have hds : ∀ y ∈ [d0, d1, d2, d3, d4, d5], sm y := by intro y hy; simp only [List.mem_cons, List.not_mem_nil, or_false] at hy; rcases hy with rfl | rfl | rfl | rfl | rfl | rfl <;> assumption
  have HCS := Lib.hid hcs; have HDS := Lib.hid hds
  obtain ⟨V, hV⟩ : ∃ l, l = mbL s t [c0, c1, c2, c3, c4, c5] [d0, d1, d2, d3, d4, d5] := ⟨_, rfl⟩
  have hV6 : V.length = 6 := by rw [hV]; rfl
  clear hcs hds
  clear sc0 sc1 sc2 sc3 sc4 sc5 sd0 sd1 sd2 sd3 sd4 sd5
  have HP := Lib.hid hp; clear hp
  go_enter Try.func67, Try.ntmps67
  go_upto_region 2 with fail
  refine wp_name (fun w' => Box 24 w' w.heap.size [c0, c1, c2, c3, c4, c5] ∧ Box 24 w' (w.heap.size + 1) [d0, d1, d2, d3, d4, d5] ∧ Box 24 w' (w.heap.size + 1 + 1) [0, 0, 0, 0, 0, 0] ∧ Box 24 w' (w.heap.size + 1 + 1 + 1) [0, 0, 0, 0, 0, 0] ∧ Below w.heap.size w w') ⟨Box.alloc (Box.alloc (Box.alloc (Box.new [c0, c1, c2, c3, c4, c5] (by simp)) _) _) _, Box.alloc (Box.alloc (Box.new [d0, d1, d2, d3, d4, d5] (by simp)) _) _, Box.alloc (Box.new [0, 0, 0, 0, 0, 0] (by simp)) _, Box.new [0, 0, 0, 0, 0, 0] (by simp), by (repeat' (first | (with_reducible exact Below.refl _ _) | (with_reducible assumption) | (with_reducible refine Below.alloc ?_ ?_ _) | (with_reducible refine Below.drew ?_) | (with_reducible refine below_drewN ?_ _) | (with_reducible refine Below.setCell ?_ ?_ _) | (refine Below.step ?_ (by with_reducible assumption) ?_) | go_size))⟩ ?_
  rintro wq ⟨Bc, Bd, BR, BO, hB⟩
  go_wp2_with fail
  go_loopw [12, 14] (fun j i wr => ∃ k : Nat, k ≤ 6 ∧ i = .int .i64 k ∧ Box 24 wr w.heap.size [c0, c1, c2, c3, c4, c5] ∧ Box 24 wr (w.heap.size + 1) [d0, d1, d2, d3, d4, d5] ∧ Box 24 wr (w.heap.size + 1 + 1) [0, 0, 0, 0, 0, 0] ∧ Box 24 wr (w.heap.size + 1 + 1 + 1) (part6 V k) ∧ Below w.heap.size w wr) (fun _ i _ => 6 - (intOf i).toNat)
  case atStart => exact ⟨0, by omega, rfl, Bc, Bd, BR, BO, hB⟩
  case round =>
    clear Bc Bd BR BO hB
    obtain ⟨k, hk, rfl, Bc, Bd, BR, BO, hB⟩ := hrel
    have hBz := hB.size
    by_cases hlt : k < 6
    · have hkc : ∃ x, [c0, c1, c2, c3, c4, c5][k]? = some x := ⟨_, List.getElem?_eq_getElem (by simpa using hlt)⟩
      have hkd : ∃ x, [d0, d1, d2, d3, d4, d5][k]? = some x := ⟨_, List.getElem?_eq_getElem (by simpa using hlt)⟩
      obtain ⟨ck, hck⟩ := hkc; obtain ⟨dk, hdk⟩ := hkd
      obtain ⟨⟨e1, e2⟩, e3, e4⟩ := lin_bd hs ht (mem6 hck HCS.out) (mem6 hdk HDS.out)
      have hVk : V[k]? = some (s * ck + t * dk) := by rw [hV]; exact mbL_get hck hdk
      have hi0 : (0 : Int) ≤ (k : Int) := by omega
      have hi1 : (k : Int) < 6 := by omega
      have rc := Bc.cell k hck; have rd := Bd.cell k hdk
      have st := BO.cell k (part6_get hV6 hlt)
      have sf := BO.frz k
      go_wp2_with fail
      refine wp_region_still_tail 13 (by kernel_rfl) (by kernel_rfl) ?_
      simp only [List.take_succ_cons, List.take_zero, List.drop_succ_cons, List.drop_zero]
      repeat still_step
      try refine wpStill_nil ?_
      change wpList _ _ _ _ _ wr.drew
      go_wp2_with fail
      go_roundw
      case rel => exact ⟨k + 1, by omega, by go_num, Box.far (Box.drew Bc) (by omega), Box.far (Box.drew Bd) (by omega), Box.far (Box.drew BR) (by omega), (Box.set (Box.drew BO) k (s * ck + t * dk)).cast (part6_set hV6 hlt hVk), by (repeat' (first | (with_reducible exact Below.refl _ _) | (with_reducible assumption) | (with_reducible refine Below.alloc ?_ ?_ _) | (with_reducible refine Below.drew ?_) | (with_reducible refine below_drewN ?_ _) | (with_reducible refine Below.setCell ?_ ?_ _) | (refine Below.step ?_ (by with_reducible assumption) ?_) | go_size))⟩
      case measure => simp [intOf]; omega
    · obtain rfl : k = 6 := by omega
      rw [part6_all hV6, hV] at BO
      have BO2 : Box 24 wr (w.heap.size + 1 + 1 + 1) [(s * c0 + t * d0), (s * c1 + t * d1), (s * c2 + t * d2), (s * c3 + t * d3), (s * c4 + t * d4), (s * c5 + t * d5)] := BO
      have lto := BO2.lt
      clear BO Bc Bd hV hV6 HCS HDS
      have st0 := BO2.cell 0 rfl; have sf0 := BO2.frz 0
      have st1 := BO2.cell 1 rfl; have sf1 := BO2.frz 1
      have st2 := BO2.cell 2 rfl; have sf2 := BO2.frz 2
      have st3 := BO2.cell 3 rfl; have sf3 := BO2.frz 3
      have st4 := BO2.cell 4 rfl; have sf4 := BO2.frz 4
      have st5 := BO2.cell 5 rfl; have sf5 := BO2.frz 5
      go_wp2_with fail
      refine (normal6 p _ _ (s * c0 + t * d0) (s * c1 + t * d1) (s * c2 + t * d2) (s * c3 + t * d3) (s * c4 + t * d4) (s * c5 + t * d5) _ HP.out st0 st1 st2 st3 st4 st5 sf0 sf1 sf2 sf3 sf4 sf5).mono ?_
      rintro e w' ⟨rfl, rfl⟩
      clear st0 sf0 st1 sf1 st2 sf2 st3 sf3 st4 sf4 st5 sf5
      obtain ⟨v0, v1, v2, v3, v4, v5, hv⟩ : ∃ v0 v1 v2 v3 v4 v5, mbV p ⟨c0, c1, c2, c3, c4, c5⟩ ⟨d0, d1, d2, d3, d4, d5⟩ s t = ⟨v0, v1, v2, v3, v4, v5⟩ := ⟨_, _, _, _, _, _, rfl⟩
      have hv2 := hv
      unfold mbV nmC at hv2
      injection hv2 with g0 g1 g2 g3 g4 g5
      go_upto_region 8 with fail

      refine wp_name (fun w' => Box 24 w' (w.heap.size + 1 + 1 + 1) [v0, v1, v2, v3, v4, v5] ∧ Box 24 w' (w.heap.size + 1 + 1) [0, 0, 0, 0, 0, 0] ∧ Below w.heap.size w w') ⟨Box.fill6 BO2, Box.far6 BR (by omega), by (repeat' (first | (with_reducible exact Below.refl _ _) | (with_reducible assumption) | (with_reducible refine Below.alloc ?_ ?_ _) | (with_reducible refine Below.drew ?_) | (with_reducible refine below_drewN ?_ _) | (with_reducible refine Below.setCell ?_ ?_ _) | (refine Below.step ?_ (by with_reducible assumption) ?_) | go_size))⟩ ?_
      rintro wz ⟨BG, BX, hBx⟩
      clear g0 g1 g2 g3 g4 g5 BO2 BR hB
      have sg0 := BG.cell 0 rfl; have sr0 := BX.cell 0 rfl; have sf0 := BX.frz 0
      have sg1 := BG.cell 1 rfl; have sr1 := BX.cell 1 rfl; have sf1 := BX.frz 1
      have sg2 := BG.cell 2 rfl; have sr2 := BX.cell 2 rfl; have sf2 := BX.frz 2
      have sg3 := BG.cell 3 rfl; have sr3 := BX.cell 3 rfl; have sf3 := BX.frz 3
      have sg4 := BG.cell 4 rfl; have sr4 := BX.cell 4 rfl; have sf4 := BX.frz 4
      have sg5 := BG.cell 5 rfl; have sr5 := BX.cell 5 rfl; have sf5 := BX.frz 5
      go_wp2_with fail
      (try simp only [Exit.inBlock, Exit.then]); refine bodyPost_ret (by simp [results, Try.results67, go_sem, *]; try rfl) rfl ?_
      exact ⟨by rw [hv]; try rfl, by (repeat' (first | (with_reducible exact Below.refl _ _) | (with_reducible assumption) | (with_reducible refine Below.alloc ?_ ?_ _) | (with_reducible refine Below.drew ?_) | (with_reducible refine below_drewN ?_ _) | (with_reducible refine Below.setCell ?_ ?_ _) | (refine Below.step ?_ (by with_reducible assumption) ?_) | go_size))⟩
set_option maxHeartbeats 4000000 in
theorem l04Member_any (p c0 c1 c2 c3 c4 c5 d0 d1 d2 d3 d4 d5 s t : Int) (w : World) (hp : isP p = true) (hs : sm s) (ht : sm t) (sc0 : sm c0) (sc1 : sm c1) (sc2 : sm c2) (sc3 : sm c3) (sc4 : sm c4) (sc5 : sm c5) (sd0 : sm d0) (sd1 : sm d1) (sd2 : sm d2) (sd3 : sm d3) (sd4 : sm d4) (sd5 : sm d5) :
    Calls Try.prog 65 #[.int .i64 p, .agg #[.int .i64 c0, .int .i64 c1, .int .i64 c2, .int .i64 c3, .int .i64 c4, .int .i64 c5], .agg #[.int .i64 d0, .int .i64 d1, .int .i64 d2, .int .i64 d3, .int .i64 d4, .int .i64 d5], .int .i64 s, .int .i64 t] w fun e w' => e = .returned (.agg #[.int .i64 (mbV p ⟨c0, c1, c2, c3, c4, c5⟩ ⟨d0, d1, d2, d3, d4, d5⟩ s t).c0, .int .i64 (mbV p ⟨c0, c1, c2, c3, c4, c5⟩ ⟨d0, d1, d2, d3, d4, d5⟩ s t).c1, .int .i64 (mbV p ⟨c0, c1, c2, c3, c4, c5⟩ ⟨d0, d1, d2, d3, d4, d5⟩ s t).c2, .int .i64 (mbV p ⟨c0, c1, c2, c3, c4, c5⟩ ⟨d0, d1, d2, d3, d4, d5⟩ s t).c3, .int .i64 (mbV p ⟨c0, c1, c2, c3, c4, c5⟩ ⟨d0, d1, d2, d3, d4, d5⟩ s t).c4, .int .i64 (mbV p ⟨c0, c1, c2, c3, c4, c5⟩ ⟨d0, d1, d2, d3, d4, d5⟩ s t).c5]) ∧ Below w.heap.size w w' := by
  have hcs : ∀ y ∈ [c0, c1, c2, c3, c4, c5], sm y := by intro y hy; simp only [List.mem_cons, List.not_mem_nil, or_false] at hy; rcases hy with rfl | rfl | rfl | rfl | rfl | rfl <;> assumption
  have hds : ∀ y ∈ [d0, d1, d2, d3, d4, d5], sm y := by intro y hy; simp only [List.mem_cons, List.not_mem_nil, or_false] at hy; rcases hy with rfl | rfl | rfl | rfl | rfl | rfl <;> assumption
  have HCS := Lib.hid hcs; have HDS := Lib.hid hds
  obtain ⟨V, hV⟩ : ∃ l, l = mbL s t [c0, c1, c2, c3, c4, c5] [d0, d1, d2, d3, d4, d5] := ⟨_, rfl⟩
  have hV6 : V.length = 6 := by rw [hV]; rfl
  clear hcs hds
  clear sc0 sc1 sc2 sc3 sc4 sc5 sd0 sd1 sd2 sd3 sd4 sd5
  have hp0 : ¬ p = 0 := by have := isP_lo hp; omega
  have HP := Lib.hid hp; clear hp
  have hml : (V.map (· % p)).length = 6 := by rw [List.length_map]; exact hV6
  go_enter Try.func65, Try.ntmps65
  go_upto_region 1 with fail
  refine wp_name (fun w' => Box 24 w' (w.heap.size) [c0, c1, c2, c3, c4, c5] ∧ Box 24 w' (w.heap.size + 1) [d0, d1, d2, d3, d4, d5] ∧ Box 24 w' (w.heap.size + 1 + 1) [0, 0, 0, 0, 0, 0] ∧ Below w.heap.size w w') ⟨Box.alloc (Box.alloc (Box.new [c0, c1, c2, c3, c4, c5] (by simp)) _) _, Box.alloc (Box.new [d0, d1, d2, d3, d4, d5] (by simp)) _, Box.new [0, 0, 0, 0, 0, 0] (by simp), by (repeat' (first | (with_reducible exact Below.refl _ _) | (with_reducible assumption) | (with_reducible refine Below.alloc ?_ ?_ _) | (with_reducible refine Below.drew ?_) | (with_reducible refine below_drewN ?_ _) | (with_reducible refine Below.setCell ?_ ?_ _) | (refine Below.step ?_ (by with_reducible assumption) ?_) | go_size))⟩ ?_
  rintro wq ⟨Bc, Bd, BR, hB⟩
  have hz := hB.size
  go_upto_region 2 with fail
  refine wp_name (fun w' => OwnI w' wq.heap.size (.slice (some ⟨wq.heap.size, 0, none⟩) 0 0) [] ∧ Below wq.heap.size wq w') ⟨OwnI.made0 rfl (Nat.le_refl _), by (repeat' (first | (with_reducible exact Below.refl _ _) | (with_reducible assumption) | (with_reducible refine Below.alloc ?_ ?_ _) | (with_reducible refine Below.drew ?_) | (with_reducible refine below_drewN ?_ _) | (with_reducible refine Below.setCell ?_ ?_ _) | (refine Below.step ?_ (by with_reducible assumption) ?_) | go_size))⟩ ?_
  rintro wq0 ⟨HO0, hC0⟩
  go_wp2_with fail
  go_loopw [11, 12] (fun v i wr => ∃ k : Nat, k ≤ 6 ∧ i = .int .i64 k ∧ OwnI wr wq.heap.size v ((V.map (· % p)).take k) ∧ Below wq.heap.size wq wr) (fun _ i _ => 6 - (intOf i).toNat)
  case atStart => exact ⟨0, by omega, rfl, HO0, hC0⟩
  case round =>
    clear HO0 hC0
    obtain ⟨k, hk, rfl, HO, hC⟩ := hrel
    have hCz := hC.size
    by_cases hlt : k < 6
    · have hkc : ∃ x, [c0, c1, c2, c3, c4, c5][k]? = some x := ⟨_, List.getElem?_eq_getElem (by simpa using hlt)⟩
      have hkd : ∃ x, [d0, d1, d2, d3, d4, d5][k]? = some x := ⟨_, List.getElem?_eq_getElem (by simpa using hlt)⟩
      obtain ⟨ck, hck⟩ := hkc; obtain ⟨dk, hdk⟩ := hkd
      obtain ⟨⟨e1, e2⟩, e3, e4⟩ := lin_bd hs ht (mem6 hck HCS.out) (mem6 hdk HDS.out)
      have hVk : V[k]? = some (s * ck + t * dk) := by rw [hV]; exact mbL_get hck hdk
      have hi0 : (0 : Int) ≤ (k : Int) := by omega
      have hi1 : (k : Int) < 6 := by omega
      have hVm : (V.map (· % p))[k]? = some ((s * ck + t * dk) % p) := by rw [List.getElem?_map, hVk]; rfl
      have rc0 := Bc.cell k hck; have rd0 := Bd.cell k hdk
      have rc := keepC2 hC rc0; have rd := keepC2 hC rd0
      have hmod : (s * ck + t * dk).tmod p = (s * ck + t * dk) % p := Int.tmod_eq_emod_of_nonneg (by omega)
      have hw1 : IntKind.i64.wrap (s * ck) = s * ck := by go_arith
      have hw2 : IntKind.i64.wrap (t * dk) = t * dk := by go_arith
      have hw3 : IntKind.i64.wrap (s * ck + t * dk) = s * ck + t * dk := by go_arith
      have hnext : (V.map (· % p)).take (k + 1) = (V.map (· % p)).take k ++ [(s * ck + t * dk) % p] := by rw [List.take_add_one, hVm]; rfl
      have hlk : ((V.map (· % p)).take k).length + 1 ≤ 10000 := by rw [List.length_take]; omega
      generalize (V.map (· % p)).take k = L0 at *
      have hOa : OwnI (wr.alloc (.cells #[.int .i64 ((s * ck + t * dk) % p)] 2)).drew wq.heap.size u11 L0 := OwnI.alloc HO (.cells #[.int .i64 ((s * ck + t * dk) % p)] 2)
      have hNa : Box 2 (wr.alloc (.cells #[.int .i64 ((s * ck + t * dk) % p)] 2)).drew wr.heap.size [(s * ck + t * dk) % p] := Box.new [(s * ck + t * dk) % p] rfl
      have hBa : Below wq.heap.size wq (wr.alloc (.cells #[.int .i64 ((s * ck + t * dk) % p)] 2)).drew := Below.drew (Below.alloc hC (by omega) _)
      go_wp2_with fail
      go_region_held3 (fun w' => w'.cell? ⟨w.heap.size, k, none⟩ = some (.int .i64 ck) ∧ w'.cell? ⟨w.heap.size + 1, k, none⟩ = some (.int .i64 dk)) ((go_split_ands; (repeat (any_goals (with_reducible apply And.intro))) <;> (first | (with_reducible assumption) | (with_reducible exact keepD (by with_reducible assumption)) | (with_reducible exact keepD (keepA _ (by with_reducible assumption))) | (with_reducible exact keepC2 hBk2 (by with_reducible assumption))))) ((refine appI_step rfl _ _ rfl wq.heap.size _ L0 [(s * ck + t * dk) % p] rfl hOa rfl hNa rfl (by simp) hlk (by go_size) ?_; intro g1 cap1 wn HOn hgr hBk; have hCn := hBk _ _ hBa (Nat.le_refl _); have hBk2 := hCn))
      go_wp2_with fail
      go_roundw
      case rel => exact ⟨k + 1, by omega, by go_num, by rw [hnext]; exact HOn, hCn⟩
      case measure => simp [intOf]; omega
    · obtain rfl : k = 6 := by omega
      rw [List.take_of_length_le (by omega)] at HO
      obtain ⟨g, cap, rfl, hg1, hg2, hR, _⟩ := HO.shape (by intro h; rw [h] at hml; simp at hml)
      have hmd : (V.map (· % p)) = [((s * c0 + t * d0) % p), ((s * c1 + t * d1) % p), ((s * c2 + t * d2) % p), ((s * c3 + t * d3) % p), ((s * c4 + t * d4) % p), ((s * c5 + t * d5) % p)] := by rw [hV]; rfl
      rw [hmd] at hR hml ⊢
      have BX2 := Box.below hC BR
      have hD : Below w.heap.size w wr := by (repeat' (first | (with_reducible exact Below.refl _ _) | (with_reducible assumption) | (with_reducible refine Below.alloc ?_ ?_ _) | (with_reducible refine Below.drew ?_) | (with_reducible refine below_drewN ?_ _) | (with_reducible refine Below.setCell ?_ ?_ _) | (refine Below.step ?_ (by with_reducible assumption) ?_) | go_size))
      obtain ⟨v0, v1, v2, v3, v4, v5, hv⟩ : ∃ v0 v1 v2 v3 v4 v5, mbV p ⟨c0, c1, c2, c3, c4, c5⟩ ⟨d0, d1, d2, d3, d4, d5⟩ s t = ⟨v0, v1, v2, v3, v4, v5⟩ := ⟨_, _, _, _, _, _, rfl⟩
      have hme := fun w' (hb : Below wr.heap.size wr w') => l03Made_any p ((s * c0 + t * d0) % p) ((s * c1 + t * d1) % p) ((s * c2 + t * d2) % p) ((s * c3 + t * d3) % p) ((s * c4 + t * d4) % p) ((s * c5 + t * d5) % p) g 0 cap w' HP.out (hR.behind hb hg2) (Nat.lt_of_lt_of_le hg2 hb.size)
      have hfst := mdC_fst p (s * c0 + t * d0) (s * c1 + t * d1) (s * c2 + t * d2) (s * c3 + t * d3) (s * c4 + t * d4) (s * c5 + t * d5)
      obtain ⟨⟨mc, mb⟩, hmm⟩ : ∃ m, mdC p ((s * c0 + t * d0) % p) ((s * c1 + t * d1) % p) ((s * c2 + t * d2) % p) ((s * c3 + t * d3) % p) ((s * c4 + t * d4) % p) ((s * c5 + t * d5) % p) = m := ⟨_, rfl⟩
      rw [hmm] at hme hfst
      dsimp only at hfst
      have hfv : mc = ⟨v0, v1, v2, v3, v4, v5⟩ := hfst.trans hv
      subst hfv
      dsimp only at hme
      have HME := Lib.hid hme
      clear hme hmm hfst hmd hml HO hR HCS HDS hV hV6 Bc Bd BR
      go_upto_region 7 with (go_at_call 51; refine (HME.out _ (by (repeat' (first | (with_reducible exact Below.refl _ _) | (with_reducible assumption) | (with_reducible refine Below.alloc ?_ ?_ _) | (with_reducible refine Below.drew ?_) | (with_reducible refine below_drewN ?_ _) | (with_reducible refine Below.setCell ?_ ?_ _) | (refine Below.step ?_ (by with_reducible assumption) ?_) | go_size)))).mono ?_; rintro e w5 ⟨rfl, hb5⟩)
      have hz5 := hb5.size
      have ltr := BX2.lt
      refine wp_name (fun w' => Box 24 w' w5.heap.size [v0, v1, v2, v3, v4, v5] ∧ Box 24 w' (w.heap.size + 1 + 1) [0, 0, 0, 0, 0, 0] ∧ Below w.heap.size w w') ⟨Box.new [v0, v1, v2, v3, v4, v5] rfl, Box.alloc (Box.below hb5 BX2) _, by (repeat' (first | (with_reducible exact Below.refl _ _) | (with_reducible assumption) | (with_reducible refine Below.alloc ?_ ?_ _) | (with_reducible refine Below.drew ?_) | (with_reducible refine below_drewN ?_ _) | (with_reducible refine Below.setCell ?_ ?_ _) | (refine Below.step ?_ (by with_reducible assumption) ?_) | go_size))⟩ ?_
      rintro wz ⟨BG, BX, hBx⟩
      clear BX2 hb5 hD hC
      have sg0 := BG.cell 0 rfl; have sr0 := BX.cell 0 rfl; have sf0 := BX.frz 0
      have sg1 := BG.cell 1 rfl; have sr1 := BX.cell 1 rfl; have sf1 := BX.frz 1
      have sg2 := BG.cell 2 rfl; have sr2 := BX.cell 2 rfl; have sf2 := BX.frz 2
      have sg3 := BG.cell 3 rfl; have sr3 := BX.cell 3 rfl; have sf3 := BX.frz 3
      have sg4 := BG.cell 4 rfl; have sr4 := BX.cell 4 rfl; have sf4 := BX.frz 4
      have sg5 := BG.cell 5 rfl; have sr5 := BX.cell 5 rfl; have sf5 := BX.frz 5
      go_wp2_with fail
      (try simp only [Exit.inBlock, Exit.then]); refine bodyPost_ret (by simp [results, Try.results65, go_sem, *]; try rfl) rfl ?_
      exact ⟨by rw [hv]; try rfl, by (repeat' (first | (with_reducible exact Below.refl _ _) | (with_reducible assumption) | (with_reducible refine Below.alloc ?_ ?_ _) | (with_reducible refine Below.drew ?_) | (with_reducible refine below_drewN ?_ _) | (with_reducible refine Below.setCell ?_ ?_ _) | (refine Below.step ?_ (by with_reducible assumption) ?_) | go_size))⟩
end Go.Proofs.Ytemimkbngfbomaa
