/- Conics as texts, in the reference and in the program; ConicText. -/
import Derived.Test.YthafbmenkhekoaaDoorW71
import Derived.Test.YthafbmenkhekoaaDoorW51
namespace Go.Proofs.YthafbmenkhekoaaDoor
open Go.RowKit
set_option linter.unusedSimpArgs false
set_option linter.unusedVariables false
set_option maxRecDepth 100000

set_option maxHeartbeats 1000000 in
theorem colons_any (b off cap : Nat) (zs : List Int) (w : World) (hR : Rd w b off zs) (hbl : b < w.heap.size) (hs : ∀ z ∈ zs, sm z) (hne : zs ≠ []) (hm : zs.length ≤ 100) :
    Calls Tryd.prog 22 #[.slice (some ⟨b, off, none⟩) zs.length cap] w fun e w' => e = .returned (.string (str (txt zs))) ∧ Below w.heap.size w w' := by
  have HS := Lib.hid hs
  obtain ⟨ds, hds⟩ : ∃ ds, ds = zs.map fun z => str (dec z) := ⟨_, rfl⟩
  have hdl : ds.length = zs.length := by rw [hds, List.length_map]
  have hdne : ds ≠ [] := by rw [hds]; simpa using hne
  have HJ : Hid (∀ (w' : World) (g c : Nat), (∀ (j : Nat) x, ds[j]? = some x → w'.cell? ⟨g, 0 + j, none⟩ = some (.string x)) → g < w'.heap.size → ds.length ≤ c → Calls Tryd.prog 33 #[.slice (some ⟨g, 0, none⟩) zs.length c, .string ⟨#[58]⟩] w' fun e w'' => e = .returned (.string (str (txt zs))) ∧ Below w'.heap.size w' w'') := fun w' g c h1 h2 h3 => by
    have hl : (Lib.join (ds.map (·.data.toList)) (⟨#[58]⟩ : ByteArray).data.toList) = txt zs := by rw [hds]; simp [txt, str, Function.comp_def]
    have hlen := txt_len (zs := zs) (fun z hz => by have := (hs z hz).2; omega)
    have := Tryd.strings_Join g 0 c ds ⟨#[58]⟩ w' h1 h2 (by omega) h3 (by rw [hl]; omega)
    rw [hl, hdl] at this
    exact this
  have HG : Hid (∀ k x, zs[k]? = some x → ds.take (k + 1) = ds.take k ++ [str (dec x)]) := fun k x hx => by
    rw [List.take_add_one, hds, List.getElem?_map, hx]; rfl
  generalize str (txt zs) = t at *
  clear hds hs
  go_enter Tryd.func22, Tryd.ntmps22
  go_wp2
  go_loopw [3, 5, 9] (fun v n i wr => ∃ k : Nat, k ≤ zs.length ∧ i = .int .i64 k ∧ OwnT wr w.heap.size v (ds.take k) ∧ Below w.heap.size w wr) (fun _ _ i _ => zs.length - (intOf i).toNat)
  case atStart => exact ⟨0, Nat.zero_le _, rfl, OwnT.made0 rfl (Nat.le_refl _), by (repeat' (first | (with_reducible exact Below.refl _ _) | (with_reducible assumption) | (with_reducible refine Below.alloc ?_ ?_ _) | (with_reducible refine Below.drew ?_) | (with_reducible refine below_drewN ?_ _) | (with_reducible refine Below.setCell ?_ ?_ _) | (refine Below.step ?_ (by with_reducible assumption) ?_) | go_size))⟩
  case round =>
    obtain ⟨k, hk, rfl, hown, hB⟩ := hrel
    have hBz := hB.size
    by_cases hlt : k < zs.length
    · obtain ⟨x, hcell0, hx⟩ := hR.get hlt
      have hcell : wr.cell? ⟨b, off + k, none⟩ = some (.int .i64 x) := by rw [hB.cell (p := ⟨b, _, none⟩) hbl]; exact hcell0
      have hsx : sm x := HS.out x (List.mem_of_getElem? hx.out)
      have HF : Hid (∀ w', _) := fun w' => FormatInt_dec x w' hsx.1 (by have := hsx.2; omega)
      have hn := Lib.hid (HG.out k x hx.out)
      have hlk : Hid ((ds.take k).length ≤ 10000000) := by show _ ≤ _; rw [List.length_take]; omega
      have hi0 : (0 : Int) ≤ (k : Int) := by omega
      have hi1 : (k : Int) < (zs.length : Int) := by omega
      obtain ⟨d, hd⟩ : ∃ d, str (dec x) = d := ⟨_, rfl⟩
      rw [hd] at HF hn
      clear hR hcell0 hdne hdl hd hx
      go_wp2_with (first | (go_at_call 32; refine (HF.out _).mono ?_; rintro e w' ⟨rfl, rfl⟩) | (at_builtin; refine append_str w.heap.size _ _ hown rfl _ _ rfl rfl rfl (by have := hlk.out; omega) (by omega) ?_; intro v1 w1 hown1 hB1 hz1))
      go_roundw
      case rel => exact ⟨k + 1, by omega, by go_num, by rw [hn.out]; exact hown1, hB1 _ _ hB (Nat.le_refl _)⟩
      case measure => simp [intOf]; omega
    · rw [List.take_of_length_le (by omega)] at hown
      obtain ⟨g, c2, rfl, hg, hcells, hcap⟩ := hown.cells hdne
      have HC := Lib.hid hcells; clear hcells hR hown
      go_wp2_with (go_at_call 33; refine (HJ.out _ g c2 HC.out hg hcap).mono ?_; rintro e w4 ⟨rfl, hb4⟩)
      go_ret
      exact ⟨rfl, by (repeat' (first | (with_reducible exact Below.refl _ _) | (with_reducible assumption) | (with_reducible refine Below.alloc ?_ ?_ _) | (with_reducible refine Below.drew ?_) | (with_reducible refine below_drewN ?_ _) | (with_reducible refine Below.setCell ?_ ?_ _) | (refine Below.step ?_ (by with_reducible assumption) ?_) | go_size))⟩
/-- What ConicText returns. -/
def ctxR (p : Int) (c : C6) : ByteArray × Int := if coCode p true [c] = 0 then (str (txt c.l), 0) else (⟨#[]⟩, coCode p true [c])
set_option maxHeartbeats 1000000 in
theorem ConicText_spec (p c0 c1 c2 c3 c4 c5 : Int) (w : World) :
    Calls Tryd.prog 9 #[.int .i64 p, .agg #[.int .i64 c0, .int .i64 c1, .int .i64 c2, .int .i64 c3, .int .i64 c4, .int .i64 c5]] w fun e w' => e = .returned (.tuple #[.string (ctxR p ⟨c0, c1, c2, c3, c4, c5⟩).1, .int .i64 (ctxR p ⟨c0, c1, c2, c3, c4, c5⟩).2]) ∧ Below w.heap.size w w' := by
  rcases coCode3 p true [⟨c0, c1, c2, c3, c4, c5⟩] with hk | hk | ⟨hp, hok, hk⟩
  · have hE : Hid (ctxR p ⟨c0, c1, c2, c3, c4, c5⟩ = (⟨#[]⟩, 2)) := by show _ = _; unfold ctxR; rw [hk]; rfl
    have HK := Lib.hid hk; clear hk
    go_enter Tryd.func9, Tryd.ntmps9
    go_wp2_with (go_at_call 20; refine (l03Code_nil p c0 c1 c2 c3 c4 c5 _).mono ?_; rintro e w1 ⟨rfl, hb1⟩; obtain ⟨hc1, hf1⟩ := bcell hb1; have hz1 := hb1.size; (try simp only [World.size_alloc, World.size_setCell, World.size_drew] at hz1); (try (have hy1w0 : w.heap.size < w1.heap.size := by omega)); (try (have hy1w1 : w.heap.size + 1 < w1.heap.size := by omega)); (try (have hy1w2 : w.heap.size + 1 + 1 < w1.heap.size := by omega)); (try (have hy1w3 : w.heap.size + 1 + 1 + 1 < w1.heap.size := by omega)); (try (have hy1w4 : w.heap.size + 1 + 1 + 1 + 1 < w1.heap.size := by omega)); rw [HK.out])
    go_returns
    exact ⟨by rw [hE.out]; try rfl, by (repeat' (first | (with_reducible exact Below.refl _ _) | (with_reducible assumption) | (with_reducible refine Below.alloc ?_ ?_ _) | (with_reducible refine Below.drew ?_) | (with_reducible refine below_drewN ?_ _) | (with_reducible refine Below.setCell ?_ ?_ _) | (refine Below.step ?_ (by with_reducible assumption) ?_) | go_size))⟩
  · have hE : Hid (ctxR p ⟨c0, c1, c2, c3, c4, c5⟩ = (⟨#[]⟩, 1)) := by show _ = _; unfold ctxR; rw [hk]; rfl
    have HK := Lib.hid hk; clear hk
    go_enter Tryd.func9, Tryd.ntmps9
    go_wp2_with (go_at_call 20; refine (l03Code_nil p c0 c1 c2 c3 c4 c5 _).mono ?_; rintro e w1 ⟨rfl, hb1⟩; obtain ⟨hc1, hf1⟩ := bcell hb1; have hz1 := hb1.size; (try simp only [World.size_alloc, World.size_setCell, World.size_drew] at hz1); (try (have hy1w0 : w.heap.size < w1.heap.size := by omega)); (try (have hy1w1 : w.heap.size + 1 < w1.heap.size := by omega)); (try (have hy1w2 : w.heap.size + 1 + 1 < w1.heap.size := by omega)); (try (have hy1w3 : w.heap.size + 1 + 1 + 1 < w1.heap.size := by omega)); (try (have hy1w4 : w.heap.size + 1 + 1 + 1 + 1 < w1.heap.size := by omega)); rw [HK.out])
    go_returns
    exact ⟨by rw [hE.out]; try rfl, by (repeat' (first | (with_reducible exact Below.refl _ _) | (with_reducible assumption) | (with_reducible refine Below.alloc ?_ ?_ _) | (with_reducible refine Below.drew ?_) | (with_reducible refine below_drewN ?_ _) | (with_reducible refine Below.setCell ?_ ?_ _) | (refine Below.step ?_ (by with_reducible assumption) ?_) | go_size))⟩
  · have hE : Hid (ctxR p ⟨c0, c1, c2, c3, c4, c5⟩ = (str (txt [c0, c1, c2, c3, c4, c5]), 0)) := by show _ = _; unfold ctxR; rw [hk]; rfl
    rw [Bool.true_and] at hok
    obtain ⟨s0, s1, s2, s3, s4, s5⟩ := isCo_sm (co1 hok).1
    have hs : ∀ z ∈ [c0, c1, c2, c3, c4, c5], sm z := by intro z hz; simp only [List.mem_cons, List.not_mem_nil, or_false] at hz; rcases hz with rfl | rfl | rfl | rfl | rfl | rfl <;> assumption
    have HSS := Lib.hid hs
    have HK := Lib.hid hk; clear hk hok hp hs s0 s1 s2 s3 s4 s5
    go_enter Tryd.func9, Tryd.ntmps9
    go_wp2_with (first | (go_at_call 20; refine (l03Code_nil p c0 c1 c2 c3 c4 c5 _).mono ?_; rintro e w1 ⟨rfl, hb1⟩; obtain ⟨hc1, hf1⟩ := bcell hb1; have hz1 := hb1.size; (try simp only [World.size_alloc, World.size_setCell, World.size_drew] at hz1); (try (have hy1w0 : w.heap.size < w1.heap.size := by omega)); (try (have hy1w1 : w.heap.size + 1 < w1.heap.size := by omega)); (try (have hy1w2 : w.heap.size + 1 + 1 < w1.heap.size := by omega)); (try (have hy1w3 : w.heap.size + 1 + 1 + 1 < w1.heap.size := by omega)); (try (have hy1w4 : w.heap.size + 1 + 1 + 1 + 1 < w1.heap.size := by omega)); rw [HK.out]) | (go_at_call 16; refine (l01Text_any _ 0 _ [c0, c1, c2, c3, c4, c5] _ (rd6 (by go_cell) (by go_cell) (by go_cell) (by go_cell) (by go_cell) (by go_cell)) (by go_size) HSS.out (by simp)).mono ?_; rintro e w3 ⟨rfl, hb3⟩; have hz3 := hb3.size; simp only [World.size_alloc] at hz3))
    go_returns
    exact ⟨by rw [hE.out]; try rfl, by (repeat' (first | (with_reducible exact Below.refl _ _) | (with_reducible assumption) | (with_reducible refine Below.alloc ?_ ?_ _) | (with_reducible refine Below.drew ?_) | (with_reducible refine below_drewN ?_ _) | (with_reducible refine Below.setCell ?_ ?_ _) | (refine Below.step ?_ (by with_reducible assumption) ?_) | go_size))⟩
set_option maxHeartbeats 1000000 in
theorem ConicText_any (p c0 c1 c2 c3 c4 c5 : Int) (w : World) :
    Calls Tryd.prog 11 #[.int .i64 p, .agg #[.int .i64 c0, .int .i64 c1, .int .i64 c2, .int .i64 c3, .int .i64 c4, .int .i64 c5]] w fun e w' => e = .returned (.tuple #[.string (ctxR p ⟨c0, c1, c2, c3, c4, c5⟩).1, .int .i64 (ctxR p ⟨c0, c1, c2, c3, c4, c5⟩).2]) ∧ Below w.heap.size w w' := by
  rcases coCode3 p true [⟨c0, c1, c2, c3, c4, c5⟩] with hk | hk | ⟨hp, hok, hk⟩
  · have hE : Hid (ctxR p ⟨c0, c1, c2, c3, c4, c5⟩ = (⟨#[]⟩, 2)) := by show _ = _; unfold ctxR; rw [hk]; rfl
    have HK := Lib.hid hk; clear hk
    go_enter Tryd.func11, Tryd.ntmps11
    go_wp2_with (go_at_call 21; refine (conicsCode_any p _ _ _ [⟨c0, c1, c2, c3, c4, c5⟩] _ (rdC6_1 (by go_cell) (by go_cell) (by go_cell) (by go_cell) (by go_cell) (by go_cell)) (by go_size) (by simp)).mono ?_; rintro e w1 ⟨rfl, hb1⟩; obtain ⟨hc1, hf1⟩ := bcell hb1; have hz1 := hb1.size; (try simp only [World.size_alloc, World.size_setCell, World.size_drew] at hz1); (try (have hy1w0 : w.heap.size < w1.heap.size := by omega)); (try (have hy1w1 : w.heap.size + 1 < w1.heap.size := by omega)); (try (have hy1w2 : w.heap.size + 1 + 1 < w1.heap.size := by omega)); (try (have hy1w3 : w.heap.size + 1 + 1 + 1 < w1.heap.size := by omega)); (try (have hy1w4 : w.heap.size + 1 + 1 + 1 + 1 < w1.heap.size := by omega)); rw [HK.out])
    go_returns
    exact ⟨by rw [hE.out]; try rfl, by (repeat' (first | (with_reducible exact Below.refl _ _) | (with_reducible assumption) | (with_reducible refine Below.alloc ?_ ?_ _) | (with_reducible refine Below.drew ?_) | (with_reducible refine below_drewN ?_ _) | (with_reducible refine Below.setCell ?_ ?_ _) | (refine Below.step ?_ (by with_reducible assumption) ?_) | go_size))⟩
  · have hE : Hid (ctxR p ⟨c0, c1, c2, c3, c4, c5⟩ = (⟨#[]⟩, 1)) := by show _ = _; unfold ctxR; rw [hk]; rfl
    have HK := Lib.hid hk; clear hk
    go_enter Tryd.func11, Tryd.ntmps11
    go_wp2_with (go_at_call 21; refine (conicsCode_any p _ _ _ [⟨c0, c1, c2, c3, c4, c5⟩] _ (rdC6_1 (by go_cell) (by go_cell) (by go_cell) (by go_cell) (by go_cell) (by go_cell)) (by go_size) (by simp)).mono ?_; rintro e w1 ⟨rfl, hb1⟩; obtain ⟨hc1, hf1⟩ := bcell hb1; have hz1 := hb1.size; (try simp only [World.size_alloc, World.size_setCell, World.size_drew] at hz1); (try (have hy1w0 : w.heap.size < w1.heap.size := by omega)); (try (have hy1w1 : w.heap.size + 1 < w1.heap.size := by omega)); (try (have hy1w2 : w.heap.size + 1 + 1 < w1.heap.size := by omega)); (try (have hy1w3 : w.heap.size + 1 + 1 + 1 < w1.heap.size := by omega)); (try (have hy1w4 : w.heap.size + 1 + 1 + 1 + 1 < w1.heap.size := by omega)); rw [HK.out])
    go_returns
    exact ⟨by rw [hE.out]; try rfl, by (repeat' (first | (with_reducible exact Below.refl _ _) | (with_reducible assumption) | (with_reducible refine Below.alloc ?_ ?_ _) | (with_reducible refine Below.drew ?_) | (with_reducible refine below_drewN ?_ _) | (with_reducible refine Below.setCell ?_ ?_ _) | (refine Below.step ?_ (by with_reducible assumption) ?_) | go_size))⟩
  · have hE : Hid (ctxR p ⟨c0, c1, c2, c3, c4, c5⟩ = (str (txt [c0, c1, c2, c3, c4, c5]), 0)) := by show _ = _; unfold ctxR; rw [hk]; rfl
    rw [Bool.true_and] at hok
    obtain ⟨s0, s1, s2, s3, s4, s5⟩ := isCo_sm (co1 hok).1
    have hs : ∀ z ∈ [c0, c1, c2, c3, c4, c5], sm z := by intro z hz; simp only [List.mem_cons, List.not_mem_nil, or_false] at hz; rcases hz with rfl | rfl | rfl | rfl | rfl | rfl <;> assumption
    have HSS := Lib.hid hs
    have HK := Lib.hid hk; clear hk hok hp hs s0 s1 s2 s3 s4 s5
    go_enter Tryd.func11, Tryd.ntmps11
    go_wp2_with (first | (go_at_call 21; refine (conicsCode_any p _ _ _ [⟨c0, c1, c2, c3, c4, c5⟩] _ (rdC6_1 (by go_cell) (by go_cell) (by go_cell) (by go_cell) (by go_cell) (by go_cell)) (by go_size) (by simp)).mono ?_; rintro e w1 ⟨rfl, hb1⟩; obtain ⟨hc1, hf1⟩ := bcell hb1; have hz1 := hb1.size; (try simp only [World.size_alloc, World.size_setCell, World.size_drew] at hz1); (try (have hy1w0 : w.heap.size < w1.heap.size := by omega)); (try (have hy1w1 : w.heap.size + 1 < w1.heap.size := by omega)); (try (have hy1w2 : w.heap.size + 1 + 1 < w1.heap.size := by omega)); (try (have hy1w3 : w.heap.size + 1 + 1 + 1 < w1.heap.size := by omega)); (try (have hy1w4 : w.heap.size + 1 + 1 + 1 + 1 < w1.heap.size := by omega)); rw [HK.out]) | (go_at_call 22; refine (colons_any _ 0 _ [c0, c1, c2, c3, c4, c5] _ (rd6 (by go_cell) (by go_cell) (by go_cell) (by go_cell) (by go_cell) (by go_cell)) (by go_size) HSS.out (by simp) (by simp)).mono ?_; rintro e w3 ⟨rfl, hb3⟩; have hz3 := hb3.size; (try simp only [World.size_alloc] at hz3)))
    go_returns
    exact ⟨by rw [hE.out]; try rfl, by (repeat' (first | (with_reducible exact Below.refl _ _) | (with_reducible assumption) | (with_reducible refine Below.alloc ?_ ?_ _) | (with_reducible refine Below.drew ?_) | (with_reducible refine below_drewN ?_ _) | (with_reducible refine Below.setCell ?_ ?_ _) | (refine Below.step ?_ (by with_reducible assumption) ?_) | go_size))⟩
end Go.Proofs.YthafbmenkhekoaaDoor
