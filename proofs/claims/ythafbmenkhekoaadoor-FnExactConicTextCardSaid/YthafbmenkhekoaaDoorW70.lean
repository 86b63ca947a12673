/- Numbers as texts: decimal digits, texts with colons, in the reference and in the program. -/
import Derived.Test.YthafbmenkhekoaaDoorW6
import Derived.Test.YthafbmenkhekoaaDoorP11
import Derived.Test.YthafbmenkhekoaaDoorShelf
import Derived.Laws.IdiomStrings
import Derived.StillTailTactics
import Derived.Deep.RegionWith
namespace Go.Proofs.YthafbmenkhekoaaDoor
open Go.RowKit
set_option linter.unusedSimpArgs false
set_option linter.unusedVariables false
set_option maxRecDepth 100000

def OwnT (w : World) (base : Nat) (v : Value) (ss : List ByteArray) : Prop := w.ownsRow base 9 1 v ss.length (ss.map Value.string)
theorem info_str : (Tryd.prog.info? 9).map (fun i => (i.zero, i.size, i.bytes)) = some (some (.string ⟨#[]⟩), 1, 16) := by kernel_rfl
theorem info_parts3 {i : Option TypeInfo} {z : Value} {s b : Nat} (h : i.map (fun i => (i.zero, i.size, i.bytes)) = some (some z, s, b)) : ∃ i0, i = some i0 ∧ i0.zero = some z ∧ i0.size = s ∧ i0.bytes = b := by
  cases i with
  | none => cases h
  | some i0 => simp only [Option.map_some, Option.some.injEq, Prod.mk.injEq] at h; exact ⟨i0, rfl, h.1, h.2.1, h.2.2⟩
theorem OwnT.made (w : World) (cur : Array Value) (cap base : Nat) (hb : base ≤ w.heap.size) (hm : cap ≤ maxLen) (hs : cur.size = cap) :
    OwnT (w.alloc (.cells cur 9)) base (.slice (some ⟨w.heap.size, 0, none⟩) 0 cap) [] := World.ownsRow_made w cur cap hb hm (by omega)
theorem OwnT.cells {w : World} {base : Nat} {v : Value} {ss : List ByteArray} (h : OwnT w base v ss) (hne : ss ≠ []) :
    ∃ g cap, v = .slice (some ⟨g, 0, none⟩) ss.length cap ∧ g < w.heap.size ∧ (∀ (j : Nat) x, ss[j]? = some x → w.cell? ⟨g, 0 + j, none⟩ = some (.string x)) ∧ ss.length ≤ cap := by
  have hs := h
  rcases h.2 with ⟨_, h0⟩ | ⟨g, cap, cur, rfl, hb, hh, hn, hcm, hcs, htake⟩
  · exact absurd (List.length_eq_zero_iff.1 h0) hne
  · have hlt : g < w.heap.size := (hs.lt g rfl).2
    refine ⟨g, cap, rfl, hlt, ?_, hn⟩
    intro i x hx
    have hi : i < ss.length := by
      rcases Nat.lt_or_ge i ss.length with h' | h'
      · exact h'
      · rw [List.getElem?_eq_none h'] at hx; cases hx
    have := hs.cellAt i (by omega)
    rw [Nat.zero_add, this, List.getElem?_map, hx]
    rfl
/-- append of one text, just made, to a slice of the call's own. -/
theorem append_str {ops : Array Oper} {rest : List Oper} {o : Oper} {a : Act} {Q : Exit → Act → World → Prop} {w : World} {n : ByteArray} {t0 : Nat} (base : Nat) (v : Value) (zs : List ByteArray) (hown : OwnT w base v zs) (hgd : o.guard = none) (s x : Operand)
    (ho : o.op = .call { callee := .builtin .append, args := #[s, x], argTypes := #[55, 55] })
    (hs : a.eval s = v) (hx : a.eval x = .slice (some ⟨w.heap.size, 0, none⟩) 1 1)
    (hlen : zs.length ≤ 10000000) (hbase : base ≤ w.heap.size)
    (h : ∀ v' w', OwnT w' base v' (zs ++ [n]) → (∀ b0 a0, Below b0 a0 w → b0 ≤ base → Below b0 a0 w') → w.heap.size < w'.heap.size → wpList Tryd.prog ops Q rest (a.put o.dst v') w') :
    wpList Tryd.prog ops Q (o :: rest) a (w.alloc (.cells #[.string n] t0)) := by
  obtain ⟨i0, hi, hz0, hz1, hz2⟩ := info_parts3 info_str
  refine wpList_append_own _ hgd s x 55 ho base 9 i0 (.string ⟨#[]⟩) 1 16 Tryd.underlying55 hi hz0 hz1 hz2 rfl (by decide) v zs.length (zs.map Value.string) hs (World.ownsRow.alloc hown _)
    ⟨w.heap.size, 0, none⟩ 1 1 [.string n] hx rfl ?_ ?_ ?_ ?_ (by simp; omega) ?_
  · intro j u hj
    match j, hj with
    | 0, hj => simp at hj; subst hj; simp [Addr.add]
  · intro u hu; simp at hu; subst hu; rfl
  · unfold maxLen; omega
  · omega
  · intro v' w' h1 h2 h3
    have hsz := h2.size
    refine h v' w' ?_ ?_ (by simp at hsz; omega)
    · unfold OwnT; simpa using h1
    · intro b0 a0 hb hle
      exact (hb.alloc (by omega) _).grown h2 (by simp; omega) (fun k hk => by have := (hown.lt k hk).1; omega)
theorem FormatInt_dec (n : Int) (w : World) (h0 : 0 ≤ n) (h1 : n ≤ 99) :
    Calls Tryd.prog 32 #[.int .i64 n, .int .i64 10] w fun e w' => e = .returned (.string (str (dec n))) ∧ w = w' := by
  obtain ⟨k, rfl⟩ : ∃ k : Nat, n = k := ⟨n.toNat, by omega⟩
  exact (Tryd.strconv_FormatInt_10_small k (by omega) w).mono fun _ _ h => ⟨by rw [h.1]; rfl, h.2.symm⟩
/-- One digit's byte as a text. -/
theorem digit_text (W : World) (b cap : Nat) (n : Int) (h1 : n ≤ 9) (h0 : 0 ≤ n) (hc : W.cell? ⟨b, 0, none⟩ = some (.int .u8 (48 + n))) :
    (convert 70 9 (.slice (some ⟨b, 0, none⟩) 1 cap)).run Tryd.prog W = .ok (.string (str (dec n))) W := by
  obtain ⟨k, rfl⟩ : ∃ k : Nat, n = k := ⟨n.toNat, by omega⟩
  have hd : dec (k : Int) = [UInt8.ofNat (48 + k)] := by rw [dec_lo h1]; rfl
  rw [hd]
  refine run_convert_bytes_back W 70 9 5 ⟨b, 0, none⟩ cap [UInt8.ofNat (48 + k)] Tryd.underlying70 Tryd.underlying5 Tryd.underlying9 ?_
  intro j hj
  obtain rfl : j = 0 := by simpa using hj
  have e : (UInt8.ofNat (48 + k)).toNat = 48 + k := by simp; omega
  simp only [List.getElem_cons_zero, e]
  rw [show (⟨b, 0, none⟩ : Addr).add 0 = ⟨b, 0, none⟩ from rfl, hc]
  push_cast; rfl
set_option maxHeartbeats 1000000 in
theorem l01Dec_lo (n : Int) (w : World) (h0 : 0 ≤ n) (h1 : n ≤ 9) :
    Calls Tryd.prog 28 #[.int .i64 n] w fun e w' => e = .returned (.string (str (dec n))) ∧ Below w.heap.size w w' := by
  have hcv := digit_text (w.alloc (.cells #[.int .u8 (48 + n)] 5)) w.heap.size 1 n h1 h0 (by go_cell)
  have hw : IntKind.i64.wrap (48 + n) = 48 + n := by go_arith
  have hw2 : IntKind.u8.wrap (48 + n) = 48 + n := by go_arith
  generalize str (dec n) = s at *
  go_enter Tryd.func28, Tryd.ntmps28
  go_wp2
  go_returns
  exact ⟨rfl, by (repeat' (first | (with_reducible exact Below.refl _ _) | (with_reducible assumption) | (with_reducible refine Below.alloc ?_ ?_ _) | (with_reducible refine Below.drew ?_) | (with_reducible refine below_drewN ?_ _) | (with_reducible refine Below.setCell ?_ ?_ _) | (refine Below.step ?_ (by with_reducible assumption) ?_) | go_size))⟩
theorem dec_two (q r : Nat) (hq : 0 < q) (hr : r ≤ 9) : str (dec q) ++ str (dec r) = str (dec ((10 * q + r : Nat) : Int)) := by
  rw [str_append, dec_hi (n := ((10 * q + r : Nat) : Int)) (by omega), dec_lo (n := (r : Int)) (by omega)]
  have e1 : ((10 * q + r : Nat) : Int) / 10 = q := by omega
  have e2 : (((10 * q + r : Nat) : Int)).toNat % 10 = r := by omega
  rw [e1, e2]; rfl
set_option maxHeartbeats 400000 in
theorem l01Dec_10 (w : World) :
    Calls Tryd.prog 28 #[.int .i64 10] w fun e w' => e = .returned (.string (str (dec 10))) ∧ Below w.heap.size w w' := by
  have hcat : str (dec 1) ++ str (dec 0) = str (dec 10) := dec_two 1 0 (by omega) (by omega)
  have hs1 : (str (dec 1)).size = 1 := by rw [str_size, dec_lo (by omega)]; rfl
  have hs2 : (str (dec 0)).size = 1 := by rw [str_size, dec_lo (by omega)]; rfl
  have HL : Hid (∀ w', _) := fun w' => l01Dec_lo 1 w' (by omega) (by omega)
  have hd := fun (W : World) (b cap : Nat) (hc : W.cell? ⟨b, 0, none⟩ = some (.int .u8 48)) => digit_text W b cap 0 (by omega) (by omega) hc
  have hx1 : IntKind.i64.wrap 48 = 48 := by decide
  have hx2 : IntKind.u8.wrap 48 = 48 := by decide
  have hx3 : IntKind.i64.wrap 1 = 1 := by decide
  have hcv1 := hd ((w.alloc (.cells #[.int .u8 48] 5)).drew) w.heap.size 1 (by go_cell)
  have hd2 := fun (W : World) => hd (W.alloc (.cells #[.int .u8 48] 5)) W.heap.size 1 (by go_cell)
  have hd3 := fun (W : World) (hW : Below (w.alloc (.cells #[.int .u8 48] 5)).heap.size (w.alloc (.cells #[.int .u8 48] 5)) W) => hd W w.heap.size 1 (by rw [hW.cell (p := ⟨w.heap.size, 0, none⟩) (by simp)]; go_cell)
  have hd4 := fun (W : World) (hW : Below (w.alloc (.cells #[.int .u8 48] 5)).drew.heap.size (w.alloc (.cells #[.int .u8 48] 5)).drew W) => hd W w.heap.size 1 (by rw [hW.cell (p := ⟨w.heap.size, 0, none⟩) (by simp)]; go_cell)
  have HD4 := Lib.hid hd4; clear hd4
  have HD2 := Lib.hid hd2; have HD3  := Lib.hid hd3
  generalize str (dec 10) = s at *
  generalize hg1 : str (dec 1) = s1 at *
  generalize str (dec 0) = s2 at *
  clear hd hd2 hd3
  go_enter Tryd.func28, Tryd.ntmps28
  go_wp2
  go_region_with (go_at_call 28; refine (HL.out _).mono ?_; rintro e w1 ⟨rfl, hb1⟩; obtain ⟨hc1, hf1⟩ := bcell hb1; have hz1 := hb1.size; (try simp only [World.size_alloc, World.size_setCell, World.size_drew] at hz1); (try (have hy1w0 : w.heap.size < w1.heap.size := by omega)); (try (have hy1w1 : w.heap.size + 1 < w1.heap.size := by omega)); (try (have hy1w2 : w.heap.size + 1 + 1 < w1.heap.size := by omega)); (try (have hy1w3 : w.heap.size + 1 + 1 + 1 < w1.heap.size := by omega)); (try (have hy1w4 : w.heap.size + 1 + 1 + 1 + 1 < w1.heap.size := by omega)); have hcv2 := HD2.out w1; (try have hcv3 := HD3.out w1 hb1); (try have hcv4 := HD4.out w1 hb1))
  all_goals (go_wp2_with fail; go_returns; exact ⟨rfl, by (repeat' (first | (with_reducible exact Below.refl _ _) | (with_reducible assumption) | (with_reducible refine Below.alloc ?_ ?_ _) | (with_reducible refine Below.drew ?_) | (with_reducible refine below_drewN ?_ _) | (with_reducible refine Below.setCell ?_ ?_ _) | (refine Below.step ?_ (by with_reducible assumption) ?_) | go_size))⟩)
set_option maxHeartbeats 400000 in
theorem l01Dec_11 (w : World) :
    Calls Tryd.prog 28 #[.int .i64 11] w fun e w' => e = .returned (.string (str (dec 11))) ∧ Below w.heap.size w w' := by
  have hcat : str (dec 1) ++ str (dec 1) = str (dec 11) := dec_two 1 1 (by omega) (by omega)
  have hs1 : (str (dec 1)).size = 1 := by rw [str_size, dec_lo (by omega)]; rfl
  have hs2 : (str (dec 1)).size = 1 := by rw [str_size, dec_lo (by omega)]; rfl
  have HL : Hid (∀ w', _) := fun w' => l01Dec_lo 1 w' (by omega) (by omega)
  have hd := fun (W : World) (b cap : Nat) (hc : W.cell? ⟨b, 0, none⟩ = some (.int .u8 49)) => digit_text W b cap 1 (by omega) (by omega) hc
  have hx1 : IntKind.i64.wrap 49 = 49 := by decide
  have hx2 : IntKind.u8.wrap 49 = 49 := by decide
  have hx3 : IntKind.i64.wrap 1 = 1 := by decide
  have hcv1 := hd ((w.alloc (.cells #[.int .u8 49] 5)).drew) w.heap.size 1 (by go_cell)
  have hd2 := fun (W : World) => hd (W.alloc (.cells #[.int .u8 49] 5)) W.heap.size 1 (by go_cell)
  have hd3 := fun (W : World) (hW : Below (w.alloc (.cells #[.int .u8 49] 5)).heap.size (w.alloc (.cells #[.int .u8 49] 5)) W) => hd W w.heap.size 1 (by rw [hW.cell (p := ⟨w.heap.size, 0, none⟩) (by simp)]; go_cell)
  have hd4 := fun (W : World) (hW : Below (w.alloc (.cells #[.int .u8 49] 5)).drew.heap.size (w.alloc (.cells #[.int .u8 49] 5)).drew W) => hd W w.heap.size 1 (by rw [hW.cell (p := ⟨w.heap.size, 0, none⟩) (by simp)]; go_cell)
  have HD4 := Lib.hid hd4; clear hd4
  have HD2 := Lib.hid hd2; have HD3  := Lib.hid hd3
  generalize str (dec 11) = s at *
  generalize hg1 : str (dec 1) = s1 at *
  clear hg1
  clear hd hd2 hd3
  go_enter Tryd.func28, Tryd.ntmps28
  go_wp2
  go_region_with (go_at_call 28; refine (HL.out _).mono ?_; rintro e w1 ⟨rfl, hb1⟩; obtain ⟨hc1, hf1⟩ := bcell hb1; have hz1 := hb1.size; (try simp only [World.size_alloc, World.size_setCell, World.size_drew] at hz1); (try (have hy1w0 : w.heap.size < w1.heap.size := by omega)); (try (have hy1w1 : w.heap.size + 1 < w1.heap.size := by omega)); (try (have hy1w2 : w.heap.size + 1 + 1 < w1.heap.size := by omega)); (try (have hy1w3 : w.heap.size + 1 + 1 + 1 < w1.heap.size := by omega)); (try (have hy1w4 : w.heap.size + 1 + 1 + 1 + 1 < w1.heap.size := by omega)); have hcv2 := HD2.out w1; (try have hcv3 := HD3.out w1 hb1); (try have hcv4 := HD4.out w1 hb1))
  all_goals (go_wp2_with fail; go_returns; exact ⟨rfl, by (repeat' (first | (with_reducible exact Below.refl _ _) | (with_reducible assumption) | (with_reducible refine Below.alloc ?_ ?_ _) | (with_reducible refine Below.drew ?_) | (with_reducible refine below_drewN ?_ _) | (with_reducible refine Below.setCell ?_ ?_ _) | (refine Below.step ?_ (by with_reducible assumption) ?_) | go_size))⟩)
set_option maxHeartbeats 400000 in
theorem l01Dec_12 (w : World) :
    Calls Tryd.prog 28 #[.int .i64 12] w fun e w' => e = .returned (.string (str (dec 12))) ∧ Below w.heap.size w w' := by
  have hcat : str (dec 1) ++ str (dec 2) = str (dec 12) := dec_two 1 2 (by omega) (by omega)
  have hs1 : (str (dec 1)).size = 1 := by rw [str_size, dec_lo (by omega)]; rfl
  have hs2 : (str (dec 2)).size = 1 := by rw [str_size, dec_lo (by omega)]; rfl
  have HL : Hid (∀ w', _) := fun w' => l01Dec_lo 1 w' (by omega) (by omega)
  have hd := fun (W : World) (b cap : Nat) (hc : W.cell? ⟨b, 0, none⟩ = some (.int .u8 50)) => digit_text W b cap 2 (by omega) (by omega) hc
  have hx1 : IntKind.i64.wrap 50 = 50 := by decide
  have hx2 : IntKind.u8.wrap 50 = 50 := by decide
  have hx3 : IntKind.i64.wrap 1 = 1 := by decide
  have hcv1 := hd ((w.alloc (.cells #[.int .u8 50] 5)).drew) w.heap.size 1 (by go_cell)
  have hd2 := fun (W : World) => hd (W.alloc (.cells #[.int .u8 50] 5)) W.heap.size 1 (by go_cell)
  have hd3 := fun (W : World) (hW : Below (w.alloc (.cells #[.int .u8 50] 5)).heap.size (w.alloc (.cells #[.int .u8 50] 5)) W) => hd W w.heap.size 1 (by rw [hW.cell (p := ⟨w.heap.size, 0, none⟩) (by simp)]; go_cell)
  have hd4 := fun (W : World) (hW : Below (w.alloc (.cells #[.int .u8 50] 5)).drew.heap.size (w.alloc (.cells #[.int .u8 50] 5)).drew W) => hd W w.heap.size 1 (by rw [hW.cell (p := ⟨w.heap.size, 0, none⟩) (by simp)]; go_cell)
  have HD4 := Lib.hid hd4; clear hd4
  have HD2 := Lib.hid hd2; have HD3  := Lib.hid hd3
  generalize str (dec 12) = s at *
  generalize hg1 : str (dec 1) = s1 at *
  generalize str (dec 2) = s2 at *
  clear hd hd2 hd3
  go_enter Tryd.func28, Tryd.ntmps28
  go_wp2
  go_region_with (go_at_call 28; refine (HL.out _).mono ?_; rintro e w1 ⟨rfl, hb1⟩; obtain ⟨hc1, hf1⟩ := bcell hb1; have hz1 := hb1.size; (try simp only [World.size_alloc, World.size_setCell, World.size_drew] at hz1); (try (have hy1w0 : w.heap.size < w1.heap.size := by omega)); (try (have hy1w1 : w.heap.size + 1 < w1.heap.size := by omega)); (try (have hy1w2 : w.heap.size + 1 + 1 < w1.heap.size := by omega)); (try (have hy1w3 : w.heap.size + 1 + 1 + 1 < w1.heap.size := by omega)); (try (have hy1w4 : w.heap.size + 1 + 1 + 1 + 1 < w1.heap.size := by omega)); have hcv2 := HD2.out w1; (try have hcv3 := HD3.out w1 hb1); (try have hcv4 := HD4.out w1 hb1))
  all_goals (go_wp2_with fail; go_returns; exact ⟨rfl, by (repeat' (first | (with_reducible exact Below.refl _ _) | (with_reducible assumption) | (with_reducible refine Below.alloc ?_ ?_ _) | (with_reducible refine Below.drew ?_) | (with_reducible refine below_drewN ?_ _) | (with_reducible refine Below.setCell ?_ ?_ _) | (refine Below.step ?_ (by with_reducible assumption) ?_) | go_size))⟩)
end Go.Proofs.YthafbmenkhekoaaDoor
