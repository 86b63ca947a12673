/- The points, and the lines, for which something is so: what the program's helpers return when the question is asked by a closure with two captured values. -/
import Derived.Test.YthlmodofgoelbaaW14
import Derived.Test.YthlmodofgoelbaaW4
namespace Go.Proofs.Ythlmodofgoelbaa
open Go.RowKit
set_option linter.unusedSimpArgs false
set_option linter.unusedVariables false
set_option maxRecDepth 100000

/-- What a closure with two captured values answers of each point. -/
def Asks2 (K : Nat) (c1 c2 : Value) (good : P3 → Bool) (ps : List P3) (w : World) : Prop :=
  ∀ a, a ∈ ps → ∀ w', Below w.heap.size w w' → Calls Try.prog K #[.agg #[.int .i64 (P3.x a), .int .i64 a.y, .int .i64 a.z], c1, c2] w' fun e w'' => e = .returned (.bool (good a)) ∧ Below w'.heap.size w' w''
set_option maxHeartbeats 600000 in
theorem pointsThat1_any (K : Nat) (c1 c2 : Value) (a : P3) (b : Bool) (u : Nat) (w : World) (hu : w.cell? ⟨u, 0, none⟩ = some (.func (.func K) #[] #[c1, c2]))
    (hrun : ∀ args w', (callFunc K args).run Try.prog w' = .ok (.enter K args) w')
    (hcl : ∀ w', Below w.heap.size w w' → Calls Try.prog K #[.agg #[.int .i64 a.x, .int .i64 a.y, .int .i64 a.z], c1, c2] w' fun e w'' => e = .returned (.bool b) ∧ Below w'.heap.size w' w'') :
    Calls Try.prog 120 #[.agg #[.int .i64 a.x, .int .i64 a.y, .int .i64 a.z], .pointer (some ⟨u, 0, none⟩)] w fun e w' => e = .returned (.bool (!b)) ∧ Below w.heap.size w w' := by
  have hul : u < w.heap.size := World.block_lt_of_cell? w _ hu
  have HC := Lib.hid hcl; clear hcl
  go_enter Try.func120, Try.ntmps120
  go_wp2_with (refine Calls.mono (HC.out _ (Below.alloc (Below.refl _ _) (Nat.le_refl _) _)) ?_; rintro e w1 ⟨rfl, hb1⟩; obtain ⟨hc1, hf1⟩ := bcell hb1; have hz1 := hb1.size; (try simp only [World.size_alloc, World.size_setCell, World.size_drew] at hz1); (try (have hy1w0 : w.heap.size < w1.heap.size := by omega)); (try (have hy1w1 : w.heap.size + 1 < w1.heap.size := by omega)); (try (have hy1w2 : w.heap.size + 1 + 1 < w1.heap.size := by omega)); (try (have hy1w3 : w.heap.size + 1 + 1 + 1 < w1.heap.size := by omega)); (try (have hy1w4 : w.heap.size + 1 + 1 + 1 + 1 < w1.heap.size := by omega)))
  go_returns
  exact ⟨rfl, by (repeat' (first | (with_reducible exact Below.refl _ _) | (with_reducible assumption) | (with_reducible refine Below.alloc ?_ ?_ _) | (with_reducible refine Below.drew ?_) | (with_reducible refine below_drewN ?_ _) | (with_reducible refine Below.setCell ?_ ?_ _) | (refine Below.step ?_ (by with_reducible assumption) ?_) | go_size))⟩
set_option maxHeartbeats 600000 in
theorem pointsThat_any (p : Int) (K : Nat) (c1 c2 : Value) (good : P3 → Bool) (w : World) (hp : isP p = true)
    (hrun : ∀ args w', (callFunc K args).run Try.prog w' = .ok (.enter K args) w') (hA : Asks2 K c1 c2 good (allP p) w) :
    Calls Try.prog 75 #[.int .i64 p, .func (.func K) #[] #[c1, c2]] w (PtsPost 43 ((allP p).filter good) w) := by
  have HA := Lib.hid hA; clear hA
  have hlen := Lib.hid (allP_len hp)
  have HP := Lib.hid hp; clear hp
  go_enter Try.func75, Try.ntmps75
  go_wp2_with (fail)
  refine (allPoints_any p _ HP.out).mono ?_
  rintro e w1 ⟨v, rfl, hown, hb1⟩
  obtain ⟨hc1, hf1⟩ := bcell hb1; have hz1 := hb1.size; (try simp only [World.size_alloc, World.size_setCell, World.size_drew] at hz1); (try (have hy1w0 : w.heap.size < w1.heap.size := by omega)); (try (have hy1w1 : w.heap.size + 1 < w1.heap.size := by omega)); (try (have hy1w2 : w.heap.size + 1 + 1 < w1.heap.size := by omega)); (try (have hy1w3 : w.heap.size + 1 + 1 + 1 < w1.heap.size := by omega)); (try (have hy1w4 : w.heap.size + 1 + 1 + 1 + 1 < w1.heap.size := by omega))
  obtain ⟨g, cap, rfl, hbg, hg, hR, hfz, hcap⟩ := hown.shape (by intro h; have := congrArg List.length h; rw [rowsP_len] at this; exact allP_ne p (List.length_eq_zero_iff.1 this))
  simp only [World.size_alloc] at hbg
  rw [rowsP_len] at hown
  have hbox : w1.cell? ⟨w.heap.size, 0, none⟩ = some (.func (.func K) #[] #[c1, c2]) := keepC hb1 (by go_cell)
  have hB1 : Below w.heap.size w w1 := by (repeat' (first | (with_reducible exact Below.refl _ _) | (with_reducible assumption) | (with_reducible refine Below.alloc ?_ ?_ _) | (with_reducible refine Below.drew ?_) | (with_reducible refine below_drewN ?_ _) | (with_reducible refine Below.setCell ?_ ?_ _) | (refine Below.step ?_ (by with_reducible assumption) ?_) | go_size))
  clear hR hfz hcap
  simp only [rowsP_len]
  go_wp2_with (go_at_call 118; refine (DeleteFunc_pt _ _ (notB good) _ g cap (allP p) w1 hown (allP_ne p) (by have := hlen.out; omega) (fun _ _ => by kernel_rfl) ?_).mono ?_)
  · intro a ha w' hgr
    have hB : Below w.heap.size w w' := hB1.grown hgr hB1.size (fun k hk => by injection hk with hk; omega)
    exact pointsThat1_any K c1 c2 a (good a) w.heap.size w' (by rw [hgr.cell hbox (by intro h; injection h with h; simp only at h; omega)]) hrun (fun w'' h'' => HA.out a ha w'' (hB.trans (h''.mono hB.size)))
  · rintro e w2 ⟨v', rfl, hown2, hgr⟩
    have e : (allP p).filter (notB (notB good)) = (allP p).filter good := by congr 1; funext a; simp [notB]
    rw [e] at hown2
    have hB2 : Below w.heap.size w w2 := hB1.grown hgr hB1.size (fun k hk => by injection hk with hk; omega)
    clear hown hbox hgr e
    go_wp2
    go_ret
    exact ⟨_, rfl, hown2.base_le (by simp), hB2⟩

set_option maxHeartbeats 1000000 in
theorem linesThat_any (p : Int) (K : Nat) (c1 c2 : Value) (good : P3 → Bool) (w : World) (hp : isP p = true)
    (hrun : ∀ args w', (callFunc K args).run Try.prog w' = .ok (.enter K args) w') (hA : Asks2 K c1 c2 good (allP p) w) :
    Calls Try.prog 79 #[.int .i64 p, .func (.func K) #[] #[c1, c2]] w (PtsPost 32 ((allP p).filter good) w) := by
  have HA := Lib.hid hA; clear hA
  have hlen := Lib.hid (allP_len hp)
  have HP := Lib.hid hp; clear hp
  go_enter Try.func79, Try.ntmps79
  go_wp2_with (fail)
  refine (allPoints_any p _ HP.out).mono ?_
  rintro e w1 ⟨v, rfl, hown, hb1⟩
  obtain ⟨hc1, hf1⟩ := bcell hb1; have hz1 := hb1.size; (try simp only [World.size_alloc, World.size_setCell, World.size_drew] at hz1); (try (have hy1w0 : w.heap.size < w1.heap.size := by omega)); (try (have hy1w1 : w.heap.size + 1 < w1.heap.size := by omega)); (try (have hy1w2 : w.heap.size + 1 + 1 < w1.heap.size := by omega)); (try (have hy1w3 : w.heap.size + 1 + 1 + 1 < w1.heap.size := by omega)); (try (have hy1w4 : w.heap.size + 1 + 1 + 1 + 1 < w1.heap.size := by omega))
  obtain ⟨g, cap, rfl, hbg, hg, hR, hfz, hcap⟩ := hown.shape (by intro h; have := congrArg List.length h; rw [rowsP_len] at this; exact allP_ne p (List.length_eq_zero_iff.1 this))
  simp only [World.size_alloc] at hbg
  have hB1 : Below w.heap.size w w1 := by (repeat' (first | (with_reducible exact Below.refl _ _) | (with_reducible assumption) | (with_reducible refine Below.alloc ?_ ?_ _) | (with_reducible refine Below.drew ?_) | (with_reducible refine below_drewN ?_ _) | (with_reducible refine Below.setCell ?_ ?_ _) | (refine Below.step ?_ (by with_reducible assumption) ?_) | go_size))
  have hout : OwnA 32 3 w1 w.heap.size (.slice (some ⟨w.heap.size, 0, none⟩) 0 0) (rowsP []) := (OwnA.made 32 w #[] 0 _ (Nat.le_refl _) (by unfold maxLen; omega) rfl).below hb1
  clear hfz hcap hown
  simp only [rowsP_len]
  generalize hps : allP p = ps at *
  clear hps HP
  generalize hn : ps.length = n at *
  have HN := Lib.hid hn; clear hn
  have hn1 : n ≤ 1000000 := by have := HN.out; have := hlen.out; omega
  go_wp2
  go_loopw [5, 12] (fun v i wr => ∃ k : Nat, k ≤ n ∧ i = .int .i64 k ∧ OwnA 32 3 wr w.heap.size v (rowsP ((ps.take k).filter good)) ∧ Below w.heap.size w wr ∧ RdA wr g 0 3 (rowsP ps) ∧ g < wr.heap.size ∧ v.ownBlock ≠ some g) (fun _ i _ => n - (intOf i).toNat)
  case atStart => exact ⟨0, Nat.zero_le _, rfl, hout, hB1, hR, hg, by simp only [Value.ownBlock]; intro e; injection e with e; omega⟩
  case round =>
    clear hout hR hg
    obtain ⟨k, hk, rfl, hown, hB, hR, hg, hap⟩ := hrel
    have hBz := hB.size
    have HAP := Lib.hid hap; clear hap
    by_cases hlt : k < n
    · have hkp : Hid (k < ps.length) := by show _ < _; rw [HN.out]; exact hlt
      obtain ⟨p0, p1, p2⟩ := hR.rdp.at_ hkp.out
      have hfs := Lib.hid (filter_snoc (f := good) (List.getElem?_eq_getElem hkp.out))
      have hcall := HA.out (ps[k]'(hkp.out)) (List.getElem_mem _)
      have hlk : Hid ((rowsP ((ps.take k).filter good)).length ≤ 10000000) := by
        show _ ≤ _
        have h1 := List.length_filter_le good (ps.take k)
        have h2 := hlen.out
        rw [rowsP_len]
        rw [List.length_take] at h1
        omega
      generalize ps[k]'(hkp.out) = a at *
      simp only [Nat.zero_add] at p0 p1 p2
      cases hd : good a
      · have hn' : Hid ((ps.take (k + 1)).filter good = (ps.take k).filter good) := by show _ = _; rw [hfs.out, hd]; simp
        rw [hd] at hcall
        have HCALL := Lib.hid hcall
        clear hd hcall hfs
        go_wp2_with (refine Calls.mono (HCALL.out _ (Below.alloc hB (by go_size) _)) ?_; rintro e w2 ⟨rfl, hb2⟩; obtain ⟨hc2, hf2⟩ := bcell hb2; have hz2 := hb2.size; (try simp only [World.size_alloc, World.size_setCell, World.size_drew] at hz2); (try (have hy2w0 : w.heap.size < w2.heap.size := by omega)); (try (have hy2w1 : w.heap.size + 1 < w2.heap.size := by omega)); (try (have hy2w2 : w.heap.size + 1 + 1 < w2.heap.size := by omega)); (try (have hy2w3 : w.heap.size + 1 + 1 + 1 < w2.heap.size := by omega)); (try (have hy2w4 : w.heap.size + 1 + 1 + 1 + 1 < w2.heap.size := by omega)); (try (have hy2w10 : w1.heap.size < w2.heap.size := by omega)); (try (have hy2w11 : w1.heap.size + 1 < w2.heap.size := by omega)); (try (have hy2w12 : w1.heap.size + 1 + 1 < w2.heap.size := by omega)); (try (have hy2w13 : w1.heap.size + 1 + 1 + 1 < w2.heap.size := by omega)); (try (have hy2w14 : w1.heap.size + 1 + 1 + 1 + 1 < w2.heap.size := by omega)))
        go_roundw
        case rel => exact ⟨k + 1, by omega, by go_num, by rw [hn'.out]; exact hown.below (by (repeat' (first | (with_reducible exact Below.refl _ _) | (with_reducible assumption) | (with_reducible refine Below.alloc ?_ ?_ _) | (with_reducible refine Below.drew ?_) | (with_reducible refine below_drewN ?_ _) | (with_reducible refine Below.setCell ?_ ?_ _) | (refine Below.step ?_ (by with_reducible assumption) ?_) | go_size))), by (repeat' (first | (with_reducible exact Below.refl _ _) | (with_reducible assumption) | (with_reducible refine Below.alloc ?_ ?_ _) | (with_reducible refine Below.drew ?_) | (with_reducible refine below_drewN ?_ _) | (with_reducible refine Below.setCell ?_ ?_ _) | (refine Below.step ?_ (by with_reducible assumption) ?_) | go_size)), hR.below (by (repeat' (first | (with_reducible exact Below.refl _ _) | (with_reducible assumption) | (with_reducible refine Below.alloc ?_ ?_ _) | (with_reducible refine Below.drew ?_) | (with_reducible refine below_drewN ?_ _) | (with_reducible refine Below.setCell ?_ ?_ _) | (refine Below.step ?_ (by with_reducible assumption) ?_) | go_size))) hg, by omega, HAP.out⟩
        case measure => simp [intOf]; omega
      · have hn' : Hid ((ps.take (k + 1)).filter good = (ps.take k).filter good ++ [⟨a.x, a.y, a.z⟩]) := by show _ = _; rw [hfs.out, hd]; rfl
        rw [hd] at hcall
        have HCALL := Lib.hid hcall
        clear hd hcall hfs
        have hown0 := fun (w2 : World) (h2 : Below wr.heap.size wr w2) => hown.below h2
        have HO := Lib.hid hown0; clear hown0
        go_wp2_with (first | (at_builtin; refine append3' Try.underlying48 info_Line w.heap.size _ _ (HO.out w2 (by (repeat' (first | (with_reducible exact Below.refl _ _) | (with_reducible assumption) | (with_reducible refine Below.alloc ?_ ?_ _) | (with_reducible refine Below.drew ?_) | (with_reducible refine below_drewN ?_ _) | (with_reducible refine Below.setCell ?_ ?_ _) | (refine Below.step ?_ (by with_reducible assumption) ?_) | go_size)))) rfl _ _ rfl rfl rfl hlk.out (by omega) ?_; intro v' w3 hown3 hB3 hz3 hL3) | (refine Calls.mono (HCALL.out _ (Below.alloc hB (by go_size) _)) ?_; rintro e w2 ⟨rfl, hb2⟩; obtain ⟨hc2, hf2⟩ := bcell hb2; have hz2 := hb2.size; (try simp only [World.size_alloc, World.size_setCell, World.size_drew] at hz2); (try (have hy2w0 : w.heap.size < w2.heap.size := by omega)); (try (have hy2w1 : w.heap.size + 1 < w2.heap.size := by omega)); (try (have hy2w2 : w.heap.size + 1 + 1 < w2.heap.size := by omega)); (try (have hy2w3 : w.heap.size + 1 + 1 + 1 < w2.heap.size := by omega)); (try (have hy2w4 : w.heap.size + 1 + 1 + 1 + 1 < w2.heap.size := by omega)); (try (have hy2w10 : w1.heap.size < w2.heap.size := by omega)); (try (have hy2w11 : w1.heap.size + 1 < w2.heap.size := by omega)); (try (have hy2w12 : w1.heap.size + 1 + 1 < w2.heap.size := by omega)); (try (have hy2w13 : w1.heap.size + 1 + 1 + 1 < w2.heap.size := by omega)); (try (have hy2w14 : w1.heap.size + 1 + 1 + 1 + 1 < w2.heap.size := by omega))))
        go_roundw
        case rel => exact ⟨k + 1, by omega, by go_num, by rw [rowsP_snoc, ← hn'.out] at hown3; exact hown3, hB3 _ _ (by (repeat' (first | (with_reducible exact Below.refl _ _) | (with_reducible assumption) | (with_reducible refine Below.alloc ?_ ?_ _) | (with_reducible refine Below.drew ?_) | (with_reducible refine below_drewN ?_ _) | (with_reducible refine Below.setCell ?_ ?_ _) | (refine Below.step ?_ (by with_reducible assumption) ?_) | go_size))) (Nat.le_refl _), (hR.below (by (repeat' (first | (with_reducible exact Below.refl _ _) | (with_reducible assumption) | (with_reducible refine Below.alloc ?_ ?_ _) | (with_reducible refine Below.drew ?_) | (with_reducible refine below_drewN ?_ _) | (with_reducible refine Below.setCell ?_ ?_ _) | (refine Below.step ?_ (by with_reducible assumption) ?_) | go_size))) hg).grown hL3.1 HAP.out, by omega, hL3.apart (by omega) HAP.out⟩
        case measure => simp [intOf]; omega
    · have hkn : Hid (ps.take k = ps) := List.take_of_length_le (by rw [HN.out]; omega)
      rw [hkn.out] at hown
      go_wp2
      go_ret
      exact ⟨_, rfl, hown, hB⟩
end Go.Proofs.Ythlmodofgoelbaa
