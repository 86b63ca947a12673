/- PointOf: what the two functions return, for a slice of at most a million numbers. -/
import Derived.Test.YthlmodofgoelbaaW7
import Derived.Test.YthlmodofgoelbaaI3
import Derived.Laws.Cover3
import Derived.Test.YthlmodofgoelbaaH2
import Derived.Deep.RegionWith
import Derived.Deep.RegionHeld3
namespace Go.Proofs.Ythlmodofgoelbaa
open Go.RowKit
set_option linter.unusedSimpArgs false
set_option linter.unusedVariables false
set_option maxRecDepth 100000

def poR (p : Int) (zs : List Int) : P3 × Int :=
  match zs with
  | [x, y, z] => if isP p && small [x, y, z] then (if fac p [x, y, z] = 0 then (⟨0, 0, 0⟩, 5) else (npt p x y z, 0)) else (⟨0, 0, 0⟩, 2)
  | _ => (⟨0, 0, 0⟩, 2)
theorem poR_len {p : Int} {zs : List Int} (h : zs.length ≠ 3) : poR p zs = (⟨0, 0, 0⟩, 2) := by
  unfold poR
  split
  · simp at h
  · rfl
theorem poR_pr {p : Int} {zs : List Int} (h : isP p = false) : poR p zs = (⟨0, 0, 0⟩, 2) := by
  unfold poR
  split
  · rw [h]; rfl
  · rfl
theorem poR_sm {p x y z : Int} (h : small [x, y, z] = false) : poR p [x, y, z] = (⟨0, 0, 0⟩, 2) := by
  show (if isP p && small [x, y, z] then _ else _) = _
  rw [h, Bool.and_false]; rfl
theorem poR_5 {p x y z : Int} (hp : isP p = true) (h : small [x, y, z] = true) (hf : fac p [x, y, z] = 0) : poR p [x, y, z] = (⟨0, 0, 0⟩, 5) := by
  show (if isP p && small [x, y, z] then _ else _) = _
  rw [h, hp, if_pos hf]; rfl
theorem poR_0 {p x y z : Int} (hp : isP p = true) (h : small [x, y, z] = true) (hf : ¬ fac p [x, y, z] = 0) : poR p [x, y, z] = (npt p x y z, 0) := by
  show (if isP p && small [x, y, z] then _ else _) = _
  rw [h, hp, if_neg hf]; rfl
theorem SlI.three {w : World} {v : Value} {x y z : Int} (h : SlI w v [x, y, z]) : ∃ b off cap, v = .slice (some ⟨b, off, none⟩) 3 cap ∧ b < w.heap.size ∧ w.cell? ⟨b, off, none⟩ = some (.int .i64 x) ∧ w.cell? ⟨b, off + 1, none⟩ = some (.int .i64 y) ∧ w.cell? ⟨b, off + 2, none⟩ = some (.int .i64 z) ∧ 3 ≤ cap := by
  obtain ⟨a, cap, rfl, hc, h⟩ := h
  rcases h with h | ⟨b, off, rfl, hl, hr⟩
  · cases h
  · exact ⟨b, off, cap, rfl, hl, hr 0 x rfl, hr 1 y rfl, hr 2 z rfl, hc⟩
theorem SlI.shape {w : World} {v : Value} {zs : List Int} (h : SlI w v zs) : ∃ a cap, v = .slice a zs.length cap := by
  obtain ⟨a, cap, h, _⟩ := h
  exact ⟨a, cap, h⟩
theorem sizeN (w : World) (o : Obj) : w.heap.size + 1 ≤ (w.alloc o).heap.size := by simp
theorem Box.alloc2 {E : Nat} {W : World} {o o' : Obj} {b : Nat} {vs : List Int} (h : Box E (W.alloc o) b vs) (hs : b < W.heap.size) : Box E (W.alloc o') b vs := by
  unfold Box at *
  rw [Below.heap_alloc _ _ _ hs] at h ⊢
  exact h
theorem below_alloc2 {B : Nat} {a W : World} {o o' : Obj} (h : Below B a (W.alloc o)) (hs : B ≤ W.heap.size) (ha : a.heap.size ≤ W.heap.size) : Below B a (W.alloc o') :=
  ⟨h.os, h.tape, h.output, by simp; omega, fun k hk => by rw [← h.block k hk, Below.heap_alloc _ _ _ (by omega), Below.heap_alloc _ _ _ (by omega)]⟩
theorem arr_three (w : World) (b off cap : Nat) : (Instr.arrayAt 43 (.slice (some ⟨b, off, none⟩) 3 cap)).run Try.prog w = .ok (.pointer (some ⟨b, off, none⟩)) w :=
  run_arrayAt w 43 2 3 (some ⟨b, off, none⟩) 3 cap Try.underlying43 (Nat.le_refl _)
set_option maxHeartbeats 2000000 in
theorem PointOf_any (p : Int) (v : Value) (zs : List Int) (w : World) (hv : SlI w v zs) (hm : zs.length ≤ 1000000) :
    Calls Try.prog 40 #[.int .i64 p, v] w fun e w' => e = .returned (.tuple #[.agg #[.int .i64 ((poR p zs).1).x, .int .i64 ((poR p zs).1).y, .int .i64 ((poR p zs).1).z], .int .i64 (poR p zs).2]) ∧ Below w.heap.size w w' := by
  have hsm := fun w' (h : SlI w' v zs) => areSmall_any v zs 3 w' h hm (by omega)
  have HV := Lib.hid hv
  have HSM : Hid (∀ w' : World, Below w.heap.size w w' → Calls Try.prog 86 #[v, .int .i64 3] w' fun e w'' => e = .returned (.bool (small zs && decide (zs.length = 3))) ∧ w' = w'') := fun w' hb => hsm w' (HV.out.below hb)
  clear hsm
  cases hp : isP p
  · have hE : Hid (poR p zs = (⟨0, 0, 0⟩, 2)) := poR_pr hp
    have HP := Lib.hid hp; clear hp
    obtain ⟨a, cap, rfl⟩ := hv.shape
    clear hv
    go_enter Try.func40, Try.ntmps40
    go_wp2_with (go_at_call 85; refine (isPrime_any _ _).mono ?_; rintro e w' ⟨rfl, rfl⟩; rw [HP.out])
    (try simp only [Exit.inBlock, Exit.then]); refine bodyPost_ret (by simp [results, Try.results40, go_sem, *]; try rfl) rfl ?_
    exact ⟨by rw [hE.out]; try rfl, by (repeat' (first | (with_reducible exact Below.refl _ _) | (with_reducible assumption) | (with_reducible refine Below.alloc ?_ ?_ _) | (with_reducible refine Below.drew ?_) | (with_reducible refine below_drewN ?_ _) | (with_reducible refine Below.setCell ?_ ?_ _) | (refine Below.step ?_ (by with_reducible assumption) ?_) | go_size))⟩
  · have HP := Lib.hid hp
    cases hs : (small zs && decide (zs.length = 3))
    · have hE : Hid (poR p zs = (⟨0, 0, 0⟩, 2)) := by
        by_cases h3 : zs.length = 3
        · obtain ⟨x, y, z, rfl⟩ := len3 h3
          have : small [x, y, z] = false := by simpa using hs
          exact poR_sm this
        · exact poR_len h3
      have HS := Lib.hid hs
      clear hp hs
      obtain ⟨a, cap, rfl⟩ := hv.shape
      clear hv
      go_enter Try.func40, Try.ntmps40
      go_wp2_with (first | (go_at_call 85; refine (isPrime_any _ _).mono ?_; rintro e w' ⟨rfl, rfl⟩; rw [HP.out]) | (go_at_call 86; refine (HSM.out _ (by (repeat' (first | (with_reducible exact Below.refl _ _) | (with_reducible assumption) | (with_reducible refine Below.alloc ?_ ?_ _) | (with_reducible refine Below.drew ?_) | (with_reducible refine below_drewN ?_ _) | (with_reducible refine Below.setCell ?_ ?_ _) | (refine Below.step ?_ (by with_reducible assumption) ?_) | go_size)))).mono ?_; rintro e w' ⟨rfl, rfl⟩; rw [HS.out]))
      (try simp only [Exit.inBlock, Exit.then]); refine bodyPost_ret (by simp [results, Try.results40, go_sem, *]; try rfl) rfl ?_
      exact ⟨by rw [hE.out]; try rfl, by (repeat' (first | (with_reducible exact Below.refl _ _) | (with_reducible assumption) | (with_reducible refine Below.alloc ?_ ?_ _) | (with_reducible refine Below.drew ?_) | (with_reducible refine below_drewN ?_ _) | (with_reducible refine Below.setCell ?_ ?_ _) | (refine Below.step ?_ (by with_reducible assumption) ?_) | go_size))⟩
    · have h3 : zs.length = 3 := by simp at hs; exact hs.2
      obtain ⟨x, y, z, rfl⟩ := len3 h3
      have hss : small [x, y, z] = true := by simpa using hs
      have HS := Lib.hid hs
      obtain ⟨b, off, cap, rfl, hbl, q0, q1, q2, hcap⟩ := hv.three
      have harr := fun w' => arr_three w' b off cap
      by_cases hf : fac p [x, y, z] = 0
      · have hE : Hid (poR p [x, y, z] = (⟨0, 0, 0⟩, 5)) := poR_5 hp hss hf
        have hf' : (fac p [x, y, z] == 0) = true := by simpa using hf
        clear hp hs h3 hss hv hm hf
        go_enter Try.func40, Try.ntmps40
        go_wp2_with (first | (go_at_call 85; refine (isPrime_any _ _).mono ?_; rintro e w' ⟨rfl, rfl⟩; rw [HP.out]) | (go_at_call 86; refine (HSM.out _ (by (repeat' (first | (with_reducible exact Below.refl _ _) | (with_reducible assumption) | (with_reducible refine Below.alloc ?_ ?_ _) | (with_reducible refine Below.drew ?_) | (with_reducible refine below_drewN ?_ _) | (with_reducible refine Below.setCell ?_ ?_ _) | (refine Below.step ?_ (by with_reducible assumption) ?_) | go_size)))).mono ?_; rintro e w' ⟨rfl, rfl⟩; rw [HS.out]) | (go_at_call 87; refine (normal3 p _ _ x y z _ HP.out (by go_cell) (by go_cell) (by go_cell) (by go_cell) (by go_cell) (by go_cell)).mono ?_; rintro e w' ⟨rfl, rfl⟩; rw [hf']))
        (try simp only [Exit.inBlock, Exit.then]); refine bodyPost_ret (by simp [results, Try.results40, go_sem, *]; try rfl) rfl ?_
        exact ⟨by rw [hE.out]; try rfl, by (repeat' (first | (with_reducible exact Below.refl _ _) | (with_reducible assumption) | (with_reducible refine Below.alloc ?_ ?_ _) | (with_reducible refine Below.drew ?_) | (with_reducible refine below_drewN ?_ _) | (with_reducible refine Below.setCell ?_ ?_ _) | (refine Below.step ?_ (by with_reducible assumption) ?_) | go_size))⟩
      · have hE : Hid (poR p [x, y, z] = (npt p x y z, 0)) := poR_0 hp hss hf
        have hf' : (fac p [x, y, z] == 0) = false := by simpa using hf
        clear hp hs h3 hss hv hm hf
        go_enter Try.func40, Try.ntmps40
        go_wp2_with (first | (go_at_call 85; refine (isPrime_any _ _).mono ?_; rintro e w' ⟨rfl, rfl⟩; rw [HP.out]) | (go_at_call 86; refine (HSM.out _ (by (repeat' (first | (with_reducible exact Below.refl _ _) | (with_reducible assumption) | (with_reducible refine Below.alloc ?_ ?_ _) | (with_reducible refine Below.drew ?_) | (with_reducible refine below_drewN ?_ _) | (with_reducible refine Below.setCell ?_ ?_ _) | (refine Below.step ?_ (by with_reducible assumption) ?_) | go_size)))).mono ?_; rintro e w' ⟨rfl, rfl⟩; rw [HS.out]) | (go_at_call 87; refine (normal3 p _ _ x y z _ HP.out (by go_cell) (by go_cell) (by go_cell) (by go_cell) (by go_cell) (by go_cell)).mono ?_; rintro e w' ⟨rfl, rfl⟩; rw [hf']))
        (try simp only [Exit.inBlock, Exit.then]); refine bodyPost_ret (by simp [results, Try.results40, go_sem, *]; try rfl) rfl ?_
        exact ⟨by rw [hE.out]; try rfl, by (repeat' (first | (with_reducible exact Below.refl _ _) | (with_reducible assumption) | (with_reducible refine Below.alloc ?_ ?_ _) | (with_reducible refine Below.drew ?_) | (with_reducible refine below_drewN ?_ _) | (with_reducible refine Below.setCell ?_ ?_ _) | (refine Below.step ?_ (by with_reducible assumption) ?_) | go_size))⟩
set_option maxHeartbeats 4000000 in
theorem PointOf_spec (p : Int) (v : Value) (zs : List Int) (w : World) (hv : SlI w v zs) :
    Calls Try.prog 38 #[.int .i64 p, v] w fun e w' => e = .returned (.tuple #[.agg #[.int .i64 ((poR p zs).1).x, .int .i64 ((poR p zs).1).y, .int .i64 ((poR p zs).1).z], .int .i64 (poR p zs).2]) ∧ Below w.heap.size w w' := by
  cases hp : isP p
  · have hE : Hid (poR p zs = (⟨0, 0, 0⟩, 2)) := poR_pr hp
    have HP := Lib.hid hp; clear hp
    obtain ⟨a, cap, rfl⟩ := hv.shape
    clear hv
    go_enter Try.func38, Try.ntmps38
    go_wp2_with (go_at_call 81; refine (l01Prime_any _ _).mono ?_; rintro e w' ⟨rfl, rfl⟩; rw [HP.out])
    (try simp only [Exit.inBlock, Exit.then]); refine bodyPost_ret (by simp [results, Try.results38, go_sem, *]; try rfl) rfl ?_
    exact ⟨by rw [hE.out]; try rfl, by (repeat' (first | (with_reducible exact Below.refl _ _) | (with_reducible assumption) | (with_reducible refine Below.alloc ?_ ?_ _) | (with_reducible refine Below.drew ?_) | (with_reducible refine below_drewN ?_ _) | (with_reducible refine Below.setCell ?_ ?_ _) | (refine Below.step ?_ (by with_reducible assumption) ?_) | go_size))⟩
  · have HP := Lib.hid hp
    by_cases h3 : zs.length = 3
    · obtain ⟨x, y, z, rfl⟩ := len3 h3
      obtain ⟨b, off, cap, rfl, hbl, q0, q1, q2, hcap⟩ := hv.three
      clear hv h3 hp
      go_enter Try.func38, Try.ntmps38
      go_wp2_with (go_at_call 81; refine (l01Prime_any _ _).mono ?_; rintro e w' ⟨rfl, rfl⟩; rw [HP.out])
      refine wp_loop_rounds 4 ?_
      rw [rounds_succ]
      cases h0 : inB x (-1000) 1000
      · have hE : Hid (poR p [x, y, z] = (⟨0, 0, 0⟩, 2)) := poR_sm (by unfold small; simp only [List.all_cons, h0]; simp)
        go_wp2_with (go_at_call 82; refine (l01In_any _ _ _ _).mono ?_; rintro e w' ⟨rfl, rfl⟩; rw [h0])
        (try simp only [Exit.inBlock, Exit.then]); refine bodyPost_ret (by simp [results, Try.results38, go_sem, *]; try rfl) rfl ?_
        exact ⟨by rw [hE.out]; try rfl, by (repeat' (first | (with_reducible exact Below.refl _ _) | (with_reducible assumption) | (with_reducible refine Below.alloc ?_ ?_ _) | (with_reducible refine Below.drew ?_) | (with_reducible refine below_drewN ?_ _) | (with_reducible refine Below.setCell ?_ ?_ _) | (refine Below.step ?_ (by with_reducible assumption) ?_) | go_size))⟩
      go_wp2_with (go_at_call 82; refine (l01In_any _ _ _ _).mono ?_; rintro e w' ⟨rfl, rfl⟩; rw [h0])
      rw [rounds_succ]
      cases h1 : inB y (-1000) 1000
      · have hE : Hid (poR p [x, y, z] = (⟨0, 0, 0⟩, 2)) := poR_sm (by unfold small; simp only [List.all_cons, h1]; simp)
        go_wp2_with (go_at_call 82; refine (l01In_any _ _ _ _).mono ?_; rintro e w' ⟨rfl, rfl⟩; rw [h1])
        (try simp only [Exit.inBlock, Exit.then]); refine bodyPost_ret (by simp [results, Try.results38, go_sem, *]; try rfl) rfl ?_
        exact ⟨by rw [hE.out]; try rfl, by (repeat' (first | (with_reducible exact Below.refl _ _) | (with_reducible assumption) | (with_reducible refine Below.alloc ?_ ?_ _) | (with_reducible refine Below.drew ?_) | (with_reducible refine below_drewN ?_ _) | (with_reducible refine Below.setCell ?_ ?_ _) | (refine Below.step ?_ (by with_reducible assumption) ?_) | go_size))⟩
      go_wp2_with (go_at_call 82; refine (l01In_any _ _ _ _).mono ?_; rintro e w' ⟨rfl, rfl⟩; rw [h1])
      rw [rounds_succ]
      cases h2 : inB z (-1000) 1000
      · have hE : Hid (poR p [x, y, z] = (⟨0, 0, 0⟩, 2)) := poR_sm (by unfold small; simp only [List.all_cons, h2]; simp)
        go_wp2_with (go_at_call 82; refine (l01In_any _ _ _ _).mono ?_; rintro e w' ⟨rfl, rfl⟩; rw [h2])
        (try simp only [Exit.inBlock, Exit.then]); refine bodyPost_ret (by simp [results, Try.results38, go_sem, *]; try rfl) rfl ?_
        exact ⟨by rw [hE.out]; try rfl, by (repeat' (first | (with_reducible exact Below.refl _ _) | (with_reducible assumption) | (with_reducible refine Below.alloc ?_ ?_ _) | (with_reducible refine Below.drew ?_) | (with_reducible refine below_drewN ?_ _) | (with_reducible refine Below.setCell ?_ ?_ _) | (refine Below.step ?_ (by with_reducible assumption) ?_) | go_size))⟩
      go_wp2_with (go_at_call 82; refine (l01In_any _ _ _ _).mono ?_; rintro e w' ⟨rfl, rfl⟩; rw [h2])
      have hss : small [x, y, z] = true := by unfold small; simp only [List.all_cons, List.all_nil, h0, h1, h2]; rfl
      have HMD : Hid (∀ w' : World, Calls Try.prog 83 #[.int .i64 p, .int .i64 x, .int .i64 y, .int .i64 z] w' fun e w'' => e = .returned (.tuple #[.agg #[.int .i64 ((made p x y z).1).x, .int .i64 ((made p x y z).1).y, .int .i64 ((made p x y z).1).z], .bool (made p x y z).2]) ∧ Below w'.heap.size w' w'') := fun w' => l01Made_any p x y z w' HP.out
      rw [rounds_succ]
      go_wp2_with fail
      by_cases hf : fac p [x, y, z] = 0
      · have hE : Hid (poR p [x, y, z] = (⟨0, 0, 0⟩, 5)) := poR_5 HP.out hss hf
        have hmd : made p x y z = (⟨0, 0, 0⟩, false) := by unfold made; rw [if_pos hf]
        rw [hmd] at HMD
        clear hmd hf hss h0 h1 h2
        go_region_held3 (fun w' => w'.cell? ⟨b, off, none⟩ = some (.int .i64 x) ∧ w'.cell? ⟨b, off + 1, none⟩ = some (.int .i64 y) ∧ w'.cell? ⟨b, off + 2, none⟩ = some (.int .i64 z) ∧ Box 43 w' w.heap.size [0, 0, 0] ∧ w.heap.size + 1 ≤ w'.heap.size ∧ Below w.heap.size w w') ((go_split_ands; (repeat (any_goals (with_reducible apply And.intro))) <;> ((repeat (first | (with_reducible assumption) | (with_reducible exact Below.refl _ _) | (exact Box.new [0, 0, 0] rfl) | (with_reducible refine keepD ?_) | (with_reducible refine Box.drew ?_) | (with_reducible refine Below.drew ?_) | (with_reducible refine sizeD ?_) | (with_reducible exact keepC (by with_reducible assumption) (by with_reducible assumption)) | (with_reducible exact Box.below (by with_reducible assumption) (by with_reducible assumption)) | (with_reducible exact keepB (by with_reducible assumption) (by with_reducible assumption) (Nat.le_refl _)) | (with_reducible exact sizeC (by with_reducible assumption) (by with_reducible assumption)) | ((with_reducible apply keepA2); (with_reducible assumption); ((try simp only [World.size_alloc, World.size_drew, World.size_setCell]); omega)) | ((with_reducible apply Box.alloc2); (with_reducible assumption); ((try simp only [World.size_alloc, World.size_drew, World.size_setCell]); omega)) | ((with_reducible apply below_alloc2); (with_reducible assumption); ((try simp only [World.size_alloc, World.size_drew, World.size_setCell]); omega); ((try simp only [World.size_alloc, World.size_drew, World.size_setCell]); omega)) | (with_reducible exact sizeN _ _) | ((with_reducible apply sizeA2); (with_reducible assumption)) | (with_reducible refine keepA _ ?_) | (with_reducible refine Box.alloc ?_ _) | (with_reducible refine allocB ?_ (Nat.le_refl _) _) | (with_reducible refine sizeA ?_ _) | (with_reducible refine keepS2 ?_ (by (try simp only [World.size_alloc, World.size_drew, World.size_setCell]); omega)) | (with_reducible refine Box.far ?_ (by (try simp only [World.size_alloc, World.size_drew, World.size_setCell]); omega)) | (with_reducible refine setB2 ?_ (by (try simp only [World.size_alloc, World.size_drew, World.size_setCell]); omega)) | (with_reducible refine sizeS ?_ _ _))); done))) ((go_at_call 83; refine (HMD.out _).mono ?_; rintro e w1 ⟨rfl, hb1⟩; have hs1 : w.heap.size + 1 ≤ w1.heap.size := sizeC hb1 (by go_split_ands; with_reducible assumption); have hbl1 : b < w1.heap.size := (by omega); obtain ⟨hc1, hf1⟩ := bcell hb1; have hz1 := hb1.size; (try simp only [World.size_alloc, World.size_setCell, World.size_drew] at hz1); (try (have hy1w0 : w.heap.size < w1.heap.size := by omega)); (try (have hy1w1 : w.heap.size + 1 < w1.heap.size := by omega)); (try (have hy1w2 : w.heap.size + 1 + 1 < w1.heap.size := by omega)); (try (have hy1w3 : w.heap.size + 1 + 1 + 1 < w1.heap.size := by omega)); (try (have hy1w4 : w.heap.size + 1 + 1 + 1 + 1 < w1.heap.size := by omega))))
        all_goals (go_split_ands; rename Box _ _ w.heap.size [0, 0, 0] => BX; have x0 := BX.cell 0 rfl; have x1 := BX.cell 1 rfl; have x2 := BX.cell 2 rfl; have y0 := BX.frz 0; have y1 := BX.frz 1; have y2 := BX.frz 2; go_wp2_with fail; (try simp only [Exit.inBlock, Exit.then]); refine bodyPost_ret (by simp [results, Try.results38, go_sem, *]; try rfl) rfl ?_; exact ⟨by rw [hE.out]; try rfl, by (repeat' (first | (with_reducible exact Below.refl _ _) | (with_reducible assumption) | (with_reducible refine Below.alloc ?_ ?_ _) | (with_reducible refine Below.drew ?_) | (with_reducible refine below_drewN ?_ _) | (with_reducible refine Below.setCell ?_ ?_ _) | (refine Below.step ?_ (by with_reducible assumption) ?_) | go_size))⟩)
      · have hE : Hid (poR p [x, y, z] = (npt p x y z, 0)) := poR_0 HP.out hss hf
        have hmd : made p x y z = (npt p x y z, true) := by unfold made; rw [if_neg hf]
        rw [hmd] at HMD
        clear hmd hf hss h0 h1 h2
        go_region_held3 (fun w' => w'.cell? ⟨b, off, none⟩ = some (.int .i64 x) ∧ w'.cell? ⟨b, off + 1, none⟩ = some (.int .i64 y) ∧ w'.cell? ⟨b, off + 2, none⟩ = some (.int .i64 z) ∧ Box 43 w' w.heap.size [0, 0, 0] ∧ w.heap.size + 1 ≤ w'.heap.size ∧ Below w.heap.size w w') ((go_split_ands; (repeat (any_goals (with_reducible apply And.intro))) <;> ((repeat (first | (with_reducible assumption) | (with_reducible exact Below.refl _ _) | (exact Box.new [0, 0, 0] rfl) | (with_reducible refine keepD ?_) | (with_reducible refine Box.drew ?_) | (with_reducible refine Below.drew ?_) | (with_reducible refine sizeD ?_) | (with_reducible exact keepC (by with_reducible assumption) (by with_reducible assumption)) | (with_reducible exact Box.below (by with_reducible assumption) (by with_reducible assumption)) | (with_reducible exact keepB (by with_reducible assumption) (by with_reducible assumption) (Nat.le_refl _)) | (with_reducible exact sizeC (by with_reducible assumption) (by with_reducible assumption)) | ((with_reducible apply keepA2); (with_reducible assumption); ((try simp only [World.size_alloc, World.size_drew, World.size_setCell]); omega)) | ((with_reducible apply Box.alloc2); (with_reducible assumption); ((try simp only [World.size_alloc, World.size_drew, World.size_setCell]); omega)) | ((with_reducible apply below_alloc2); (with_reducible assumption); ((try simp only [World.size_alloc, World.size_drew, World.size_setCell]); omega); ((try simp only [World.size_alloc, World.size_drew, World.size_setCell]); omega)) | (with_reducible exact sizeN _ _) | ((with_reducible apply sizeA2); (with_reducible assumption)) | (with_reducible refine keepA _ ?_) | (with_reducible refine Box.alloc ?_ _) | (with_reducible refine allocB ?_ (Nat.le_refl _) _) | (with_reducible refine sizeA ?_ _) | (with_reducible refine keepS2 ?_ (by (try simp only [World.size_alloc, World.size_drew, World.size_setCell]); omega)) | (with_reducible refine Box.far ?_ (by (try simp only [World.size_alloc, World.size_drew, World.size_setCell]); omega)) | (with_reducible refine setB2 ?_ (by (try simp only [World.size_alloc, World.size_drew, World.size_setCell]); omega)) | (with_reducible refine sizeS ?_ _ _))); done))) ((go_at_call 83; refine (HMD.out _).mono ?_; rintro e w1 ⟨rfl, hb1⟩; have hs1 : w.heap.size + 1 ≤ w1.heap.size := sizeC hb1 (by go_split_ands; with_reducible assumption); have hbl1 : b < w1.heap.size := (by omega); obtain ⟨hc1, hf1⟩ := bcell hb1; have hz1 := hb1.size; (try simp only [World.size_alloc, World.size_setCell, World.size_drew] at hz1); (try (have hy1w0 : w.heap.size < w1.heap.size := by omega)); (try (have hy1w1 : w.heap.size + 1 < w1.heap.size := by omega)); (try (have hy1w2 : w.heap.size + 1 + 1 < w1.heap.size := by omega)); (try (have hy1w3 : w.heap.size + 1 + 1 + 1 < w1.heap.size := by omega)); (try (have hy1w4 : w.heap.size + 1 + 1 + 1 + 1 < w1.heap.size := by omega))))
        all_goals (go_split_ands; rename Box _ _ w.heap.size [0, 0, 0] => BX; have x0 := BX.cell 0 rfl; have x1 := BX.cell 1 rfl; have x2 := BX.cell 2 rfl; have y0 := BX.frz 0; have y1 := BX.frz 1; have y2 := BX.frz 2; go_wp2_with fail; (try simp only [Exit.inBlock, Exit.then]); refine bodyPost_ret (by simp [results, Try.results38, go_sem, *]; try rfl) rfl ?_; exact ⟨by rw [hE.out]; try rfl, by (repeat' (first | (with_reducible exact Below.refl _ _) | (with_reducible assumption) | (with_reducible refine Below.alloc ?_ ?_ _) | (with_reducible refine Below.drew ?_) | (with_reducible refine below_drewN ?_ _) | (with_reducible refine Below.setCell ?_ ?_ _) | (refine Below.step ?_ (by with_reducible assumption) ?_) | go_size))⟩)
    · have hE : Hid (poR p zs = (⟨0, 0, 0⟩, 2)) := poR_len h3
      have hn : ¬ (zs.length : Int) = 3 := by omega
      obtain ⟨a, cap, rfl⟩ := hv.shape
      clear hv hp h3
      generalize zs.length = n at *
      go_enter Try.func38, Try.ntmps38
      go_wp2_with (go_at_call 81; refine (l01Prime_any _ _).mono ?_; rintro e w' ⟨rfl, rfl⟩; rw [HP.out])
      (try simp only [Exit.inBlock, Exit.then]); refine bodyPost_ret (by simp [results, Try.results38, go_sem, *]; try rfl) rfl ?_
      exact ⟨by rw [hE.out]; try rfl, by (repeat' (first | (with_reducible exact Below.refl _ _) | (with_reducible assumption) | (with_reducible refine Below.alloc ?_ ?_ _) | (with_reducible refine Below.drew ?_) | (with_reducible refine below_drewN ?_ _) | (with_reducible refine Below.setCell ?_ ?_ _) | (refine Below.step ?_ (by with_reducible assumption) ?_) | go_size))⟩
end Go.Proofs.Ythlmodofgoelbaa
