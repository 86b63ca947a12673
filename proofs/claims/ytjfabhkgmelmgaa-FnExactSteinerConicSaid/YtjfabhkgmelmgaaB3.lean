/- An argument that is a slice of slices of numbers can be read; no condition. -/
import Derived.Test.YtjfabhkgmelmgaaB2
import Derived.Deep.Slices
namespace Go.Proofs.Ytjfabhkgmelmgaa
open Go.ChangeShapes Go.WideShapes Go.ChangeAt Go.RowKit

/-- A slice of slices of numbers that can be read. -/
def SlSS (w : World) (v : Value) (rows : List (List Int)) : Prop :=
  ∃ a cap, v = .slice a rows.length cap ∧ rows.length ≤ cap ∧ (rows = [] ∨ ∃ b off, a = some ⟨b, off, none⟩ ∧ b < w.heap.size ∧ ∀ k row, rows[k]? = some row → ∃ u, w.cell? ⟨b, off + k, none⟩ = some u ∧ SlI w u row)
theorem SlSS.below {w w' : World} {v : Value} {rows : List (List Int)} (h : SlSS w v rows) (hb : Below w.heap.size w w') : SlSS w' v rows := by
  obtain ⟨a, cap, rfl, hc, h⟩ := h
  refine ⟨a, cap, rfl, hc, ?_⟩
  rcases h with h | ⟨b, off, rfl, hl, hr⟩
  · exact .inl h
  · refine .inr ⟨b, off, rfl, Nat.lt_of_lt_of_le hl hb.size, fun k row hk => ?_⟩
    obtain ⟨u, h1, h2⟩ := hr k row hk
    exact ⟨u, keepC hb h1, h2.below hb⟩
theorem SlSS.nil (w : World) : SlSS w (.slice none 0 0) [] := ⟨none, 0, rfl, Nat.le_refl _, .inl rfl⟩
section
variable {H : Type} {enc : TypeId × Value → H} {P : Program} {w : World} {base : Nat} {spare : Nat → Bool} {held : Bool}
theorem open_isl1 {e q : TypeId} {fuel : Nat} {u : Value} {x : DataW H × List MemPlace} (he : P.underlying e = some (.slice q)) (hq : P.underlying q = some (.int .i64)) (cq : P.cellsOf q = 1)
    (h : DataW.trod enc P w base spare held fuel e [u] = some x) : ∃ zs, SlI w u zs ∧ zs.length ≤ maxLen := by
  have hv : ∃ a len cap, u = .slice a len cap ∧ len ≤ maxLen := by
    rcases open_ints he hq cq h with ⟨h, _⟩ | ⟨a, len, cap, zs, hcs, hb, hl, hm, _⟩
    · injection h with h _; exact ⟨_, _, _, h, Nat.zero_le _⟩
    · injection hcs with h _; exact ⟨_, _, _, h, by omega⟩
  obtain ⟨a, len, cap, rfl, hl⟩ := hv
  obtain ⟨zs, hz⟩ := open_islice (enc := enc) (P := P) (w := w) (base := base) (spare := spare) (held := held) (d := x.1) (ps := x.2) he hq cq ⟨a, len, cap, rfl⟩ ⟨fuel, h⟩
  refine ⟨zs, hz, ?_⟩
  obtain ⟨a', cap', hv, _⟩ := hz
  injection hv with _ hv _
  omega
theorem open_isslice {t e q : TypeId} {v : Value} {d : DataW H} {ps : List MemPlace} (ht : P.underlying t = some (.slice e)) (he : P.underlying e = some (.slice q)) (hq : P.underlying q = some (.int .i64)) (ce : P.cellsOf e = 1) (cq : P.cellsOf q = 1)
    (hv : ∃ a len cap, v = .slice a len cap) (hd : DataW.Trod enc P w base spare held t v d ps) : ∃ rows, SlSS w v rows ∧ rows.length ≤ maxLen ∧ ∀ r ∈ rows, r.length ≤ maxLen := by
  obtain ⟨a, len, cap, rfl⟩ := hv
  obtain ⟨fuel, hf⟩ := hd
  rcases Go.Deep.open_slice1 ht ce hf with ⟨h, _⟩ | ⟨a', len', cap', m, n, V, D, Pl, hcs, hb, hl, hm, hmm, hx, hcell⟩
  · have h : [Value.slice a len cap] = [.slice none 0 0] := h
    injection h with h _
    rw [h]
    exact ⟨[], SlSS.nil w, Nat.zero_le _, by simp⟩
  · have hcs : [Value.slice a len cap] = [.slice (some a') len' cap'] := hcs
    injection hcs with h _
    rw [h]
    have hlm : len' ≤ m := by rw [hmm]; split <;> omega
    obtain ⟨f, hf⟩ := Go.Deep.choose_lt (n := len') (p := fun i zs => SlI w (V i) zs ∧ zs.length ≤ maxLen) (fun i hi => open_isl1 he hq cq (hcell i (by omega)).2)
    refine ⟨(List.range len').map f, ⟨some a', cap', by simp, by simpa using hl, ?_⟩, by simp; omega, ?_⟩
    · by_cases h0 : len' = 0
      · left; subst h0; simp
      · right
        have hc0 := (hcell 0 (by omega)).1
        have hsp : a'.spot = none := by
          unfold Addr.add at hc0
          rw [if_pos rfl] at hc0
          unfold World.cell? at hc0
          cases hs : a'.spot with
          | none => rfl
          | some s =>
            rw [hs] at hc0
            simp at hc0
            split at hc0 <;> simp at hc0
        have hae : ∀ i, a'.add i = ⟨a'.block, a'.off + i, none⟩ := by
          intro i
          unfold Addr.add
          split
          · rename_i hi; subst hi; cases a'; simp only at hsp; subst hsp; rfl
          · rfl
        refine ⟨a'.block, a'.off, by cases a'; simp only at hsp; subst hsp; rfl, ?_, ?_⟩
        · have := World.block_lt_of_cell? w _ hc0
          rwa [hae] at this
        · intro k row hk
          have hkl : k < len' := by
            rcases Nat.lt_or_ge k len' with h' | h'
            · exact h'
            · rw [List.getElem?_eq_none (by simpa using h')] at hk; cases hk
          rw [List.getElem?_map, List.getElem?_range hkl] at hk
          simp only [Option.map_some, Option.some.injEq] at hk
          subst hk
          have := (hcell k (by omega)).1
          rw [hae] at this
          exact ⟨V k, this, (hf k hkl).1⟩
    · intro r hr
      rw [List.mem_map] at hr
      obtain ⟨i, hi, rfl⟩ := hr
      exact (hf i (by simpa using hi)).2
end
end Go.Proofs.Ytjfabhkgmelmgaa
