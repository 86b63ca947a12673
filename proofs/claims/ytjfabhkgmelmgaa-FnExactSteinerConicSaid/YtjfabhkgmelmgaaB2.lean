/- An argument that is a slice of numbers can be read; no condition. -/
import Derived.Test.YtjfabhkgmelmgaaI1
import Derived.ChangeSlices
namespace Go.Proofs.Ytjfabhkgmelmgaa
open Go.ChangeShapes Go.WideShapes Go.ChangeAt Go.RowKit
section
variable {H : Type} {enc : TypeId × Value → H} {P : Program} {w : World} {base : Nat} {spare : Nat → Bool} {held : Bool}
theorem open_islice {t e : TypeId} {v : Value} {d : DataW H} {ps : List MemPlace} (ht : P.underlying t = some (.slice e)) (he : P.underlying e = some (.int .i64)) (hc : P.cellsOf e = 1)
    (hv : ∃ a len cap, v = .slice a len cap) (hd : DataW.Trod enc P w base spare held t v d ps) : ∃ zs, SlI w v zs := by
  obtain ⟨a, len, cap, rfl⟩ := hv
  obtain ⟨fuel, hf⟩ := hd
  rcases open_ints ht he hc hf with ⟨h, _⟩ | ⟨a', len', cap', zs, hcs, hb, hl, hm, hzl, hx, hcell, hwf⟩
  · have h : [Value.slice a len cap] = [.slice none 0 0] := h
    injection h with h _
    rw [h]
    exact ⟨[], none, 0, rfl, Nat.le_refl _, .inl rfl⟩
  · have hcs : [Value.slice a len cap] = [.slice (some a') len' cap'] := hcs
    injection hcs with h _
    rw [h]
    have hzn : len' ≤ zs.length := by rw [hzl]; split <;> omega
    have htl : (zs.take len').length = len' := by simp; omega
    refine ⟨zs.take len', some a', cap', by rw [htl], by rw [htl]; exact hl, ?_⟩
    by_cases h0 : len' = 0
    · left; subst h0; simp
    · right
      have hc0 := hcell 0 (by omega)
      have hsp : a'.spot = none := by
        unfold Addr.add at hc0
        rw [if_pos rfl] at hc0
        unfold World.cell? at hc0
        cases hs : a'.spot with
        | none => rfl
        | some s =>
          rw [hs] at hc0
          simp at hc0
          split at hc0 <;> simp at hc0
      have hae : ∀ i, a'.add i = ⟨a'.block, a'.off + i, none⟩ := by
        intro i
        unfold Addr.add
        split
        · rename_i hi; subst hi; cases a'; simp only at hsp; subst hsp; rfl
        · rfl
      refine ⟨a'.block, a'.off, by cases a'; simp only at hsp; subst hsp; rfl, ?_, ?_⟩
      · have := World.block_lt_of_cell? w _ hc0
        rwa [hae] at this
      · intro i x hi
        have hi' := (List.getElem?_eq_some_iff.1 hi).1
        rw [htl] at hi'
        have := hcell i (by omega)
        rw [hae] at this
        rw [this]
        rw [List.getElem?_take_of_lt hi'] at hi
        simp [List.getD, hi]
end
end Go.Proofs.Ytjfabhkgmelmgaa
