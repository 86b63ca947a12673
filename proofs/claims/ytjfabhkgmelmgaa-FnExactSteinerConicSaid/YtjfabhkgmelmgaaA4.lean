/- A slice of the call's own: made empty, read, told from other blocks; append as a step of a drawn region. -/
import Derived.Test.YtjfabhkgmelmgaaA3
import Derived.Test.YtjfabhkgmelmgaaH2
import Derived.Deep.AppendLies
namespace Go.Proofs.Ytjfabhkgmelmgaa
open Go.RowKit
set_option linter.unusedSimpArgs false
set_option linter.unusedVariables false
set_option maxRecDepth 100000

theorem OwnI.made0 {w : World} {b base : Nat} (hb : b = w.heap.size) (hl : base ≤ w.heap.size) : OwnI (w.alloc (.cells #[] 2)) base (.slice (some ⟨b, 0, none⟩) 0 0) [] := by
  subst hb; exact OwnI.made w #[] 0 base hl (by unfold maxLen; omega) rfl
theorem Box.ne {E : Nat} {w : World} {b base : Nat} {vs zs : List Int} {v : Value} (h : Box E w b vs) (hE : E ≠ 2) (ho : OwnI w base v zs) : some b ≠ v.ownBlock := by
  unfold Box at *
  intro e
  rcases ho.2 with ⟨rfl, _⟩ | ⟨g, cap, cur, rfl, _, hh, _⟩
  · simp [Value.ownBlock] at e
  · simp [Value.ownBlock] at e
    subst e
    rw [h] at hh
    injection hh with hh
    injection hh with _ hh
    exact hE hh
theorem Box.grown {E : Nat} {w w' : World} {b base : Nat} {vs zs : List Int} {v : Value} (h : Box E w b vs) (hE : E ≠ 2) (ho : OwnI w base v zs) (hg : w.grownBy w' v.ownBlock) : Box E w' b vs := by
  have hlt := h.lt
  have hne := h.ne hE ho
  unfold Box at *
  rw [hg.block b hlt hne]
  exact h
theorem OwnI.rd {w : World} {base g n cap : Nat} {zs : List Int} (h : OwnI w base (.slice (some ⟨g, 0, none⟩) n cap) zs) (hne : zs ≠ []) : Rd w g 0 zs ∧ g < w.heap.size ∧ base ≤ g ∧ n = zs.length := by
  obtain ⟨g', c', he, h1, h2, h3, _⟩ := h.shape hne
  injection he with he hn hc
  injection he with he
  injection he with he
  subst he
  exact ⟨h3, h2, h1, hn⟩
theorem appI_step {ops : Array Oper} {o : Oper} {a : Act} {K : Act → World → Prop} {Q : Exit → Act → World → Prop} {E0 : Prop} {w : World} (hgd : o.guard = none) (s x : Operand)
    (ho : o.op = .call { callee := .builtin .append, args := #[s, x], argTypes := #[80, 80] })
    (base : Nat) (v : Value) (zs news : List Int) (hs : a.eval s = v) (hown : OwnI w base v zs) {B n c E : Nat} (hx : a.eval x = .slice (some ⟨B, 0, none⟩) n c) (hB : Box E w B news) (hn : n = news.length) (hp : 0 < n)
    (hl : zs.length + n ≤ 10000) (hbase : base ≤ w.heap.size)
    (h : ∀ g cap w', OwnI w' base (.slice (some ⟨g, 0, none⟩) (zs.length + n) cap) (zs ++ news) → w.grownBy w' v.ownBlock → (∀ b0 a0, Below b0 a0 w → b0 ≤ base → Below b0 a0 w') → K (a.put o.dst (.slice (some ⟨g, 0, none⟩) (zs.length + n) cap)) w') :
    if Region.wanted o (yielded ops a.tmps) = true then Oper.wp Try.prog o a w K Q else E0 := by
  obtain ⟨i0, hi, hz0, hz1, hz2⟩ := info_parts info_int
  subst hn
  refine step_append_lies w hgd s x 80 ho base 2 i0 (.int .i64 0) 1 8 Try.underlying80 hi hz0 hz1 hz2 rfl (by decide) v zs.length (zs.map (Value.int .i64)) hs hown
    ⟨B, 0, none⟩ news.length c (news.map (Value.int .i64)) hx (by simp) ?_ ?_ hp (by unfold maxLen; omega) (by omega) hbase _ rfl ?_
  · intro j u hj
    exact World.news_of_block hB j u (by simpa using hj)
  · intro u hu
    rw [List.mem_map] at hu
    obtain ⟨y, _, rfl⟩ := hu
    rfl
  · intro g cap w' h1 h2 h3 h4
    refine h g cap w' ?_ h2 ?_
    · unfold OwnI; rw [List.length_append, List.map_append]; exact h1
    · intro b0 a0 hb hle
      exact hb.grown h2 (by omega) (fun k hk => by have := (hown.lt k hk).1; omega)
end Go.Proofs.Ytjfabhkgmelmgaa
