/- One number appended to a slice of the call's own, told where the row then lies. Condition: a length of at most 2^40. -/
import Derived.Test.YtoijogaogheciaaBox
import Derived.Maps.AppendAt
set_option linter.unusedVariables false
set_option maxRecDepth 100000
namespace Go.Proofs.Ytoijogaogheciaa
open Go.RowKit Go.Joins

theorem wpList_pushA {ops : Array Oper} {rest : List Oper} {o : Oper} {a : Act} {Q : Exit → Act → World → Prop} (wr : World) (hgd : o.guard = none) (s x : Operand)
    (ho : o.op = .call { callee := .builtin .append, args := #[s, x], argTypes := #[22, 22] }) (B : Nat) (A : Option Addr) (n c : Nat) (zs : List Int) (z : Int) (H : Nat) (hH : wr.heap.size = H)
    (hs : a.eval s = .slice A n c) (hx : a.eval x = .slice (some ⟨H, 0, none⟩) 1 1) (hown : Own wr B A n c zs) (hz : I64 z) (hn : n ≤ 1099511627776) (hB : B ≤ wr.heap.size)
    (h : ∀ g c' w', Own w' B (some ⟨g, 0, none⟩) (n + 1) c' (zs ++ [z]) → Below B wr w' → wr.grownBy w' (A.map (·.block)) → B ≤ g → (A.map (·.block) = some g ∨ wr.heap.size < g) → wpList Try.prog ops Q rest (a.put o.dst (.slice (some ⟨g, 0, none⟩) (n + 1) c')) w') :
    wpList Try.prog ops Q (o :: rest) a (wr.alloc (.cells #[.int .i64 z] 2)) := by
  subst hH
  obtain ⟨i0, hi0, hz0, hz1, hz2⟩ := info_parts info_i64
  refine wpList_append_own_at _ hgd s x 22 ho B 2 i0 (.int .i64 0) 1 8 Try.underlying22 hi0 hz0 hz1 hz2 rfl (by decide) (.slice A n c) n (zs.map (Value.int .i64)) hs (hown.alloc _).1 ⟨wr.heap.size, 0, none⟩ 1 1 [.int .i64 z] hx rfl ?_ ?_ (by unfold maxLen; omega) (by omega) (by simp; omega) ?_
  · intro j u hj
    match j, hj with
    | 0, hj => simp at hj; subst hj; simp [Addr.add]
  · intro u hu; simp at hu; subst hu; rfl
  · intro v' w1 hown' hgrow _ hat
    have hl := hown.len
    obtain ⟨g, cap, hv, hb, hlt⟩ := hown'.form (by omega)
    subst hv
    have hA : (Value.slice A n c).ownBlock = A.map (·.block) := by cases A <;> rfl
    have hg2 : wr.grownBy w1 (A.map (·.block)) := by
      have h0 : wr.grownBy (wr.alloc (.cells #[.int .i64 z] 2)) (A.map (·.block)) := ⟨rfl, rfl, rfl, by simp, fun k hk _ => Below.heap_alloc wr _ k hk⟩
      rw [hA] at hgrow
      exact h0.trans hgrow
    refine h g cap w1 ⟨by simpa using hown', ?_⟩ ?_ hg2 hb ?_
    · intro y hy
      rcases List.mem_append.1 hy with hy | hy
      · exact hown.2 y hy
      · simp at hy; subst hy; exact hz
    · exact (Below.refl B wr).grown hg2 hB (fun k hk => (hown.lt k hk).1)
    · rw [hA] at hat
      rcases hat with hat | hat
      · left; rw [← hat]; rfl
      · right
        have : (Value.slice (some ⟨g, 0, none⟩) (n + 1) cap).ownBlock = some g := rfl
        rw [this] at hat
        injection hat with hat
        simp at hat
        omega
theorem Ints.grown {w w' : World} {A : Option Addr} {n : Nat} {zs : List Int} {row : Option Nat} (h : Ints w A n zs) (hg : w.grownBy w' row) (hne : ∀ g, A.map (·.block) = some g → row ≠ some g) : Ints w' A n zs :=
  ⟨h.1, h.2.1, fun hn => by
    obtain ⟨b, o, e, hlt, hc⟩ := h.2.2 hn
    exact ⟨b, o, e, Nat.lt_of_lt_of_le hlt hg.size, fun k z hz => (World.cell?_of_block (a := ⟨b, o + k, none⟩) (hg.block b hlt (fun hh => hne b (by rw [e]; rfl) hh.symm))).trans (hc k z hz)⟩⟩
end Go.Proofs.Ytoijogaogheciaa
