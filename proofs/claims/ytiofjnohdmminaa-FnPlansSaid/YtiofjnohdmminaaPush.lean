/- One number appended to a slice of int64 that the call itself made. Condition: a length of at most 2^40. -/
import Derived.Test.YtiofjnohdmminaaIntWalks
import Derived.OwnWalk
set_option linter.unusedVariables false
set_option maxRecDepth 100000
namespace Go.Proofs.Ytiofjnohdmminaa
open Go.RowKit Go.Joins

theorem wpList_push {ops : Array Oper} {rest : List Oper} {o : Oper} {a : Act} {Q : Exit → Act → World → Prop} (wr : World) (hgd : o.guard = none) (s x : Operand)
    (ho : o.op = .call { callee := .builtin .append, args := #[s, x], argTypes := #[36, 36] }) (B : Nat) (A : Option Addr) (n c : Nat) (zs : List Int) (z : Int)
    (hs : a.eval s = .slice A n c) (hx : a.eval x = .slice (some ⟨wr.heap.size, 0, none⟩) 1 1) (hown : Own wr B A n c zs) (hz : I64 z) (hn : n ≤ 1099511627776) (hB : B ≤ wr.heap.size)
    (h : ∀ g c' w', Own w' B (some ⟨g, 0, none⟩) (n + 1) c' (zs ++ [z]) → Below B wr w' → (wr.alloc (.cells #[.int .i64 z] 2)).grownBy w' (A.map (·.block)) → B ≤ g → wpList Try.prog ops Q rest (a.put o.dst (.slice (some ⟨g, 0, none⟩) (n + 1) c')) w') :
    wpList Try.prog ops Q (o :: rest) a (wr.alloc (.cells #[.int .i64 z] 2)) := by
  obtain ⟨i0, hi0, hz0, hz1, hz2⟩ := info_parts info_i64
  refine wpList_append_own _ hgd s x 36 ho B 2 i0 (.int .i64 0) 1 8 Try.underlying36 hi0 hz0 hz1 hz2 rfl (by decide) (.slice A n c) n (zs.map (Value.int .i64)) hs (hown.alloc _).1 ⟨wr.heap.size, 0, none⟩ 1 1 [.int .i64 z] hx rfl ?_ ?_ (by unfold maxLen; omega) (by omega) (by simp; omega) ?_
  · intro j u hj
    match j, hj with
    | 0, hj => simp at hj; subst hj; simp [Addr.add]
  · intro u hu; simp at hu; subst hu; rfl
  · intro v' w1 hown' hgrow _
    have hl := hown.len
    obtain ⟨g, cap, hv, hb, hlt⟩ := hown'.form (by omega)
    subst hv
    refine h g cap w1 ⟨by simpa using hown', ?_⟩ ?_ (by cases A <;> exact hgrow) hb
    · intro y hy
      rcases List.mem_append.1 hy with hy | hy
      · exact hown.2 y hy
      · simp at hy; subst hy; exact hz
    · refine (((Below.refl B wr).alloc hB _).grown hgrow (by simp; omega) ?_)
      intro k hk
      exact (hown.1.lt k hk).1
theorem wpList_pushH {ops : Array Oper} {rest : List Oper} {o : Oper} {a : Act} {Q : Exit → Act → World → Prop} (wr : World) (hgd : o.guard = none) (s x : Operand)
    (ho : o.op = .call { callee := .builtin .append, args := #[s, x], argTypes := #[36, 36] }) (B : Nat) (A : Option Addr) (n c : Nat) (zs : List Int) (z : Int) (H : Nat) (hH : wr.heap.size = H)
    (hs : a.eval s = .slice A n c) (hx : a.eval x = .slice (some ⟨H, 0, none⟩) 1 1) (hown : Own wr B A n c zs) (hz : I64 z) (hn : n ≤ 1099511627776) (hB : B ≤ wr.heap.size)
    (h : ∀ g c' w', Own w' B (some ⟨g, 0, none⟩) (n + 1) c' (zs ++ [z]) → Below B wr w' → (wr.alloc (.cells #[.int .i64 z] 2)).grownBy w' (A.map (·.block)) → B ≤ g → wpList Try.prog ops Q rest (a.put o.dst (.slice (some ⟨g, 0, none⟩) (n + 1) c')) w') :
    wpList Try.prog ops Q (o :: rest) a (wr.alloc (.cells #[.int .i64 z] 2)) := by
  subst hH
  exact wpList_push wr hgd s x ho B A n c zs z hs hx hown hz hn hB h
end Go.Proofs.Ytiofjnohdmminaa
