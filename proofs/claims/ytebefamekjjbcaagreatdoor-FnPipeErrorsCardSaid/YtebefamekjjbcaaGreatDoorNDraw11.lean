/- What l01Sum, l13Draw, DrawGreatestScale, DrawScaleSupplies do, by walks over their text. Condition: a source over at most 4096 bytes. -/
import Derived.Test.YtebefamekjjbcaaGreatDoorNDraw10
import Derived.Test.YtebefamekjjbcaaGreatDoorFlo
import Derived.Deep.DeepCutAuto
set_option linter.unusedVariables false
set_option maxRecDepth 100000
namespace Go.Proofs.YtebefamekjjbcaaGreatDoor
open Go.ChangeShapes Go.WideShapes Go.ChangeAt Go.RowKit Go.Joins Go.Deep
attribute [local go_sem ↓] Go.wp_at_zero Go.wp_at_succ

theorem take_sumD {zs : List Int} {k : Nat} {z : Int} (h : zs[k]? = some z) : (zs.take (k + 1)).sum = (zs.take k).sum + z := by
  rw [List.take_add_one, h, List.sum_append]
  simp
theorem take_sum_bdD {zs : List Int} (h : ∀ z ∈ zs, -2000000 ≤ z ∧ z ≤ 2000000) : ∀ k : Nat, -(k * 2000000 : Int) ≤ (zs.take k).sum ∧ (zs.take k).sum ≤ k * 2000000 := by
  intro k
  induction k with
  | zero => simp
  | succ k ih =>
    by_cases hk : k < zs.length
    · have h1 := List.getElem?_eq_getElem hk
      rw [take_sumD h1]
      have := h _ (List.getElem_mem hk)
      push_cast
      omega
    · rw [List.take_of_length_le (by omega)]
      rw [List.take_of_length_le (by omega)] at ih
      push_cast
      omega
section
variable {w W W' : World} {B : Nat} {A : Option Addr} {n c : Nat} {zs : List Int} {N : Nat} {A1 : Option Addr} {k c1 : Nat} {ns : List Nd} {B1 : Option Addr} {m d1 : Nat} {ps : List Pp} {A2 : Option Addr} {l e : Nat} {ys : List Int}
theorem D7.drew (h : D7 w W B A n c zs N A1 k c1 ns B1 m d1 ps A2 l e ys) : D7 w W.drew B A n c zs N A1 k c1 ns B1 m d1 ps A2 l e ys := h.below (Below.refl _ _).drew
/-- One field of a node is set. -/
theorem D7.setNode {g i j : Nat} {v : Value} (h : D7 w W B A n c zs N (some ⟨g, 0, none⟩) k c1 ns B1 m d1 ps A2 l e ys) (hi : i < k) (hj : j < 3) (hv : ∀ x, okN x → ∃ x', okN x' ∧ encN x' = (encN x).set j v) :
    ∃ ns', D7 w (W.setCell ⟨g, i * 3 + j, none⟩ v) B A n c zs N (some ⟨g, 0, none⟩) k c1 ns' B1 m d1 ps A2 l e ys := by
  have h5 := h.net.nodes
  have hN := h.hN
  have hb := (h5.1.1.lt g rfl).1
  have hgN := own_box_ne h5.1.1 h.box (by decide) g rfl
  obtain ⟨x, hx⟩ : ∃ x, ns[i]? = some x := ⟨_, List.getElem?_eq_getElem (show i < ns.length by rw [h5.len]; exact hi)⟩
  obtain ⟨x', hok, he⟩ := hv x (h5.2 x (List.mem_of_getElem? hx))
  refine ⟨ns.set i x', h.src.set (by omega) _ _, h.res.other (by simp; omega) _, h.box.other (by simp; omega) _, hN, ⟨⟨h5.1.set1 hx he hj, fun y hy => ?_⟩, h.net.pipes.grown (grown_set W g _ _) (ap_of h.net.pipes.1.1 h5.1.1 (by decide)).row⟩, h.out.grown (grown_set W g _ _) (ap_of h.out.1 h5.1.1 (by decide)).row⟩
  rcases List.mem_or_eq_of_mem_set hy with hy | rfl
  · exact h5.2 y hy
  · exact hok
/-- One field of a pipe is set. -/
theorem D7.setPipe {g i j : Nat} {v : Value} (h : D7 w W B A n c zs N A1 k c1 ns (some ⟨g, 0, none⟩) m d1 ps A2 l e ys) (hi : i < m) (hj : j < 5) (hv : ∀ x, okP x → ∃ x', okP x' ∧ encP x' = (encP x).set j v) :
    ∃ ps', D7 w (W.setCell ⟨g, i * 5 + j, none⟩ v) B A n c zs N A1 k c1 ns (some ⟨g, 0, none⟩) m d1 ps' A2 l e ys := by
  have h5 := h.net.pipes
  have hN := h.hN
  have hb := (h5.1.1.lt g rfl).1
  have hgN := own_box_ne h5.1.1 h.box (by decide) g rfl
  obtain ⟨x, hx⟩ : ∃ x, ps[i]? = some x := ⟨_, List.getElem?_eq_getElem (show i < ps.length by rw [h5.len]; exact hi)⟩
  obtain ⟨x', hok, he⟩ := hv x (h5.2 x (List.mem_of_getElem? hx))
  refine ⟨ps.set i x', h.src.set (by omega) _ _, h.res.other (by simp; omega) _, h.box.other (by simp; omega) _, hN, ⟨h.net.nodes.grown (grown_set W g _ _) (ap_of h.net.nodes.1.1 h5.1.1 (by decide)).row, ⟨h5.1.set1 hx he hj, fun y hy => ?_⟩⟩, h.out.grown (grown_set W g _ _) (ap_of h.out.1 h5.1.1 (by decide)).row⟩
  rcases List.mem_or_eq_of_mem_set hy with hy | rfl
  · exact h5.2 y hy
  · exact hok
/-- A node's cells. -/
theorem D7.nodeOf {i : Nat} (h : D7 w W B A n c zs N A1 k c1 ns B1 m d1 ps A2 l e ys) (hi : i < k) : ∃ g nm lo hi, A1 = some ⟨g, 0, none⟩ ∧ g < W.heap.size ∧ W.cell? ⟨g, i * 3, none⟩ = some (.string nm) ∧ W.cell? ⟨g, i * 3 + 1, none⟩ = some (.int .i64 lo) ∧ W.cell? ⟨g, i * 3 + 2, none⟩ = some (.int .i64 hi) ∧ ∀ j, W.frozen? ⟨g, j, none⟩ = false := by
  have h5 := h.net.nodes
  obtain ⟨g, rfl, hB, hg⟩ := h5.1.form (by omega)
  obtain ⟨x, hx, hc, hf⟩ := h5.1.cells (by omega) hi
  exact ⟨g, x.nm, x.lo, x.hi, rfl, hg, hc 0 _ rfl, hc 1 _ rfl, hc 2 _ rfl, hf.1⟩
/-- A pipe's cells. -/
theorem D7.pipeOf {i : Nat} (h : D7 w W B A n c zs N A1 k c1 ns B1 m d1 ps A2 l e ys) (hi : i < m) : ∃ g li, B1 = some ⟨g, 0, none⟩ ∧ g < W.heap.size ∧ W.cell? ⟨g, i * 5 + 4, none⟩ = some (.int .i64 li) ∧ ∀ j, W.frozen? ⟨g, j, none⟩ = false := by
  have h5 := h.net.pipes
  obtain ⟨g, rfl, hB, hg⟩ := h5.1.form (by omega)
  obtain ⟨x, hx, hc, hf⟩ := h5.1.cells (by omega) hi
  exact ⟨g, x.l, rfl, hg, hc 4 _ rfl, hf.1⟩
theorem D7.nodeNe {g : Nat} (h : D7 w W B A n c zs N (some ⟨g, 0, none⟩) k c1 ns B1 m d1 ps A2 l e ys) : g ≠ B ∧ g ≠ N ∧ g ≠ w.heap.size := by
  have h5 := h.net.nodes
  have h1 := (h5.1.1.lt g rfl).1
  have := h.src.1.lt
  exact ⟨by omega, own_box_ne h5.1.1 h.box (by decide) g rfl, by omega⟩
theorem D7.pipeNe {g : Nat} (h : D7 w W B A n c zs N A1 k c1 ns (some ⟨g, 0, none⟩) m d1 ps A2 l e ys) : g ≠ B ∧ g ≠ N ∧ g ≠ w.heap.size := by
  have h5 := h.net.pipes
  have h1 := (h5.1.1.lt g rfl).1
  have := h.src.1.lt
  exact ⟨by omega, own_box_ne h5.1.1 h.box (by decide) g rfl, by omega⟩
end
theorem set_lo {v : Int} (hv : I64 v) : ∀ x, okN x → ∃ x', okN x' ∧ encN x' = (encN x).set 1 (.int .i64 v) := fun x hx => ⟨⟨x.nm, v, x.hi⟩, ⟨hx.1, hv, hx.2.2⟩, rfl⟩
theorem D7.nodeAt {w W : World} {B : Nat} {A : Option Addr} {n c : Nat} {zs : List Int} {N : Nat} {g k c1 : Nat} {ns : List Nd} {B1 : Option Addr} {m d1 : Nat} {ps : List Pp} {A2 : Option Addr} {l e : Nat} {ys : List Int} {i : Nat} (h : D7 w W B A n c zs N (some ⟨g, 0, none⟩) k c1 ns B1 m d1 ps A2 l e ys) (hi : i < k) : ∃ nm lo hi, g < W.heap.size ∧ W.cell? ⟨g, i * 3, none⟩ = some (.string nm) ∧ W.cell? ⟨g, i * 3 + 1, none⟩ = some (.int .i64 lo) ∧ W.cell? ⟨g, i * 3 + 2, none⟩ = some (.int .i64 hi) ∧ ∀ j, W.frozen? ⟨g, j, none⟩ = false := by
  obtain ⟨g', nm, lo, hi', hA, h1, h2, h3, h4, h5⟩ := h.nodeOf hi
  injection hA with hA
  injection hA with hA _ _
  subst hA
  exact ⟨nm, lo, hi', h1, h2, h3, h4, h5⟩
theorem D7.pipeAt {w W : World} {B : Nat} {A : Option Addr} {n c : Nat} {zs : List Int} {N : Nat} {A1 : Option Addr} {g k c1 : Nat} {ns : List Nd} {m d1 : Nat} {ps : List Pp} {A2 : Option Addr} {l e : Nat} {ys : List Int} {i : Nat} (h : D7 w W B A n c zs N A1 k c1 ns (some ⟨g, 0, none⟩) m d1 ps A2 l e ys) (hi : i < m) : ∃ li, g < W.heap.size ∧ W.cell? ⟨g, i * 5 + 4, none⟩ = some (.int .i64 li) ∧ ∀ j, W.frozen? ⟨g, j, none⟩ = false := by
  obtain ⟨g', li, hA, h1, h2, h3⟩ := h.pipeOf hi
  injection hA with hA
  injection hA with hA _ _
  subst hA
  exact ⟨li, h1, h2, h3⟩
end Go.Proofs.YtebefamekjjbcaaGreatDoor
