/- What l02DrawAny does (a network with perhaps one fault), by a walk over its text. Condition: a source over at most 4096 bytes. -/
import Derived.Test.YtpgegfnhokhlmabGreatNDraw2
import Derived.Deep.RegionHeld3
set_option linter.unusedVariables false
set_option maxRecDepth 100000
namespace Go.Proofs.YtpgegfnhokhlmabGreat
open Go.ChangeShapes Go.WideShapes Go.ChangeAt Go.RowKit Go.Joins Go.Deep
attribute [local go_sem ↓] Go.wp_at_zero Go.wp_at_succ

theorem flat_set1 {α : Type} {enc : α → List Value} {k : Nat} {xs : List α} (hk : ∀ x ∈ xs, (enc x).length = k) {i j : Nat} {x x' : α} {v : Value} (hx : xs[i]? = some x) (he : enc x' = (enc x).set j v) (hj : j < k) : (xs.flatMap enc).set (i * k + j) v = (xs.set i x').flatMap enc := by
  induction xs generalizing i with
  | nil => simp at hx
  | cons y ys ih =>
    have hy := hk y List.mem_cons_self
    cases i with
    | zero =>
      simp at hx
      subst hx
      rw [List.flatMap_cons, Nat.zero_mul, Nat.zero_add, List.set_append_left _ _ (by omega), ← he]
      rfl
    | succ i =>
      simp at hx
      rw [List.flatMap_cons, List.set_append_right _ _ (by rw [hy, Nat.succ_mul]; omega), hy, show (i + 1) * k + j - k = i * k + j by rw [Nat.succ_mul]; omega, ih (fun z hz => hk z (List.mem_cons_of_mem _ hz)) hx]
      rfl
/-- One field of an element of the call's own set. -/
theorem OwnR.set1 {α : Type} {enc : α → List Value} {k : Nat} {w : World} {B g n c i j : Nat} {e : TypeId} {xs : List α} {x x' : α} {v : Value} (h : OwnR enc k e w B (some ⟨g, 0, none⟩) n c xs) (hx : xs[i]? = some x) (he : enc x' = (enc x).set j v) (hj : j < k) :
    OwnR enc k e (w.setCell ⟨g, i * k + j, none⟩ v) B (some ⟨g, 0, none⟩) n c (xs.set i x') := by
  have h1 := h.1.stored (i * k + j) v
  rw [flat_set1 h.2 hx he hj] at h1
  refine ⟨h1.1, fun y hy => ?_⟩
  rcases List.mem_or_eq_of_mem_set hy with hy | rfl
  · exact h.2 y hy
  · rw [he, List.length_set]
    exact h.2 x (List.mem_of_getElem? hx)
theorem own_box_ne {w : World} {B N k n c : Nat} {e t : TypeId} {A : Option Addr} {xs : List Value} {cs : Array Value} (h : w.ownsRow B e k (.slice A n c) n xs) (hb : Box w N cs t) (hne : e ≠ t) : ∀ g, A.map (·.block) = some g → g ≠ N := by
  intro g hg hE
  subst hE
  rcases h.2 with ⟨hv, _⟩ | ⟨g', cap, cur, hv, h1, h2, h3, h4, h5, _⟩
  · injection hv with hv
    rw [hv] at hg
    cases hg
  · injection hv with hv
    rw [hv] at hg
    simp at hg
    subst hg
    unfold Box at hb
    rw [h2] at hb
    injection hb with hb
    injection hb with _ hb
    exact hne hb
/-- What stands while a drawn network is turned: the source, the result's cells, the network's cells, its nodes and pipes. -/
structure DA (w W : World) (B : Nat) (A : Option Addr) (n c : Nat) (zs : List Int) (N : Nat) (A1 : Option Addr) (k c1 : Nat) (B1 : Option Addr) (m d1 : Nat) : Prop where
  src : NS w W B A n c zs
  res : Box W w.heap.size #[.slice none 0 0, .slice none 0 0] 33
  box : Box W N #[.slice A1 k c1, .slice B1 m d1] 33
  hN : w.heap.size < N
  nodes : ∃ ns, OwnN W (w.heap.size + 1) A1 k c1 ns
  pipes : ∃ ps, OwnP W (w.heap.size + 1) B1 m d1 ps
section
variable {w W W' : World} {B : Nat} {A : Option Addr} {n c : Nat} {zs : List Int} {N : Nat} {A1 : Option Addr} {k c1 : Nat} {B1 : Option Addr} {m d1 : Nat}
theorem DA.next (h : DA w W B A n c zs N A1 k c1 B1 m d1) (hs : Src W' B A n c zs) (hg : W.grownBy W' (some B)) : DA w W' B A n c zs N A1 k c1 B1 m d1 := by
  have hB := h.src.1.lt
  have hN := h.hN
  obtain ⟨ns, h5⟩ := h.nodes
  obtain ⟨ps, h6⟩ := h.pipes
  refine ⟨h.src.next hs hg, h.res.grown hg (fun hh => by injection hh with hh; omega), h.box.grown hg (fun hh => by injection hh with hh; omega), hN, ⟨ns, h5.grown hg (fun g hg' hE => ?_)⟩, ⟨ps, h6.grown hg (fun g hg' hE => ?_)⟩⟩
  · have h1 := (h5.1.1.lt g (by rw [hg']; rfl)).1
    injection hE with hE
    omega
  · have h1 := (h6.1.1.lt g (by rw [hg']; rfl)).1
    injection hE with hE
    omega
theorem DA.below (h : DA w W B A n c zs N A1 k c1 B1 m d1) (hb : Below W.heap.size W W') : DA w W' B A n c zs N A1 k c1 B1 m d1 := by
  obtain ⟨ns, h5⟩ := h.nodes
  obtain ⟨ps, h6⟩ := h.pipes
  exact ⟨h.src.belowN (hb.mono (Nat.le_of_lt h.res.lt)), h.res.belowA hb, h.box.belowA hb, h.hN, ⟨ns, h5.below hb⟩, ⟨ps, h6.below hb⟩⟩
theorem DA.alloc (h : DA w W B A n c zs N A1 k c1 B1 m d1) (o : Obj) : DA w (W.alloc o) B A n c zs N A1 k c1 B1 m d1 := h.below ((Below.refl _ _).alloc (Nat.le_refl _) _)
theorem DA.drew (h : DA w W B A n c zs N A1 k c1 B1 m d1) : DA w W.drew B A n c zs N A1 k c1 B1 m d1 := h.below ((Below.refl _ _).drew)
/-- One field of a node is set. -/
theorem DA.setNode {g i j : Nat} {v : Value} (h : DA w W B A n c zs N (some ⟨g, 0, none⟩) k c1 B1 m d1) (hi : i < k) (hj : j < 3) (hv : ∀ x, okN x → ∃ x', okN x' ∧ encN x' = (encN x).set j v) :
    DA w (W.setCell ⟨g, i * 3 + j, none⟩ v) B A n c zs N (some ⟨g, 0, none⟩) k c1 B1 m d1 := by
  obtain ⟨ns, h5⟩ := h.nodes
  obtain ⟨ps, h6⟩ := h.pipes
  have hb := (h5.1.1.lt g rfl).1
  have hgN := own_box_ne h5.1.1 h.box (by decide) g rfl
  obtain ⟨x, hx⟩ : ∃ x, ns[i]? = some x := ⟨_, List.getElem?_eq_getElem (show i < ns.length by rw [h5.len]; exact hi)⟩
  obtain ⟨x', hok, he⟩ := hv x (h5.2 x (List.mem_of_getElem? hx))
  refine ⟨h.src.set (by omega) _ _, h.res.other (by simp; omega) _, h.box.other (by simp; omega) _, h.hN, ⟨ns.set i x', h5.1.set1 hx he hj, fun y hy => ?_⟩, ⟨ps, h6.grown (grown_set W g _ _) (ap_of h6.1.1 h5.1.1 (by decide)).row⟩⟩
  rcases List.mem_or_eq_of_mem_set hy with hy | rfl
  · exact h5.2 y hy
  · exact hok
/-- One field of a pipe is set. -/
theorem DA.setPipe {g i j : Nat} {v : Value} (h : DA w W B A n c zs N A1 k c1 (some ⟨g, 0, none⟩) m d1) (hi : i < m) (hj : j < 5) (hv : ∀ x, okP x → ∃ x', okP x' ∧ encP x' = (encP x).set j v) :
    DA w (W.setCell ⟨g, i * 5 + j, none⟩ v) B A n c zs N A1 k c1 (some ⟨g, 0, none⟩) m d1 := by
  obtain ⟨ns, h5⟩ := h.nodes
  obtain ⟨ps, h6⟩ := h.pipes
  have hb := (h6.1.1.lt g rfl).1
  have hgN := own_box_ne h6.1.1 h.box (by decide) g rfl
  obtain ⟨x, hx⟩ : ∃ x, ps[i]? = some x := ⟨_, List.getElem?_eq_getElem (show i < ps.length by rw [h6.len]; exact hi)⟩
  obtain ⟨x', hok, he⟩ := hv x (h6.2 x (List.mem_of_getElem? hx))
  refine ⟨h.src.set (by omega) _ _, h.res.other (by simp; omega) _, h.box.other (by simp; omega) _, h.hN, ⟨ns, h5.grown (grown_set W g _ _) (ap_of h5.1.1 h6.1.1 (by decide)).row⟩, ⟨ps.set i x', h6.1.set1 hx he hj, fun y hy => ?_⟩⟩
  rcases List.mem_or_eq_of_mem_set hy with hy | rfl
  · exact h6.2 y hy
  · exact hok
/-- The nodes are struck. -/
theorem DA.noNodes (h : DA w W B A n c zs N A1 k c1 B1 m d1) : DA w (W.setCell ⟨N, 0, none⟩ (.slice none 0 0)) B A n c zs N none 0 0 B1 m d1 := by
  obtain ⟨ps, h6⟩ := h.pipes
  have hN := h.hN
  have hgN := own_box_ne h6.1.1 h.box (by decide)
  refine ⟨h.src.set (by omega) _ _, h.res.other (by simp; omega) _, h.box.set 0 _, hN, ⟨[], ownR_nil _ _ _ _ _, fun x hx => absurd hx List.not_mem_nil⟩, ⟨ps, h6.grown (grown_set W N _ _) (fun g hg hE => hgN g (by rw [hg]; rfl) (by injection hE with hE; exact hE.symm))⟩⟩
/-- A pipe is put behind the others. -/
theorem DA.push {o : Obj} {x : Pp} {ps : List Pp} {g c2 : Nat} (h : DA w W B A n c zs N A1 k c1 B1 m d1) (hp : OwnP W (w.heap.size + 1) B1 m d1 ps) (hx : okP x) (ho : OwnR encP 5 98 W' (w.heap.size + 1) (some ⟨g, 0, none⟩) (m + 1) c2 (ps ++ [x])) (hb : Below (w.heap.size + 1) W W') (hg : (W.alloc o).grownBy W' (B1.map (·.block))) :
    DA w (W'.setCell ⟨N, 1, none⟩ (.slice (some ⟨g, 0, none⟩) (m + 1) c2)) B A n c zs N A1 k c1 (some ⟨g, 0, none⟩) (m + 1) c2 ∧ Box W' N #[.slice A1 k c1, .slice B1 m d1] 33 := by
  obtain ⟨ns, h5⟩ := h.nodes
  have hN := h.hN
  have ha := h.alloc o
  have b1 : Box W' N #[.slice A1 k c1, .slice B1 m d1] 33 := ha.box.grown hg (fun hE => own_box_ne (hp.1.alloc o).1 ha.box (by decide) N hE rfl)
  have hn1 : OwnN W' (w.heap.size + 1) A1 k c1 ns := OwnN.grown ⟨h5.1.alloc o, h5.2⟩ hg (ap_of (h5.1.alloc o).1 (hp.1.alloc o).1 (by decide)).row
  have hgN := own_box_ne ho.1 b1 (by decide) g rfl
  have hnN := own_box_ne hn1.1.1 b1 (by decide)
  refine ⟨⟨(h.src.belowN (hb.mono (Nat.le_succ _))).set (by omega) _ _, (h.res.below hb (Nat.lt_succ_self _)).other (by simp; omega) _, b1.set 1 _, hN, ⟨ns, hn1.grown (grown_set W' N _ _) (fun g' hg' hE => hnN g' (by rw [hg']; rfl) (by injection hE with hE; exact hE.symm))⟩, ⟨ps ++ [x], OwnP.grown ⟨ho, ownP_push hp.2 hx⟩ (grown_set W' N _ _) (fun g' hg' hE => ?_)⟩⟩, b1⟩
  injection hg' with hg'
  injection hg' with hg'
  injection hE with hE
  omega
theorem DA.ret {L K M : Nat} (h : DA w W B A n c zs N A1 k c1 B1 m d1) (hL : L ≤ k) (hk : k ≤ K) (hm : m ≤ M) (u0 u1 : Value) :
    RetNetD w B A n c zs L K M (.returned (.agg #[.slice A1 k c1, .slice B1 m d1])) ((W.setCell ⟨w.heap.size, 0, none⟩ u0).setCell ⟨w.heap.size, 1, none⟩ u1) := by
  obtain ⟨ns, h5⟩ := h.nodes
  obtain ⟨ps, h6⟩ := h.pipes
  obtain rfl : ns.length = k := h5.len
  obtain rfl : ps.length = m := h6.len
  exact ⟨A1, c1, B1, d1, ns, ps, rfl, ⟨((h5.low (by simp) u0).low (by simp) u1).mono (Nat.le_succ _), ((h6.low (by simp) u0).low (by simp) u1).mono (Nat.le_succ _)⟩, hL, hk, hm, (h.src.set (Nat.le_refl _) _ _).set (Nat.le_refl _) _ _⟩
/-- The cells that the walk looks at. -/
structure DACells (w W : World) (N : Nat) (A1 : Option Addr) (k c1 : Nat) (B1 : Option Addr) (m d1 : Nat) : Prop where
  lt : N < W.heap.size
  lr : w.heap.size < W.heap.size
  n0 : W.cell? ⟨N, 0, none⟩ = some (.slice A1 k c1)
  n1 : W.cell? ⟨N, 1, none⟩ = some (.slice B1 m d1)
  f0 : W.frozen? ⟨N, 0, none⟩ = false
  f1 : W.frozen? ⟨N, 1, none⟩ = false
  r0 : W.cell? ⟨w.heap.size, 0, none⟩ = some (.slice none 0 0)
  r1 : W.cell? ⟨w.heap.size, 1, none⟩ = some (.slice none 0 0)
  q0 : W.frozen? ⟨w.heap.size, 0, none⟩ = false
  q1 : W.frozen? ⟨w.heap.size, 1, none⟩ = false
theorem DA.cells (h : DA w W B A n c zs N A1 k c1 B1 m d1) : DACells w W N A1 k c1 B1 m d1 := ⟨h.box.lt, h.res.lt, h.box.cell 0, h.box.cell 1, h.box.free 0, h.box.free 1, h.res.cell 0, h.res.cell 1, h.res.free 0, h.res.free 1⟩
end
end Go.Proofs.YtpgegfnhokhlmabGreat
