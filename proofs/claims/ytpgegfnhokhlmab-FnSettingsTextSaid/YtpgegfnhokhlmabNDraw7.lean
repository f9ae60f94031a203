/- What l06Draw (a network and supplies) does, by a walk over its text. Condition: a source over at most 4096 bytes. -/
import Derived.Test.YtpgegfnhokhlmabNDraw6
import Derived.Deep.DeepCutAuto
import Derived.Test.YtpgegfnhokhlmabKF
import Derived.Test.YtpgegfnhokhlmabKG
set_option linter.unusedVariables false
set_option maxRecDepth 100000
namespace Go.Proofs.Ytpgegfnhokhlmab
open Go.ChangeShapes Go.WideShapes Go.ChangeAt Go.RowKit Go.Joins Go.Deep
attribute [local go_sem ↓] Go.wp_at_zero Go.wp_at_succ

/-- What stands while a network and a list are drawn: the source, the result's cells, the network's cells, its nodes and pipes, the list. -/
structure D7 (w W : World) (B : Nat) (A : Option Addr) (n c : Nat) (zs : List Int) (N : Nat) (A1 : Option Addr) (k c1 : Nat) (ns : List Nd) (B1 : Option Addr) (m d1 : Nat) (ps : List Pp) (A2 : Option Addr) (l e : Nat) (ys : List Int) : Prop where
  src : NS w W B A n c zs
  res : Box W w.heap.size #[.slice none 0 0, .slice none 0 0] 27
  box : Box W N #[.slice A1 k c1, .slice B1 m d1] 27
  hN : w.heap.size < N
  net : OwnNet W (w.heap.size + 1) A1 k c1 ns B1 m d1 ps
  out : Own W (w.heap.size + 1) A2 l e ys
theorem OwnNet.low {w : World} {C : Nat} {A : Option Addr} {n c : Nat} {ns : List Nd} {B : Option Addr} {m d : Nat} {ps : List Pp} (h : OwnNet w C A n c ns B m d ps) {a : Addr} (ha : a.block < C) (u : Value) : OwnNet (w.setCell a u) C A n c ns B m d ps := ⟨h.nodes.low ha u, h.pipes.low ha u⟩
theorem OwnNet.mono {w : World} {C C' : Nat} {A : Option Addr} {n c : Nat} {ns : List Nd} {B : Option Addr} {m d : Nat} {ps : List Pp} (h : OwnNet w C A n c ns B m d ps) (hC : C' ≤ C) : OwnNet w C' A n c ns B m d ps := ⟨h.nodes.mono hC, h.pipes.mono hC⟩
theorem OwnNet.src {w w' : World} {B C : Nat} {A : Option Addr} {n c : Nat} {ns : List Nd} {B1 : Option Addr} {m d : Nat} {ps : List Pp} (h : OwnNet w C A n c ns B1 m d ps) (hB : B < C) (hg : w.grownBy w' (some B)) : OwnNet w' C A n c ns B1 m d ps := by
  refine h.grown hg (fun g hg' hE => ?_) (fun g hg' hE => ?_)
  · have h1 := (h.nodes.1.1.lt g (by rw [hg']; rfl)).1
    injection hE with hE
    omega
  · have h1 := (h.pipes.1.1.lt g (by rw [hg']; rfl)).1
    injection hE with hE
    omega
theorem Own.src {w w' : World} {B C : Nat} {A : Option Addr} {n c : Nat} {zs : List Int} (h : Own w C A n c zs) (hB : B < C) (hg : w.grownBy w' (some B)) : Own w' C A n c zs := by
  refine h.grown hg (fun g hg' hE => ?_)
  have h1 := (h.lt g (by rw [hg']; rfl)).1
  injection hE with hE
  omega
theorem OwnNet.row {w w' : World} {C C' : Nat} {A : Option Addr} {n c : Nat} {ns : List Nd} {B1 : Option Addr} {m d : Nat} {ps : List Pp} {A2 : Option Addr} {l e : Nat} {ys : List Int} (h : OwnNet w C A n c ns B1 m d ps) (ho : Own w C' A2 l e ys) (hg : w.grownBy w' (A2.map (·.block))) : OwnNet w' C A n c ns B1 m d ps :=
  h.grown hg (ap_of h.nodes.1.1 ho.1 (by decide)).row (ap_of h.pipes.1.1 ho.1 (by decide)).row
section
variable {w W W' : World} {B : Nat} {A : Option Addr} {n c : Nat} {zs : List Int} {N : Nat} {A1 : Option Addr} {k c1 : Nat} {ns : List Nd} {B1 : Option Addr} {m d1 : Nat} {ps : List Pp} {A2 : Option Addr} {l e : Nat} {ys : List Int}
theorem D7.lt (h : D7 w W B A n c zs N A1 k c1 ns B1 m d1 ps A2 l e ys) : w.heap.size + 1 ≤ W.heap.size := h.res.lt
theorem D7.next (h : D7 w W B A n c zs N A1 k c1 ns B1 m d1 ps A2 l e ys) (hs : Src W' B A n c zs) (hg : W.grownBy W' (some B)) : D7 w W' B A n c zs N A1 k c1 ns B1 m d1 ps A2 l e ys := by
  have hB := h.src.1.lt
  have hN := h.hN
  exact ⟨h.src.next hs hg, h.res.grown hg (fun hh => by injection hh with hh; omega), h.box.grown hg (fun hh => by injection hh with hh; omega), hN, h.net.src (by omega) hg, h.out.src (by omega) hg⟩
theorem D7.then_ (h : D7 w W B A n c zs N A1 k c1 ns B1 m d1 ps A2 l e ys) (k2 : NS W W' B A n c zs) : D7 w W' B A n c zs N A1 k c1 ns B1 m d1 ps A2 l e ys := h.next k2.2.1 k2.2.2
theorem D7.below (h : D7 w W B A n c zs N A1 k c1 ns B1 m d1 ps A2 l e ys) (hb : Below W.heap.size W W') : D7 w W' B A n c zs N A1 k c1 ns B1 m d1 ps A2 l e ys :=
  ⟨h.src.belowN (hb.mono (Nat.le_of_lt h.res.lt)), h.res.belowA hb, h.box.belowA hb, h.hN, h.net.below hb, h.out.below hb⟩
theorem D7.alloc (h : D7 w W B A n c zs N A1 k c1 ns B1 m d1 ps A2 l e ys) (o : Obj) : D7 w (W.alloc o) B A n c zs N A1 k c1 ns B1 m d1 ps A2 l e ys := h.below ((Below.refl _ _).alloc (Nat.le_refl _) _)
theorem D7.list {A3 : Option Addr} {l3 e3 : Nat} {zz : List Int} (h : D7 w W B A n c zs N A1 k c1 ns B1 m d1 ps A2 l e ys) (ho : Own W (w.heap.size + 1) A3 l3 e3 zz) : D7 w W B A n c zs N A1 k c1 ns B1 m d1 ps A3 l3 e3 zz := ⟨h.src, h.res, h.box, h.hN, h.net, ho⟩
/-- A number is put behind the list. -/
theorem D7.push {g e' : Nat} {zz : List Int} {o : Obj} (h : D7 w W B A n c zs N A1 k c1 ns B1 m d1 ps A2 l e ys) (ho : Own W' (w.heap.size + 1) (some ⟨g, 0, none⟩) (l + 1) e' zz) (hb : Below (w.heap.size + 1) W W') (hg : (W.alloc o).grownBy W' (A2.map (·.block))) : D7 w W' B A n c zs N A1 k c1 ns B1 m d1 ps (some ⟨g, 0, none⟩) (l + 1) e' zz := by
  have ha := h.alloc o
  exact ⟨h.src.belowN (hb.mono (Nat.le_succ _)), h.res.below hb (Nat.lt_succ_self _), ha.box.grown hg (fun hE => own_box_ne ha.out.1 ha.box (by decide) N hE rfl), h.hN, ha.net.row ha.out hg, ho⟩
/-- A number of the list is set. -/
theorem D7.set {g j : Nat} {z : Int} (h : D7 w W B A n c zs N A1 k c1 ns B1 m d1 ps (some ⟨g, 0, none⟩) l e ys) (hz : I64 z) : D7 w (W.setCell ⟨g, j, none⟩ (.int .i64 z)) B A n c zs N A1 k c1 ns B1 m d1 ps (some ⟨g, 0, none⟩) l e (ys.set j z) := by
  have h1 := (h.out.lt g rfl).1
  have h2 := own_box_ne h.out.1 h.box (by decide) g rfl
  exact ⟨h.src.set (by omega) _ _, h.res.other (by simp; omega) _, h.box.other (by simpa using h2) _, h.hN, h.net.row h.out (grown_set W g j _), h.out.set_ j hz⟩
/-- The network's cells are written anew. -/
theorem D7.renew {W3 : World} {A3 : Option Addr} {k3 c3 : Nat} {ns3 : List Nd} {B3 : Option Addr} {m3 d3 : Nat} {ps3 : List Pp} (h : D7 w W3 B A n c zs N A1 k c1 ns B1 m d1 ps none 0 0 []) (hC : ∀ C, C ≤ W3.heap.size → N < C → OwnNet W3 C A3 k3 c3 ns3 B3 m3 d3 ps3 → D7 w ((W3.setCell ⟨N, 0, none⟩ (.slice A3 k3 c3)).setCell ⟨N, 1, none⟩ (.slice B3 m3 d3)) B A n c zs N A3 k3 c3 ns3 B3 m3 d3 ps3 none 0 0 []) : True := trivial
theorem D7.renew_ {C : Nat} {A3 : Option Addr} {k3 c3 : Nat} {ns3 : List Nd} {B3 : Option Addr} {m3 d3 : Nat} {ps3 : List Pp} (h : D7 w W B A n c zs N A1 k c1 ns B1 m d1 ps none 0 0 []) (hC : N < C) (ho : OwnNet W C A3 k3 c3 ns3 B3 m3 d3 ps3) : D7 w ((W.setCell ⟨N, 0, none⟩ (.slice A3 k3 c3)).setCell ⟨N, 1, none⟩ (.slice B3 m3 d3)) B A n c zs N A3 k3 c3 ns3 B3 m3 d3 ps3 none 0 0 [] := by
  have hN := h.hN
  refine ⟨(h.src.set (by omega) _ _).set (by omega) _ _, (h.res.other (by simp; omega) _).other (by simp; omega) _, ?_, hN, ((ho.low (by exact hC) _).low (by exact hC) _).mono (by omega), own_nil _ _⟩
  have := (h.box.set 0 (.slice A3 k3 c3)).set 1 (.slice B3 m3 d3)
  exact this
/-- The cells that the walk looks at. -/
structure D7Cells (w W : World) (N : Nat) (A1 : Option Addr) (k c1 : Nat) (B1 : Option Addr) (m d1 : Nat) : Prop where
  lt : N < W.heap.size
  lr : w.heap.size < W.heap.size
  n0 : W.cell? ⟨N, 0, none⟩ = some (.slice A1 k c1)
  n1 : W.cell? ⟨N, 1, none⟩ = some (.slice B1 m d1)
  f0 : W.frozen? ⟨N, 0, none⟩ = false
  f1 : W.frozen? ⟨N, 1, none⟩ = false
  r0 : W.cell? ⟨w.heap.size, 0, none⟩ = some (.slice none 0 0)
  r1 : W.cell? ⟨w.heap.size, 1, none⟩ = some (.slice none 0 0)
  q0 : W.frozen? ⟨w.heap.size, 0, none⟩ = false
  q1 : W.frozen? ⟨w.heap.size, 1, none⟩ = false
theorem D7.cells (h : D7 w W B A n c zs N A1 k c1 ns B1 m d1 ps A2 l e ys) : D7Cells w W N A1 k c1 B1 m d1 := ⟨h.box.lt, h.res.lt, h.box.cell 0, h.box.cell 1, h.box.free 0, h.box.free 1, h.res.cell 0, h.res.cell 1, h.res.free 0, h.res.free 1⟩
end
/-- The numbers of a drawn list are small. -/
def Sml (ys : List Int) : Prop := ∀ y ∈ ys, -2000000 ≤ y ∧ y ≤ 2000000
theorem Sml.push {ys : List Int} {z : Int} (h : Sml ys) (hz : -2000000 ≤ z ∧ z ≤ 2000000) : Sml (ys ++ [z]) := by
  intro y hy
  rcases List.mem_append.1 hy with hy | hy
  · exact h y hy
  · rw [List.mem_singleton.1 hy]; exact hz
theorem Sml.set {ys : List Int} {z : Int} {j : Nat} (h : Sml ys) (hz : -2000000 ≤ z ∧ z ≤ 2000000) : Sml (ys.set j z) := by
  intro y hy
  rcases List.mem_or_eq_of_mem_set hy with hy | rfl
  · exact h y hy
  · exact hz
/-- A call draws a network and a list. -/
def RetNL (w : World) (B : Nat) (A : Option Addr) (n c : Nat) (zs : List Int) (e : Ending) (w' : World) : Prop :=
  ∃ A1 c1 B1 d1 ns ps A2 c2 ys, e = .returned (.tuple #[.agg #[.slice A1 ns.length c1, .slice B1 ps.length d1], .slice A2 ys.length c2]) ∧ OwnNet w' w.heap.size A1 ns.length c1 ns B1 ps.length d1 ps ∧ Own w' w.heap.size A2 ys.length c2 ys ∧ Sml ys ∧ ns.length ≤ 7 ∧ ps.length ≤ 11 ∧ ys.length ≤ 8 ∧ NS w w' B A n c zs
theorem D7.ret {w W : World} {B : Nat} {A : Option Addr} {n c : Nat} {zs : List Int} {N : Nat} {A1 : Option Addr} {k c1 : Nat} {ns : List Nd} {B1 : Option Addr} {m d1 : Nat} {ps : List Pp} {A2 : Option Addr} {l e : Nat} {ys : List Int} (h : D7 w W B A n c zs N A1 k c1 ns B1 m d1 ps A2 l e ys) (hs : Sml ys) (hk : k ≤ 7) (hm : m ≤ 11) (hl : l ≤ 8) (u0 u1 : Value) :
    RetNL w B A n c zs (.returned (.tuple #[.agg #[.slice A1 k c1, .slice B1 m d1], .slice A2 l e])) ((W.setCell ⟨w.heap.size, 0, none⟩ u0).setCell ⟨w.heap.size, 1, none⟩ u1) := by
  obtain rfl : ns.length = k := h.net.nodes.len
  obtain rfl : ps.length = m := h.net.pipes.len
  obtain rfl : ys.length = l := h.out.len
  exact ⟨A1, c1, B1, d1, ns, ps, A2, e, ys, rfl, ((h.net.low (by simp) u0).low (by simp) u1).mono (Nat.le_succ _), ((h.out.low (a := ⟨w.heap.size, 0, none⟩) (by simp) u0).low (a := ⟨w.heap.size, 1, none⟩) (by simp) u1).mono (Nat.le_succ _), hs, hk, hm, hl, (h.src.set (Nat.le_refl _) _ _).set (Nat.le_refl _) _ _⟩
theorem sml_flB {m : Nat} {ys : List Int} (hl : ys.length = m) (h : ∀ y ∈ ys, -15 ≤ y ∧ y ≤ 24) : flB m ys = true := by
  unfold flB allB inB
  simp only [Bool.and_eq_true, decide_eq_true_eq, List.all_eq_true]
  exact ⟨hl, fun y hy => by have := h y hy; omega⟩
theorem outF_sml {es : Es} {n : Nat} {fs : List Int} (hg : Good es n) (he : es.length ≤ 40) (hf : ∀ i, i < es.length → -30000 ≤ fs.getD i 0 ∧ fs.getD i 0 ≤ 30000) : Sml (outF es n fs) ∧ ∀ y ∈ outF es n fs, -1200000 ≤ y ∧ y ≤ 1200000 := by
  have hh : ∀ y ∈ outF es n fs, -1200000 ≤ y ∧ y ≤ 1200000 := by
    intro y hy
    obtain ⟨v, hv, rfl⟩ := List.getElem_of_mem hy
    rw [outF_len] at hv
    have h1 := outL_bd hg (Nat.le_refl es.length) hf hv
    have h2 : (outL es n fs es.length).getD v 0 = (outF es n fs)[v]'(by rw [outF_len]; exact hv) := by
      unfold outF
      rw [List.getD_eq_getElem?_getD, List.getElem?_eq_getElem (by rw [outL_len]; exact hv)]
      rfl
    rw [h2] at h1
    have h3 : es.length * 30000 ≤ 1200000 := by omega
    omega
  exact ⟨fun y hy => by have := hh y hy; omega, hh⟩
theorem own_two (w : World) (B : Nat) (x y : Int) (hB : B ≤ w.heap.size) (hx : I64 x) (hy : I64 y) : Own (w.alloc (.cells #[.int .i64 x, .int .i64 y] 2)) B (some ⟨w.heap.size, 0, none⟩) 2 2 [x, y] :=
  ⟨World.ownsRow_lit (size := 1) w #[.int .i64 x, .int .i64 y] 2 hB (by unfold maxLen; omega) rfl, fun z hz => by
    simp at hz
    rcases hz with rfl | rfl <;> assumption⟩
theorem D7.retA {w W : World} {B : Nat} {A : Option Addr} {n c : Nat} {zs : List Int} {N : Nat} {A1 : Option Addr} {k c1 : Nat} {ns : List Nd} {B1 : Option Addr} {m d1 : Nat} {ps : List Pp} {A2 : Option Addr} {l e : Nat} {ys : List Int} (h : D7 w W B A n c zs N A1 k c1 ns B1 m d1 ps A2 l e ys) (hk : k ≤ 7) (hm : m ≤ 11) (u0 u1 : Value) :
    RetNL w B A n c zs (.returned (.tuple #[.agg #[.slice A1 k c1, .slice B1 m d1], .slice (some ⟨W.heap.size, 0, none⟩) 2 2])) (((W.setCell ⟨w.heap.size, 0, none⟩ u0).setCell ⟨w.heap.size, 1, none⟩ u1).alloc (.cells #[.int .i64 1, .int .i64 (-1)] 2)) := by
  obtain rfl : ns.length = k := h.net.nodes.len
  obtain rfl : ps.length = m := h.net.pipes.len
  have hlt := h.lt
  have ho := own_two ((W.setCell ⟨w.heap.size, 0, none⟩ u0).setCell ⟨w.heap.size, 1, none⟩ u1) w.heap.size 1 (-1) (by simp; omega) (WalkArith.wf_i64 (by omega)) (WalkArith.wf_i64 (by omega))
  refine ⟨A1, c1, B1, d1, ns, ps, some ⟨W.heap.size, 0, none⟩, 2, [1, -1], rfl, (((h.net.low (by simp) u0).low (by simp) u1).mono (Nat.le_succ _)).below ((Below.refl _ _).alloc (Nat.le_refl _) _), by simpa using ho, fun y hy => by simp at hy; omega, hk, hm, by decide, ((h.src.set (Nat.le_refl _) _ _).set (Nat.le_refl _) _ _).alloc _⟩
end Go.Proofs.Ytpgegfnhokhlmab
