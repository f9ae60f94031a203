/- What l06Draw (a network and supplies) does, by a walk over its text. Condition: a source over at most 4096 bytes. -/
import Derived.Test.YtpgegfnhokhlmabGreatNDraw6
import Derived.Deep.DeepCutAuto
import Derived.Test.YtpgegfnhokhlmabGreatKF
import Derived.Test.YtpgegfnhokhlmabGreatKG
set_option linter.unusedVariables false
set_option maxRecDepth 100000
namespace Go.Proofs.YtpgegfnhokhlmabGreat
open Go.ChangeShapes Go.WideShapes Go.ChangeAt Go.RowKit Go.Joins Go.Deep
attribute [local go_sem ↓] Go.wp_at_zero Go.wp_at_succ

/-- What stands while a network and a list are drawn: the source, the result's cells, the network's cells, its nodes and pipes, the list. -/
structure D7 (w W : World) (B : Nat) (A : Option Addr) (n c : Nat) (zs : List Int) (N : Nat) (A1 : Option Addr) (k c1 : Nat) (ns : List Nd) (B1 : Option Addr) (m d1 : Nat) (ps : List Pp) (A2 : Option Addr) (l e : Nat) (ys : List Int) : Prop where
  src : NS w W B A n c zs
  res : Box W w.heap.size #[.slice none 0 0, .slice none 0 0] 33
  box : Box W N #[.slice A1 k c1, .slice B1 m d1] 33
  hN : w.heap.size < N
  net : OwnNet W (w.heap.size + 1) A1 k c1 ns B1 m d1 ps
  out : Own W (w.heap.size + 1) A2 l e ys
theorem OwnNet.low {w : World} {C : Nat} {A : Option Addr} {n c : Nat} {ns : List Nd} {B : Option Addr} {m d : Nat} {ps : List Pp} (h : OwnNet w C A n c ns B m d ps) {a : Addr} (ha : a.block < C) (u : Value) : OwnNet (w.setCell a u) C A n c ns B m d ps := ⟨h.nodes.low ha u, h.pipes.low ha u⟩
theorem OwnNet.mono {w : World} {C C' : Nat} {A : Option Addr} {n c : Nat} {ns : List Nd} {B : Option Addr} {m d : Nat} {ps : List Pp} (h : OwnNet w C A n c ns B m d ps) (hC : C' ≤ C) : OwnNet w C' A n c ns B m d ps := ⟨h.nodes.mono hC, h.pipes.mono hC⟩
theorem OwnNet.src {w w' : World} {B C : Nat} {A : Option Addr} {n c : Nat} {ns : List Nd} {B1 : Option Addr} {m d : Nat} {ps : List Pp} (h : OwnNet w C A n c ns B1 m d ps) (hB : B < C) (hg : w.grownBy w' (some B)) : OwnNet w' C A n c ns B1 m d ps := by
  refine h.grown hg (fun g hg' hE => ?_) (fun g hg' hE => ?_)
  · have h1 := (h.nodes.1.1.lt g (by rw [hg']; rfl)).1
    injection hE with hE
    omega
  · have h1 := (h.pipes.1.1.lt g (by rw [hg']; rfl)).1
    injection hE with hE
    omega
theorem Own.src {w w' : World} {B C : Nat} {A : Option Addr} {n c : Nat} {zs : List Int} (h : Own w C A n c zs) (hB : B < C) (hg : w.grownBy w' (some B)) : Own w' C A n c zs := by
  refine h.grown hg (fun g hg' hE => ?_)
  have h1 := (h.lt g (by rw [hg']; rfl)).1
  injection hE with hE
  omega
theorem OwnNet.row {w w' : World} {C C' : Nat} {A : Option Addr} {n c : Nat} {ns : List Nd} {B1 : Option Addr} {m d : Nat} {ps : List Pp} {A2 : Option Addr} {l e : Nat} {ys : List Int} (h : OwnNet w C A n c ns B1 m d ps) (ho : Own w C' A2 l e ys) (hg : w.grownBy w' (A2.map (·.block))) : OwnNet w' C A n c ns B1 m d ps :=
  h.grown hg (ap_of h.nodes.1.1 ho.1 (by decide)).row (ap_of h.pipes.1.1 ho.1 (by decide)).row
section
variable {w W W' : World} {B : Nat} {A : Option Addr} {n c : Nat} {zs : List Int} {N : Nat} {A1 : Option Addr} {k c1 : Nat} {ns : List Nd} {B1 : Option Addr} {m d1 : Nat} {ps : List Pp} {A2 : Option Addr} {l e : Nat} {ys : List Int}
theorem D7.lt (h : D7 w W B A n c zs N A1 k c1 ns B1 m d1 ps A2 l e ys) : w.heap.size + 1 ≤ W.heap.size := h.res.lt
theorem D7.next (h : D7 w W B A n c zs N A1 k c1 ns B1 m d1 ps A2 l e ys) (hs : Src W' B A n c zs) (hg : W.grownBy W' (some B)) : D7 w W' B A n c zs N A1 k c1 ns B1 m d1 ps A2 l e ys := by
  have hB := h.src.1.lt
  have hN := h.hN
  exact ⟨h.src.next hs hg, h.res.grown hg (fun hh => by injection hh with hh; omega), h.box.grown hg (fun hh => by injection hh with hh; omega), hN, h.net.src (by omega) hg, h.out.src (by omega) hg⟩
theorem D7.then_ (h : D7 w W B A n c zs N A1 k c1 ns B1 m d1 ps A2 l e ys) (k2 : NS W W' B A n c zs) : D7 w W' B A n c zs N A1 k c1 ns B1 m d1 ps A2 l e ys := h.next k2.2.1 k2.2.2
theorem D7.below (h : D7 w W B A n c zs N A1 k c1 ns B1 m d1 ps A2 l e ys) (hb : Below W.heap.size W W') : D7 w W' B A n c zs N A1 k c1 ns B1 m d1 ps A2 l e ys :=
  ⟨h.src.belowN (hb.mono (Nat.le_of_lt h.res.lt)), h.res.belowA hb, h.box.belowA hb, h.hN, h.net.below hb, h.out.below hb⟩
theorem D7.alloc (h : D7 w W B A n c zs N A1 k c1 ns B1 m d1 ps A2 l e ys) (o : Obj) : D7 w (W.alloc o) B A n c zs N A1 k c1 ns B1 m d1 ps A2 l e ys := h.below ((Below.refl _ _).alloc (Nat.le_refl _) _)
theorem D7.list {A3 : Option Addr} {l3 e3 : Nat} {zz : List Int} (h : D7 w W B A n c zs N A1 k c1 ns B1 m d1 ps A2 l e ys) (ho : Own W (w.heap.size + 1) A3 l3 e3 zz) : D7 w W B A n c zs N A1 k c1 ns B1 m d1 ps A3 l3 e3 zz := ⟨h.src, h.res, h.box, h.hN, h.net, ho⟩
/-- A number is put behind the list. -/
theorem D7.push {g e' : Nat} {zz : List Int} {o : Obj} (h : D7 w W B A n c zs N A1 k c1 ns B1 m d1 ps A2 l e ys) (ho : Own W' (w.heap.size + 1) (some ⟨g, 0, none⟩) (l + 1) e' zz) (hb : Below (w.heap.size + 1) W W') (hg : (W.alloc o).grownBy W' (A2.map (·.block))) : D7 w W' B A n c zs N A1 k c1 ns B1 m d1 ps (some ⟨g, 0, none⟩) (l + 1) e' zz := by
  have ha := h.alloc o
  exact ⟨h.src.belowN (hb.mono (Nat.le_succ _)), h.res.below hb (Nat.lt_succ_self _), ha.box.grown hg (fun hE => own_box_ne ha.out.1 ha.box (by decide) N hE rfl), h.hN, ha.net.row ha.out hg, ho⟩
/-- A number of the list is set. -/
theorem D7.set {g j : Nat} {z : Int} (h : D7 w W B A n c zs N A1 k c1 ns B1 m d1 ps (some ⟨g, 0, none⟩) l e ys) (hz : I64 z) : D7 w (W.setCell ⟨g, j, none⟩ (.int .i64 z)) B A n c zs N A1 k c1 ns B1 m d1 ps (some ⟨g, 0, none⟩) l e (ys.set j z) := by
  have h1 := (h.out.lt g rfl).1
  have h2 := own_box_ne h.out.1 h.box (by decide) g rfl
  exact ⟨h.src.set (by omega) _ _, h.res.other (by simp; omega) _, h.box.other (by simpa using h2) _, h.hN, h.net.row h.out (grown_set W g j _), h.out.set_ j hz⟩
/-- The network's cells are written anew. -/
theorem D7.renew {W3 : World} {A3 : Option Addr} {k3 c3 : Nat} {ns3 : List Nd} {B3 : Option Addr} {m3 d3 : Nat} {ps3 : List Pp} (h : D7 w W3 B A n c zs N A1 k c1 ns B1 m d1 ps none 0 0 []) (hC : ∀ C, C ≤ W3.heap.size → N < C → OwnNet W3 C A3 k3 c3 ns3 B3 m3 d3 ps3 → D7 w ((W3.setCell ⟨N, 0, none⟩ (.slice A3 k3 c3)).setCell ⟨N, 1, none⟩ (.slice B3 m3 d3)) B A n c zs N A3 k3 c3 ns3 B3 m3 d3 ps3 none 0 0 []) : True := trivial
theorem D7.renew_ {C : Nat} {A3 : Option Addr} {k3 c3 : Nat} {ns3 : List Nd} {B3 : Option Addr} {m3 d3 : Nat} {ps3 : List Pp} (h : D7 w W B A n c zs N A1 k c1 ns B1 m d1 ps none 0 0 []) (hC : N < C) (ho : OwnNet W C A3 k3 c3 ns3 B3 m3 d3 ps3) : D7 w ((W.setCell ⟨N, 0, none⟩ (.slice A3 k3 c3)).setCell ⟨N, 1, none⟩ (.slice B3 m3 d3)) B A n c zs N A3 k3 c3 ns3 B3 m3 d3 ps3 none 0 0 [] := by
  have hN := h.hN
  refine ⟨(h.src.set (by omega) _ _).set (by omega) _ _, (h.res.other (by simp; omega) _).other (by simp; omega) _, ?_, hN, ((ho.low (by exact hC) _).low (by exact hC) _).mono (by omega), own_nil _ _⟩
  have := (h.box.set 0 (.slice A3 k3 c3)).set 1 (.slice B3 m3 d3)
  exact this
/-- The cells that the walk looks at. -/
structure D7Cells (w W : World) (N : Nat) (A1 : Option Addr) (k c1 : Nat) (B1 : Option Addr) (m d1 : Nat) : Prop where
  lt : N < W.heap.size
  lr : w.heap.size < W.heap.size
  n0 : W.cell? ⟨N, 0, none⟩ = some (.slice A1 k c1)
  n1 : W.cell? ⟨N, 1, none⟩ = some (.slice B1 m d1)
  f0 : W.frozen? ⟨N, 0, none⟩ = false
  f1 : W.frozen? ⟨N, 1, none⟩ = false
  r0 : W.cell? ⟨w.heap.size, 0, none⟩ = some (.slice none 0 0)
  r1 : W.cell? ⟨w.heap.size, 1, none⟩ = some (.slice none 0 0)
  q0 : W.frozen? ⟨w.heap.size, 0, none⟩ = false
  q1 : W.frozen? ⟨w.heap.size, 1, none⟩ = false
theorem D7.cells (h : D7 w W B A n c zs N A1 k c1 ns B1 m d1 ps A2 l e ys) : D7Cells w W N A1 k c1 B1 m d1 := ⟨h.box.lt, h.res.lt, h.box.cell 0, h.box.cell 1, h.box.free 0, h.box.free 1, h.res.cell 0, h.res.cell 1, h.res.free 0, h.res.free 1⟩
end
/-- The numbers of a drawn list are small. -/
def Sml (ys : List Int) : Prop := ∀ y ∈ ys, -2000000 ≤ y ∧ y ≤ 2000000
theorem Sml.push {ys : List Int} {z : Int} (h : Sml ys) (hz : -2000000 ≤ z ∧ z ≤ 2000000) : Sml (ys ++ [z]) := by
  intro y hy
  rcases List.mem_append.1 hy with hy | hy
  · exact h y hy
  · rw [List.mem_singleton.1 hy]; exact hz
theorem Sml.set {ys : List Int} {z : Int} {j : Nat} (h : Sml ys) (hz : -2000000 ≤ z ∧ z ≤ 2000000) : Sml (ys.set j z) := by
  intro y hy
  rcases List.mem_or_eq_of_mem_set hy with hy | rfl
  · exact h y hy
  · exact hz
/-- A call draws a network and a list. -/
def RetNL (w : World) (B : Nat) (A : Option Addr) (n c : Nat) (zs : List Int) (e : Ending) (w' : World) : Prop :=
  ∃ A1 c1 B1 d1 ns ps A2 c2 ys, e = .returned (.tuple #[.agg #[.slice A1 ns.length c1, .slice B1 ps.length d1], .slice A2 ys.length c2]) ∧ OwnNet w' w.heap.size A1 ns.length c1 ns B1 ps.length d1 ps ∧ Own w' w.heap.size A2 ys.length c2 ys ∧ Sml ys ∧ ns.length ≤ 7 ∧ ps.length ≤ 11 ∧ ys.length ≤ 8 ∧ NS w w' B A n c zs
theorem D7.ret {w W : World} {B : Nat} {A : Option Addr} {n c : Nat} {zs : List Int} {N : Nat} {A1 : Option Addr} {k c1 : Nat} {ns : List Nd} {B1 : Option Addr} {m d1 : Nat} {ps : List Pp} {A2 : Option Addr} {l e : Nat} {ys : List Int} (h : D7 w W B A n c zs N A1 k c1 ns B1 m d1 ps A2 l e ys) (hs : Sml ys) (hk : k ≤ 7) (hm : m ≤ 11) (hl : l ≤ 8) (u0 u1 : Value) :
    RetNL w B A n c zs (.returned (.tuple #[.agg #[.slice A1 k c1, .slice B1 m d1], .slice A2 l e])) ((W.setCell ⟨w.heap.size, 0, none⟩ u0).setCell ⟨w.heap.size, 1, none⟩ u1) := by
  obtain rfl : ns.length = k := h.net.nodes.len
  obtain rfl : ps.length = m := h.net.pipes.len
  obtain rfl : ys.length = l := h.out.len
  exact ⟨A1, c1, B1, d1, ns, ps, A2, e, ys, rfl, ((h.net.low (by simp) u0).low (by simp) u1).mono (Nat.le_succ _), ((h.out.low (a := ⟨w.heap.size, 0, none⟩) (by simp) u0).low (a := ⟨w.heap.size, 1, none⟩) (by simp) u1).mono (Nat.le_succ _), hs, hk, hm, hl, (h.src.set (Nat.le_refl _) _ _).set (Nat.le_refl _) _ _⟩
theorem sml_flB {m : Nat} {ys : List Int} (hl : ys.length = m) (h : ∀ y ∈ ys, -15 ≤ y ∧ y ≤ 24) : flB m ys = true := by
  unfold flB allB inB
  simp only [Bool.and_eq_true, decide_eq_true_eq, List.all_eq_true]
  exact ⟨hl, fun y hy => by have := h y hy; omega⟩
theorem outF_sml {es : Es} {n : Nat} {fs : List Int} (hg : Good es n) (he : es.length ≤ 40) (hf : ∀ i, i < es.length → -30000 ≤ fs.getD i 0 ∧ fs.getD i 0 ≤ 30000) : Sml (outF es n fs) ∧ ∀ y ∈ outF es n fs, -1200000 ≤ y ∧ y ≤ 1200000 := by
  have hh : ∀ y ∈ outF es n fs, -1200000 ≤ y ∧ y ≤ 1200000 := by
    intro y hy
    obtain ⟨v, hv, rfl⟩ := List.getElem_of_mem hy
    rw [outF_len] at hv
    have h1 := outL_bd hg (Nat.le_refl es.length) hf hv
    have h2 : (outL es n fs es.length).getD v 0 = (outF es n fs)[v]'(by rw [outF_len]; exact hv) := by
      unfold outF
      rw [List.getD_eq_getElem?_getD, List.getElem?_eq_getElem (by rw [outL_len]; exact hv)]
      rfl
    rw [h2] at h1
    have h3 : es.length * 30000 ≤ 1200000 := by omega
    omega
  exact ⟨fun y hy => by have := hh y hy; omega, hh⟩
theorem own_two (w : World) (B : Nat) (x y : Int) (hB : B ≤ w.heap.size) (hx : I64 x) (hy : I64 y) : Own (w.alloc (.cells #[.int .i64 x, .int .i64 y] 2)) B (some ⟨w.heap.size, 0, none⟩) 2 2 [x, y] :=
  ⟨World.ownsRow_lit (size := 1) w #[.int .i64 x, .int .i64 y] 2 hB (by unfold maxLen; omega) rfl, fun z hz => by
    simp at hz
    rcases hz with rfl | rfl <;> assumption⟩
theorem D7.retA {w W : World} {B : Nat} {A : Option Addr} {n c : Nat} {zs : List Int} {N : Nat} {A1 : Option Addr} {k c1 : Nat} {ns : List Nd} {B1 : Option Addr} {m d1 : Nat} {ps : List Pp} {A2 : Option Addr} {l e : Nat} {ys : List Int} (h : D7 w W B A n c zs N A1 k c1 ns B1 m d1 ps A2 l e ys) (hk : k ≤ 7) (hm : m ≤ 11) (u0 u1 : Value) :
    RetNL w B A n c zs (.returned (.tuple #[.agg #[.slice A1 k c1, .slice B1 m d1], .slice (some ⟨W.heap.size, 0, none⟩) 2 2])) (((W.setCell ⟨w.heap.size, 0, none⟩ u0).setCell ⟨w.heap.size, 1, none⟩ u1).alloc (.cells #[.int .i64 1, .int .i64 (-1)] 2)) := by
  obtain rfl : ns.length = k := h.net.nodes.len
  obtain rfl : ps.length = m := h.net.pipes.len
  have hlt := h.lt
  have ho := own_two ((W.setCell ⟨w.heap.size, 0, none⟩ u0).setCell ⟨w.heap.size, 1, none⟩ u1) w.heap.size 1 (-1) (by simp; omega) (WalkArith.wf_i64 (by omega)) (WalkArith.wf_i64 (by omega))
  refine ⟨A1, c1, B1, d1, ns, ps, some ⟨W.heap.size, 0, none⟩, 2, [1, -1], rfl, (((h.net.low (by simp) u0).low (by simp) u1).mono (Nat.le_succ _)).below ((Below.refl _ _).alloc (Nat.le_refl _) _), by simpa using ho, fun y hy => by simp at hy; omega, hk, hm, by decide, ((h.src.set (Nat.le_refl _) _ _).set (Nat.le_refl _) _ _).alloc _⟩
set_option maxHeartbeats 4000000 in
theorem draw6_any (B : Nat) (A : Option Addr) (n c : Nat) (zs : List Int) (w : World) (h : Src w B A n c zs) (hn : n ≤ 4096) :
    Calls Tryz.prog 50 #[.pointer (some ⟨B, 0, none⟩)] w (RetNL w B A n c zs) := by
  have hlt := h.lt
  have hR0 := box_new w #[.slice none 0 0, .slice none 0 0] 33
  have hd0 := (NS.start h).alloc (.cells #[.slice none 0 0, .slice none 0 0] 33)
  have hs0 : (w.alloc (.cells #[.slice none 0 0, .slice none 0 0] 33)).heap.size = w.heap.size + 1 := by simp
  go_enter Tryz.func50, Tryz.ntmps50
  go_wp2_with fail
  generalize w.alloc (.cells #[.slice none 0 0, .slice none 0 0] 33) = W0 at *
  refine (loops_any _ _ _ _ _ _ hd0.2.1 hn).mono ?_
  rintro e w1 ⟨A1, c1, B1, d1, ns, ps, rfl, ho, hk1, hk7, hm11, hn1⟩
  have hd1 := hd0.then_ hn1
  have hR1 := hR0.grown hn1.2.2 (fun hh => by injection hh with hh; omega)
  have hl1 := hR1.lt
  obtain ⟨k, hK⟩ : ∃ y, ns.length = y := ⟨_, rfl⟩
  obtain ⟨m, hM⟩ : ∃ y, ps.length = y := ⟨_, rfl⟩
  rw [hs0] at ho
  rw [hK, hM] at ho ⊢
  rw [hK] at hk7
  rw [hM] at hm11
  have hD : D7 w (w1.alloc (.cells #[.slice A1 k c1, .slice B1 m d1] 33)) B A n c zs w1.heap.size A1 k c1 ns B1 m d1 ps none 0 0 [] :=
    ⟨hd1.alloc _, hR1.alloc _, box_new w1 _ _, hl1, ho.below ((Below.refl _ _).alloc (Nat.le_refl _) _), own_nil _ _⟩
  clear hd0 hR0 hn1 hd1 hR1 ho hK hM hs0 hk1
  go_wp2_with fail
  generalize w1.alloc (.cells #[.slice A1 k c1, .slice B1 m d1] 33) = W1 at *
  generalize w1.heap.size = N at *
  refine (next_any _ _ _ _ _ _ _ hD.src.2.1 hn (by omega) (by omega)).mono ?_
  rintro e w2 ⟨x, hx0, hx1, rfl, hs2, hg2⟩
  have hD2 := hD.next hs2 hg2
  clear hD hs2 hg2
  go_upto_if 13 with fail
  go_cut [] (fun wx => ∃ (A1 : Option Addr) (k c1 : Nat) (ns : List Nd) (B1 : Option Addr) (m d1 : Nat) (ps : List Pp), D7 w wx B A n c zs N A1 k c1 ns B1 m d1 ps none 0 0 [] ∧ k ≤ 7 ∧ m ≤ 11)
  case first =>
    by_cases hx : x = 0
    case pos =>
      subst hx
      go_wp2_with fail
      refine (drawAny_any _ _ _ _ _ _ hD2.src.2.1 hn).mono ?_
      rintro e w3 ⟨A3, c3, B3, d3, ns3, ps3, rfl, ho, _, hk3, hm3, hn3⟩
      have hD3 := hD2.then_ hn3
      have hNl := hD2.box.lt
      obtain ⟨k3, hK3⟩ : ∃ y, ns3.length = y := ⟨_, rfl⟩
      obtain ⟨m3, hM3⟩ : ∃ y, ps3.length = y := ⟨_, rfl⟩
      rw [hK3, hM3] at ho ⊢
      rw [hK3] at hk3
      rw [hM3] at hm3
      have ⟨hN, hr, n0, n1, f0, f1, r0, r1, q0, q1⟩ := hD3.cells
      have hD4 := hD3.renew_ hNl ho
      clear hD2 hn3 hD3 ho hK3 hM3 hk7 hm11 hNl
      go_wp2_with fail
      go_meet
      case rel => exact ⟨_, _, _, _, _, _, _, _, hD4, hk3, by omega⟩
    case neg =>
      have e0 : (x == 0) = false := by simpa using hx
      go_wp2_with fail
      go_meet
      case rel => exact ⟨_, _, _, _, _, _, _, _, hD2, hk7, hm11⟩
  case rest =>
  clear hD2 hk7 hm11 hx0 hx1
  obtain ⟨A1, k, c1, ns, B1, m, d1, ps, hD, hk7, hm11⟩ := hcut
  have ⟨hN, hr, n0, n1, f0, f1, r0, r1, q0, q1⟩ := hD.cells
  have HD := Lib.hid hD
  clear f0 f1 r0 r1 q0 q1 hr hD
  go_wp2_with fail
  refine (sIsNetw_any _ _ _ _ _ _ ns ps _ HD.out.net.reads).mono ?_
  rintro e w3 ⟨b, hb, rfl, hb3⟩
  have HB := Lib.hid hb
  have HD3 := Lib.hid (HD.out.below hb3)
  clear hb n0 n1 hN hb3
  have ⟨hN, hr, n0, n1, f0, f1, r0, r1, q0, q1⟩ := HD3.out.cells
  cases b
  case false =>
    go_wp2_with fail
    refine bodyPost_ret (v := .tuple #[.agg #[.slice A1 k c1, .slice B1 m d1], .slice (some ⟨w3.heap.size, 0, none⟩) 2 2]) (by simp [results, Tryz.results50, go_sem, *]) rfl (HD3.out.retA hk7 hm11 _ _)
  case true =>
  have hok : NetOk ns ps := HB.out.1 rfl
  have hlk : ns.length = k := HD3.out.net.nodes.len
  have hlm : ps.length = m := HD3.out.net.pipes.len
  have hk1 : 1 ≤ k := by have := hok.1; omega
  have hg : Good (esOf ps) k := by rw [← hlk]; exact net_good hok
  have HOK := Lib.hid hok
  have HG := Lib.hid hg
  have HLM := Lib.hid hlm
  clear HB hok hlk hlm hg HD
  have hD4 := HD3.out.alloc (.cells #[] 2)
  have hE4 : Own (w3.alloc (.cells #[] 2)) (w.heap.size + 1) (some ⟨w3.heap.size, 0, none⟩) 0 0 [] := own_empty w3 (w.heap.size + 1) (by have := HD3.out.lt; omega)
  have hD5 := hD4.list hE4
  clear hN n0 n1 hr f0 f1 r0 r1 q0 q1 hD4 hE4 HD3
  go_upto_region 8 with fail
  generalize w3.alloc (.cells #[] 2) = W3 at *
  generalize w3.heap.size = L3 at *
  go_wp2_with fail
  go_loopw [5, 6] (fun oo ii wr => ∃ (j : Nat) (A2 : Option Addr) (e : Nat) (ys : List Int), j ≤ m ∧ ii = .int .i64 (j : Int) ∧ oo = .slice A2 j e ∧ D7 w wr B A n c zs N A1 k c1 ns B1 m d1 ps A2 j e ys ∧ Hid (∀ y ∈ ys, -15 ≤ y ∧ y ≤ 24)) (fun _ ii _ => m - (intOf ii).toNat)
  case atStart => exact ⟨0, _, _, _, Nat.zero_le _, rfl, rfl, hD5, fun y hy => absurd hy List.not_mem_nil⟩
  case round =>
    obtain ⟨j, A2, e, ys, hj, rfl, rfl, hD, HY⟩ := hrel
    clear hD5
    have ⟨hN, hr, n0, n1, f0, f1, r0, r1, q0, q1⟩ := hD.cells
    clear f0 f1 r0 r1 q0 q1 hr n0
    by_cases hlt2 : j < m
    · have i1 : (j : Int) < (m : Int) := by omega
      go_wp2_with fail
      clear hN n1
      refine (next_any _ _ _ _ _ _ _ hD.src.2.1 hn (by omega) (by omega)).mono ?_
      rintro e2 w5 ⟨x, hx0, hx1, rfl, hs5, hg5⟩
      have hD6 := hD.next hs5 hg5
      have hz : I64 (x - 15) := WalkArith.wf_i64 (by omega)
      have HY2 := Lib.hid (show ∀ y ∈ ys ++ [x - 15], -15 ≤ y ∧ y ≤ 24 from fun y hy => by
        rcases List.mem_append.1 hy with hy | hy
        · exact HY.out y hy
        · rw [List.mem_singleton.1 hy]; omega)
      clear hD hs5 hg5
      go_wp2_with (at_builtin; refine wpList_push w5 rfl _ _ rfl (w.heap.size + 1) _ _ _ _ (x - 15) rfl rfl hD6.out hz (by omega) hD6.lt ?_; intro g7 c7 w7 ho7 hb7 hg7 _)
      have hD7 := hD6.push ho7 hb7 hg7
      clear hD6 ho7 hb7 hg7
      go_roundw
      case rel => exact ⟨j + 1, _, _, _, by omega, by go_num, rfl, hD7, HY2.out⟩
      case measure => simp [intOf]; omega
    · have i1 : ¬ (j : Int) < (m : Int) := by omega
      obtain rfl : j = m := by omega
      have ⟨hN, hr, n0, n1, f0, f1, r0, r1, q0, q1⟩ := hD.cells
      clear f0 f1 r0 r1 q0 q1 hr
      have HF := Lib.hid (sml_flB hD.out.len HY.out)
      have HD := Lib.hid hD
      have HO := Lib.hid (outF_sml (n := k) (fs := ys) HG.out (by rw [esOf_len]; have := HOK.out.2.2.1; omega) (fun i hi => by
        have h1 : i < ys.length := by rw [hD.out.len, ← HLM.out, ← esOf_len]; exact hi
        have h2 := HY.out (ys.getD i 0) (by rw [List.getD_eq_getElem?_getD, List.getElem?_eq_getElem h1]; exact List.getElem_mem h1)
        omega))
      have HOL := Lib.hid (outF_len (esOf ps) k ys)
      clear hD
      go_wp2_with fail
      refine (sOut_any _ _ _ _ _ _ _ _ _ ns ps ys _ HD.out.net.reads HOK.out HD.out.out.ints HF.out).mono ?_
      rintro e2 w5 ⟨A5, c5, rfl, ho5, hb5⟩
      rw [HOL.out] at ho5 ⊢
      have hD6 := (HD.out.below hb5).list (ho5.mono HD.out.lt)
      obtain ⟨us, hus⟩ : ∃ y, outF (esOf ps) k ys = y := ⟨_, rfl⟩
      rw [hus] at hD6 ho5
      have HS := Lib.hid (show Sml us ∧ ∀ y ∈ us, -1200000 ≤ y ∧ y ≤ 1200000 by rw [← hus]; exact HO.out)
      clear HO HOL HF HD hb5 ho5 hus hN n0 n1
      go_wp2_with fail
      refine (next_any _ _ _ _ _ _ _ hD6.src.2.1 hn (by omega) (by omega)).mono ?_
      rintro e3 w6 ⟨q, hq0, hq1, rfl, hs6, hg6⟩
      have hD7 := hD6.next hs6 hg6
      obtain ⟨v, rfl⟩ := Int.eq_ofNat_of_zero_le hq0
      have hvk : v < k := by omega
      clear hD6 hs6 hg6 hq0 hq1
      go_wp2_with fail
      refine (next_any _ _ _ _ _ _ _ hD7.src.2.1 hn (by omega) (by omega)).mono ?_
      rintro e4 w7 ⟨t, ht0, ht1, rfl, hs7, hg7⟩
      have hD8 := hD7.next hs7 hg7
      clear hD7 hs7 hg7
      obtain ⟨g, z, rfl, hgB, hgl, hz, hz64, hzc, hzf⟩ := hD8.out.at_ hvk
      have hzb := HS.out.2 z (List.mem_of_getElem? hz)
      rcases (orT (orT (orT trivial)) : (t == 0) = true ∨ (t == 0) = false ∧ ((t == 1) = true ∨ (t == 1) = false ∧ ((t == 2) = true ∨ (t == 2) = false ∧ True))) with t0 | ⟨t0, t1 | ⟨t1, t2 | ⟨t2, _⟩⟩⟩
      · have hI : I64 (z + 1) := WalkArith.wf_i64 (by omega)
        have hD9 := hD8.set (j := v) hI
        have HS9 := Lib.hid (HS.out.1.set (z := z + 1) (j := v) (by omega))
        clear hz HS hD8
        go_upto_region 20 with fail
        have ⟨hN, hr, n0, n1, f0, f1, r0, r1, q0, q1⟩ := hD9.cells
        have HD9 := Lib.hid hD9
        clear hD9 f0 f1
        go_wp2_with fail
        refine bodyPost_ret (v := .tuple #[.agg #[.slice A1 k c1, .slice B1 j d1], .slice (some ⟨g, 0, none⟩) k c5]) (by simp [results, Tryz.results50, go_sem, *]) rfl (HD9.out.ret HS9.out hk7 hm11 (by omega) _ _)
      · go_upto_region 17 with fail
        clear hgB hgl hz hz64 hzc hzf
        go_wp2_with fail
        refine (next_any _ _ _ _ _ _ _ (hD8.alloc _).src.2.1 hn (by omega) (by omega)).mono ?_
        rintro e5 w8 ⟨y, hy0, hy1, rfl, hs8, hg8⟩
        have hD9 := (hD8.alloc _).next hs8 hg8
        obtain ⟨u, hu, hpc, hpl⟩ := pickA [30000, 30001] hg8 (by have := hD8.src.1.lt; have := hD8.lt; omega) hy0 (by simpa using hy1) (by decide)
        have hub : -30000 ≤ u ∧ u ≤ 30001 := by simp at hu; omega
        have hI : I64 u := WalkArith.wf_i64 (by omega)
        have hyl : y < 2 := by omega
        obtain ⟨g', z', hA', hgB', hgl', _, _, hzc', hzf'⟩ := hD9.out.at_ hvk
        injection hA' with hA'
        injection hA' with hA' _ _
        subst hA'
        have hD10 := hD9.set (j := v) hI
        have HS9 := Lib.hid (HS.out.1.set (z := u) (j := v) (by omega))
        clear HS hD8 hs8 hg8 hu hub
        go_upto_region 20 with fail
        have ⟨hN, hr, n0, n1, f0, f1, r0, r1, q0, q1⟩ := hD10.cells
        have HD9 := Lib.hid hD10
        clear hD10 f0 f1
        go_wp2_with fail
        refine bodyPost_ret (v := .tuple #[.agg #[.slice A1 k c1, .slice B1 j d1], .slice (some ⟨g, 0, none⟩) k c5]) (by simp [results, Tryz.results50, go_sem, *]) rfl (HD9.out.ret HS9.out hk7 hm11 (by omega) _ _)
      · go_upto_region 20 with (at_builtin; refine wpList_push w7 rfl _ _ rfl (w.heap.size + 1) _ _ _ _ (0) rfl rfl hD8.out (WalkArith.wf_i64 (by omega)) (by omega) hD8.lt ?_; intro g7 c7 w8 ho8 hb8 hg8 _)
        have HS9 := Lib.hid (HS.out.1.push (z := 0) (by omega))
        have hD9 := hD8.push ho8 hb8 hg8
        clear hD8 HS ho8 hb8 hg8 hgB hgl hz hz64 hzc hzf
        have ⟨hN, hr, n0, n1, f0, f1, r0, r1, q0, q1⟩ := hD9.cells
        have HD9 := Lib.hid hD9
        clear hD9 f0 f1
        go_wp2_with fail
        refine bodyPost_ret (v := .tuple #[.agg #[.slice A1 k c1, .slice B1 j d1], .slice (some ⟨g7, 0, none⟩) (k + 1) c7]) (by simp [results, Tryz.results50, go_sem, *]) rfl (HD9.out.ret HS9.out hk7 hm11 (by omega) _ _)
      · go_upto_region 20 with fail
        have HS9 := Lib.hid HS.out.1
        have hD9 := hD8
        clear hD8 HS hgB hgl hz hz64 hzc hzf
        have ⟨hN, hr, n0, n1, f0, f1, r0, r1, q0, q1⟩ := hD9.cells
        have HD9 := Lib.hid hD9
        clear hD9 f0 f1
        go_wp2_with fail
        refine bodyPost_ret (v := .tuple #[.agg #[.slice A1 k c1, .slice B1 j d1], .slice (some ⟨g, 0, none⟩) k c5]) (by simp [results, Tryz.results50, go_sem, *]) rfl (HD9.out.ret HS9.out hk7 hm11 (by omega) _ _)
end Go.Proofs.YtpgegfnhokhlmabGreat
