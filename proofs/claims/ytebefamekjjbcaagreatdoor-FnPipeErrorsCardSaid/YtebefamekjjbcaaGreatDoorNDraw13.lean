/- What stands while a proof is drawn (l12Draw). -/
import Derived.Test.YtebefamekjjbcaaGreatDoorNDraw11
import Derived.Test.YtebefamekjjbcaaGreatDoorLvW
import Derived.Test.YtebefamekjjbcaaGreatDoorKC
import Derived.Test.YtebefamekjjbcaaGreatDoorMkp
import Derived.Test.YtebefamekjjbcaaGreatDoorNDrawC
set_option linter.unusedVariables false
set_option maxRecDepth 100000
namespace Go.Proofs.YtebefamekjjbcaaGreatDoor
open Go.ChangeShapes Go.WideShapes Go.ChangeAt Go.RowKit Go.Joins Go.Deep

theorem mk_partsD {ns : List Nd} {ps : List Pp} {n : Nat} {zs : List Int} {x : Int} (hc : mkC ns ps n zs x = 0) : codeC ns ps n zs = 0 ∧ lvlB x = true ∧ fofC ns ps n zs = 0 := by
  by_cases h1 : codeC ns ps n zs = 0
  · cases h2 : lvlB x
    · rw [mkC_2 h1 h2] at hc; exact absurd hc (by decide)
    · rw [mkC_3 h1 h2] at hc; exact ⟨h1, rfl, hc⟩
  · rw [mkC_1 h1] at hc; exact absurd hc h1
/-- What stands while a proof is drawn: the source, the results' cells, the network's cells, its nodes and pipes, the supplies, the proof's cells, its flows and levels. -/
structure D12 (w W : World) (B : Nat) (A : Option Addr) (n c : Nat) (zs : List Int) (N : Nat) (A1 : Option Addr) (k c1 : Nat) (ns : List Nd) (B1 : Option Addr) (m d1 : Nat) (ps : List Pp) (A2 : Option Addr) (l e2 : Nat) (xs : List Int) (P : Nat) (C : Option Addr) (f cf : Nat) (fs : List Int) (G : Option Addr) (g cg : Nat) (ls : List Int) : Prop where
  src : NS w W B A n c zs
  r0 : Box W w.heap.size #[.slice none 0 0, .slice none 0 0] 27
  r1 : Box W (w.heap.size + 1) #[.slice none 0 0, .slice none 0 0] 30
  box : Box W N #[.slice A1 k c1, .slice B1 m d1] 27
  pb : Box W P #[.slice C f cf, .slice G g cg] 30
  hN : w.heap.size + 2 ≤ N
  hP : N < P
  net : OwnNet W (w.heap.size + 2) A1 k c1 ns B1 m d1 ps
  sup : Own W (w.heap.size + 2) A2 l e2 xs
  low : ∀ g, A2.map (·.block) = some g → g < N
  fl : Own W (N + 1) C f cf fs
  lv : Own W (N + 1) G g cg ls
section
variable {w W W' : World} {B : Nat} {A : Option Addr} {n c : Nat} {zs : List Int} {N : Nat} {A1 : Option Addr} {k c1 : Nat} {ns : List Nd} {B1 : Option Addr} {m d1 : Nat} {ps : List Pp} {A2 : Option Addr} {l e2 : Nat} {xs : List Int} {P : Nat} {C : Option Addr} {f cf : Nat} {fs : List Int} {G : Option Addr} {g cg : Nat} {ls : List Int}
theorem D12.next (h : D12 w W B A n c zs N A1 k c1 ns B1 m d1 ps A2 l e2 xs P C f cf fs G g cg ls) (hs : Src W' B A n c zs) (hg : W.grownBy W' (some B)) : D12 w W' B A n c zs N A1 k c1 ns B1 m d1 ps A2 l e2 xs P C f cf fs G g cg ls := by
  have h1 := h.src.1.lt
  have h2 := h.hN
  have h3 := h.hP
  exact ⟨h.src.next hs hg, h.r0.grown hg (fun hh => by injection hh with hh; omega), h.r1.grown hg (fun hh => by injection hh with hh; omega), h.box.grown hg (fun hh => by injection hh with hh; omega), h.pb.grown hg (fun hh => by injection hh with hh; omega), h2, h3, h.net.src (by omega) hg, h.sup.src (by omega) hg, h.low, h.fl.src (by omega) hg, h.lv.src (by omega) hg⟩
theorem D12.then_ (h : D12 w W B A n c zs N A1 k c1 ns B1 m d1 ps A2 l e2 xs P C f cf fs G g cg ls) (k2 : NS W W' B A n c zs) : D12 w W' B A n c zs N A1 k c1 ns B1 m d1 ps A2 l e2 xs P C f cf fs G g cg ls := h.next k2.2.1 k2.2.2
theorem D12.below (h : D12 w W B A n c zs N A1 k c1 ns B1 m d1 ps A2 l e2 xs P C f cf fs G g cg ls) (hb : Below W.heap.size W W') : D12 w W' B A n c zs N A1 k c1 ns B1 m d1 ps A2 l e2 xs P C f cf fs G g cg ls :=
  ⟨h.src.belowN (hb.mono h.src.size), h.r0.belowA hb, h.r1.belowA hb, h.box.belowA hb, h.pb.belowA hb, h.hN, h.hP, h.net.below hb, h.sup.below hb, h.low, h.fl.below hb, h.lv.below hb⟩
theorem D12.alloc (h : D12 w W B A n c zs N A1 k c1 ns B1 m d1 ps A2 l e2 xs P C f cf fs G g cg ls) (o : Obj) : D12 w (W.alloc o) B A n c zs N A1 k c1 ns B1 m d1 ps A2 l e2 xs P C f cf fs G g cg ls := h.below ((Below.refl _ _).alloc (Nat.le_refl _) _)
theorem D12.drew (h : D12 w W B A n c zs N A1 k c1 ns B1 m d1 ps A2 l e2 xs P C f cf fs G g cg ls) : D12 w W.drew B A n c zs N A1 k c1 ns B1 m d1 ps A2 l e2 xs P C f cf fs G g cg ls := h.below (Below.refl _ _).drew
/-- A number of the flows is set. -/
theorem D12.setF {b j : Nat} {z : Int} (h : D12 w W B A n c zs N A1 k c1 ns B1 m d1 ps A2 l e2 xs P (some ⟨b, 0, none⟩) f cf fs G g cg ls) (hap : Ap (some ⟨b, 0, none⟩) G) (hz : I64 z) : D12 w (W.setCell ⟨b, j, none⟩ (.int .i64 z)) B A n c zs N A1 k c1 ns B1 m d1 ps A2 l e2 xs P (some ⟨b, 0, none⟩) f cf (fs.set j z) G g cg ls := by
  have h1 := (h.fl.lt b rfl).1
  have h2 := h.hN
  have h3 := own_box_ne h.fl.1 h.pb (by decide) b rfl
  have h4 := h.hP
  exact ⟨h.src.set (by omega) _ _, h.r0.other (by simp; omega) _, h.r1.other (by simp; omega) _, h.box.other (by simp; omega) _, h.pb.other (by simpa using h3) _, h2, h4, h.net.row h.fl (grown_set W b j _), h.sup.grown (grown_set W b j _) (fun x hx hE => by injection hE with hE; have := h.low x (by rw [hx]; rfl); omega), h.low, h.fl.set_ j hz, h.lv.grown (grown_set W b j _) (fun x hx hE => hap b rfl (by rw [hx]; exact hE.symm))⟩
/-- A number of the levels is set. -/
theorem D12.setL {b j : Nat} {z : Int} (h : D12 w W B A n c zs N A1 k c1 ns B1 m d1 ps A2 l e2 xs P C f cf fs (some ⟨b, 0, none⟩) g cg ls) (hap : Ap C (some ⟨b, 0, none⟩)) (hz : I64 z) : D12 w (W.setCell ⟨b, j, none⟩ (.int .i64 z)) B A n c zs N A1 k c1 ns B1 m d1 ps A2 l e2 xs P C f cf fs (some ⟨b, 0, none⟩) g cg (ls.set j z) := by
  have h1 := (h.lv.lt b rfl).1
  have h2 := h.hN
  have h3 := own_box_ne h.lv.1 h.pb (by decide) b rfl
  have h4 := h.hP
  exact ⟨h.src.set (by omega) _ _, h.r0.other (by simp; omega) _, h.r1.other (by simp; omega) _, h.box.other (by simp; omega) _, h.pb.other (by simpa using h3) _, h2, h4, h.net.row h.lv (grown_set W b j _), h.sup.grown (grown_set W b j _) (fun x hx hE => by injection hE with hE; have := h.low x (by rw [hx]; rfl); omega), h.low, h.fl.grown (grown_set W b j _) (fun x hx hE => hap.symm b rfl (by rw [hx]; exact hE.symm)), h.lv.set_ j hz⟩
theorem row_ne {w : World} {B' P : Nat} {A : Option Addr} {n c : Nat} {zs : List Int} {cs : Array Value} (h : Own w B' A n c zs) (hb : Box w P cs 30) : ∀ g, A = some ⟨g, 0, none⟩ → some P ≠ some g := fun g hg hE => by
  injection hE with hE
  exact own_box_ne h.1 hb (by decide) g (by rw [hg]; rfl) hE.symm
theorem net_ne {w : World} {B' P : Nat} {A : Option Addr} {n c : Nat} {ns : List Nd} {B : Option Addr} {m d : Nat} {ps : List Pp} {cs : Array Value} (h : OwnNet w B' A n c ns B m d ps) (hb : Box w P cs 30) (j : Nat) (u : Value) : OwnNet (w.setCell ⟨P, j, none⟩ u) B' A n c ns B m d ps :=
  h.grown (grown_set w P j _) (fun g hg hE => by injection hE with hE; exact own_box_ne h.nodes.1.1 hb (by decide) g (by rw [hg]; rfl) hE.symm) (fun g hg hE => by injection hE with hE; exact own_box_ne h.pipes.1.1 hb (by decide) g (by rw [hg]; rfl) hE.symm)
/-- The proof has new flows. -/
theorem D12.newF {M : Nat} {C3 : Option Addr} {f3 cf3 : Nat} {fs3 : List Int} (h : D12 w W B A n c zs N A1 k c1 ns B1 m d1 ps A2 l e2 xs P C f cf fs G g cg ls) (hC : Own W M C3 f3 cf3 fs3) (hM : N + 1 ≤ M) : D12 w (W.setCell ⟨P, 0, none⟩ (.slice C3 f3 cf3)) B A n c zs N A1 k c1 ns B1 m d1 ps A2 l e2 xs P C3 f3 cf3 fs3 G g cg ls := by
  have h2 := h.hN
  have h4 := h.hP
  have hC' := hC.mono hM
  exact ⟨h.src.set (by omega) _ _, h.r0.other (by simp; omega) _, h.r1.other (by simp; omega) _, h.box.other (by simp; omega) _, h.pb.set 0 _, h2, h4, net_ne h.net h.pb 0 _, h.sup.grown (grown_set W P 0 _) (row_ne h.sup h.pb), h.low, hC'.grown (grown_set W P 0 _) (row_ne hC' h.pb), h.lv.grown (grown_set W P 0 _) (row_ne h.lv h.pb)⟩
/-- The proof has new levels. -/
theorem D12.newL {M : Nat} {G3 : Option Addr} {g3 cg3 : Nat} {ls3 : List Int} (h : D12 w W B A n c zs N A1 k c1 ns B1 m d1 ps A2 l e2 xs P C f cf fs G g cg ls) (hG : Own W M G3 g3 cg3 ls3) (hM : N + 1 ≤ M) : D12 w (W.setCell ⟨P, 1, none⟩ (.slice G3 g3 cg3)) B A n c zs N A1 k c1 ns B1 m d1 ps A2 l e2 xs P C f cf fs G3 g3 cg3 ls3 := by
  have h2 := h.hN
  have h4 := h.hP
  have hG' := hG.mono hM
  exact ⟨h.src.set (by omega) _ _, h.r0.other (by simp; omega) _, h.r1.other (by simp; omega) _, h.box.other (by simp; omega) _, h.pb.set 1 _, h2, h4, net_ne h.net h.pb 1 _, h.sup.grown (grown_set W P 1 _) (row_ne h.sup h.pb), h.low, h.fl.grown (grown_set W P 1 _) (row_ne h.fl h.pb), hG'.grown (grown_set W P 1 _) (row_ne hG' h.pb)⟩
/-- The proof's cells behind an append to its levels. -/
theorem D12.pbox {o : Obj} (h : D12 w W B A n c zs N A1 k c1 ns B1 m d1 ps A2 l e2 xs P C f cf fs G g cg ls) (hg : (W.alloc o).grownBy W' (G.map (·.block))) : Box W' P #[.slice C f cf, .slice G g cg] 30 := by
  have ha := h.alloc o
  exact ha.pb.grown hg (fun hE => own_box_ne ha.lv.1 ha.pb (by decide) P hE rfl)
/-- A number is put behind the levels, and the proof bears them. -/
theorem D12.push {b e' : Nat} {zz : List Int} {o : Obj} (h : D12 w W B A n c zs N A1 k c1 ns B1 m d1 ps A2 l e2 xs P C f cf fs G g cg ls) (hap : Ap C G) (ho : Own W' (N + 1) (some ⟨b, 0, none⟩) (g + 1) e' zz) (hb : Below (N + 1) W W') (hg : (W.alloc o).grownBy W' (G.map (·.block))) : D12 w (W'.setCell ⟨P, 1, none⟩ (.slice (some ⟨b, 0, none⟩) (g + 1) e')) B A n c zs N A1 k c1 ns B1 m d1 ps A2 l e2 xs P C f cf fs (some ⟨b, 0, none⟩) (g + 1) e' zz := by
  have h2 := h.hN
  have h4 := h.hP
  have ha := h.alloc o
  have hpb : Box W' P #[.slice C f cf, .slice G g cg] 30 := ha.pb.grown hg (fun hE => own_box_ne ha.lv.1 ha.pb (by decide) P hE rfl)
  have hnet : OwnNet W' (w.heap.size + 2) A1 k c1 ns B1 m d1 ps := ha.net.row ha.lv hg
  have hsup : Own W' (w.heap.size + 2) A2 l e2 xs := ha.sup.grown hg (fun x hx hE => by
    have q1 := (ha.lv.lt x hE).1
    have q2 := ha.low x (by rw [hx]; rfl)
    omega)
  have hfl : Own W' (N + 1) C f cf fs := ha.fl.grown hg (fun x hx hE => hap x (by rw [hx]; rfl) hE)
  have h1 : NS w W' B A n c zs := h.src.belowN (hb.mono (by omega))
  exact ⟨h1.set (by omega) _ _, (h.r0.below hb (by omega)).other (by simp; omega) _, (h.r1.below hb (by omega)).other (by simp; omega) _, (h.box.below hb (by omega)).other (by simp; omega) _, hpb.set 1 _, h2, h4, net_ne hnet hpb 1 _, hsup.grown (grown_set W' P 1 _) (row_ne hsup hpb), h.low, hfl.grown (grown_set W' P 1 _) (row_ne hfl hpb), ho.grown (grown_set W' P 1 _) (row_ne ho hpb)⟩
end
/-- What stands before the proof is made. -/
structure D12a (w W : World) (B : Nat) (A : Option Addr) (n c : Nat) (zs : List Int) (N : Nat) (A1 : Option Addr) (k c1 : Nat) (ns : List Nd) (B1 : Option Addr) (m d1 : Nat) (ps : List Pp) (A2 : Option Addr) (l e2 : Nat) (xs : List Int) : Prop where
  src : NS w W B A n c zs
  r0 : Box W w.heap.size #[.slice none 0 0, .slice none 0 0] 27
  r1 : Box W (w.heap.size + 1) #[.slice none 0 0, .slice none 0 0] 30
  box : Box W N #[.slice A1 k c1, .slice B1 m d1] 27
  hN : w.heap.size + 2 ≤ N
  net : OwnNet W (w.heap.size + 2) A1 k c1 ns B1 m d1 ps
  sup : Own W (w.heap.size + 2) A2 l e2 xs
  low : ∀ g, A2.map (·.block) = some g → g < N
section
variable {w W W' : World} {B : Nat} {A : Option Addr} {n c : Nat} {zs : List Int} {N : Nat} {A1 : Option Addr} {k c1 : Nat} {ns : List Nd} {B1 : Option Addr} {m d1 : Nat} {ps : List Pp} {A2 : Option Addr} {l e2 : Nat} {xs : List Int} {P : Nat} {C : Option Addr} {f cf : Nat} {fs : List Int} {G : Option Addr} {g cg : Nat} {ls : List Int}
theorem D12a.next (h : D12a w W B A n c zs N A1 k c1 ns B1 m d1 ps A2 l e2 xs) (hs : Src W' B A n c zs) (hg : W.grownBy W' (some B)) : D12a w W' B A n c zs N A1 k c1 ns B1 m d1 ps A2 l e2 xs := by
  have h1 := h.src.1.lt
  have h2 := h.hN
  exact ⟨h.src.next hs hg, h.r0.grown hg (fun hh => by injection hh with hh; omega), h.r1.grown hg (fun hh => by injection hh with hh; omega), h.box.grown hg (fun hh => by injection hh with hh; omega), h2, h.net.src (by omega) hg, h.sup.src (by omega) hg, h.low⟩
theorem D12a.below (h : D12a w W B A n c zs N A1 k c1 ns B1 m d1 ps A2 l e2 xs) (hb : Below W.heap.size W W') : D12a w W' B A n c zs N A1 k c1 ns B1 m d1 ps A2 l e2 xs :=
  ⟨h.src.belowN (hb.mono h.src.size), h.r0.belowA hb, h.r1.belowA hb, h.box.belowA hb, h.hN, h.net.below hb, h.sup.below hb, h.low⟩
theorem D12a.drew (h : D12a w W B A n c zs N A1 k c1 ns B1 m d1 ps A2 l e2 xs) : D12a w W.drew B A n c zs N A1 k c1 ns B1 m d1 ps A2 l e2 xs := h.below (Below.refl _ _).drew
theorem D12a.mk12 {M : Nat} (h : D12a w W B A n c zs N A1 k c1 ns B1 m d1 ps A2 l e2 xs) (hC : Own W M C f cf fs) (hG : Own W M G g cg ls) (hM : N + 1 ≤ M) : D12 w (W.alloc (.cells #[.slice C f cf, .slice G g cg] 30)) B A n c zs N A1 k c1 ns B1 m d1 ps A2 l e2 xs W.heap.size C f cf fs G g cg ls := by
  have ha := h.below (W' := W.alloc (.cells #[.slice C f cf, .slice G g cg] 30)) ((Below.refl _ _).alloc (Nat.le_refl _) _)
  exact ⟨ha.src, ha.r0, ha.r1, ha.box, box_new W _ _, h.hN, h.box.lt, ha.net, ha.sup, h.low, (hC.alloc _).mono hM, (hG.alloc _).mono hM⟩
/-- The proof's block holds what was made. -/
theorem D12a.mkp {M : Nat} (h : D12a w W B A n c zs N A1 k c1 ns B1 m d1 ps A2 l e2 xs) (hb : Box W P #[.slice none 0 0, .slice none 0 0] 30) (hP : N < P) (hC : Own W M C f cf fs) (hG : Own W M G g cg ls) (hM : N + 1 ≤ M) : D12 w ((W.setCell ⟨P, 0, none⟩ (.slice C f cf)).setCell ⟨P, 1, none⟩ (.slice G g cg)) B A n c zs N A1 k c1 ns B1 m d1 ps A2 l e2 xs P C f cf fs G g cg ls := by
  have h12 : D12 w W B A n c zs N A1 k c1 ns B1 m d1 ps A2 l e2 xs P none 0 0 [] none 0 0 [] := ⟨h.src, h.r0, h.r1, h.box, hb, h.hN, hP, h.net, h.sup, h.low, own_nil _ _, own_nil _ _⟩
  exact (h12.newF hC hM).newL (hG.grown (grown_set W P 0 _) (row_ne hG hb)) hM
theorem D12.flAt {b : Nat} (h : D12 w W B A n c zs N A1 k c1 ns B1 m d1 ps A2 l e2 xs P (some ⟨b, 0, none⟩) f cf fs G g cg ls) {j : Nat} (hj : j < f) : ∃ z, b < W.heap.size ∧ fs[j]? = some z ∧ W.cell? ⟨b, j, none⟩ = some (.int .i64 z) ∧ W.frozen? ⟨b, j, none⟩ = false := by
  obtain ⟨g', z, hA, _, h2, h3, _, h5, h6⟩ := h.fl.at_ hj
  injection hA with hA
  injection hA with hA _ _
  subst hA
  exact ⟨z, h2, h3, h5, h6⟩
theorem D12.lvAt {b : Nat} (h : D12 w W B A n c zs N A1 k c1 ns B1 m d1 ps A2 l e2 xs P C f cf fs (some ⟨b, 0, none⟩) g cg ls) {j : Nat} (hj : j < g) : ∃ z, b < W.heap.size ∧ ls[j]? = some z ∧ W.cell? ⟨b, j, none⟩ = some (.int .i64 z) ∧ W.frozen? ⟨b, j, none⟩ = false := by
  obtain ⟨g', z, hA, _, h2, h3, _, h5, h6⟩ := h.lv.at_ hj
  injection hA with hA
  injection hA with hA _ _
  subst hA
  exact ⟨z, h2, h3, h5, h6⟩
/-- The cells that the walk looks at. -/
structure D12C (w W : World) (N : Nat) (A1 : Option Addr) (k c1 : Nat) (B1 : Option Addr) (m d1 : Nat) (P : Nat) (C : Option Addr) (f cf : Nat) (G : Option Addr) (g cg : Nat) : Prop where
  lt : N < W.heap.size
  lp : P < W.heap.size
  l0 : w.heap.size < W.heap.size
  l1 : w.heap.size + 1 < W.heap.size
  n0 : W.cell? ⟨N, 0, none⟩ = some (.slice A1 k c1)
  n1 : W.cell? ⟨N, 1, none⟩ = some (.slice B1 m d1)
  p0 : W.cell? ⟨P, 0, none⟩ = some (.slice C f cf)
  p1 : W.cell? ⟨P, 1, none⟩ = some (.slice G g cg)
  q0 : W.frozen? ⟨P, 0, none⟩ = false
  q1 : W.frozen? ⟨P, 1, none⟩ = false
theorem D12.cells (h : D12 w W B A n c zs N A1 k c1 ns B1 m d1 ps A2 l e2 xs P C f cf fs G g cg ls) : D12C w W N A1 k c1 B1 m d1 P C f cf G g cg := ⟨h.box.lt, h.pb.lt, h.r0.lt, h.r1.lt, h.box.cell 0, h.box.cell 1, h.pb.cell 0, h.pb.cell 1, h.pb.free 0, h.pb.free 1⟩
structure D12R (w W : World) : Prop where
  a0 : W.cell? ⟨w.heap.size, 0, none⟩ = some (.slice none 0 0)
  a1 : W.cell? ⟨w.heap.size, 1, none⟩ = some (.slice none 0 0)
  b0 : W.cell? ⟨w.heap.size + 1, 0, none⟩ = some (.slice none 0 0)
  b1 : W.cell? ⟨w.heap.size + 1, 1, none⟩ = some (.slice none 0 0)
  f0 : W.frozen? ⟨w.heap.size, 0, none⟩ = false
  f1 : W.frozen? ⟨w.heap.size, 1, none⟩ = false
  g0 : W.frozen? ⟨w.heap.size + 1, 0, none⟩ = false
  g1 : W.frozen? ⟨w.heap.size + 1, 1, none⟩ = false
theorem D12.rcells (h : D12 w W B A n c zs N A1 k c1 ns B1 m d1 ps A2 l e2 xs P C f cf fs G g cg ls) : D12R w W := ⟨h.r0.cell 0, h.r0.cell 1, h.r1.cell 0, h.r1.cell 1, h.r0.free 0, h.r0.free 1, h.r1.free 0, h.r1.free 1⟩
end
/-- A call draws a network, supplies and a proof. -/
def RetNLP (w : World) (B : Nat) (A : Option Addr) (n c : Nat) (zs : List Int) (e : Ending) (w' : World) : Prop :=
  ∃ A1 c1 B1 d1 ns ps A2 c2 ys C cf fs G cg ls, e = .returned (.tuple #[.agg #[.slice A1 ns.length c1, .slice B1 ps.length d1], .slice A2 ys.length c2, .agg #[.slice C fs.length cf, .slice G ls.length cg]]) ∧ OwnNet w' w.heap.size A1 ns.length c1 ns B1 ps.length d1 ps ∧ Own w' w.heap.size A2 ys.length c2 ys ∧ Own w' w.heap.size C fs.length cf fs ∧ Own w' w.heap.size G ls.length cg ls ∧ ns.length ≤ 7 ∧ ps.length ≤ 11 ∧ ys.length ≤ 8 ∧ fs.length ≤ 1000 ∧ ls.length ≤ 1000 ∧ NS w w' B A n c zs
theorem D12.ret {w W : World} {B : Nat} {A : Option Addr} {n c : Nat} {zs : List Int} {N : Nat} {A1 : Option Addr} {k c1 : Nat} {ns : List Nd} {B1 : Option Addr} {m d1 : Nat} {ps : List Pp} {A2 : Option Addr} {l e2 : Nat} {xs : List Int} {P : Nat} {C : Option Addr} {f cf : Nat} {fs : List Int} {G : Option Addr} {g cg : Nat} {ls : List Int} {C3 : Option Addr} {f3 cf3 : Nat} {fs3 : List Int} {G3 : Option Addr} {g3 cg3 : Nat} {ls3 : List Int} (h : D12 w W B A n c zs N A1 k c1 ns B1 m d1 ps A2 l e2 xs P C f cf fs G g cg ls) (hF : Own W (w.heap.size + 2) C3 f3 cf3 fs3) (hL : Own W (w.heap.size + 2) G3 g3 cg3 ls3) (hk : k ≤ 7) (hm : m ≤ 11) (hl : l ≤ 8) (hf : f3 ≤ 1000) (hg : g3 ≤ 1000) (u0 u1 u2 u3 : Value) :
    RetNLP w B A n c zs (.returned (.tuple #[.agg #[.slice A1 k c1, .slice B1 m d1], .slice A2 l e2, .agg #[.slice C3 f3 cf3, .slice G3 g3 cg3]])) ((((W.setCell ⟨w.heap.size, 0, none⟩ u0).setCell ⟨w.heap.size, 1, none⟩ u1).setCell ⟨w.heap.size + 1, 0, none⟩ u2).setCell ⟨w.heap.size + 1, 1, none⟩ u3) := by
  obtain rfl : ns.length = k := h.net.nodes.len
  obtain rfl : ps.length = m := h.net.pipes.len
  obtain rfl : xs.length = l := h.sup.len
  obtain rfl : fs3.length = f3 := hF.len
  obtain rfl : ls3.length = g3 := hL.len
  refine ⟨A1, c1, B1, d1, ns, ps, A2, e2, xs, C3, cf3, fs3, G3, cg3, ls3, rfl, ?_, ?_, ?_, ?_, hk, hm, hl, hf, hg, ?_⟩
  · exact ((((h.net.low (by simp) u0).low (by simp) u1).low (by simp) u2).low (by simp) u3).mono (by omega)
  · exact ((((h.sup.low (a := ⟨w.heap.size, 0, none⟩) (by simp) u0).low (a := ⟨w.heap.size, 1, none⟩) (by simp) u1).low (a := ⟨w.heap.size + 1, 0, none⟩) (by simp) u2).low (a := ⟨w.heap.size + 1, 1, none⟩) (by simp) u3).mono (by omega)
  · exact ((((hF.low (a := ⟨w.heap.size, 0, none⟩) (by simp) u0).low (a := ⟨w.heap.size, 1, none⟩) (by simp) u1).low (a := ⟨w.heap.size + 1, 0, none⟩) (by simp) u2).low (a := ⟨w.heap.size + 1, 1, none⟩) (by simp) u3).mono (by omega)
  · exact ((((hL.low (a := ⟨w.heap.size, 0, none⟩) (by simp) u0).low (a := ⟨w.heap.size, 1, none⟩) (by simp) u1).low (a := ⟨w.heap.size + 1, 0, none⟩) (by simp) u2).low (a := ⟨w.heap.size + 1, 1, none⟩) (by simp) u3).mono (by omega)
  · exact (((h.src.set (Nat.le_refl _) _ _).set (Nat.le_refl _) _ _).set (Nat.le_succ _) _ _).set (Nat.le_succ _) _ _
/-- The same, where a new row of zeros is the levels, laid behind the results. -/
theorem D12.retZ {w W : World} {B : Nat} {A : Option Addr} {n c : Nat} {zs : List Int} {N : Nat} {A1 : Option Addr} {k c1 : Nat} {ns : List Nd} {B1 : Option Addr} {m d1 : Nat} {ps : List Pp} {A2 : Option Addr} {l e2 : Nat} {xs : List Int} {P : Nat} {C : Option Addr} {f cf : Nat} {fs : List Int} {G : Option Addr} {g cg : Nat} {ls : List Int} {C3 : Option Addr} {f3 cf3 : Nat} {fs3 : List Int} {z : Nat} (h : D12 w W B A n c zs N A1 k c1 ns B1 m d1 ps A2 l e2 xs P C f cf fs G g cg ls) (hF : Own W (w.heap.size + 2) C3 f3 cf3 fs3) (hk : k ≤ 7) (hm : m ≤ 11) (hl : l ≤ 8) (hf : f3 ≤ 1000) (hz : z ≤ 1000) (u0 u1 u2 u3 : Value) :
    RetNLP w B A n c zs (.returned (.tuple #[.agg #[.slice A1 k c1, .slice B1 m d1], .slice A2 l e2, .agg #[.slice C3 f3 cf3, .slice (some ⟨W.heap.size, 0, none⟩) z z]])) (((((W.setCell ⟨w.heap.size, 0, none⟩ u0).setCell ⟨w.heap.size, 1, none⟩ u1).setCell ⟨w.heap.size + 1, 0, none⟩ u2).setCell ⟨w.heap.size + 1, 1, none⟩ u3).alloc (.cells (madeCells #[.int .i64 0] z) 2)) := by
  have h0 := h.r0.lt
  have h1 := h.r1.lt
  have h2 := h.hN
  have h3 := h.box.lt
  have hr := (h.alloc (.cells (madeCells #[.int .i64 0] z) 2)).ret (hF.alloc _) ((own_zeros W z (by omega)).mono (show w.heap.size + 2 ≤ W.heap.size by omega)) hk hm hl hf hz u0 u1 u2 u3
  rw [World.setCell_alloc_past _ _ _ _ h0, World.setCell_alloc_past _ _ _ _ (by simpa using h0), World.setCell_alloc_past _ _ _ _ (by simpa using h1), World.setCell_alloc_past _ _ _ _ (by simpa using h1)] at hr
  exact hr
end Go.Proofs.YtebefamekjjbcaaGreatDoor
