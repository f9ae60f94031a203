/- What stands while two lists are drawn for a network. -/
import Derived.Test.YtpgegfnhokhlmabGreatNDraw7
set_option linter.unusedVariables false
set_option maxRecDepth 100000
namespace Go.Proofs.YtpgegfnhokhlmabGreat
open Go.ChangeShapes Go.WideShapes Go.ChangeAt Go.RowKit Go.Joins Go.Deep

/-- What stands while two lists are drawn for a network: the source, the result's cells, the network's cells, its nodes and pipes, the lists. -/
structure D9 (v W : World) (B : Nat) (A : Option Addr) (n c : Nat) (zs : List Int) (R N : Nat) (A1 : Option Addr) (c1 : Nat) (ns : List Nd) (B1 : Option Addr) (d1 : Nat) (ps : List Pp) (A2 : Option Addr) (e2 : Nat) (xs : List Int) (M : Nat) (A3 : Option Addr) (l3 e3 : Nat) (ys : List Int) : Prop where
  src : NS v W B A n c zs
  res : Box W R #[.slice none 0 0, .slice none 0 0] 33
  box : Box W N #[.slice A1 ns.length c1, .slice B1 ps.length d1] 33
  net : OwnNet W v.heap.size A1 ns.length c1 ns B1 ps.length d1 ps
  sup : Own W v.heap.size A2 xs.length e2 xs
  low : ∀ g, A2.map (·.block) = some g → g < M
  set : Own W M A3 l3 e3 ys
  hR : R < B
  hB : B < v.heap.size
  hN : v.heap.size ≤ N
  hM : N < M
section
variable {v W : World} {B : Nat} {A : Option Addr} {n c : Nat} {zs : List Int} {R N : Nat} {A1 : Option Addr} {c1 : Nat} {ns : List Nd} {B1 : Option Addr} {d1 : Nat} {ps : List Pp} {A2 : Option Addr} {e2 : Nat} {xs : List Int} {M : Nat} {A3 : Option Addr} {l3 e3 : Nat} {ys : List Int}
theorem D9.next {W' : World} (h : D9 v W B A n c zs R N A1 c1 ns B1 d1 ps A2 e2 xs M A3 l3 e3 ys) (hs : Src W' B A n c zs) (hg : W.grownBy W' (some B)) : D9 v W' B A n c zs R N A1 c1 ns B1 d1 ps A2 e2 xs M A3 l3 e3 ys := by
  have h1 := h.hR
  have h2 := h.hB
  have h3 := h.hN
  have h4 := h.hM
  exact ⟨h.src.next hs hg, h.res.grown hg (fun hh => by injection hh with hh; omega), h.box.grown hg (fun hh => by injection hh with hh; omega), h.net.src h2 hg, h.sup.src h2 hg, h.low, h.set.src (by omega) hg, h1, h2, h3, h4⟩
theorem D9.then_ {W' : World} (h : D9 v W B A n c zs R N A1 c1 ns B1 d1 ps A2 e2 xs M A3 l3 e3 ys) (k : NS W W' B A n c zs) : D9 v W' B A n c zs R N A1 c1 ns B1 d1 ps A2 e2 xs M A3 l3 e3 ys := h.next k.2.1 k.2.2
theorem D9.below {W' : World} (h : D9 v W B A n c zs R N A1 c1 ns B1 d1 ps A2 e2 xs M A3 l3 e3 ys) (hb : Below W.heap.size W W') : D9 v W' B A n c zs R N A1 c1 ns B1 d1 ps A2 e2 xs M A3 l3 e3 ys :=
  ⟨h.src.belowN (hb.mono h.src.size), h.res.belowA hb, h.box.belowA hb, h.net.below hb, h.sup.below hb, h.low, h.set.below hb, h.hR, h.hB, h.hN, h.hM⟩
theorem D9.alloc (h : D9 v W B A n c zs R N A1 c1 ns B1 d1 ps A2 e2 xs M A3 l3 e3 ys) (o : Obj) : D9 v (W.alloc o) B A n c zs R N A1 c1 ns B1 d1 ps A2 e2 xs M A3 l3 e3 ys := h.below ((Below.refl _ _).alloc (Nat.le_refl _) _)
theorem D9.drew (h : D9 v W B A n c zs R N A1 c1 ns B1 d1 ps A2 e2 xs M A3 l3 e3 ys) : D9 v W.drew B A n c zs R N A1 c1 ns B1 d1 ps A2 e2 xs M A3 l3 e3 ys := h.below (Below.refl _ _).drew
theorem D9.list {M' : Nat} {A4 : Option Addr} {l4 e4 : Nat} {ws : List Int} (h : D9 v W B A n c zs R N A1 c1 ns B1 d1 ps A2 e2 xs M A3 l3 e3 ys) (hl : ∀ g, A2.map (·.block) = some g → g < M') (hM' : N < M') (ho : Own W M' A4 l4 e4 ws) : D9 v W B A n c zs R N A1 c1 ns B1 d1 ps A2 e2 xs M' A4 l4 e4 ws := ⟨h.src, h.res, h.box, h.net, h.sup, hl, ho, h.hR, h.hB, h.hN, hM'⟩
theorem D9.lowW (h : D9 v W B A n c zs R N A1 c1 ns B1 d1 ps A2 e2 xs M A3 l3 e3 ys) : ∀ g, A2.map (·.block) = some g → g < W.heap.size := fun g hg => (h.sup.lt g hg).2
theorem D9.setY {g j : Nat} {z : Int} (h : D9 v W B A n c zs R N A1 c1 ns B1 d1 ps A2 e2 xs M (some ⟨g, 0, none⟩) l3 e3 ys) (hz : I64 z) : D9 v (W.setCell ⟨g, j, none⟩ (.int .i64 z)) B A n c zs R N A1 c1 ns B1 d1 ps A2 e2 xs M (some ⟨g, 0, none⟩) l3 e3 (ys.set j z) := by
  have h1 := (h.set.lt g rfl).1
  have h2 := h.hR
  have h3 := h.hB
  have h4 := h.hN
  have h5 := h.hM
  exact ⟨h.src.set (by omega) _ _, h.res.other (by simp; omega) _, h.box.other (by simp; omega) _, h.net.row h.set (grown_set W g j _), h.sup.grown (grown_set W g j _) (fun x hx hE => by injection hE with hE; have := h.low x (by rw [hx]; rfl); omega), h.low, h.set.set_ j hz, h2, h3, h4, h5⟩
theorem D9.setX {g j : Nat} {z : Int} (h : D9 v W B A n c zs R N A1 c1 ns B1 d1 ps (some ⟨g, 0, none⟩) e2 xs M A3 l3 e3 ys) (hz : I64 z) (hgN : g ≠ N) : D9 v (W.setCell ⟨g, j, none⟩ (.int .i64 z)) B A n c zs R N A1 c1 ns B1 d1 ps (some ⟨g, 0, none⟩) e2 (xs.set j z) M A3 l3 e3 ys := by
  have h1 := (h.sup.lt g rfl).1
  have h0 := h.low g rfl
  have h2 := h.hR
  have h3 := h.hB
  have h4 := h.hN
  have h5 := h.hM
  have hs := h.sup.set_ j hz
  rw [← List.length_set (i := j) (a := z)] at hs
  exact ⟨h.src.set (by omega) _ _, h.res.other (by simp; omega) _, h.box.other (by simpa using hgN) _, h.net.row h.sup (grown_set W g j _), by simpa using hs, h.low, h.set.grown (grown_set W g j _) (fun x hx hE => by injection hE with hE; have := (h.set.lt x (by rw [hx]; rfl)).1; omega), h2, h3, h4, h5⟩
/-- The cells that the walk looks at. -/
structure D9C (W : World) (R N : Nat) (A1 : Option Addr) (k c1 : Nat) (B1 : Option Addr) (m d1 : Nat) : Prop where
  lt : N < W.heap.size
  lr : R < W.heap.size
  n0 : W.cell? ⟨N, 0, none⟩ = some (.slice A1 k c1)
  n1 : W.cell? ⟨N, 1, none⟩ = some (.slice B1 m d1)
  r0 : W.cell? ⟨R, 0, none⟩ = some (.slice none 0 0)
  r1 : W.cell? ⟨R, 1, none⟩ = some (.slice none 0 0)
  q0 : W.frozen? ⟨R, 0, none⟩ = false
  q1 : W.frozen? ⟨R, 1, none⟩ = false
theorem D9.cells (h : D9 v W B A n c zs R N A1 c1 ns B1 d1 ps A2 e2 xs M A3 l3 e3 ys) : D9C W R N A1 ns.length c1 B1 ps.length d1 := ⟨h.box.lt, h.res.lt, h.box.cell 0, h.box.cell 1, h.res.cell 0, h.res.cell 1, h.res.free 0, h.res.free 1⟩
end
/-- A call returns a drawn network and two drawn lists. -/
def RetDN3 (w : World) (e : Ending) (w' : World) : Prop :=
  ∃ A1 c1 B1 d1 ns ps A2 c2 xs A3 c3 ys, e = .returned (.tuple #[.agg #[.slice A1 ns.length c1, .slice B1 ps.length d1], .slice A2 xs.length c2, .slice A3 ys.length c3]) ∧ OwnNet w' w.heap.size A1 ns.length c1 ns B1 ps.length d1 ps ∧ Own w' w.heap.size A2 xs.length c2 xs ∧ Own w' w.heap.size A3 ys.length c3 ys ∧ ns.length ≤ 7 ∧ ps.length ≤ 11 ∧ xs.length ≤ 1000 ∧ ys.length ≤ 1000 ∧ Below w.heap.size w w'
theorem D9.ret {w v W : World} {B : Nat} {A : Option Addr} {n c : Nat} {zs : List Int} {N : Nat} {A1 : Option Addr} {c1 : Nat} {ns : List Nd} {B1 : Option Addr} {d1 : Nat} {ps : List Pp} {A2 : Option Addr} {e2 : Nat} {xs : List Int} {M : Nat} {A3 : Option Addr} {l3 e3 : Nat} {ys : List Int} (h : D9 v W B A n c zs w.heap.size N A1 c1 ns B1 d1 ps A2 e2 xs M A3 l3 e3 ys) (hw : Below w.heap.size w v) (hk : ns.length ≤ 7) (hm : ps.length ≤ 11) (hx : xs.length ≤ 1000) (hl : l3 ≤ 1000) (u0 u1 : Value) :
    RetDN3 w (.returned (.tuple #[.agg #[.slice A1 ns.length c1, .slice B1 ps.length d1], .slice A3 l3 e3, .slice A2 xs.length e2])) ((W.setCell ⟨w.heap.size, 0, none⟩ u0).setCell ⟨w.heap.size, 1, none⟩ u1) := by
  obtain rfl : ys.length = l3 := h.set.len
  have h1 := h.hR
  have h2 := h.hB
  have h3 := h.hN
  have h4 := h.hM
  have hW := hw.grown h.src.2.2 (by omega) (fun k hk => by injection hk with hk; omega)
  exact ⟨A1, c1, B1, d1, ns, ps, A3, e3, ys, A2, e2, xs, rfl, ((h.net.low (by simp; omega) u0).low (by simp; omega) u1).mono (by omega), ((h.set.low (a := ⟨w.heap.size, 0, none⟩) (by simp; omega) u0).low (a := ⟨w.heap.size, 1, none⟩) (by simp; omega) u1).mono (by omega), ((h.sup.low (a := ⟨w.heap.size, 0, none⟩) (by simp; omega) u0).low (a := ⟨w.heap.size, 1, none⟩) (by simp; omega) u1).mono (by omega), hk, hm, hl, hx, (hW.setCell (p := ⟨w.heap.size, 0, none⟩) (Nat.le_refl _) _).setCell (p := ⟨w.heap.size, 1, none⟩) (Nat.le_refl _) _⟩
section
variable {v W : World} {B : Nat} {A : Option Addr} {n c : Nat} {zs : List Int} {R N : Nat} {A1 : Option Addr} {c1 : Nat} {ns : List Nd} {B1 : Option Addr} {d1 : Nat} {ps : List Pp} {A2 : Option Addr} {e2 : Nat} {xs : List Int} {M : Nat} {A3 : Option Addr} {l3 e3 : Nat} {ys : List Int}
theorem D9.list1 {M' : Nat} {A4 : Option Addr} {e4 : Nat} {ws : List Int} (h : D9 v W B A n c zs R N A1 c1 ns B1 d1 ps A2 e2 xs M A3 l3 e3 ys) (hM' : N < M') (ho : Own W v.heap.size A4 ws.length e4 ws) (hl : ∀ g, A4.map (·.block) = some g → g < M') : D9 v W B A n c zs R N A1 c1 ns B1 d1 ps A4 e4 ws M' none 0 0 [] := ⟨h.src, h.res, h.box, h.net, ho, hl, own_nil _ _, h.hR, h.hB, h.hN, hM'⟩
end
/-- A call returns a drawn network and a drawn list. -/
def RetDN2s (w : World) (e : Ending) (w' : World) : Prop :=
  ∃ A1 c1 B1 d1 ns ps A2 c2 ys, e = .returned (.tuple #[.agg #[.slice A1 ns.length c1, .slice B1 ps.length d1], .slice A2 ys.length c2]) ∧ OwnNet w' w.heap.size A1 ns.length c1 ns B1 ps.length d1 ps ∧ Own w' w.heap.size A2 ys.length c2 ys ∧ ns.length ≤ 7 ∧ ps.length ≤ 11 ∧ ys.length ≤ 1000 ∧ Below w.heap.size w w'
theorem D9.ret2 {w v W : World} {B : Nat} {A : Option Addr} {n c : Nat} {zs : List Int} {N : Nat} {A1 : Option Addr} {c1 : Nat} {ns : List Nd} {B1 : Option Addr} {d1 : Nat} {ps : List Pp} {A2 : Option Addr} {e2 : Nat} {xs : List Int} {M : Nat} {A3 : Option Addr} {l3 e3 : Nat} {ys : List Int} (h : D9 v W B A n c zs w.heap.size N A1 c1 ns B1 d1 ps A2 e2 xs M A3 l3 e3 ys) (hw : Below w.heap.size w v) (hk : ns.length ≤ 7) (hm : ps.length ≤ 11) (hl : l3 ≤ 1000) (u0 u1 : Value) :
    RetDN2s w (.returned (.tuple #[.agg #[.slice A1 ns.length c1, .slice B1 ps.length d1], .slice A3 l3 e3])) ((W.setCell ⟨w.heap.size, 0, none⟩ u0).setCell ⟨w.heap.size, 1, none⟩ u1) := by
  obtain rfl : ys.length = l3 := h.set.len
  have h1 := h.hR
  have h2 := h.hB
  have h3 := h.hN
  have h4 := h.hM
  have hW := hw.grown h.src.2.2 (by omega) (fun k hk => by injection hk with hk; omega)
  exact ⟨A1, c1, B1, d1, ns, ps, A3, e3, ys, rfl, ((h.net.low (by simp; omega) u0).low (by simp; omega) u1).mono (by omega), ((h.set.low (a := ⟨w.heap.size, 0, none⟩) (by simp; omega) u0).low (a := ⟨w.heap.size, 1, none⟩) (by simp; omega) u1).mono (by omega), hk, hm, hl, (hW.setCell (p := ⟨w.heap.size, 0, none⟩) (Nat.le_refl _) _).setCell (p := ⟨w.heap.size, 1, none⟩) (Nat.le_refl _) _⟩
theorem D9.retB {w v W : World} {B : Nat} {A : Option Addr} {n c : Nat} {zs : List Int} {N : Nat} {A1 : Option Addr} {c1 : Nat} {ns : List Nd} {B1 : Option Addr} {d1 : Nat} {ps : List Pp} {A2 : Option Addr} {e2 : Nat} {xs : List Int} {M : Nat} {A3 : Option Addr} {l3 e3 : Nat} {ys : List Int} (h : D9 v W B A n c zs w.heap.size N A1 c1 ns B1 d1 ps A2 e2 xs M A3 l3 e3 ys) (hw : Below w.heap.size w v) (hk : ns.length ≤ 7) (hm : ps.length ≤ 11) (hx : xs.length ≤ 1000) (hl : l3 ≤ 1000) (u0 u1 : Value) :
    RetDN3 w (.returned (.tuple #[.agg #[.slice A1 ns.length c1, .slice B1 ps.length d1], .slice A2 xs.length e2, .slice A3 l3 e3])) ((W.setCell ⟨w.heap.size, 0, none⟩ u0).setCell ⟨w.heap.size, 1, none⟩ u1) := by
  obtain rfl : ys.length = l3 := h.set.len
  have h1 := h.hR
  have h2 := h.hB
  have h3 := h.hN
  have h4 := h.hM
  have hW := hw.grown h.src.2.2 (by omega) (fun k hk => by injection hk with hk; omega)
  exact ⟨A1, c1, B1, d1, ns, ps, A2, e2, xs, A3, e3, ys, rfl, ((h.net.low (by simp; omega) u0).low (by simp; omega) u1).mono (by omega), ((h.sup.low (a := ⟨w.heap.size, 0, none⟩) (by simp; omega) u0).low (a := ⟨w.heap.size, 1, none⟩) (by simp; omega) u1).mono (by omega), ((h.set.low (a := ⟨w.heap.size, 0, none⟩) (by simp; omega) u0).low (a := ⟨w.heap.size, 1, none⟩) (by simp; omega) u1).mono (by omega), hk, hm, hx, hl, (hW.setCell (p := ⟨w.heap.size, 0, none⟩) (Nat.le_refl _) _).setCell (p := ⟨w.heap.size, 1, none⟩) (Nat.le_refl _) _⟩
end Go.Proofs.YtpgegfnhokhlmabGreat
