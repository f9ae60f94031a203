/- What DrawSettledFlows, DrawSolveStep do, by walks over their text. Condition: a source over at most 4096 bytes. -/
import Derived.Test.YtglahchjhpinoaaGreatNDraw8
import Derived.Test.YtglahchjhpinoaaGreatCon
import Derived.Test.YtglahchjhpinoaaGreatKV
set_option linter.unusedVariables false
set_option maxRecDepth 100000
namespace Go.Proofs.YtglahchjhpinoaaGreat
open Go.ChangeShapes Go.WideShapes Go.ChangeAt Go.RowKit Go.Joins Go.Deep
attribute [local go_sem ↓] Go.wp_at_zero Go.wp_at_succ

/-- What stands while two lists are drawn for a network: the source, the result's cells, the network's cells, its nodes and pipes, the lists. -/
structure D9 (v W : World) (B : Nat) (A : Option Addr) (n c : Nat) (zs : List Int) (R N : Nat) (A1 : Option Addr) (c1 : Nat) (ns : List Nd) (B1 : Option Addr) (d1 : Nat) (ps : List Pp) (A2 : Option Addr) (e2 : Nat) (xs : List Int) (M : Nat) (A3 : Option Addr) (l3 e3 : Nat) (ys : List Int) : Prop where
  src : NS v W B A n c zs
  res : Box W R #[.slice none 0 0, .slice none 0 0] 33
  box : Box W N #[.slice A1 ns.length c1, .slice B1 ps.length d1] 33
  net : OwnNet W v.heap.size A1 ns.length c1 ns B1 ps.length d1 ps
  sup : Own W v.heap.size A2 xs.length e2 xs
  low : ∀ g, A2.map (·.block) = some g → g < M
  set : Own W M A3 l3 e3 ys
  hR : R < B
  hB : B < v.heap.size
  hN : v.heap.size ≤ N
  hM : N < M
section
variable {v W : World} {B : Nat} {A : Option Addr} {n c : Nat} {zs : List Int} {R N : Nat} {A1 : Option Addr} {c1 : Nat} {ns : List Nd} {B1 : Option Addr} {d1 : Nat} {ps : List Pp} {A2 : Option Addr} {e2 : Nat} {xs : List Int} {M : Nat} {A3 : Option Addr} {l3 e3 : Nat} {ys : List Int}
theorem D9.next {W' : World} (h : D9 v W B A n c zs R N A1 c1 ns B1 d1 ps A2 e2 xs M A3 l3 e3 ys) (hs : Src W' B A n c zs) (hg : W.grownBy W' (some B)) : D9 v W' B A n c zs R N A1 c1 ns B1 d1 ps A2 e2 xs M A3 l3 e3 ys := by
  have h1 := h.hR
  have h2 := h.hB
  have h3 := h.hN
  have h4 := h.hM
  exact ⟨h.src.next hs hg, h.res.grown hg (fun hh => by injection hh with hh; omega), h.box.grown hg (fun hh => by injection hh with hh; omega), h.net.src h2 hg, h.sup.src h2 hg, h.low, h.set.src (by omega) hg, h1, h2, h3, h4⟩
theorem D9.then_ {W' : World} (h : D9 v W B A n c zs R N A1 c1 ns B1 d1 ps A2 e2 xs M A3 l3 e3 ys) (k : NS W W' B A n c zs) : D9 v W' B A n c zs R N A1 c1 ns B1 d1 ps A2 e2 xs M A3 l3 e3 ys := h.next k.2.1 k.2.2
theorem D9.below {W' : World} (h : D9 v W B A n c zs R N A1 c1 ns B1 d1 ps A2 e2 xs M A3 l3 e3 ys) (hb : Below W.heap.size W W') : D9 v W' B A n c zs R N A1 c1 ns B1 d1 ps A2 e2 xs M A3 l3 e3 ys :=
  ⟨h.src.belowN (hb.mono h.src.size), h.res.belowA hb, h.box.belowA hb, h.net.below hb, h.sup.below hb, h.low, h.set.below hb, h.hR, h.hB, h.hN, h.hM⟩
theorem D9.alloc (h : D9 v W B A n c zs R N A1 c1 ns B1 d1 ps A2 e2 xs M A3 l3 e3 ys) (o : Obj) : D9 v (W.alloc o) B A n c zs R N A1 c1 ns B1 d1 ps A2 e2 xs M A3 l3 e3 ys := h.below ((Below.refl _ _).alloc (Nat.le_refl _) _)
theorem D9.drew (h : D9 v W B A n c zs R N A1 c1 ns B1 d1 ps A2 e2 xs M A3 l3 e3 ys) : D9 v W.drew B A n c zs R N A1 c1 ns B1 d1 ps A2 e2 xs M A3 l3 e3 ys := h.below (Below.refl _ _).drew
theorem D9.list {M' : Nat} {A4 : Option Addr} {l4 e4 : Nat} {ws : List Int} (h : D9 v W B A n c zs R N A1 c1 ns B1 d1 ps A2 e2 xs M A3 l3 e3 ys) (hl : ∀ g, A2.map (·.block) = some g → g < M') (hM' : N < M') (ho : Own W M' A4 l4 e4 ws) : D9 v W B A n c zs R N A1 c1 ns B1 d1 ps A2 e2 xs M' A4 l4 e4 ws := ⟨h.src, h.res, h.box, h.net, h.sup, hl, ho, h.hR, h.hB, h.hN, hM'⟩
theorem D9.lowW (h : D9 v W B A n c zs R N A1 c1 ns B1 d1 ps A2 e2 xs M A3 l3 e3 ys) : ∀ g, A2.map (·.block) = some g → g < W.heap.size := fun g hg => (h.sup.lt g hg).2
theorem D9.setY {g j : Nat} {z : Int} (h : D9 v W B A n c zs R N A1 c1 ns B1 d1 ps A2 e2 xs M (some ⟨g, 0, none⟩) l3 e3 ys) (hz : I64 z) : D9 v (W.setCell ⟨g, j, none⟩ (.int .i64 z)) B A n c zs R N A1 c1 ns B1 d1 ps A2 e2 xs M (some ⟨g, 0, none⟩) l3 e3 (ys.set j z) := by
  have h1 := (h.set.lt g rfl).1
  have h2 := h.hR
  have h3 := h.hB
  have h4 := h.hN
  have h5 := h.hM
  exact ⟨h.src.set (by omega) _ _, h.res.other (by simp; omega) _, h.box.other (by simp; omega) _, h.net.row h.set (grown_set W g j _), h.sup.grown (grown_set W g j _) (fun x hx hE => by injection hE with hE; have := h.low x (by rw [hx]; rfl); omega), h.low, h.set.set_ j hz, h2, h3, h4, h5⟩
theorem D9.setX {g j : Nat} {z : Int} (h : D9 v W B A n c zs R N A1 c1 ns B1 d1 ps (some ⟨g, 0, none⟩) e2 xs M A3 l3 e3 ys) (hz : I64 z) (hgN : g ≠ N) : D9 v (W.setCell ⟨g, j, none⟩ (.int .i64 z)) B A n c zs R N A1 c1 ns B1 d1 ps (some ⟨g, 0, none⟩) e2 (xs.set j z) M A3 l3 e3 ys := by
  have h1 := (h.sup.lt g rfl).1
  have h0 := h.low g rfl
  have h2 := h.hR
  have h3 := h.hB
  have h4 := h.hN
  have h5 := h.hM
  have hs := h.sup.set_ j hz
  rw [← List.length_set (i := j) (a := z)] at hs
  exact ⟨h.src.set (by omega) _ _, h.res.other (by simp; omega) _, h.box.other (by simpa using hgN) _, h.net.row h.sup (grown_set W g j _), by simpa using hs, h.low, h.set.grown (grown_set W g j _) (fun x hx hE => by injection hE with hE; have := (h.set.lt x (by rw [hx]; rfl)).1; omega), h2, h3, h4, h5⟩
/-- The cells that the walk looks at. -/
structure D9C (W : World) (R N : Nat) (A1 : Option Addr) (k c1 : Nat) (B1 : Option Addr) (m d1 : Nat) : Prop where
  lt : N < W.heap.size
  lr : R < W.heap.size
  n0 : W.cell? ⟨N, 0, none⟩ = some (.slice A1 k c1)
  n1 : W.cell? ⟨N, 1, none⟩ = some (.slice B1 m d1)
  r0 : W.cell? ⟨R, 0, none⟩ = some (.slice none 0 0)
  r1 : W.cell? ⟨R, 1, none⟩ = some (.slice none 0 0)
  q0 : W.frozen? ⟨R, 0, none⟩ = false
  q1 : W.frozen? ⟨R, 1, none⟩ = false
theorem D9.cells (h : D9 v W B A n c zs R N A1 c1 ns B1 d1 ps A2 e2 xs M A3 l3 e3 ys) : D9C W R N A1 ns.length c1 B1 ps.length d1 := ⟨h.box.lt, h.res.lt, h.box.cell 0, h.box.cell 1, h.res.cell 0, h.res.cell 1, h.res.free 0, h.res.free 1⟩
end
/-- A call returns a drawn network and two drawn lists. -/
def RetDN3 (w : World) (e : Ending) (w' : World) : Prop :=
  ∃ A1 c1 B1 d1 ns ps A2 c2 xs A3 c3 ys, e = .returned (.tuple #[.agg #[.slice A1 ns.length c1, .slice B1 ps.length d1], .slice A2 xs.length c2, .slice A3 ys.length c3]) ∧ OwnNet w' w.heap.size A1 ns.length c1 ns B1 ps.length d1 ps ∧ Own w' w.heap.size A2 xs.length c2 xs ∧ Own w' w.heap.size A3 ys.length c3 ys ∧ ns.length ≤ 7 ∧ ps.length ≤ 11 ∧ xs.length ≤ 1000 ∧ ys.length ≤ 1000 ∧ Below w.heap.size w w'
theorem D9.ret {w v W : World} {B : Nat} {A : Option Addr} {n c : Nat} {zs : List Int} {N : Nat} {A1 : Option Addr} {c1 : Nat} {ns : List Nd} {B1 : Option Addr} {d1 : Nat} {ps : List Pp} {A2 : Option Addr} {e2 : Nat} {xs : List Int} {M : Nat} {A3 : Option Addr} {l3 e3 : Nat} {ys : List Int} (h : D9 v W B A n c zs w.heap.size N A1 c1 ns B1 d1 ps A2 e2 xs M A3 l3 e3 ys) (hw : Below w.heap.size w v) (hk : ns.length ≤ 7) (hm : ps.length ≤ 11) (hx : xs.length ≤ 1000) (hl : l3 ≤ 1000) (u0 u1 : Value) :
    RetDN3 w (.returned (.tuple #[.agg #[.slice A1 ns.length c1, .slice B1 ps.length d1], .slice A3 l3 e3, .slice A2 xs.length e2])) ((W.setCell ⟨w.heap.size, 0, none⟩ u0).setCell ⟨w.heap.size, 1, none⟩ u1) := by
  obtain rfl : ys.length = l3 := h.set.len
  have h1 := h.hR
  have h2 := h.hB
  have h3 := h.hN
  have h4 := h.hM
  have hW := hw.grown h.src.2.2 (by omega) (fun k hk => by injection hk with hk; omega)
  exact ⟨A1, c1, B1, d1, ns, ps, A3, e3, ys, A2, e2, xs, rfl, ((h.net.low (by simp; omega) u0).low (by simp; omega) u1).mono (by omega), ((h.set.low (a := ⟨w.heap.size, 0, none⟩) (by simp; omega) u0).low (a := ⟨w.heap.size, 1, none⟩) (by simp; omega) u1).mono (by omega), ((h.sup.low (a := ⟨w.heap.size, 0, none⟩) (by simp; omega) u0).low (a := ⟨w.heap.size, 1, none⟩) (by simp; omega) u1).mono (by omega), hk, hm, hl, hx, (hW.setCell (p := ⟨w.heap.size, 0, none⟩) (Nat.le_refl _) _).setCell (p := ⟨w.heap.size, 1, none⟩) (Nat.le_refl _) _⟩
set_option maxHeartbeats 4000000 in
theorem drawSF_any (A : Option Addr) (n c : Nat) (zs : List Int) (w : World) (h : Byts w A n zs) (hn : n ≤ 4096) :
    Calls Tryz.prog 41 #[.slice A n c] w (RetDN3 w) := by
  have bR := box_new w #[.slice none 0 0, .slice none 0 0] 33
  have hw0 : Below w.heap.size w (w.alloc (.cells #[.slice none 0 0, .slice none 0 0] 33)) := (Below.refl _ _).alloc (Nat.le_refl _) _
  have hs0 : w.heap.size + 1 ≤ (w.alloc (.cells #[.slice none 0 0, .slice none 0 0] 33)).heap.size := by simp
  have hy0 := h.below hw0
  go_enter Tryz.func41, Tryz.ntmps41
  go_wp2_with fail
  generalize (w.alloc (.cells #[.slice none 0 0, .slice none 0 0] 33)) = V at *
  refine (from_any _ _ _ _ _ hy0 hn).mono ?_
  rintro e w1 ⟨rfl, hs1, hb1⟩
  have HW1 := Lib.hid (bthen hw0 hb1 hw0.size)
  have bR1 := bR.belowA hb1
  have hv1 := hs1.lt
  generalize V.heap.size = B at *
  clear hy0 hb1 bR hw0
  go_wp2_with fail
  refine (draw6_any _ _ _ _ _ _ hs1 hn).mono ?_
  rintro e w2 ⟨A1, c1, B1, d1, ns, ps, A2, e2, xs, rfl, oN, oY, hSm, hk, hm, hl, hd2⟩
  have bR2 := bR1.grown hd2.2.2 (fun hh => by injection hh with hh; omega)
  have hz2 := hd2.size
  have HSM := Lib.hid hSm
  have hD : D9 w1 (w2.alloc (.cells #[.slice A1 ns.length c1, .slice B1 ps.length d1] 33)) B A n c zs w.heap.size w2.heap.size A1 c1 ns B1 d1 ps A2 e2 xs (w2.heap.size + 1) none 0 0 [] :=
    ⟨hd2.alloc _, bR2.alloc _, box_new _ _ _, oN.below ((Below.refl _ _).alloc (Nat.le_refl _) _), oY.alloc _, fun g hg => by have := (oY.lt g hg).2; omega, own_nil _ _, by omega, by omega, hz2, by omega⟩
  clear hd2 bR1 hs1 bR2 oN oY hSm
  go_upto_region 3 with fail
  generalize (w2.alloc (.cells #[.slice A1 ns.length c1, .slice B1 ps.length d1] 33)) = W2 at *
  generalize w2.heap.size = N at *
  have ⟨hN, hr, n0, n1, r0, r1, q0, q1⟩ := hD.cells
  clear r0 r1 q0 q1 hr
  go_wp2_with fail
  refine (settD_any _ _ _ _ _ _ _ _ _ _ _ _ hD.src.2.1 hn (by omega)).mono ?_
  rintro e w3 ⟨A3, e3, ys, rfl, o3, hl3, hn3⟩
  have hD3 := (hD.then_ hn3).list hD.lowW hN o3
  obtain ⟨L, hL⟩ : ∃ y, ys.length = y := ⟨_, rfl⟩
  rw [hL] at hD3 ⊢ hl3
  clear hD o3 hn3 n0 n1 hL
  generalize W2.heap.size = M at *
  go_wp2_with fail
  go_loopw [9] (fun ii wr => ∃ (j : Nat) (ys : List Int), j ≤ L ∧ ii = .int .i64 (j : Int) ∧ D9 w1 wr B A n c zs w.heap.size N A1 c1 ns B1 d1 ps A2 e2 xs M A3 L e3 ys) (fun ii _ => L - (intOf ii).toNat)
  case atStart => exact ⟨0, _, Nat.zero_le _, rfl, hD3⟩
  case round =>
    obtain ⟨j, ys, hj, rfl, hD⟩ := hrel
    clear hD3
    by_cases hlt : j < L
    · have i1 : (j : Int) < (L : Int) := by omega
      obtain ⟨g, z, rfl, hgM, hgl, hz, hz64, hzc, hzf⟩ := hD.set.at_ hlt
      by_cases hz0 : z = 0
      · subst hz0
        go_wp2_with fail
        refine (next_any _ _ _ _ _ _ _ hD.src.2.1 hn (by omega) (by omega)).mono ?_
        rintro e5 w5 ⟨x, hx0, hx1, rfl, hs5, hg5⟩
        have hD5 := hD.next hs5 hg5
        obtain ⟨g', z', hA', hgM', hgl', hz', hz64', hzc', hzf'⟩ := hD5.set.at_ hlt
        injection hA' with hA'
        injection hA' with hA' _ _
        subst hA'
        have hD6 := hD5.setY (j := j) (z := 1) (WalkArith.wf_i64 (by omega))
        clear hs5 hg5 hD hzc hzf hz hz'
        by_cases hxp : 0 < x
        · clear hD5
          go_wp2_with fail
          go_roundw
          case rel => exact ⟨j + 1, _, by omega, by go_num, hD6⟩
          case measure => simp [intOf]; omega
        · clear hD6
          go_wp2_with fail
          go_roundw
          case rel => exact ⟨j + 1, _, by omega, by go_num, hD5⟩
          case measure => simp [intOf]; omega
      · have e0 : (z == 0) = false := by simpa using hz0
        clear hz
        go_wp2_with fail
        go_roundw
        case rel => exact ⟨j + 1, _, by omega, by go_num, hD⟩
        case measure => simp [intOf]; omega
    · have i1 : ¬ (j : Int) < (L : Int) := by omega
      have ⟨hN, hr, n0, n1, r0, r1, q0, q1⟩ := hD.cells
      have HD := Lib.hid hD
      clear hD
      go_wp2_with fail
      refine bodyPost_ret (v := .tuple #[.agg #[.slice A1 ns.length c1, .slice B1 ps.length d1], .slice A3 L e3, .slice A2 xs.length e2]) (by simp [results, Tryz.results41, go_sem, *]) rfl (HD.out.ret HW1.out hk hm (by omega) (by omega) _ _)
end Go.Proofs.YtglahchjhpinoaaGreat
