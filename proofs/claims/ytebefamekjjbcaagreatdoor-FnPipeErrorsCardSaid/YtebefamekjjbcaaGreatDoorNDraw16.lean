/- What DrawPipeError does, by a walk over its text. Condition: a source over at most 4096 bytes. -/
import Derived.Test.YtebefamekjjbcaaGreatDoorNDraw14
set_option linter.unusedVariables false
set_option maxRecDepth 100000
namespace Go.Proofs.YtebefamekjjbcaaGreatDoor
open Go.ChangeShapes Go.WideShapes Go.ChangeAt Go.RowKit Go.Joins Go.Deep
attribute [local go_sem ↓] Go.wp_at_zero Go.wp_at_succ

/-- A call returns a drawn network, a drawn proof and a number. -/
def RetDPE (w : World) (e : Ending) (w' : World) : Prop :=
  ∃ A1 c1 B1 d1 ns ps C cf fs G cg ls q, e = .returned (.tuple #[.agg #[.slice A1 ns.length c1, .slice B1 ps.length d1], .agg #[.slice C fs.length cf, .slice G ls.length cg], .int .i64 q]) ∧ OwnNet w' w.heap.size A1 ns.length c1 ns B1 ps.length d1 ps ∧ Own w' w.heap.size C fs.length cf fs ∧ Own w' w.heap.size G ls.length cg ls ∧ ns.length ≤ 7 ∧ ps.length ≤ 11 ∧ fs.length ≤ 1000 ∧ ls.length ≤ 1000 ∧ Below w.heap.size w w'
/-- What stands behind the drawn number. -/
structure D16 (w W : World) (K N P : Nat) (A1 : Option Addr) (c1 : Nat) (ns : List Nd) (B1 : Option Addr) (d1 : Nat) (ps : List Pp) (C : Option Addr) (cf : Nat) (fs : List Int) (G : Option Addr) (cg : Nat) (ls : List Int) : Prop where
  r0 : Box W w.heap.size #[.slice none 0 0, .slice none 0 0] 27
  r1 : Box W (w.heap.size + 1) #[.slice none 0 0, .slice none 0 0] 30
  bn : Box W N #[.slice A1 ns.length c1, .slice B1 ps.length d1] 27
  bp : Box W P #[.slice C fs.length cf, .slice G ls.length cg] 30
  hK : w.heap.size + 2 ≤ K
  net : OwnNet W K A1 ns.length c1 ns B1 ps.length d1 ps
  fl : Own W K C fs.length cf fs
  lv : Own W K G ls.length cg ls
  bel : Below w.heap.size w W
theorem D16.below {w W W' : World} {K N P : Nat} {A1 : Option Addr} {c1 : Nat} {ns : List Nd} {B1 : Option Addr} {d1 : Nat} {ps : List Pp} {C : Option Addr} {cf : Nat} {fs : List Int} {G : Option Addr} {cg : Nat} {ls : List Int} (h : D16 w W K N P A1 c1 ns B1 d1 ps C cf fs G cg ls) (hb : Below W.heap.size W W') : D16 w W' K N P A1 c1 ns B1 d1 ps C cf fs G cg ls :=
  ⟨h.r0.belowA hb, h.r1.belowA hb, h.bn.belowA hb, h.bp.belowA hb, h.hK, h.net.below hb, h.fl.below hb, h.lv.below hb, bthen h.bel hb h.bel.size⟩
theorem D16.grow {w W W' : World} {B K N P : Nat} {A1 : Option Addr} {c1 : Nat} {ns : List Nd} {B1 : Option Addr} {d1 : Nat} {ps : List Pp} {C : Option Addr} {cf : Nat} {fs : List Int} {G : Option Addr} {cg : Nat} {ls : List Int} (h : D16 w W K N P A1 c1 ns B1 d1 ps C cf fs G cg ls) (hB : B < K) (h0 : w.heap.size + 2 ≤ B) (hN : B ≠ N) (hP : B ≠ P) (hg : W.grownBy W' (some B)) : D16 w W' K N P A1 c1 ns B1 d1 ps C cf fs G cg ls :=
  ⟨h.r0.grown hg (fun hh => by injection hh with hh; omega), h.r1.grown hg (fun hh => by injection hh with hh; omega), h.bn.grown hg (fun hh => hN (Option.some.inj hh)), h.bp.grown hg (fun hh => hP (Option.some.inj hh)), h.hK, h.net.src hB hg, h.fl.src hB hg, h.lv.src hB hg, h.bel.grown hg h.bel.size (fun k hk => by injection hk with hk; omega)⟩
theorem D16.ret {w W : World} {K N P : Nat} {A1 : Option Addr} {c1 : Nat} {ns : List Nd} {B1 : Option Addr} {d1 : Nat} {ps : List Pp} {C : Option Addr} {cf : Nat} {fs : List Int} {G : Option Addr} {cg : Nat} {ls : List Int} (h : D16 w W K N P A1 c1 ns B1 d1 ps C cf fs G cg ls) (hk : ns.length ≤ 7) (hm : ps.length ≤ 11) (hf : fs.length ≤ 1000) (hg : ls.length ≤ 1000) (q : Int) (u0 u1 u2 u3 : Value) :
    RetDPE w (.returned (.tuple #[.agg #[.slice A1 ns.length c1, .slice B1 ps.length d1], .agg #[.slice C fs.length cf, .slice G ls.length cg], .int .i64 q])) ((((W.setCell ⟨w.heap.size, 0, none⟩ u0).setCell ⟨w.heap.size, 1, none⟩ u1).setCell ⟨w.heap.size + 1, 0, none⟩ u2).setCell ⟨w.heap.size + 1, 1, none⟩ u3) := by
  have hK := h.hK
  refine ⟨A1, c1, B1, d1, ns, ps, C, cf, fs, G, cg, ls, q, rfl, ?_, ?_, ?_, hk, hm, hf, hg, ?_⟩
  · exact ((((h.net.low (by simp; omega) u0).low (by simp; omega) u1).low (by simp; omega) u2).low (by simp; omega) u3).mono (by omega)
  · exact ((((h.fl.low (a := ⟨w.heap.size, 0, none⟩) (by simp; omega) u0).low (a := ⟨w.heap.size, 1, none⟩) (by simp; omega) u1).low (a := ⟨w.heap.size + 1, 0, none⟩) (by simp; omega) u2).low (a := ⟨w.heap.size + 1, 1, none⟩) (by simp; omega) u3).mono (by omega)
  · exact ((((h.lv.low (a := ⟨w.heap.size, 0, none⟩) (by simp; omega) u0).low (a := ⟨w.heap.size, 1, none⟩) (by simp; omega) u1).low (a := ⟨w.heap.size + 1, 0, none⟩) (by simp; omega) u2).low (a := ⟨w.heap.size + 1, 1, none⟩) (by simp; omega) u3).mono (by omega)
  · exact (((h.bel.setCell (p := ⟨w.heap.size, 0, none⟩) (Nat.le_refl _) _).setCell (p := ⟨w.heap.size, 1, none⟩) (Nat.le_refl _) _).setCell (p := ⟨w.heap.size + 1, 0, none⟩) (Nat.le_succ _) _).setCell (p := ⟨w.heap.size + 1, 1, none⟩) (Nat.le_succ _) _
set_option maxHeartbeats 8000000 in
theorem drawPE_any (A : Option Addr) (n c : Nat) (zs : List Int) (w : World) (h : Byts w A n zs) (hn : n ≤ 4096) :
    Calls Tryz.prog 5 #[.slice A n c] w (RetDPE w) := by
  have bR := (box_new w #[.slice none 0 0, .slice none 0 0] 27).alloc (.cells #[.slice none 0 0, .slice none 0 0] 30)
  have bP := box_at (w.alloc (.cells #[.slice none 0 0, .slice none 0 0] 27)) #[.slice none 0 0, .slice none 0 0] 30 (g := w.heap.size + 1) (by simp)
  have hw0 : Below w.heap.size w ((w.alloc (.cells #[.slice none 0 0, .slice none 0 0] 27)).alloc (.cells #[.slice none 0 0, .slice none 0 0] 30)) := ((Below.refl _ _).alloc (Nat.le_refl _) _).alloc (by simp) _
  have hs0 : w.heap.size + 2 ≤ ((w.alloc (.cells #[.slice none 0 0, .slice none 0 0] 27)).alloc (.cells #[.slice none 0 0, .slice none 0 0] 30)).heap.size := by simp
  have hy0 := h.below hw0
  go_enter Tryz.func5, Tryz.ntmps5
  go_wp2_with fail
  generalize ((w.alloc (.cells #[.slice none 0 0, .slice none 0 0] 27)).alloc (.cells #[.slice none 0 0, .slice none 0 0] 30)) = V at *
  refine (from_any _ _ _ _ _ hy0 hn).mono ?_
  rintro e w1 ⟨rfl, hs1, hb1⟩
  have hw1 := bthen hw0 hb1 hw0.size
  have bR1 := bR.belowA hb1
  have bP1 := bP.belowA hb1
  have hv1 := hs1.lt
  generalize V.heap.size = B at *
  clear hy0 hb1 bR bP hw0
  go_wp2_with fail
  refine (draw12_any _ _ _ _ _ _ hs1 hn).mono ?_
  rintro e w2 ⟨A1, c1, B1, d1, ns, ps, A2, c2, ys, C, cf, fs, G, cg, ls, rfl, oN, oY, oF, oL, hk, hm, hl, hf, hg, hd2⟩
  have hw2 := hw1.grown hd2.2.2 (by omega) (fun k hk => by injection hk with hk; omega)
  have bR2 := bR1.grown hd2.2.2 (fun hh => by injection hh with hh; omega)
  have bP2 := bP1.grown hd2.2.2 (fun hh => by injection hh with hh; omega)
  have hz2 := hd2.size
  have hb3 : Below w2.heap.size w2 ((w2.alloc (.cells #[.slice A1 ns.length c1, .slice B1 ps.length d1] 27)).alloc (.cells #[.slice C fs.length cf, .slice G ls.length cg] 30)) := ((Below.refl _ _).alloc (Nat.le_refl _) _).alloc (by simp) _
  have hNS := (hd2.alloc (.cells #[.slice A1 ns.length c1, .slice B1 ps.length d1] 27)).alloc (.cells #[.slice C fs.length cf, .slice G ls.length cg] 30)
  have hD : D16 w ((w2.alloc (.cells #[.slice A1 ns.length c1, .slice B1 ps.length d1] 27)).alloc (.cells #[.slice C fs.length cf, .slice G ls.length cg] 30)) w1.heap.size w2.heap.size (w2.heap.size + 1) A1 c1 ns B1 d1 ps C cf fs G cg ls :=
    ⟨bR2.belowA hb3, bP2.belowA hb3, (box_new w2 _ _).alloc _, box_at _ _ _ (by simp), by omega, oN.below hb3, oF.below hb3, oL.below hb3, bthen hw2 hb3 hw2.size⟩
  clear hw1 hd2 bR1 bP1 hs1 bR2 bP2 oN oY oF oL hw2 hb3
  go_upto_region 3 with fail
  generalize ((w2.alloc (.cells #[.slice A1 ns.length c1, .slice B1 ps.length d1] 27)).alloc (.cells #[.slice C fs.length cf, .slice G ls.length cg] 30)) = W2 at *
  obtain ⟨N, hN⟩ : ∃ y, w2.heap.size = y := ⟨_, rfl⟩
  obtain ⟨P, hP⟩ : ∃ y, N + 1 = y := ⟨_, rfl⟩
  rw [hN, hP] at hD
  have HD := Lib.hid (hD.below (Below.refl _ _).drew)
  rw [hN] at hz2 ⊢
  rw [hP]
  have hNe0 : N ≠ w.heap.size := by omega
  have hNe1 : N ≠ w.heap.size + 1 := by omega
  have hNe2 : w.heap.size ≠ N := by omega
  have hNe3 : w.heap.size + 1 ≠ N := by omega
  have hPe0 : P ≠ w.heap.size := by omega
  have hPe1 : P ≠ w.heap.size + 1 := by omega
  have hPe2 : w.heap.size ≠ P := by omega
  have hPe3 : w.heap.size + 1 ≠ P := by omega
  have HNS := Lib.hid (hNS.belowN (Below.refl _ _).drew)
  have nl := hD.bn.lt
  have n0 : W2.cell? ⟨N, 0, none⟩ = some (.slice A1 ns.length c1) := hD.bn.cell 0
  have n1 : W2.cell? ⟨N, 1, none⟩ = some (.slice B1 ps.length d1) := hD.bn.cell 1
  have pl := hD.bp.lt
  have p0 : W2.cell? ⟨P, 0, none⟩ = some (.slice C fs.length cf) := hD.bp.cell 0
  have p1 : W2.cell? ⟨P, 1, none⟩ = some (.slice G ls.length cg) := hD.bp.cell 1
  have hBN : B ≠ N := by omega
  have hBP : B ≠ P := by omega
  have hB0 : w.heap.size + 2 ≤ B := by omega
  clear hD hNS hN hP hz2 hs0 h
  go_region_with (go_at_call 19; refine (indexD_any _ _ _ _ ps.length _ W2.drew HNS.out.2.1 hn (by omega)).mono ?_; rintro e6 w6 ⟨x6, rfl, hI6, k6⟩; have HD6 := Lib.hid (HD.out.grow hv1 hB0 hBN hBP k6.2.2); have xn := HD6.out.bn.lt; have m0 : w6.cell? ⟨N, 0, none⟩ = some (.slice A1 ns.length c1) := HD6.out.bn.cell 0; have m1 : w6.cell? ⟨N, 1, none⟩ = some (.slice B1 ps.length d1) := HD6.out.bn.cell 1; have xp := HD6.out.bp.lt; have o0 : w6.cell? ⟨P, 0, none⟩ = some (.slice C fs.length cf) := HD6.out.bp.cell 0; have o1_ : w6.cell? ⟨P, 1, none⟩ = some (.slice G ls.length cg) := HD6.out.bp.cell 1; have r0 : w6.cell? ⟨w.heap.size, 0, none⟩ = some (.slice none 0 0) := HD6.out.r0.cell 0; have r1 : w6.cell? ⟨w.heap.size, 1, none⟩ = some (.slice none 0 0) := HD6.out.r0.cell 1; have f0 := HD6.out.r0.free 0; have f1 := HD6.out.r0.free 1; have s0 : w6.cell? ⟨w.heap.size + 1, 0, none⟩ = some (.slice none 0 0) := HD6.out.r1.cell 0; have s1 : w6.cell? ⟨w.heap.size + 1, 1, none⟩ = some (.slice none 0 0) := HD6.out.r1.cell 1; have g0 := HD6.out.r1.free 0; have g1 := HD6.out.r1.free 1; have l0 := HD6.out.r0.lt; have l1 := HD6.out.r1.lt; clear k6)
  all_goals
    try go_wp2_with fail
    refine bodyPost_ret (v := .tuple #[.agg #[.slice A1 ns.length c1, .slice B1 ps.length d1], .agg #[.slice C fs.length cf, .slice G ls.length cg], .int .i64 x6]) (by simp [results, Tryz.results5, go_sem, r0, r1, s0, s1]) rfl (HD6.out.ret hk hm hf hg _ _ _ _ _)
end Go.Proofs.YtebefamekjjbcaaGreatDoor
