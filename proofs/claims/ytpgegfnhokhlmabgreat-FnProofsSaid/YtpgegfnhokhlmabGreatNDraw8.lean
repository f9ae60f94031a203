/- What DrawSolveLoops, l07DrawLevel, DrawMakeProof do, by walks over their text. Condition: a source over at most 4096 bytes. -/
import Derived.Test.YtpgegfnhokhlmabGreatNDraw7
set_option linter.unusedVariables false
set_option maxRecDepth 100000
namespace Go.Proofs.YtpgegfnhokhlmabGreat
open Go.ChangeShapes Go.WideShapes Go.ChangeAt Go.RowKit Go.Joins Go.Deep
attribute [local go_sem ↓] Go.wp_at_zero Go.wp_at_succ

/-- A call returns a drawn network and a drawn list. -/
def RetDN2 (w : World) (e : Ending) (w' : World) : Prop :=
  ∃ A1 c1 B1 d1 ns ps A2 c2 ys, e = .returned (.tuple #[.agg #[.slice A1 ns.length c1, .slice B1 ps.length d1], .slice A2 ys.length c2]) ∧ OwnNet w' w.heap.size A1 ns.length c1 ns B1 ps.length d1 ps ∧ Own w' w.heap.size A2 ys.length c2 ys ∧ Sml ys ∧ ns.length ≤ 7 ∧ ps.length ≤ 11 ∧ ys.length ≤ 8 ∧ Below w.heap.size w w'
set_option maxHeartbeats 4000000 in
theorem drawSL_any (A : Option Addr) (n c : Nat) (zs : List Int) (w : World) (h : Byts w A n zs) (hn : n ≤ 4096) :
    Calls Tryz.prog 16 #[.slice A n c] w (RetDN2 w) := by
  have bR := box_new w #[.slice none 0 0, .slice none 0 0] 33
  have hw0 : Below w.heap.size w (w.alloc (.cells #[.slice none 0 0, .slice none 0 0] 33)) := (Below.refl _ _).alloc (Nat.le_refl _) _
  have hs0 : w.heap.size + 1 ≤ (w.alloc (.cells #[.slice none 0 0, .slice none 0 0] 33)).heap.size := by simp
  have hy0 := h.below hw0
  go_enter Tryz.func16, Tryz.ntmps16
  go_wp2_with fail
  generalize (w.alloc (.cells #[.slice none 0 0, .slice none 0 0] 33)) = V at *
  refine (from_any _ _ _ _ _ hy0 hn).mono ?_
  rintro e w1 ⟨rfl, hs1, hb1⟩
  have hw1 := bthen hw0 hb1 hw0.size
  have bR1 := bR.belowA hb1
  have hv1 := hs1.lt
  clear hy0 hb1 bR
  go_wp2_with fail
  refine (draw6_any _ _ _ _ _ _ hs1 hn).mono ?_
  rintro e w2 ⟨A1, c1, B1, d1, ns, ps, A2, c2, ys, rfl, oN, oY, hSm, hk, hm, hl, hd2⟩
  have hw2 := hw1.grown hd2.2.2 (by omega) (fun k hk => by injection hk with hk; omega)
  have bR2 := bR1.grown hd2.2.2 (fun hh => by injection hh with hh; omega)
  have xl := bR2.lt
  have x0 : w2.cell? ⟨w.heap.size, 0, none⟩ = some (.slice none 0 0) := bR2.cell 0
  have x1 : w2.cell? ⟨w.heap.size, 1, none⟩ = some (.slice none 0 0) := bR2.cell 1
  have f0 := bR2.free 0
  have f1 := bR2.free 1
  have HN := Lib.hid oN
  have HY := Lib.hid oY
  have HW := Lib.hid hw2
  have HS := Lib.hid hSm
  clear hw1 hd2 bR1 hs1 bR2 oN oY hw2 hSm hw0
  go_wp2_with fail
  refine bodyPost_ret (v := .tuple #[.agg #[.slice A1 ns.length c1, .slice B1 ps.length d1], .slice A2 ys.length c2]) (by simp [results, Tryz.results16, go_sem, x0, x1]) rfl ?_
  exact ⟨A1, c1, B1, d1, ns, ps, A2, c2, ys, rfl, ((HN.out.low (by simp; omega) _).low (by simp; omega) _).mono (by omega), ((HY.out.low (by simp; omega) _).low (by simp; omega) _).mono (by omega), HS.out, hk, hm, hl, (HW.out.setCell (p := ⟨w.heap.size, 0, none⟩) (Nat.le_refl _) _).setCell (p := ⟨w.heap.size, 1, none⟩) (Nat.le_refl _) _⟩
set_option maxHeartbeats 4000000 in
theorem levelD_any (B : Nat) (A : Option Addr) (n c : Nat) (zs : List Int) (w : World) (h : Src w B A n c zs) (hn : n ≤ 4096) :
    Calls Tryz.prog 88 #[.pointer (some ⟨B, 0, none⟩)] w fun e w' => ∃ x, e = .returned (.int .i64 x) ∧ I64 x ∧ NS w w' B A n c zs := by
  have hlt := h.lt
  have hS := NS.start h
  go_enter Tryz.func88, Tryz.ntmps88
  go_wp2_with fail
  refine (next_any _ _ _ _ _ _ _ h hn (by omega) (by omega)).mono ?_
  rintro e w1 ⟨x, hx0, hx1, rfl, hs1, hg1⟩
  have hS1 := hS.next hs1 hg1
  clear hS hs1 hg1
  by_cases hx : x = 0
  · subst hx
    have hz1 := hS1.size
    go_wp2_with fail
    refine (next_any _ _ _ _ _ _ _ (hS1.alloc _).2.1 hn (by omega) (by omega)).mono ?_
    rintro e w2 ⟨y, hy0, hy1, rfl, hs2, hg2⟩
    have hS2 := (hS1.alloc _).next hs2 hg2
    obtain ⟨v, hv, hpc, hpl⟩ := pickA [500000000000000000, 500000000000000001, -500000000000000000] hg2 (by omega) hy0 (by simpa using hy1) (by decide)
    have hvb : -500000000000000001 ≤ v ∧ v ≤ 500000000000000001 := by simp at hv; omega
    have hyl : y < 3 := by omega
    have HS := Lib.hid hS2
    have HI := Lib.hid (show I64 v from WalkArith.wf_i64 (by omega))
    clear hS1 hS2 hs2 hg2 hv hvb
    go_wp2_with fail
    go_ret
    exact ⟨v, rfl, HI.out, HS.out⟩
  · have e0 : (x == 0) = false := by simpa using hx
    go_wp2_with fail
    refine (next_any _ _ _ _ _ _ _ hS1.2.1 hn (by omega) (by omega)).mono ?_
    rintro e w2 ⟨y, hy0, hy1, rfl, hs2, hg2⟩
    have HS := Lib.hid (hS1.next hs2 hg2)
    have HI := Lib.hid (show I64 y from WalkArith.wf_i64 (by omega))
    clear hS1 hs2 hg2
    go_wp2_with fail
    go_ret
    exact ⟨y, rfl, HI.out, HS.out⟩
/-- A call returns a drawn network, a drawn list and a number. -/
def RetDN2x (w : World) (e : Ending) (w' : World) : Prop :=
  ∃ A1 c1 B1 d1 ns ps A2 c2 ys x, e = .returned (.tuple #[.agg #[.slice A1 ns.length c1, .slice B1 ps.length d1], .slice A2 ys.length c2, .int .i64 x]) ∧ OwnNet w' w.heap.size A1 ns.length c1 ns B1 ps.length d1 ps ∧ Own w' w.heap.size A2 ys.length c2 ys ∧ Sml ys ∧ I64 x ∧ ns.length ≤ 7 ∧ ps.length ≤ 11 ∧ ys.length ≤ 8 ∧ Below w.heap.size w w'
set_option maxHeartbeats 4000000 in
theorem drawMP_any (A : Option Addr) (n c : Nat) (zs : List Int) (w : World) (h : Byts w A n zs) (hn : n ≤ 4096) :
    Calls Tryz.prog 32 #[.slice A n c] w (RetDN2x w) := by
  have bR := box_new w #[.slice none 0 0, .slice none 0 0] 33
  have hw0 : Below w.heap.size w (w.alloc (.cells #[.slice none 0 0, .slice none 0 0] 33)) := (Below.refl _ _).alloc (Nat.le_refl _) _
  have hs0 : w.heap.size + 1 ≤ (w.alloc (.cells #[.slice none 0 0, .slice none 0 0] 33)).heap.size := by simp
  have hy0 := h.below hw0
  go_enter Tryz.func32, Tryz.ntmps32
  go_wp2_with fail
  generalize (w.alloc (.cells #[.slice none 0 0, .slice none 0 0] 33)) = V at *
  refine (from_any _ _ _ _ _ hy0 hn).mono ?_
  rintro e w1 ⟨rfl, hs1, hb1⟩
  have hw1 := bthen hw0 hb1 hw0.size
  have bR1 := bR.belowA hb1
  have hv1 := hs1.lt
  clear hy0 hb1 bR
  go_wp2_with fail
  refine (draw6_any _ _ _ _ _ _ hs1 hn).mono ?_
  rintro e w2 ⟨A1, c1, B1, d1, ns, ps, A2, c2, ys, rfl, oN, oY, hSm, hk, hm, hl, hd2⟩
  have hw2 := hw1.grown hd2.2.2 (by omega) (fun k hk => by injection hk with hk; omega)
  have bR2 := bR1.grown hd2.2.2 (fun hh => by injection hh with hh; omega)
  have hz2 := hd2.size
  have HS := Lib.hid hSm
  have hb3 : Below w2.heap.size w2 (w2.alloc (.cells #[.slice A1 ns.length c1, .slice B1 ps.length d1] 33)) := (Below.refl _ _).alloc (Nat.le_refl _) _
  have bN3 := box_new w2 #[.slice A1 ns.length c1, .slice B1 ps.length d1] 33
  have hw3 := bthen hw2 hb3 hw2.size
  have bR3 := bR2.belowA hb3
  have oN3 := oN.below hb3
  have oY3 := oY.below hb3
  have hs3 := hd2.2.1.alloc (.cells #[.slice A1 ns.length c1, .slice B1 ps.length d1] 33)
  clear hw1 hd2 bR1 hs1 bR2 oN oY hw2 hSm hw0 hb3
  go_upto_region 3 with fail
  generalize (w2.alloc (.cells #[.slice A1 ns.length c1, .slice B1 ps.length d1] 33)) = W3 at *
  have xl := bR3.lt
  have x0 : W3.cell? ⟨w.heap.size, 0, none⟩ = some (.slice none 0 0) := bR3.cell 0
  have x1 : W3.cell? ⟨w.heap.size, 1, none⟩ = some (.slice none 0 0) := bR3.cell 1
  have f0 := bR3.free 0
  have f1 := bR3.free 1
  have yl := bN3.lt
  have y0 : W3.cell? ⟨w2.heap.size, 0, none⟩ = some (.slice A1 ns.length c1) := bN3.cell 0
  have y1 : W3.cell? ⟨w2.heap.size, 1, none⟩ = some (.slice B1 ps.length d1) := bN3.cell 1
  have HN := Lib.hid oN3
  have HY := Lib.hid oY3
  have HW := Lib.hid hw3
  have HR := Lib.hid bR3
  have HBN := Lib.hid bN3
  have hBz : V.heap.size < W3.heap.size := hs3.lt
  have HSr := Lib.hid hs3
  have zW : W3.drew.heap.size = W3.heap.size := rfl
  clear oN3 oY3 hw3 bR3 bN3 hs3
  have hsd : Src W3.drew V.heap.size A n c zs := HSr.out.belowN ((Below.refl W3.heap.size W3).drew) hBz HSr.out.at_lt
  have HSD := Lib.hid hsd
  have HV := Lib.hid hv1
  clear hsd
  go_region_with (go_at_call 88; refine (levelD_any V.heap.size A n c zs W3.drew HSD.out hn).mono ?_; rintro e4 w4 ⟨x, rfl, hIx, k4⟩; have HK := Lib.hid k4; have bR4 := (HR.out.drew).grown k4.2.2 (fun hh => by injection hh with hh; omega); have xl4 := bR4.lt; have v0 : w4.cell? ⟨w.heap.size, 0, none⟩ = some (.slice none 0 0) := bR4.cell 0; have v1 : w4.cell? ⟨w.heap.size, 1, none⟩ = some (.slice none 0 0) := bR4.cell 1; have g0 := bR4.free 0; have g1 := bR4.free 1; have bN4 := (HBN.out.drew).grown k4.2.2 (fun hh => by injection hh with hh; omega); have yl4 := bN4.lt; have v2 : w4.cell? ⟨w2.heap.size, 0, none⟩ = some (.slice A1 ns.length c1) := bN4.cell 0; have v3 : w4.cell? ⟨w2.heap.size, 1, none⟩ = some (.slice B1 ps.length d1) := bN4.cell 1; clear bR4 bN4 k4)
  all_goals
    try go_wp2_with fail
    refine bodyPost_ret (v := .tuple #[.agg #[.slice A1 ns.length c1, .slice B1 ps.length d1], .slice A2 ys.length c2, .int .i64 x]) (by simp [results, Tryz.results32, go_sem, v0, v1]) rfl ?_
    have hg := HK.out.2.2
    have oN4 := (HN.out.below ((Below.refl W3.heap.size W3).drew)).src HV.out hg
    have oY4 := (HY.out.below ((Below.refl W3.heap.size W3).drew)).src HV.out hg
    have hw4 := (HW.out.drew).grown hg (by simp; omega) (fun k hk => by injection hk with hk; omega)
    exact ⟨A1, c1, B1, d1, ns, ps, A2, c2, ys, x, rfl, ((oN4.low (by simp; omega) _).low (by simp; omega) _).mono (by omega), ((oY4.low (by simp; omega) _).low (by simp; omega) _).mono (by omega), HS.out, hIx, hk, hm, hl, (hw4.setCell (p := ⟨w.heap.size, 0, none⟩) (Nat.le_refl _) _).setCell (p := ⟨w.heap.size, 1, none⟩) (Nat.le_refl _) _⟩
end Go.Proofs.YtpgegfnhokhlmabGreat
