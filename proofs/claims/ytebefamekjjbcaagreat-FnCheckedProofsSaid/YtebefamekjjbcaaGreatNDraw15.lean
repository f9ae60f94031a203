/- What DrawCheckProof, DrawPipeError do, by walks over their text. Condition: a source over at most 4096 bytes. -/
import Derived.Test.YtebefamekjjbcaaGreatNDraw14
set_option linter.unusedVariables false
set_option maxRecDepth 100000
namespace Go.Proofs.YtebefamekjjbcaaGreat
open Go.ChangeShapes Go.WideShapes Go.ChangeAt Go.RowKit Go.Joins Go.Deep
attribute [local go_sem ↓] Go.wp_at_zero Go.wp_at_succ

/-- A call returns a drawn network, a drawn list and a drawn proof. -/
def RetDNP (w : World) (e : Ending) (w' : World) : Prop :=
  ∃ A1 c1 B1 d1 ns ps A2 c2 ys C cf fs G cg ls, e = .returned (.tuple #[.agg #[.slice A1 ns.length c1, .slice B1 ps.length d1], .slice A2 ys.length c2, .agg #[.slice C fs.length cf, .slice G ls.length cg]]) ∧ OwnNet w' w.heap.size A1 ns.length c1 ns B1 ps.length d1 ps ∧ Own w' w.heap.size A2 ys.length c2 ys ∧ Own w' w.heap.size C fs.length cf fs ∧ Own w' w.heap.size G ls.length cg ls ∧ ns.length ≤ 7 ∧ ps.length ≤ 11 ∧ ys.length ≤ 8 ∧ fs.length ≤ 1000 ∧ ls.length ≤ 1000 ∧ Below w.heap.size w w'
set_option maxHeartbeats 4000000 in
theorem drawCP_any (A : Option Addr) (n c : Nat) (zs : List Int) (w : World) (h : Byts w A n zs) (hn : n ≤ 4096) :
    Calls Tryz.prog 14 #[.slice A n c] w (RetDNP w) := by
  have bR := (box_new w #[.slice none 0 0, .slice none 0 0] 27).alloc (.cells #[.slice none 0 0, .slice none 0 0] 39)
  have bP := box_at (w.alloc (.cells #[.slice none 0 0, .slice none 0 0] 27)) #[.slice none 0 0, .slice none 0 0] 39 (g := w.heap.size + 1) (by simp)
  have hw0 : Below w.heap.size w ((w.alloc (.cells #[.slice none 0 0, .slice none 0 0] 27)).alloc (.cells #[.slice none 0 0, .slice none 0 0] 39)) := ((Below.refl _ _).alloc (Nat.le_refl _) _).alloc (by simp) _
  have hs0 : w.heap.size + 2 ≤ ((w.alloc (.cells #[.slice none 0 0, .slice none 0 0] 27)).alloc (.cells #[.slice none 0 0, .slice none 0 0] 39)).heap.size := by simp
  have hy0 := h.below hw0
  go_enter Tryz.func14, Tryz.ntmps14
  go_wp2_with fail
  generalize ((w.alloc (.cells #[.slice none 0 0, .slice none 0 0] 27)).alloc (.cells #[.slice none 0 0, .slice none 0 0] 39)) = V at *
  refine (from_any _ _ _ _ _ hy0 hn).mono ?_
  rintro e w1 ⟨rfl, hs1, hb1⟩
  have hw1 := bthen hw0 hb1 hw0.size
  have bR1 := bR.belowA hb1
  have bP1 := bP.belowA hb1
  have hv1 := hs1.lt
  clear hy0 hb1 bR bP
  go_wp2_with fail
  refine (draw12_any _ _ _ _ _ _ hs1 hn).mono ?_
  rintro e w2 ⟨A1, c1, B1, d1, ns, ps, A2, c2, ys, C, cf, fs, G, cg, ls, rfl, oN, oY, oF, oL, hk, hm, hl, hf, hg, hd2⟩
  have hw2 := hw1.grown hd2.2.2 (by omega) (fun k hk => by injection hk with hk; omega)
  have bR2 := bR1.grown hd2.2.2 (fun hh => by injection hh with hh; omega)
  have bP2 := bP1.grown hd2.2.2 (fun hh => by injection hh with hh; omega)
  have xl := bR2.lt
  have x0 : w2.cell? ⟨w.heap.size, 0, none⟩ = some (.slice none 0 0) := bR2.cell 0
  have x1 : w2.cell? ⟨w.heap.size, 1, none⟩ = some (.slice none 0 0) := bR2.cell 1
  have f0 := bR2.free 0
  have f1 := bR2.free 1
  have yl := bP2.lt
  have y0 : w2.cell? ⟨w.heap.size + 1, 0, none⟩ = some (.slice none 0 0) := bP2.cell 0
  have y1 : w2.cell? ⟨w.heap.size + 1, 1, none⟩ = some (.slice none 0 0) := bP2.cell 1
  have g0 := bP2.free 0
  have g1 := bP2.free 1
  have HN := Lib.hid oN
  have HY := Lib.hid oY
  have HF := Lib.hid oF
  have HL := Lib.hid oL
  have HW := Lib.hid hw2
  clear hw1 hd2 bR1 bP1 hs1 bR2 bP2 oN oY oF oL hw2 hw0
  go_wp2_with fail
  refine bodyPost_ret (v := .tuple #[.agg #[.slice A1 ns.length c1, .slice B1 ps.length d1], .slice A2 ys.length c2, .agg #[.slice C fs.length cf, .slice G ls.length cg]]) (by simp [results, Tryz.results14, go_sem, *]) rfl ?_
  refine ⟨A1, c1, B1, d1, ns, ps, A2, c2, ys, C, cf, fs, G, cg, ls, rfl, ?_, ?_, ?_, ?_, hk, hm, hl, hf, hg, ?_⟩
  · exact ((((HN.out.low (by simp; omega) _).low (by simp; omega) _).low (by simp; omega) _).low (by simp; omega) _).mono (by omega)
  · exact ((((HY.out.low (by simp; omega) _).low (by simp; omega) _).low (by simp; omega) _).low (by simp; omega) _).mono (by omega)
  · exact ((((HF.out.low (by simp; omega) _).low (by simp; omega) _).low (by simp; omega) _).low (by simp; omega) _).mono (by omega)
  · exact ((((HL.out.low (by simp; omega) _).low (by simp; omega) _).low (by simp; omega) _).low (by simp; omega) _).mono (by omega)
  · exact (((HW.out.setCell (p := ⟨w.heap.size, 0, none⟩) (Nat.le_refl _) _).setCell (p := ⟨w.heap.size, 1, none⟩) (Nat.le_refl _) _).setCell (p := ⟨w.heap.size + 1, 0, none⟩) (Nat.le_succ _) _).setCell (p := ⟨w.heap.size + 1, 1, none⟩) (Nat.le_succ _) _
end Go.Proofs.YtebefamekjjbcaaGreat
