/- What IsBalanced (where all stands), SuppliesOf, RelaxFlows (from the greatest step) of the program do, by walks over their text. Conditions: lengths of at most 1048576. -/
import Derived.Test.YtebefamekjjbcaaGreatKV
import Derived.Test.YtebefamekjjbcaaGreatChk0
set_option linter.unusedVariables false
set_option maxRecDepth 100000
namespace Go.Proofs.YtebefamekjjbcaaGreat
open Go.ChangeShapes Go.WideShapes Go.ChangeAt Go.RowKit Go.Joins Go.Deep
attribute [local go_sem ↓] Go.wp_at_zero Go.wp_at_succ


set_option maxHeartbeats 4000000 in
theorem balanced_any (A B C D : Option Addr) (n c m d e f : Nat) (ns : List Nd) (ps : List Pp) (fs zs : List Int) (w : World) (h : IsNet w A n c ns B m d ps) (hok : NetOk ns ps) (hf : Ints w C fs.length fs) (hz : Ints w D zs.length zs) (h1 : flB m fs = true) (h2 : flB n zs = true) (h3 : outF (esOf ps) n fs = zs) :
    Calls Tryz.prog 18 #[.agg #[.slice A n c, .slice B m d], .slice C fs.length e, .slice D zs.length f] w fun e w' => e = .returned (.bool true) ∧ Below w.heap.size w w' := by
  have bx := box_new w #[.slice A n c, .slice B m d] 27
  have hV : Below w.heap.size w (w.alloc (.cells #[.slice A n c, .slice B m d] 27)) := (Below.refl _ _).alloc (Nat.le_refl _) _
  have HOK := Lib.hid hok
  have H1 := Lib.hid h1
  have H2 := Lib.hid h2
  have H3 := Lib.hid h3
  have hpm : ps.length = m := h.pipes.len
  have hnm : ns.length = n := h.nodes.len
  have hf20 : fs.length ≤ 1048576 := by have := flB_len h1; have := hok.2.2.1; omega
  have hz20 : zs.length ≤ 1048576 := by have := flB_len h2; have := hok.2.1; omega
  have HOL := Lib.hid ((outF_len (esOf ps) n fs).trans (flB_len h2).symm)
  clear hok h1 h2 h3 hpm hnm
  go_enter Tryz.func18, Tryz.ntmps18
  go_upto_region 1 with fail
  generalize (w.alloc (.cells #[.slice A n c, .slice B m d] 27)) = V at *
  have xl := bx.lt
  have x0 : V.cell? ⟨w.heap.size, 0, none⟩ = some (.slice A n c) := bx.cell 0
  have x1 : V.cell? ⟨w.heap.size, 1, none⟩ = some (.slice B m d) := bx.cell 1
  go_wp2_with fail
  refine (isNetw_any _ _ _ _ _ _ ns ps _ (h.below hV)).mono ?_
  rintro e1 w1 ⟨b, hb, rfl, hb1⟩
  obtain rfl : b = true := hb.2 HOK.out
  clear hb
  have hW1 := bthen hV hb1 hV.size
  have bx1 := bx.belowA hb1
  clear xl x0 x1
  have xl := bx1.lt
  have x0 : w1.cell? ⟨w.heap.size, 0, none⟩ = some (.slice A n c) := bx1.cell 0
  have x1 : w1.cell? ⟨w.heap.size, 1, none⟩ = some (.slice B m d) := bx1.cell 1
  go_wp2_with fail
  refine (isFlow_any _ _ _ _ _ _ _ _ _ fs _ (hf.below hW1) hf20).mono ?_
  rw [H1.out]
  rintro e2 w2 ⟨rfl, hb2⟩
  have hW2 := bthen hW1 hb2 hW1.size
  have bx2 := bx1.belowA hb2
  clear xl x0 x1
  have xl := bx2.lt
  have x0 : w2.cell? ⟨w.heap.size, 0, none⟩ = some (.slice A n c) := bx2.cell 0
  have x1 : w2.cell? ⟨w.heap.size, 1, none⟩ = some (.slice B m d) := bx2.cell 1
  go_wp2_with fail
  refine (areSup_any _ _ _ _ _ _ _ _ _ zs _ (hz.below hW2) hz20).mono ?_
  rw [H2.out]
  rintro e3 w3 ⟨rfl, hb3⟩
  have hW3 := bthen hW2 hb3 hW2.size
  have bx3 := bx2.belowA hb3
  clear xl x0 x1
  have xl := bx3.lt
  have x0 : w3.cell? ⟨w.heap.size, 0, none⟩ = some (.slice A n c) := bx3.cell 0
  have x1 : w3.cell? ⟨w.heap.size, 1, none⟩ = some (.slice B m d) := bx3.cell 1
  go_wp2_with fail
  refine (outflows_any _ _ _ _ _ _ _ _ _ ns ps fs _ (h.below hW3) HOK.out (hf.below hW3) H1.out).mono ?_
  rintro e4 w4 ⟨A4, c4, rfl, o4, hb4⟩
  have hW4 := bthen hW3 hb4 hW3.size
  have bx4 := bx3.belowA hb4
  clear xl x0 x1
  have xl := bx4.lt
  have x0 : w4.cell? ⟨w.heap.size, 0, none⟩ = some (.slice A n c) := bx4.cell 0
  have x1 : w4.cell? ⟨w.heap.size, 1, none⟩ = some (.slice B m d) := bx4.cell 1
  go_wp2_with fail
  refine (slEqB_any _ _ _ _ _ _ (outF (esOf ps) n fs) zs _ o4.ints (hz.below hW4) (by rw [HOL.out]; exact hz20)).mono ?_
  rw [decide_eq_true H3.out]
  rintro e5 w5 ⟨rfl, hb5⟩
  go_wp2_with fail
  go_ret
  exact ⟨rfl, bthen hW4 hb5 hW4.size⟩
/-- What SuppliesOf returns. -/
noncomputable def supC (ns : List Nd) (ps : List Pp) (n m : Nat) (fs : List Int) : Int := if codeF ns ps m fs = 0 then (if flB n (outF (esOf ps) n fs) = true then 0 else 2) else codeF ns ps m fs
noncomputable def supL (ns : List Nd) (ps : List Pp) (n m : Nat) (fs : List Int) : List Int := if supC ns ps n m fs = 0 then outF (esOf ps) n fs else []
set_option maxHeartbeats 4000000 in
theorem supOf_any (A B C : Option Addr) (n c m d l e : Nat) (ns : List Nd) (ps : List Pp) (fs : List Int) (w : World) (h : IsNet w A n c ns B m d ps) (hf : Ints w C l fs) (hl : l ≤ 1048576) :
    Calls Tryz.prog 17 #[.agg #[.slice A n c, .slice B m d], .slice C l e] w (RetI2 w (supL ns ps n m fs) (supC ns ps n m fs)) := by
  have bx := box_new w #[.slice A n c, .slice B m d] 27
  have hV : Below w.heap.size w (w.alloc (.cells #[.slice A n c, .slice B m d] 27)) := (Below.refl _ _).alloc (Nat.le_refl _) _
  rcases codeF_in ns ps m fs with ⟨hc, hok, hfb⟩ | hc | hc
  rotate_left
  all_goals try
    have k1 : supC ns ps n m fs = codeF ns ps m fs := by unfold supC; rw [if_neg (by omega)]
    have H1 := Lib.hid (k1.trans hc)
    have H2 := Lib.hid (show supL ns ps n m fs = [] by unfold supL; rw [if_neg (by omega)])
    have HC := Lib.hid hc
    clear k1 hc
    go_enter Tryz.func17, Tryz.ntmps17
    go_upto_region 1 with fail
    generalize (w.alloc (.cells #[.slice A n c, .slice B m d] 27)) = V at *
    have xl := bx.lt
    have x0 : V.cell? ⟨w.heap.size, 0, none⟩ = some (.slice A n c) := bx.cell 0
    have x1 : V.cell? ⟨w.heap.size, 1, none⟩ = some (.slice B m d) := bx.cell 1
    go_wp2_with (go_at_call 52; refine (codeF_any _ _ _ _ _ _ _ _ _ ns ps fs _ (h.below hV) (hf.below hV) hl).mono ?_; rw [HC.out]; rintro e1 w1 ⟨rfl, hb1⟩)
    go_ret2
    exact retI2_nil H2.out H1.out (bthen hV hb1 hV.size)
  have HC := Lib.hid hc
  have HOK := Lib.hid hok
  have HFB := Lib.hid hfb
  have hnm : ns.length = n := h.nodes.len
  have hn20 : n ≤ 1048576 := by have := hok.2.1; omega
  have HOL := Lib.hid (outF_len (esOf ps) n fs)
  have HE := Lib.hid (show flB n (outF (esOf ps) n fs) = allB (outF (esOf ps) n fs) (-30000) 30000 by unfold flB; rw [outF_len, decide_eq_true rfl, Bool.true_and])
  clear hok hfb hnm
  cases hb : flB n (outF (esOf ps) n fs)
  · have HB := Lib.hid (HE.out.symm.trans hb)
    have k1 : supC ns ps n m fs = 2 := by unfold supC; rw [if_pos hc, if_neg (by rw [hb]; simp)]
    have H1 := Lib.hid k1
    have H2 := Lib.hid (show supL ns ps n m fs = [] by unfold supL; rw [if_neg (by omega)])
    clear k1 hc hb
    go_enter Tryz.func17, Tryz.ntmps17
    go_upto_region 1 with fail
    generalize (w.alloc (.cells #[.slice A n c, .slice B m d] 27)) = V at *
    have xl := bx.lt
    have x0 : V.cell? ⟨w.heap.size, 0, none⟩ = some (.slice A n c) := bx.cell 0
    have x1 : V.cell? ⟨w.heap.size, 1, none⟩ = some (.slice B m d) := bx.cell 1
    go_wp2_with fail
    refine (codeF_any _ _ _ _ _ _ _ _ _ ns ps fs _ (h.below hV) (hf.below hV) hl).mono ?_
    rw [HC.out]
    rintro e1 w1 ⟨rfl, hb1⟩
    have hW1 := bthen hV hb1 hV.size
    have bx1 := bx.belowA hb1
    clear xl x0 x1
    have xl := bx1.lt
    have x0 : w1.cell? ⟨w.heap.size, 0, none⟩ = some (.slice A n c) := bx1.cell 0
    have x1 : w1.cell? ⟨w.heap.size, 1, none⟩ = some (.slice B m d) := bx1.cell 1
    go_wp2_with fail
    refine (outflows_any _ _ _ _ _ _ _ _ _ ns ps fs _ (h.below hW1) HOK.out (hf.below hW1) HFB.out).mono ?_
    skip
    rintro e4 w4 ⟨A4, c4, rfl, o4, hb4⟩
    rw [HOL.out] at o4 ⊢
    have hW4 := bthen hW1 hb4 hW1.size
    have hs1 := hW1.size
    go_wp2_with (go_at_call 33; refine (allWithin_any _ _ _ _ _ _ _ o4.ints hn20).mono ?_; rw [HB.out]; rintro e5 w5 ⟨rfl, rfl⟩)
    go_ret2
    exact retI2_nil H2.out H1.out hW4
  · have HB := Lib.hid (HE.out.symm.trans hb)
    have k1 : supC ns ps n m fs = 0 := by unfold supC; rw [if_pos hc, if_pos hb]
    have H1 := Lib.hid k1
    have H2 := Lib.hid (show supL ns ps n m fs = outF (esOf ps) n fs by unfold supL; rw [if_pos k1])
    clear k1 hc hb
    go_enter Tryz.func17, Tryz.ntmps17
    go_upto_region 1 with fail
    generalize (w.alloc (.cells #[.slice A n c, .slice B m d] 27)) = V at *
    have xl := bx.lt
    have x0 : V.cell? ⟨w.heap.size, 0, none⟩ = some (.slice A n c) := bx.cell 0
    have x1 : V.cell? ⟨w.heap.size, 1, none⟩ = some (.slice B m d) := bx.cell 1
    go_wp2_with fail
    refine (codeF_any _ _ _ _ _ _ _ _ _ ns ps fs _ (h.below hV) (hf.below hV) hl).mono ?_
    rw [HC.out]
    rintro e1 w1 ⟨rfl, hb1⟩
    have hW1 := bthen hV hb1 hV.size
    have bx1 := bx.belowA hb1
    clear xl x0 x1
    have xl := bx1.lt
    have x0 : w1.cell? ⟨w.heap.size, 0, none⟩ = some (.slice A n c) := bx1.cell 0
    have x1 : w1.cell? ⟨w.heap.size, 1, none⟩ = some (.slice B m d) := bx1.cell 1
    go_wp2_with fail
    refine (outflows_any _ _ _ _ _ _ _ _ _ ns ps fs _ (h.below hW1) HOK.out (hf.below hW1) HFB.out).mono ?_
    skip
    rintro e4 w4 ⟨A4, c4, rfl, o4, hb4⟩
    rw [HOL.out] at o4 ⊢
    have hW4 := bthen hW1 hb4 hW1.size
    have hs1 := hW1.size
    go_wp2_with (go_at_call 33; refine (allWithin_any _ _ _ _ _ _ _ o4.ints hn20).mono ?_; rw [HB.out]; rintro e5 w5 ⟨rfl, rfl⟩)
    go_ret2
    exact retI2_of HOL.out H2.out H1.out (o4.mono hs1) hW4
end Go.Proofs.YtebefamekjjbcaaGreat
