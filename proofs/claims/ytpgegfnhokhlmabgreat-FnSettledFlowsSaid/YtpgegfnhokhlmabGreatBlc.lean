/- What IsBalanced (where all stands), SuppliesOf, RelaxFlows (from the greatest step) of the program do, by walks over their text. Conditions: lengths of at most 1048576. -/
import Derived.Test.YtpgegfnhokhlmabGreatKV
import Derived.Test.YtpgegfnhokhlmabGreatChk0
set_option linter.unusedVariables false
set_option maxRecDepth 100000
namespace Go.Proofs.YtpgegfnhokhlmabGreat
open Go.ChangeShapes Go.WideShapes Go.ChangeAt Go.RowKit Go.Joins Go.Deep
attribute [local go_sem ↓] Go.wp_at_zero Go.wp_at_succ


set_option maxHeartbeats 4000000 in
theorem balanced_any (A B C D : Option Addr) (n c m d e f : Nat) (ns : List Nd) (ps : List Pp) (fs zs : List Int) (w : World) (h : IsNet w A n c ns B m d ps) (hok : NetOk ns ps) (hf : Ints w C fs.length fs) (hz : Ints w D zs.length zs) (h1 : flB m fs = true) (h2 : flB n zs = true) (h3 : outF (esOf ps) n fs = zs) :
    Calls Tryz.prog 24 #[.agg #[.slice A n c, .slice B m d], .slice C fs.length e, .slice D zs.length f] w fun e w' => e = .returned (.bool true) ∧ Below w.heap.size w w' := by
  have bx := box_new w #[.slice A n c, .slice B m d] 33
  have hV : Below w.heap.size w (w.alloc (.cells #[.slice A n c, .slice B m d] 33)) := (Below.refl _ _).alloc (Nat.le_refl _) _
  have HOK := Lib.hid hok
  have H1 := Lib.hid h1
  have H2 := Lib.hid h2
  have H3 := Lib.hid h3
  have hpm : ps.length = m := h.pipes.len
  have hnm : ns.length = n := h.nodes.len
  have hf20 : fs.length ≤ 1048576 := by have := flB_len h1; have := hok.2.2.1; omega
  have hz20 : zs.length ≤ 1048576 := by have := flB_len h2; have := hok.2.1; omega
  have HOL := Lib.hid ((outF_len (esOf ps) n fs).trans (flB_len h2).symm)
  clear hok h1 h2 h3 hpm hnm
  go_enter Tryz.func24, Tryz.ntmps24
  go_upto_region 1 with fail
  generalize (w.alloc (.cells #[.slice A n c, .slice B m d] 33)) = V at *
  have xl := bx.lt
  have x0 : V.cell? ⟨w.heap.size, 0, none⟩ = some (.slice A n c) := bx.cell 0
  have x1 : V.cell? ⟨w.heap.size, 1, none⟩ = some (.slice B m d) := bx.cell 1
  go_wp2_with fail
  refine (isNetw_any _ _ _ _ _ _ ns ps _ (h.below hV)).mono ?_
  rintro e1 w1 ⟨b, hb, rfl, hb1⟩
  obtain rfl : b = true := hb.2 HOK.out
  clear hb
  have hW1 := bthen hV hb1 hV.size
  have bx1 := bx.belowA hb1
  clear xl x0 x1
  have xl := bx1.lt
  have x0 : w1.cell? ⟨w.heap.size, 0, none⟩ = some (.slice A n c) := bx1.cell 0
  have x1 : w1.cell? ⟨w.heap.size, 1, none⟩ = some (.slice B m d) := bx1.cell 1
  go_wp2_with fail
  refine (isFlow_any _ _ _ _ _ _ _ _ _ fs _ (hf.below hW1) hf20).mono ?_
  rw [H1.out]
  rintro e2 w2 ⟨rfl, hb2⟩
  have hW2 := bthen hW1 hb2 hW1.size
  have bx2 := bx1.belowA hb2
  clear xl x0 x1
  have xl := bx2.lt
  have x0 : w2.cell? ⟨w.heap.size, 0, none⟩ = some (.slice A n c) := bx2.cell 0
  have x1 : w2.cell? ⟨w.heap.size, 1, none⟩ = some (.slice B m d) := bx2.cell 1
  go_wp2_with fail
  refine (areSup_any _ _ _ _ _ _ _ _ _ zs _ (hz.below hW2) hz20).mono ?_
  rw [H2.out]
  rintro e3 w3 ⟨rfl, hb3⟩
  have hW3 := bthen hW2 hb3 hW2.size
  have bx3 := bx2.belowA hb3
  clear xl x0 x1
  have xl := bx3.lt
  have x0 : w3.cell? ⟨w.heap.size, 0, none⟩ = some (.slice A n c) := bx3.cell 0
  have x1 : w3.cell? ⟨w.heap.size, 1, none⟩ = some (.slice B m d) := bx3.cell 1
  go_wp2_with fail
  refine (outflows_any _ _ _ _ _ _ _ _ _ ns ps fs _ (h.below hW3) HOK.out (hf.below hW3) H1.out).mono ?_
  rintro e4 w4 ⟨A4, c4, rfl, o4, hb4⟩
  have hW4 := bthen hW3 hb4 hW3.size
  have bx4 := bx3.belowA hb4
  clear xl x0 x1
  have xl := bx4.lt
  have x0 : w4.cell? ⟨w.heap.size, 0, none⟩ = some (.slice A n c) := bx4.cell 0
  have x1 : w4.cell? ⟨w.heap.size, 1, none⟩ = some (.slice B m d) := bx4.cell 1
  go_wp2_with fail
  refine (slEqB_any _ _ _ _ _ _ (outF (esOf ps) n fs) zs _ o4.ints (hz.below hW4) (by rw [HOL.out]; exact hz20)).mono ?_
  rw [decide_eq_true H3.out]
  rintro e5 w5 ⟨rfl, hb5⟩
  go_wp2_with fail
  go_ret
  exact ⟨rfl, bthen hW4 hb5 hW4.size⟩
set_option maxHeartbeats 4000000 in
theorem relaxF_any (A B C : Option Addr) (n c m d e : Nat) (ns : List Nd) (ps : List Pp) (fs : List Int) (w : World) (h : IsNet w A n c ns B m d ps) (hok : NetOk ns ps) (hf : Ints w C m fs) (hfr : inR fs = true) :
    Calls Tryz.prog 23 #[.agg #[.slice A n c, .slice B m d], .slice C m e, .int .i64 32768] w fun e w' => ∃ A' c', e = .returned (.tuple #[.slice A' m c', .int .i64 ((rlx ps n fs 32768).2 : Int), .int .i64 0]) ∧ Own w' w.heap.size A' m c' (rlx ps n fs 32768).1 ∧ Below w.heap.size w w' := by
  have bx := box_new w #[.slice A n c, .slice B m d] 33
  have hV : Below w.heap.size w (w.alloc (.cells #[.slice A n c, .slice B m d] 33)) := (Below.refl _ _).alloc (Nat.le_refl _) _
  have HOK := Lib.hid hok
  have hpm : ps.length = m := h.pipes.len
  have hm20 : m ≤ 1048576 := by have := hok.2.2.1; omega
  have HI := Lib.hid hfr
  have HC := Lib.hid (codeF_ok (m := m) (zs := fs) hok (by unfold flB; rw [Bool.and_eq_true]; exact ⟨decide_eq_true hf.len, hfr⟩))
  have hw1 : inB 32768 1 32768 = true := by rfl
  clear hok hfr hpm
  go_enter Tryz.func23, Tryz.ntmps23
  go_upto_region 1 with fail
  generalize (w.alloc (.cells #[.slice A n c, .slice B m d] 33)) = V at *
  have xl := bx.lt
  have x0 : V.cell? ⟨w.heap.size, 0, none⟩ = some (.slice A n c) := bx.cell 0
  have x1 : V.cell? ⟨w.heap.size, 1, none⟩ = some (.slice B m d) := bx.cell 1
  go_wp2_with fail
  refine (codeF_any _ _ _ _ _ _ _ _ _ ns ps fs _ (h.below hV) (hf.below hV) hm20).mono ?_
  rw [HC.out]
  rintro e1 w1 ⟨rfl, hb1⟩
  have hW1 := bthen hV hb1 hV.size
  have bx1 := bx.belowA hb1
  clear xl x0 x1
  have xl := bx1.lt
  have x0 : w1.cell? ⟨w.heap.size, 0, none⟩ = some (.slice A n c) := bx1.cell 0
  have x1 : w1.cell? ⟨w.heap.size, 1, none⟩ = some (.slice B m d) := bx1.cell 1
  go_wp2_with (go_at_call 60; refine (within_any _ _ _ _).mono ?_; rw [hw1]; rintro e2 w2 ⟨rfl, rfl⟩)
  refine (relax_any _ _ _ _ _ _ _ _ 32768 fs ns ps _ (h.below hW1) HOK.out (hf.below hW1) HI.out (by decide)).mono ?_
  rintro e3 w3 ⟨A3, c3, rfl, o3, hb3⟩
  have hs1 := hW1.size
  go_wp2_with fail
  go_ret3
  exact ⟨A3, c3, rfl, o3.mono hs1, bthen hW1 hb3 hW1.size⟩
/-- What SuppliesOf returns. -/
noncomputable def supC (ns : List Nd) (ps : List Pp) (n m : Nat) (fs : List Int) : Int := if codeF ns ps m fs = 0 then (if flB n (outF (esOf ps) n fs) = true then 0 else 2) else codeF ns ps m fs
noncomputable def supL (ns : List Nd) (ps : List Pp) (n m : Nat) (fs : List Int) : List Int := if supC ns ps n m fs = 0 then outF (esOf ps) n fs else []
end Go.Proofs.YtpgegfnhokhlmabGreat
