/- What CheckProof (of the program) does, by walks over its text. Condition: lists of at most 2^20 numbers. -/
import Derived.Test.YtpgegfnhokhlmabGreatChk0
set_option linter.unusedVariables false
set_option maxRecDepth 100000
namespace Go.Proofs.YtpgegfnhokhlmabGreat
open Go.ChangeShapes Go.WideShapes Go.ChangeAt Go.RowKit Go.Joins Go.Deep
attribute [local go_sem ↓] Go.wp_at_zero Go.wp_at_succ

set_option maxHeartbeats 20000000 in
theorem chk_any (A B C F G : Option Addr) (n c m d l e f cf g cg : Nat) (zs fs ls : List Int) (ns : List Nd) (ps : List Pp) (w : World) (h : IsNet w A n c ns B m d ps) (hz : Ints w C l zs) (hf : Ints w F f fs) (hg : Ints w G g ls) (hl : l ≤ 1048576) (hf20 : f ≤ 1048576) (hg20 : g ≤ 1048576) :
    Calls Tryz.prog 35 #[.agg #[.slice A n c, .slice B m d], .slice C l e, .agg #[.slice F f cf, .slice G g cg]] w fun e w' => e = .returned (.tuple #[.int .i64 (ckV ns ps n m zs fs ls), .int .i64 (codeC ns ps n zs)]) ∧ Below w.heap.size w w' := by
  have bN := (box_new w #[.slice A n c, .slice B m d] 33).alloc (.cells #[.slice F f cf, .slice G g cg] 54)
  have bR := box_at (w.alloc (.cells #[.slice A n c, .slice B m d] 33)) #[.slice F f cf, .slice G g cg] 54 (g := w.heap.size + 1) (by simp)
  have hV : Below w.heap.size w ((w.alloc (.cells #[.slice A n c, .slice B m d] 33)).alloc (.cells #[.slice F f cf, .slice G g cg] 54)) := ((Below.refl _ _).alloc (Nat.le_refl _) _).alloc (by simp) _
  have hV2 : w.heap.size + 2 ≤ ((w.alloc (.cells #[.slice A n c, .slice B m d] 33)).alloc (.cells #[.slice F f cf, .slice G g cg] 54)).heap.size := by simp
  by_cases hcc : codeC ns ps n zs = 0
  case neg =>
    have HK := Lib.hid (ck_code (m := m) (fs := fs) (ls := ls) hcc)
    obtain ⟨K, hK⟩ : ∃ y, codeC ns ps n zs = y := ⟨_, rfl⟩
    rw [hK] at hcc
    have HCC := Lib.hid hK
    have t1 : (K != 0) = true := by simpa using hcc
    clear hK hcc
    go_enter Tryz.func35, Tryz.ntmps35
    go_upto_region 1 with fail
    generalize ((w.alloc (.cells #[.slice A n c, .slice B m d] 33)).alloc (.cells #[.slice F f cf, .slice G g cg] 54)) = V at *
    have xl := bN.lt
    have x0 : V.cell? ⟨w.heap.size, 0, none⟩ = some (.slice A n c) := bN.cell 0
    have x1 : V.cell? ⟨w.heap.size, 1, none⟩ = some (.slice B m d) := bN.cell 1
    have yl := bR.lt
    have z0 : V.cell? ⟨w.heap.size + 1, 0, none⟩ = some (.slice F f cf) := bR.cell 0
    have z1 : V.cell? ⟨w.heap.size + 1, 1, none⟩ = some (.slice G g cg) := bR.cell 1
    go_upto_region 3 with (go_at_call 45; refine (codeC_any _ _ _ _ _ _ _ _ _ ns ps zs _ (h.below hV) (hz.below hV) hl).mono ?_; rw [HCC.out]; rintro e1 w1 ⟨rfl, hb1⟩)
    have hW1 := bthen hV hb1 hV.size
    have bN1 := bN.belowA hb1
    have bR1 := bR.belowA hb1
    clear x0 x1 xl yl z0 z1
    have xl := bN1.lt
    have x0 : w1.cell? ⟨w.heap.size, 0, none⟩ = some (.slice A n c) := bN1.cell 0
    have x1 : w1.cell? ⟨w.heap.size, 1, none⟩ = some (.slice B m d) := bN1.cell 1
    have yl := bR1.lt
    have z0 : w1.cell? ⟨w.heap.size + 1, 0, none⟩ = some (.slice F f cf) := bR1.cell 0
    have z1 : w1.cell? ⟨w.heap.size + 1, 1, none⟩ = some (.slice G g cg) := bR1.cell 1
    go_wp2_with fail
    go_ret2
    exact ⟨ri2 HK.out.symm HCC.out.symm, hW1⟩
  have HCC := Lib.hid hcc
  obtain ⟨_, hok, hfz, hcb⟩ := codeC_zero hcc
  have hn1 : 0 < n := by have := hok.1; have := h.nodes.len; omega
  have hgd : Good (esOf ps) n := by rw [← h.nodes.len]; exact net_good hok
  have HCN := Lib.hid ((conB_iff hgd hn1).1 hcb)
  have HOK := Lib.hid hok
  have hn20 : n ≤ 1048576 := by have := hok.2.1; have := h.nodes.len; omega
  have HOL := Lib.hid (outF_len (esOf ps) n fs)
  have hm40 : m ≤ 40 := by have := hok.2.2.1; have := h.pipes.len; omega
  have hpl := h.pipes.len
  have HCV := Lib.hid (cssL_v hgd (show (esOf ps).length = m by rw [esOf_len]; exact hpl))
  have HCH := Lib.hid (show ∀ ci, ci ∈ chd (esOf ps) n → ci < m ∧ ¬ Tree (esOf ps) n ci from fun ci hc => by have h2 := chd_chord hc; rw [esOf_len] at h2; exact ⟨by omega, h2.2⟩)
  have HCL := Lib.hid (show (chd (esOf ps) n).length ≤ 40 by have := chd_len (esOf ps) n; rw [esOf_len] at this; omega)
  clear hok hcb hfz hgd hpl
  cases hfb : flB m fs
  case false =>
    have HK := Lib.hid (ck_1 (ls := ls) hcc hfb)
    have HFB := Lib.hid hfb
    clear hcc hfb
    go_enter Tryz.func35, Tryz.ntmps35
    go_upto_region 1 with fail
    generalize ((w.alloc (.cells #[.slice A n c, .slice B m d] 33)).alloc (.cells #[.slice F f cf, .slice G g cg] 54)) = V at *
    have xl := bN.lt
    have x0 : V.cell? ⟨w.heap.size, 0, none⟩ = some (.slice A n c) := bN.cell 0
    have x1 : V.cell? ⟨w.heap.size, 1, none⟩ = some (.slice B m d) := bN.cell 1
    have yl := bR.lt
    have z0 : V.cell? ⟨w.heap.size + 1, 0, none⟩ = some (.slice F f cf) := bR.cell 0
    have z1 : V.cell? ⟨w.heap.size + 1, 1, none⟩ = some (.slice G g cg) := bR.cell 1
    go_upto_region 2 with (go_at_call 45; refine (codeC_any _ _ _ _ _ _ _ _ _ ns ps zs _ (h.below hV) (hz.below hV) hl).mono ?_; rw [HCC.out]; rintro e1 w1 ⟨rfl, hb1⟩)
    have hW1 := bthen hV hb1 hV.size
    have bN1 := bN.belowA hb1
    have bR1 := bR.belowA hb1
    clear x0 x1 xl yl z0 z1
    have xl := bN1.lt
    have x0 : w1.cell? ⟨w.heap.size, 0, none⟩ = some (.slice A n c) := bN1.cell 0
    have x1 : w1.cell? ⟨w.heap.size, 1, none⟩ = some (.slice B m d) := bN1.cell 1
    have yl := bR1.lt
    have z0 : w1.cell? ⟨w.heap.size + 1, 0, none⟩ = some (.slice F f cf) := bR1.cell 0
    have z1 : w1.cell? ⟨w.heap.size + 1, 1, none⟩ = some (.slice G g cg) := bR1.cell 1
    go_upto_region 5 with (first | (go_at_call 63; refine (isFlow_any _ _ _ _ _ _ _ _ _ fs _ (hf.below hW1) hf20).mono ?_; rw [HFB.out]; rintro e2 w2 ⟨rfl, hb2⟩; have hW2 := bthen hW1 hb2 hW1.size; have bN2 := bN1.belowA hb2; have bR2 := bR1.belowA hb2; have xl2 := bN2.lt; have x02 : w2.cell? ⟨w.heap.size, 0, none⟩ = some (.slice A n c) := bN2.cell 0; have x12 : w2.cell? ⟨w.heap.size, 1, none⟩ = some (.slice B m d) := bN2.cell 1; have yl2 := bR2.lt; have z02 : w2.cell? ⟨w.heap.size + 1, 0, none⟩ = some (.slice F f cf) := bR2.cell 0; have z12 : w2.cell? ⟨w.heap.size + 1, 1, none⟩ = some (.slice G g cg) := bR2.cell 1) | (go_at_call 66; refine (outflows_any _ _ _ _ _ _ _ _ _ ns ps fs _ (h.below hW2) HOK.out (hf.below hW2) HFB.out).mono ?_; rintro e3 w3 ⟨A3, c3, rfl, o3, hb3⟩; rw [HOL.out] at o3 ⊢; have hW3 := bthen hW2 hb3 hW2.size; have bN3 := bN2.belowA hb3; have bR3 := bR2.belowA hb3; have xl3 := bN3.lt; have x03 : w3.cell? ⟨w.heap.size, 0, none⟩ = some (.slice A n c) := bN3.cell 0; have x13 : w3.cell? ⟨w.heap.size, 1, none⟩ = some (.slice B m d) := bN3.cell 1; have yl3 := bR3.lt; have z03 : w3.cell? ⟨w.heap.size + 1, 0, none⟩ = some (.slice F f cf) := bR3.cell 0; have z13 : w3.cell? ⟨w.heap.size + 1, 1, none⟩ = some (.slice G g cg) := bR3.cell 1) | (go_at_call 65; refine (slEqB_any _ _ _ _ _ _ (outF (esOf ps) n fs) zs _ o3.ints (hz.below hW3) hn20).mono ?_; rw [HEQ.out]; rintro e4 w4 ⟨rfl, hb4⟩; have hW4 := bthen hW3 hb4 hW3.size; have bN4 := bN3.belowA hb4; have bR4 := bR3.belowA hb4; have xl4 := bN4.lt; have x04 : w4.cell? ⟨w.heap.size, 0, none⟩ = some (.slice A n c) := bN4.cell 0; have x14 : w4.cell? ⟨w.heap.size, 1, none⟩ = some (.slice B m d) := bN4.cell 1; have yl4 := bR4.lt; have z04 : w4.cell? ⟨w.heap.size + 1, 0, none⟩ = some (.slice F f cf) := bR4.cell 0; have z14 : w4.cell? ⟨w.heap.size + 1, 1, none⟩ = some (.slice G g cg) := bR4.cell 1))
    go_wp2_with fail
    go_ret2
    exact ⟨ri2 HK.out.symm HCC.out.symm, hW2⟩
  have HFB := Lib.hid hfb
  have HFR := Lib.hid (flB_inR2 hfb)
  obtain rfl : m = f := by rw [← hf.len]; exact (flB_len hfb).symm
  by_cases heq : outF (esOf ps) n fs = zs
  case neg =>
    have HK := Lib.hid (ck_2 (ls := ls) hcc hfb heq)
    have HEQ := Lib.hid (decide_eq_false heq)
    clear hcc hfb heq
    go_enter Tryz.func35, Tryz.ntmps35
    go_upto_region 1 with fail
    generalize ((w.alloc (.cells #[.slice A n c, .slice B m d] 33)).alloc (.cells #[.slice F m cf, .slice G g cg] 54)) = V at *
    have xl := bN.lt
    have x0 : V.cell? ⟨w.heap.size, 0, none⟩ = some (.slice A n c) := bN.cell 0
    have x1 : V.cell? ⟨w.heap.size, 1, none⟩ = some (.slice B m d) := bN.cell 1
    have yl := bR.lt
    have z0 : V.cell? ⟨w.heap.size + 1, 0, none⟩ = some (.slice F m cf) := bR.cell 0
    have z1 : V.cell? ⟨w.heap.size + 1, 1, none⟩ = some (.slice G g cg) := bR.cell 1
    go_upto_region 2 with (go_at_call 45; refine (codeC_any _ _ _ _ _ _ _ _ _ ns ps zs _ (h.below hV) (hz.below hV) hl).mono ?_; rw [HCC.out]; rintro e1 w1 ⟨rfl, hb1⟩)
    have hW1 := bthen hV hb1 hV.size
    have bN1 := bN.belowA hb1
    have bR1 := bR.belowA hb1
    clear x0 x1 xl yl z0 z1
    have xl := bN1.lt
    have x0 : w1.cell? ⟨w.heap.size, 0, none⟩ = some (.slice A n c) := bN1.cell 0
    have x1 : w1.cell? ⟨w.heap.size, 1, none⟩ = some (.slice B m d) := bN1.cell 1
    have yl := bR1.lt
    have z0 : w1.cell? ⟨w.heap.size + 1, 0, none⟩ = some (.slice F m cf) := bR1.cell 0
    have z1 : w1.cell? ⟨w.heap.size + 1, 1, none⟩ = some (.slice G g cg) := bR1.cell 1
    go_upto_region 5 with (first | (go_at_call 63; refine (isFlow_any _ _ _ _ _ _ _ _ _ fs _ (hf.below hW1) hf20).mono ?_; rw [HFB.out]; rintro e2 w2 ⟨rfl, hb2⟩; have hW2 := bthen hW1 hb2 hW1.size; have bN2 := bN1.belowA hb2; have bR2 := bR1.belowA hb2; have xl2 := bN2.lt; have x02 : w2.cell? ⟨w.heap.size, 0, none⟩ = some (.slice A n c) := bN2.cell 0; have x12 : w2.cell? ⟨w.heap.size, 1, none⟩ = some (.slice B m d) := bN2.cell 1; have yl2 := bR2.lt; have z02 : w2.cell? ⟨w.heap.size + 1, 0, none⟩ = some (.slice F m cf) := bR2.cell 0; have z12 : w2.cell? ⟨w.heap.size + 1, 1, none⟩ = some (.slice G g cg) := bR2.cell 1) | (go_at_call 66; refine (outflows_any _ _ _ _ _ _ _ _ _ ns ps fs _ (h.below hW2) HOK.out (hf.below hW2) HFB.out).mono ?_; rintro e3 w3 ⟨A3, c3, rfl, o3, hb3⟩; rw [HOL.out] at o3 ⊢; have hW3 := bthen hW2 hb3 hW2.size; have bN3 := bN2.belowA hb3; have bR3 := bR2.belowA hb3; have xl3 := bN3.lt; have x03 : w3.cell? ⟨w.heap.size, 0, none⟩ = some (.slice A n c) := bN3.cell 0; have x13 : w3.cell? ⟨w.heap.size, 1, none⟩ = some (.slice B m d) := bN3.cell 1; have yl3 := bR3.lt; have z03 : w3.cell? ⟨w.heap.size + 1, 0, none⟩ = some (.slice F m cf) := bR3.cell 0; have z13 : w3.cell? ⟨w.heap.size + 1, 1, none⟩ = some (.slice G g cg) := bR3.cell 1) | (go_at_call 65; refine (slEqB_any _ _ _ _ _ _ (outF (esOf ps) n fs) zs _ o3.ints (hz.below hW3) hn20).mono ?_; rw [HEQ.out]; rintro e4 w4 ⟨rfl, hb4⟩; have hW4 := bthen hW3 hb4 hW3.size; have bN4 := bN3.belowA hb4; have bR4 := bR3.belowA hb4; have xl4 := bN4.lt; have x04 : w4.cell? ⟨w.heap.size, 0, none⟩ = some (.slice A n c) := bN4.cell 0; have x14 : w4.cell? ⟨w.heap.size, 1, none⟩ = some (.slice B m d) := bN4.cell 1; have yl4 := bR4.lt; have z04 : w4.cell? ⟨w.heap.size + 1, 0, none⟩ = some (.slice F m cf) := bR4.cell 0; have z14 : w4.cell? ⟨w.heap.size + 1, 1, none⟩ = some (.slice G g cg) := bR4.cell 1))
    go_wp2_with fail
    go_ret2
    exact ⟨ri2 HK.out.symm HCC.out.symm, hW4⟩
  cases hlb : lvB n ls
  case false =>
    have HK := Lib.hid (ck_3 hcc hfb heq hlb)
    have HLB := Lib.hid hlb
    have HEQ := Lib.hid (decide_eq_true heq)
    clear hcc hfb heq hlb
    go_enter Tryz.func35, Tryz.ntmps35
    go_upto_region 1 with fail
    generalize ((w.alloc (.cells #[.slice A n c, .slice B m d] 33)).alloc (.cells #[.slice F m cf, .slice G g cg] 54)) = V at *
    have xl := bN.lt
    have x0 : V.cell? ⟨w.heap.size, 0, none⟩ = some (.slice A n c) := bN.cell 0
    have x1 : V.cell? ⟨w.heap.size, 1, none⟩ = some (.slice B m d) := bN.cell 1
    have yl := bR.lt
    have z0 : V.cell? ⟨w.heap.size + 1, 0, none⟩ = some (.slice F m cf) := bR.cell 0
    have z1 : V.cell? ⟨w.heap.size + 1, 1, none⟩ = some (.slice G g cg) := bR.cell 1
    go_upto_region 2 with (go_at_call 45; refine (codeC_any _ _ _ _ _ _ _ _ _ ns ps zs _ (h.below hV) (hz.below hV) hl).mono ?_; rw [HCC.out]; rintro e1 w1 ⟨rfl, hb1⟩)
    have hW1 := bthen hV hb1 hV.size
    have bN1 := bN.belowA hb1
    have bR1 := bR.belowA hb1
    clear x0 x1 xl yl z0 z1
    have xl := bN1.lt
    have x0 : w1.cell? ⟨w.heap.size, 0, none⟩ = some (.slice A n c) := bN1.cell 0
    have x1 : w1.cell? ⟨w.heap.size, 1, none⟩ = some (.slice B m d) := bN1.cell 1
    have yl := bR1.lt
    have z0 : w1.cell? ⟨w.heap.size + 1, 0, none⟩ = some (.slice F m cf) := bR1.cell 0
    have z1 : w1.cell? ⟨w.heap.size + 1, 1, none⟩ = some (.slice G g cg) := bR1.cell 1
    go_upto_region 6 with (first | (go_at_call 63; refine (isFlow_any _ _ _ _ _ _ _ _ _ fs _ (hf.below hW1) hf20).mono ?_; rw [HFB.out]; rintro e2 w2 ⟨rfl, hb2⟩; have hW2 := bthen hW1 hb2 hW1.size; have bN2 := bN1.belowA hb2; have bR2 := bR1.belowA hb2; have xl2 := bN2.lt; have x02 : w2.cell? ⟨w.heap.size, 0, none⟩ = some (.slice A n c) := bN2.cell 0; have x12 : w2.cell? ⟨w.heap.size, 1, none⟩ = some (.slice B m d) := bN2.cell 1; have yl2 := bR2.lt; have z02 : w2.cell? ⟨w.heap.size + 1, 0, none⟩ = some (.slice F m cf) := bR2.cell 0; have z12 : w2.cell? ⟨w.heap.size + 1, 1, none⟩ = some (.slice G g cg) := bR2.cell 1) | (go_at_call 66; refine (outflows_any _ _ _ _ _ _ _ _ _ ns ps fs _ (h.below hW2) HOK.out (hf.below hW2) HFB.out).mono ?_; rintro e3 w3 ⟨A3, c3, rfl, o3, hb3⟩; rw [HOL.out] at o3 ⊢; have hW3 := bthen hW2 hb3 hW2.size; have bN3 := bN2.belowA hb3; have bR3 := bR2.belowA hb3; have xl3 := bN3.lt; have x03 : w3.cell? ⟨w.heap.size, 0, none⟩ = some (.slice A n c) := bN3.cell 0; have x13 : w3.cell? ⟨w.heap.size, 1, none⟩ = some (.slice B m d) := bN3.cell 1; have yl3 := bR3.lt; have z03 : w3.cell? ⟨w.heap.size + 1, 0, none⟩ = some (.slice F m cf) := bR3.cell 0; have z13 : w3.cell? ⟨w.heap.size + 1, 1, none⟩ = some (.slice G g cg) := bR3.cell 1) | (go_at_call 65; refine (slEqB_any _ _ _ _ _ _ (outF (esOf ps) n fs) zs _ o3.ints (hz.below hW3) hn20).mono ?_; rw [HEQ.out]; rintro e4 w4 ⟨rfl, hb4⟩; have hW4 := bthen hW3 hb4 hW3.size; have bN4 := bN3.belowA hb4; have bR4 := bR3.belowA hb4; have xl4 := bN4.lt; have x04 : w4.cell? ⟨w.heap.size, 0, none⟩ = some (.slice A n c) := bN4.cell 0; have x14 : w4.cell? ⟨w.heap.size, 1, none⟩ = some (.slice B m d) := bN4.cell 1; have yl4 := bR4.lt; have z04 : w4.cell? ⟨w.heap.size + 1, 0, none⟩ = some (.slice F m cf) := bR4.cell 0; have z14 : w4.cell? ⟨w.heap.size + 1, 1, none⟩ = some (.slice G g cg) := bR4.cell 1))
    clear x0 x1 xl yl z0 z1
    clear x02 x12 xl2 yl2 z02 z12
    clear x03 x13 xl3 yl3 z03 z13
    have kN : Kept (IsNet w4 A n c ns B m d ps) := ⟨h.below hW4⟩
    have kF : Kept (Ints w4 F m fs) := ⟨hf.below hW4⟩
    have kG : Kept (Ints w4 G g ls) := ⟨hg.below hW4⟩
    have kB : Kept (Below w.heap.size w w4) := ⟨hW4⟩
    have kU : Kept (Below w4.heap.size w4 w4.drew) := ⟨(Below.refl _ _).drew⟩
    have hW0 := hW4
    clear hW4 hW3 hW2 hW1 hb1 hb2 hb3 hb4 o3 bN bN1 bN2 bN3 bR bR1 bR2 bR3 hV
    obtain ⟨wi, rfl⟩ : ∃ wi : World, wi = w4 := ⟨_, rfl⟩
    clear bN4 bR4 hW0
    refine wp_region_held_drew (S := (fun w' => w.heap.size < w'.heap.size ∧ w.heap.size + 1 < w'.heap.size ∧ w'.cell? ⟨w.heap.size, 0, none⟩ = some (.slice A n c) ∧ w'.cell? ⟨w.heap.size, 1, none⟩ = some (.slice B m d) ∧ w'.cell? ⟨w.heap.size + 1, 0, none⟩ = some (.slice F m cf) ∧ w'.cell? ⟨w.heap.size + 1, 1, none⟩ = some (.slice G g cg) ∧ Kept (Below wi.heap.size wi w'))) (by kernel_rfl) ?_ (fun hHeld => ?_)
    · go_keep
    refine wpAnyH_take (i := 0) (oi := ⟨some 31, _, _, _, _, _⟩) (v := .agg #[.slice A n c, .slice B m d]) rfl (by kernel_rfl) (by kernel_rfl) (by kernel_rfl) (fun _ _ _ h => h) (Or.inl ⟨by rfl, by intro w hSw; (try dsimp only at hSw); go_simp⟩) (by assumption) ?_
    simp only [Act.put, List.setIfInBounds_toArray, List.set_cons_zero, List.set_cons_succ]
    refine wpAnyH_take (i := 1) (oi := ⟨some 32, _, _, _, _, _⟩) (v := .pointer (some ⟨w.heap.size + 1, 1, none⟩)) rfl (by kernel_rfl) (by kernel_rfl) (by kernel_rfl) (fun _ _ _ h => h) (Or.inl ⟨by rfl, by intro w hSw; (try dsimp only at hSw); go_simp⟩) (by assumption) ?_
    simp only [Act.put, List.setIfInBounds_toArray, List.set_cons_zero, List.set_cons_succ]
    refine wpAnyH_take (i := 2) (oi := ⟨some 33, _, _, _, _, _⟩) (v := .slice G g cg) rfl (by kernel_rfl) (by kernel_rfl) (by kernel_rfl) (fun _ _ _ h => h) (Or.inl ⟨by rfl, by intro w hSw; (try dsimp only at hSw); go_simp⟩) (by assumption) ?_
    simp only [Act.put, List.setIfInBounds_toArray, List.set_cons_zero, List.set_cons_succ]
    refine wpAnyH_ready (rs := [3]) (by kernel_rfl) (by simp) ?_
    refine AllReadyH.cons rfl (fun K hK => ?_) AllReadyH.nil
    go_simp
    refine (areLev_any _ _ _ _ _ _ _ _ _ ls _ (kG.out.below (Kept.out ‹Kept (Below wi.heap.size _ _)›)) hg20).mono ?_
    rw [HLB.out]
    rintro e5 wb ⟨rfl, hbb⟩
    go_wp2_with fail
    refine hK.out _ _ ?_ (fun hHeld2 => ?_)
    · (go_split_ands; refine ⟨by have := hbb.size; omega, by have := hbb.size; omega, ?_, ?_, ?_, ?_, ⟨bthen (Kept.out ‹Kept (Below wi.heap.size _ _)›) hbb (Kept.out ‹Kept (Below wi.heap.size _ _)›).size⟩⟩ <;> (rw [hbb.cell (by simp; omega)]; assumption))
    clear hK K
    refine wpAnyH_take (i := 4) (oi := ⟨some 35, _, _, _, _, _⟩) (v := .bool true) rfl (by kernel_rfl) (by kernel_rfl) (by kernel_rfl) (fun _ _ _ h => h) (Or.inl ⟨by rfl, by intro w hSw; (try dsimp only at hSw); go_simp⟩) (by assumption) ?_
    simp only [Act.put, List.setIfInBounds_toArray, List.set_cons_zero, List.set_cons_succ]
    refine wpAnyH_take (i := 5) (oi := ⟨some 36, _, _, _, _, _⟩) (v := .bool true) rfl (by kernel_rfl) (by kernel_rfl) (by kernel_rfl) (fun _ _ _ h => h) (Or.inl ⟨by rfl, by intro w hSw; (try dsimp only at hSw); go_simp⟩) (by assumption) ?_
    simp only [Act.put, List.setIfInBounds_toArray, List.set_cons_zero, List.set_cons_succ]
    refine wpAnyH_take (i := 6) (oi := ⟨some 37, _, _, _, _, _⟩) (v := undef) rfl (by kernel_rfl) (by kernel_rfl) (by kernel_rfl) (fun _ _ _ h => h) (Or.inr ⟨by rfl, rfl⟩) (by assumption) ?_
    simp only [Act.put, List.setIfInBounds_toArray, List.set_cons_zero, List.set_cons_succ]
    refine wpAnyH_take (i := 7) (oi := ⟨some 38, _, _, _, _, _⟩) (v := undef) rfl (by kernel_rfl) (by kernel_rfl) (by kernel_rfl) (fun _ _ _ h => h) (Or.inr ⟨by rfl, rfl⟩) (by assumption) ?_
    simp only [Act.put, List.setIfInBounds_toArray, List.set_cons_zero, List.set_cons_succ]
    refine wpAnyH_take (i := 8) (oi := ⟨some 39, _, _, _, _, _⟩) (v := undef) rfl (by kernel_rfl) (by kernel_rfl) (by kernel_rfl) (fun _ _ _ h => h) (Or.inr ⟨by rfl, rfl⟩) (by assumption) ?_
    simp only [Act.put, List.setIfInBounds_toArray, List.set_cons_zero, List.set_cons_succ]
    refine wpAnyH_take (i := 9) (oi := ⟨some 40, _, _, _, _, _⟩) (v := undef) rfl (by kernel_rfl) (by kernel_rfl) (by kernel_rfl) (fun _ _ _ h => h) (Or.inr ⟨by rfl, rfl⟩) (by assumption) ?_
    simp only [Act.put, List.setIfInBounds_toArray, List.set_cons_zero, List.set_cons_succ]
    refine wpAnyH_take (i := 10) (oi := ⟨some 41, _, _, _, _, _⟩) (v := undef) rfl (by kernel_rfl) (by kernel_rfl) (by kernel_rfl) (fun _ _ _ h => h) (Or.inr ⟨by rfl, rfl⟩) (by assumption) ?_
    simp only [Act.put, List.setIfInBounds_toArray, List.set_cons_zero, List.set_cons_succ]
    refine wpAnyH_take (i := 11) (oi := ⟨some 42, _, _, _, _, _⟩) (v := undef) rfl (by kernel_rfl) (by kernel_rfl) (by kernel_rfl) (fun _ _ _ h => h) (Or.inr ⟨by rfl, rfl⟩) (by assumption) ?_
    simp only [Act.put, List.setIfInBounds_toArray, List.set_cons_zero, List.set_cons_succ]
    refine wpAnyH_take (i := 12) (oi := ⟨some 43, _, _, _, _, _⟩) (v := undef) rfl (by kernel_rfl) (by kernel_rfl) (by kernel_rfl) (fun _ _ _ h => h) (Or.inr ⟨by rfl, rfl⟩) (by assumption) ?_
    simp only [Act.put, List.setIfInBounds_toArray, List.set_cons_zero, List.set_cons_succ]
    refine wpAnyH_take (i := 13) (oi := ⟨some 44, _, _, _, _, _⟩) (v := undef) rfl (by kernel_rfl) (by kernel_rfl) (by kernel_rfl) (fun _ _ _ h => h) (Or.inr ⟨by rfl, rfl⟩) (by assumption) ?_
    simp only [Act.put, List.setIfInBounds_toArray, List.set_cons_zero, List.set_cons_succ]
    refine wpAnyH_take (i := 14) (oi := ⟨some 45, _, _, _, _, _⟩) (v := undef) rfl (by kernel_rfl) (by kernel_rfl) (by kernel_rfl) (fun _ _ _ h => h) (Or.inr ⟨by rfl, rfl⟩) (by assumption) ?_
    simp only [Act.put, List.setIfInBounds_toArray, List.set_cons_zero, List.set_cons_succ]
    refine wpAnyH_take (i := 15) (oi := ⟨some 46, _, _, _, _, _⟩) (v := undef) rfl (by kernel_rfl) (by kernel_rfl) (by kernel_rfl) (fun _ _ _ h => h) (Or.inr ⟨by rfl, rfl⟩) (by assumption) ?_
    simp only [Act.put, List.setIfInBounds_toArray, List.set_cons_zero, List.set_cons_succ]
    refine wpAnyH_take (i := 16) (oi := ⟨some 47, _, _, _, _, _⟩) (v := undef) rfl (by kernel_rfl) (by kernel_rfl) (by kernel_rfl) (fun _ _ _ h => h) (Or.inr ⟨by rfl, rfl⟩) (by assumption) ?_
    simp only [Act.put, List.setIfInBounds_toArray, List.set_cons_zero, List.set_cons_succ]
    refine wpAnyH_take (i := 17) (oi := ⟨some 48, _, _, _, _, _⟩) (v := undef) rfl (by kernel_rfl) (by kernel_rfl) (by kernel_rfl) (fun _ _ _ h => h) (Or.inr ⟨by rfl, rfl⟩) (by assumption) ?_
    simp only [Act.put, List.setIfInBounds_toArray, List.set_cons_zero, List.set_cons_succ]
    refine wpAnyH_take (i := 18) (oi := ⟨some 49, _, _, _, _, _⟩) (v := .bool true) rfl (by kernel_rfl) (by kernel_rfl) (by kernel_rfl) (fun _ _ _ h => h) (Or.inl ⟨by rfl, by intro w hSw; (try dsimp only at hSw); go_simp⟩) (by assumption) ?_
    simp only [Act.put, List.setIfInBounds_toArray, List.set_cons_zero, List.set_cons_succ]
    refine wpAnyH_done (by kernel_rfl) ?_ _
    obtain ⟨_, _, _, _, _, _, ⟨hbB⟩⟩ := hHeld2
    go_wp2_with fail
    go_ret2
    exact ⟨ri2 HK.out.symm HCC.out.symm, bthen kB.out hbB kB.out.size⟩
  have HGN := Lib.hid (show g = n by rw [← hg.len]; exact lvB_len hlb)
  obtain ⟨hx1, hx2⟩ : -4000000000000000000 ≤ ls.getD 0 0 ∧ ls.getD 0 0 ≤ 4000000000000000000 := by have := lvB_at hlb hn1; omega
  have HRL := Lib.hid (lvR_len (esOf ps) (ksL ps) n fs (ls.getD 0 0))
  have HLB := Lib.hid hlb
  by_cases hlq : lvR (esOf ps) (ksL ps) n fs (ls.getD 0 0) = ls
  case neg =>
    have HK := Lib.hid (ck_4 hcc hfb heq hlb hlq)
    have HLQ := Lib.hid (show decide (ls = lvR (esOf ps) (ksL ps) n fs (ls.getD 0 0)) = false from decide_eq_false (fun hh => hlq hh.symm))
    have HEQ := Lib.hid (decide_eq_true heq)
    clear hcc hfb heq hlb hlq
    have hgn := HGN.out
    clear HGN
    subst hgn
    obtain ⟨b0, o0, rfl, hg0, hg1⟩ := hg.atD hn1
    rw [Nat.add_zero] at hg1
    obtain ⟨x, hx⟩ : ∃ y, ls.getD 0 0 = y := ⟨_, rfl⟩
    rw [hx] at hg1 hx1 hx2 HRL HLQ
    clear hx
    go_enter Tryz.func35, Tryz.ntmps35
    go_upto_region 1 with fail
    generalize ((w.alloc (.cells #[.slice A g c, .slice B m d] 33)).alloc (.cells #[.slice F m cf, .slice (some ⟨b0, o0, none⟩) g cg] 54)) = V at *
    have xl := bN.lt
    have x0 : V.cell? ⟨w.heap.size, 0, none⟩ = some (.slice A g c) := bN.cell 0
    have x1 : V.cell? ⟨w.heap.size, 1, none⟩ = some (.slice B m d) := bN.cell 1
    have yl := bR.lt
    have z0 : V.cell? ⟨w.heap.size + 1, 0, none⟩ = some (.slice F m cf) := bR.cell 0
    have z1 : V.cell? ⟨w.heap.size + 1, 1, none⟩ = some (.slice (some ⟨b0, o0, none⟩) g cg) := bR.cell 1
    go_upto_region 2 with (go_at_call 45; refine (codeC_any _ _ _ _ _ _ _ _ _ ns ps zs _ (h.below hV) (hz.below hV) hl).mono ?_; rw [HCC.out]; rintro e1 w1 ⟨rfl, hb1⟩)
    have hW1 := bthen hV hb1 hV.size
    have bN1 := bN.belowA hb1
    have bR1 := bR.belowA hb1
    clear x0 x1 xl yl z0 z1
    have xl := bN1.lt
    have x0 : w1.cell? ⟨w.heap.size, 0, none⟩ = some (.slice A g c) := bN1.cell 0
    have x1 : w1.cell? ⟨w.heap.size, 1, none⟩ = some (.slice B m d) := bN1.cell 1
    have yl := bR1.lt
    have z0 : w1.cell? ⟨w.heap.size + 1, 0, none⟩ = some (.slice F m cf) := bR1.cell 0
    have z1 : w1.cell? ⟨w.heap.size + 1, 1, none⟩ = some (.slice (some ⟨b0, o0, none⟩) g cg) := bR1.cell 1
    go_upto_region 6 with (first | (go_at_call 63; refine (isFlow_any _ _ _ _ _ _ _ _ _ fs _ (hf.below hW1) hf20).mono ?_; rw [HFB.out]; rintro e2 w2 ⟨rfl, hb2⟩; have hW2 := bthen hW1 hb2 hW1.size; have bN2 := bN1.belowA hb2; have bR2 := bR1.belowA hb2; have xl2 := bN2.lt; have x02 : w2.cell? ⟨w.heap.size, 0, none⟩ = some (.slice A g c) := bN2.cell 0; have x12 : w2.cell? ⟨w.heap.size, 1, none⟩ = some (.slice B m d) := bN2.cell 1; have yl2 := bR2.lt; have z02 : w2.cell? ⟨w.heap.size + 1, 0, none⟩ = some (.slice F m cf) := bR2.cell 0; have z12 : w2.cell? ⟨w.heap.size + 1, 1, none⟩ = some (.slice (some ⟨b0, o0, none⟩) g cg) := bR2.cell 1) | (go_at_call 66; refine (outflows_any _ _ _ _ _ _ _ _ _ ns ps fs _ (h.below hW2) HOK.out (hf.below hW2) HFB.out).mono ?_; rintro e3 w3 ⟨A3, c3, rfl, o3, hb3⟩; rw [HOL.out] at o3 ⊢; have hW3 := bthen hW2 hb3 hW2.size; have bN3 := bN2.belowA hb3; have bR3 := bR2.belowA hb3; have xl3 := bN3.lt; have x03 : w3.cell? ⟨w.heap.size, 0, none⟩ = some (.slice A g c) := bN3.cell 0; have x13 : w3.cell? ⟨w.heap.size, 1, none⟩ = some (.slice B m d) := bN3.cell 1; have yl3 := bR3.lt; have z03 : w3.cell? ⟨w.heap.size + 1, 0, none⟩ = some (.slice F m cf) := bR3.cell 0; have z13 : w3.cell? ⟨w.heap.size + 1, 1, none⟩ = some (.slice (some ⟨b0, o0, none⟩) g cg) := bR3.cell 1) | (go_at_call 65; refine (slEqB_any _ _ _ _ _ _ (outF (esOf ps) g fs) zs _ o3.ints (hz.below hW3) hg20).mono ?_; rw [HEQ.out]; rintro e4 w4 ⟨rfl, hb4⟩; have hW4 := bthen hW3 hb4 hW3.size; have bN4 := bN3.belowA hb4; have bR4 := bR3.belowA hb4; have xl4 := bN4.lt; have x04 : w4.cell? ⟨w.heap.size, 0, none⟩ = some (.slice A g c) := bN4.cell 0; have x14 : w4.cell? ⟨w.heap.size, 1, none⟩ = some (.slice B m d) := bN4.cell 1; have yl4 := bR4.lt; have z04 : w4.cell? ⟨w.heap.size + 1, 0, none⟩ = some (.slice F m cf) := bR4.cell 0; have z14 : w4.cell? ⟨w.heap.size + 1, 1, none⟩ = some (.slice (some ⟨b0, o0, none⟩) g cg) := bR4.cell 1))
    clear x0 x1 xl yl z0 z1
    clear x02 x12 xl2 yl2 z02 z12
    clear x03 x13 xl3 yl3 z03 z13
    have kN : Kept (IsNet w4 A g c ns B m d ps) := ⟨h.below hW4⟩
    have kF : Kept (Ints w4 F m fs) := ⟨hf.below hW4⟩
    have kG : Kept (Ints w4 (some ⟨b0, o0, none⟩) g ls) := ⟨hg.below hW4⟩
    have kB : Kept (Below w.heap.size w w4) := ⟨hW4⟩
    have kU : Kept (Below w4.heap.size w4 w4.drew) := ⟨(Below.refl _ _).drew⟩
    have hW0 := hW4
    clear hW4 hW3 hW2 hW1 hb1 hb2 hb3 hb4 o3 bN bN1 bN2 bN3 bR bR1 bR2 bR3 hV
    have cx := (kB.out.cell (p := ⟨b0, o0, none⟩) hg0).trans hg1
    have b0l : b0 < w4.heap.size := by have := hW0.size; omega
    have i0 : (0 : Int) < (g : Int) := by omega
    obtain ⟨wi, rfl⟩ : ∃ wi : World, wi = w4 := ⟨_, rfl⟩
    have kX : Kept (Box wi w.heap.size #[.slice A g c, .slice B m d] 33) := ⟨bN4⟩
    have kY : Kept (Box wi (w.heap.size + 1) #[.slice F m cf, .slice (some ⟨b0, o0, none⟩) g cg] 54) := ⟨bR4⟩
    clear bN4 bR4 hW0 hg0 hg1
    go_region_held3 (fun w' => w.heap.size < w'.heap.size ∧ w.heap.size + 1 < w'.heap.size ∧ b0 < w'.heap.size ∧ w'.cell? ⟨w.heap.size, 0, none⟩ = some (.slice A g c) ∧ w'.cell? ⟨w.heap.size, 1, none⟩ = some (.slice B m d) ∧ w'.cell? ⟨w.heap.size + 1, 0, none⟩ = some (.slice F m cf) ∧ w'.cell? ⟨w.heap.size + 1, 1, none⟩ = some (.slice (some ⟨b0, o0, none⟩) g cg) ∧ w'.cell? ⟨b0, o0, none⟩ = some (.int .i64 x) ∧ Kept (Below wi.heap.size wi w'))
      (first | (go_split_ands; refine ⟨by have := hbb.size; omega, by have := hbb.size; omega, by have := hbb.size; omega, ?_, ?_, ?_, ?_, ?_, ⟨bthen (Kept.out ‹Kept (Below wi.heap.size _ _)›) hbb (Kept.out ‹Kept (Below wi.heap.size _ _)›).size⟩⟩ <;> (rw [hbb.cell (by simp; omega)]; assumption)) | go_keep)
      (first | (go_at_call 93; go_split_ands; refine (areLev_any _ _ _ _ _ _ _ _ _ ls _ (kG.out.below (Kept.out ‹Kept (Below wi.heap.size _ _)›)) hg20).mono ?_; rw [HLB.out]; rintro e5 wb ⟨rfl, hbb⟩) | (go_at_call 90; go_split_ands; refine (lev_any _ _ _ _ _ _ _ _ x fs ns ps _ (kN.out.below (Kept.out ‹Kept (Below wi.heap.size _ _)›)) HOK.out (kF.out.below (Kept.out ‹Kept (Below wi.heap.size _ _)›)) HFR.out ⟨hx1, hx2⟩).mono ?_; rintro e6 wb ⟨A6, c6, rfl, o6, hbb⟩; rw [HRL.out] at o6 ⊢) | (go_at_call 65; go_split_ands; refine (slEqB_any _ _ _ _ _ _ ls (lvR (esOf ps) (ksL ps) g fs x) _ (kG.out.below (Kept.out ‹Kept (Below wi.heap.size _ _)›)) o6.ints hg20).mono ?_; rw [HLQ.out]; rintro e7 wb ⟨rfl, hbb⟩))
    rename_i hh
    obtain ⟨yl0, yl1, _, x0, x1, z0, z1, _, ⟨hbB⟩⟩ := hh
    go_wp2_with fail
    go_ret2
    exact ⟨ri2 HK.out.symm HCC.out.symm, bthen kB.out hbB kB.out.size⟩
  case pos =>
    have HK := Lib.hid (ck_5 hcc hfb heq hlb hlq)
    have HLQ := Lib.hid (show decide (ls = lvR (esOf ps) (ksL ps) n fs (ls.getD 0 0)) = true from decide_eq_true hlq.symm)
    have HEQ := Lib.hid (decide_eq_true heq)
    clear hcc hfb heq hlb hlq
    have hgn := HGN.out
    clear HGN
    subst hgn
    obtain ⟨b0, o0, rfl, hg0, hg1⟩ := hg.atD hn1
    rw [Nat.add_zero] at hg1
    obtain ⟨x, hx⟩ : ∃ y, ls.getD 0 0 = y := ⟨_, rfl⟩
    rw [hx] at hg1 hx1 hx2 HRL HLQ
    clear hx
    go_enter Tryz.func35, Tryz.ntmps35
    go_upto_region 1 with fail
    generalize ((w.alloc (.cells #[.slice A g c, .slice B m d] 33)).alloc (.cells #[.slice F m cf, .slice (some ⟨b0, o0, none⟩) g cg] 54)) = V at *
    have xl := bN.lt
    have x0 : V.cell? ⟨w.heap.size, 0, none⟩ = some (.slice A g c) := bN.cell 0
    have x1 : V.cell? ⟨w.heap.size, 1, none⟩ = some (.slice B m d) := bN.cell 1
    have yl := bR.lt
    have z0 : V.cell? ⟨w.heap.size + 1, 0, none⟩ = some (.slice F m cf) := bR.cell 0
    have z1 : V.cell? ⟨w.heap.size + 1, 1, none⟩ = some (.slice (some ⟨b0, o0, none⟩) g cg) := bR.cell 1
    go_upto_region 2 with (go_at_call 45; refine (codeC_any _ _ _ _ _ _ _ _ _ ns ps zs _ (h.below hV) (hz.below hV) hl).mono ?_; rw [HCC.out]; rintro e1 w1 ⟨rfl, hb1⟩)
    have hW1 := bthen hV hb1 hV.size
    have bN1 := bN.belowA hb1
    have bR1 := bR.belowA hb1
    clear x0 x1 xl yl z0 z1
    have xl := bN1.lt
    have x0 : w1.cell? ⟨w.heap.size, 0, none⟩ = some (.slice A g c) := bN1.cell 0
    have x1 : w1.cell? ⟨w.heap.size, 1, none⟩ = some (.slice B m d) := bN1.cell 1
    have yl := bR1.lt
    have z0 : w1.cell? ⟨w.heap.size + 1, 0, none⟩ = some (.slice F m cf) := bR1.cell 0
    have z1 : w1.cell? ⟨w.heap.size + 1, 1, none⟩ = some (.slice (some ⟨b0, o0, none⟩) g cg) := bR1.cell 1
    go_upto_region 6 with (first | (go_at_call 63; refine (isFlow_any _ _ _ _ _ _ _ _ _ fs _ (hf.below hW1) hf20).mono ?_; rw [HFB.out]; rintro e2 w2 ⟨rfl, hb2⟩; have hW2 := bthen hW1 hb2 hW1.size; have bN2 := bN1.belowA hb2; have bR2 := bR1.belowA hb2; have xl2 := bN2.lt; have x02 : w2.cell? ⟨w.heap.size, 0, none⟩ = some (.slice A g c) := bN2.cell 0; have x12 : w2.cell? ⟨w.heap.size, 1, none⟩ = some (.slice B m d) := bN2.cell 1; have yl2 := bR2.lt; have z02 : w2.cell? ⟨w.heap.size + 1, 0, none⟩ = some (.slice F m cf) := bR2.cell 0; have z12 : w2.cell? ⟨w.heap.size + 1, 1, none⟩ = some (.slice (some ⟨b0, o0, none⟩) g cg) := bR2.cell 1) | (go_at_call 66; refine (outflows_any _ _ _ _ _ _ _ _ _ ns ps fs _ (h.below hW2) HOK.out (hf.below hW2) HFB.out).mono ?_; rintro e3 w3 ⟨A3, c3, rfl, o3, hb3⟩; rw [HOL.out] at o3 ⊢; have hW3 := bthen hW2 hb3 hW2.size; have bN3 := bN2.belowA hb3; have bR3 := bR2.belowA hb3; have xl3 := bN3.lt; have x03 : w3.cell? ⟨w.heap.size, 0, none⟩ = some (.slice A g c) := bN3.cell 0; have x13 : w3.cell? ⟨w.heap.size, 1, none⟩ = some (.slice B m d) := bN3.cell 1; have yl3 := bR3.lt; have z03 : w3.cell? ⟨w.heap.size + 1, 0, none⟩ = some (.slice F m cf) := bR3.cell 0; have z13 : w3.cell? ⟨w.heap.size + 1, 1, none⟩ = some (.slice (some ⟨b0, o0, none⟩) g cg) := bR3.cell 1) | (go_at_call 65; refine (slEqB_any _ _ _ _ _ _ (outF (esOf ps) g fs) zs _ o3.ints (hz.below hW3) hg20).mono ?_; rw [HEQ.out]; rintro e4 w4 ⟨rfl, hb4⟩; have hW4 := bthen hW3 hb4 hW3.size; have bN4 := bN3.belowA hb4; have bR4 := bR3.belowA hb4; have xl4 := bN4.lt; have x04 : w4.cell? ⟨w.heap.size, 0, none⟩ = some (.slice A g c) := bN4.cell 0; have x14 : w4.cell? ⟨w.heap.size, 1, none⟩ = some (.slice B m d) := bN4.cell 1; have yl4 := bR4.lt; have z04 : w4.cell? ⟨w.heap.size + 1, 0, none⟩ = some (.slice F m cf) := bR4.cell 0; have z14 : w4.cell? ⟨w.heap.size + 1, 1, none⟩ = some (.slice (some ⟨b0, o0, none⟩) g cg) := bR4.cell 1))
    clear x0 x1 xl yl z0 z1
    clear x02 x12 xl2 yl2 z02 z12
    clear x03 x13 xl3 yl3 z03 z13
    have kN : Kept (IsNet w4 A g c ns B m d ps) := ⟨h.below hW4⟩
    have kF : Kept (Ints w4 F m fs) := ⟨hf.below hW4⟩
    have kG : Kept (Ints w4 (some ⟨b0, o0, none⟩) g ls) := ⟨hg.below hW4⟩
    have kB : Kept (Below w.heap.size w w4) := ⟨hW4⟩
    have kU : Kept (Below w4.heap.size w4 w4.drew) := ⟨(Below.refl _ _).drew⟩
    have hW0 := hW4
    clear hW4 hW3 hW2 hW1 hb1 hb2 hb3 hb4 o3 bN bN1 bN2 bN3 bR bR1 bR2 bR3 hV
    have cx := (kB.out.cell (p := ⟨b0, o0, none⟩) hg0).trans hg1
    have b0l : b0 < w4.heap.size := by have := hW0.size; omega
    have i0 : (0 : Int) < (g : Int) := by omega
    obtain ⟨wi, rfl⟩ : ∃ wi : World, wi = w4 := ⟨_, rfl⟩
    have kX : Kept (Box wi w.heap.size #[.slice A g c, .slice B m d] 33) := ⟨bN4⟩
    have kY : Kept (Box wi (w.heap.size + 1) #[.slice F m cf, .slice (some ⟨b0, o0, none⟩) g cg] 54) := ⟨bR4⟩
    clear bN4 bR4 hW0 hg0 hg1
    go_region_held3 (fun w' => w.heap.size < w'.heap.size ∧ w.heap.size + 1 < w'.heap.size ∧ b0 < w'.heap.size ∧ w'.cell? ⟨w.heap.size, 0, none⟩ = some (.slice A g c) ∧ w'.cell? ⟨w.heap.size, 1, none⟩ = some (.slice B m d) ∧ w'.cell? ⟨w.heap.size + 1, 0, none⟩ = some (.slice F m cf) ∧ w'.cell? ⟨w.heap.size + 1, 1, none⟩ = some (.slice (some ⟨b0, o0, none⟩) g cg) ∧ w'.cell? ⟨b0, o0, none⟩ = some (.int .i64 x) ∧ Kept (Below wi.heap.size wi w'))
      (first | (go_split_ands; refine ⟨by have := hbb.size; omega, by have := hbb.size; omega, by have := hbb.size; omega, ?_, ?_, ?_, ?_, ?_, ⟨bthen (Kept.out ‹Kept (Below wi.heap.size _ _)›) hbb (Kept.out ‹Kept (Below wi.heap.size _ _)›).size⟩⟩ <;> (rw [hbb.cell (by simp; omega)]; assumption)) | go_keep)
      (first | (go_at_call 93; go_split_ands; refine (areLev_any _ _ _ _ _ _ _ _ _ ls _ (kG.out.below (Kept.out ‹Kept (Below wi.heap.size _ _)›)) hg20).mono ?_; rw [HLB.out]; rintro e5 wb ⟨rfl, hbb⟩) | (go_at_call 90; go_split_ands; refine (lev_any _ _ _ _ _ _ _ _ x fs ns ps _ (kN.out.below (Kept.out ‹Kept (Below wi.heap.size _ _)›)) HOK.out (kF.out.below (Kept.out ‹Kept (Below wi.heap.size _ _)›)) HFR.out ⟨hx1, hx2⟩).mono ?_; rintro e6 wb ⟨A6, c6, rfl, o6, hbb⟩; rw [HRL.out] at o6 ⊢) | (go_at_call 65; go_split_ands; refine (slEqB_any _ _ _ _ _ _ ls (lvR (esOf ps) (ksL ps) g fs x) _ (kG.out.below (Kept.out ‹Kept (Below wi.heap.size _ _)›)) o6.ints hg20).mono ?_; rw [HLQ.out]; rintro e7 wb ⟨rfl, hbb⟩))
    rename_i hh
    obtain ⟨yl0, yl1, _, x0, x1, z0, z1, _, ⟨hbB⟩⟩ := hh
    have hbW := bthen kB.out hbB kB.out.size
    have hN5 := kN.out.below hbB
    have hF5 := kF.out.below hbB
    have bN5 := kX.out.belowA hbB
    have bR5 := kY.out.belowA hbB
    obtain ⟨ch, hch⟩ : ∃ y, chd (esOf ps) g = y := ⟨_, rfl⟩
    rw [hch] at HCH HCL
    have HCSS := Lib.hid (show cssL (esOf ps) g = ch.map (cyc (esOf ps) g) by unfold cssL; rw [hch])
    have HCHD := Lib.hid hch
    have HCNL := Lib.hid (show (cN ch).length = ch.length by unfold cN; simp)
    obtain ⟨L, hL⟩ : ∃ y, ch.length = y := ⟨_, rfl⟩
    have HLL := Lib.hid hL
    rw [hL] at HCNL
    have hL40 : L ≤ 40 := by have := HCL.out; omega
    clear hch hL kU
    go_upto_region 9 with (go_at_call 94; refine (chords_any _ _ _ _ _ _ ns ps _ hN5 HOK.out).mono ?_; rw [HCHD.out]; rintro e8 w8 ⟨A8, c8, rfl, o8, hb8⟩; rw [HCNL.out] at o8 ⊢)
    have hW8 := bthen hbW hb8 hbW.size
    have hN8 := hN5.below hb8
    have hF8 := hF5.below hb8
    have bN8 := bN5.belowA hb8
    have bR8 := bR5.belowA hb8
    clear bN5 bR5 hN5 hF5 hb8 hbW hbB x0 x1 z0 z1 yl0 yl1 kN kF kG kB kX kY
    go_loopw [53] (fun ii wr => ∃ (k : Nat), k ≤ L ∧ ii = .int .i64 (k : Int) ∧ Hid (((cssL (esOf ps) g).take k).all (smB (ksL ps) fs) = true) ∧ Below w8.heap.size w8 wr) (fun ii _ => L - (intOf ii).toNat)
    case atStart => exact ⟨0, Nat.zero_le _, rfl, rfl, Below.refl _ _⟩
    case round =>
      obtain ⟨k, hk, rfl, HP, hb⟩ := hrel
      by_cases hlt : k < L
      · obtain ⟨bh, oh, z, rfl, hhw, hz5, _, hcz⟩ := (o8.below hb).ints.at_ hlt
        obtain ⟨ci, hi, rfl⟩ : ∃ ci : Nat, ch[k]? = some ci ∧ z = (ci : Int) := by
          unfold cN at hz5
          rw [List.getElem?_map, Option.map_eq_some_iff] at hz5
          obtain ⟨ci, h1, h2⟩ := hz5
          exact ⟨ci, h1, h2.symm⟩
        obtain ⟨hcm, hct⟩ := HCH.out ci (List.mem_of_getElem? hi)
        have HCK := Lib.hid (show (cssL (esOf ps) g)[k]? = some (cyc (esOf ps) g ci) by rw [HCSS.out, List.getElem?_map, hi]; rfl)
        have HCT := Lib.hid hct
        obtain ⟨r, hr⟩ : ∃ y, resL (ksL ps) fs (cyc (esOf ps) g ci) = y := ⟨_, rfl⟩
        obtain ⟨q, hq⟩ : ∃ y, bndL (ksL ps) fs (cyc (esOf ps) g ci) = y := ⟨_, rfl⟩
        have HR := Lib.hid hr
        have HQ := Lib.hid hq
        have hrb : -36000000000000 ≤ r ∧ r ≤ 36000000000000 := by
          obtain ⟨h1, h2⟩ := cyc_ok HOK.out h.nodes.len h.pipes.len hcm hct
          have h3 := resTo_bd (ks := ksL ps) (fs := fs) (cs := cyc (esOf ps) g ci) (m := m) (fun i hi => ksL_bd HOK.out (by have := h.pipes.len; omega)) (fun i hi => inR_at HFR.out (by rw [hf.len]; exact hi)) h2 m (Nat.le_refl _)
          have h4 : resTo (ksL ps) fs (cyc (esOf ps) g ci) m = r := by rw [← hr, ← res_all, hf.len]
          rw [h4] at h3
          omega
        have hr1 := hrb.1
        have hr2 := hrb.2
        have HA := Lib.hid (show smB (ksL ps) fs (cyc (esOf ps) g ci) = decide (3 * ab r ≤ q) by unfold smB; rw [hr, hq])
        have hab : 0 ≤ ab r ∧ ab r ≤ 36000000000000 := by unfold ab; omega
        have s1 : IntKind.i64.wrap (3 * ab r) = 3 * ab r := IntWalk.i64_in _ (by omega)
        have bw := bN8.belowA hb
        have bv := bR8.belowA hb
        have xl := bw.lt
        have x0 : wr.cell? ⟨w.heap.size, 0, none⟩ = some (.slice A g c) := bw.cell 0
        have x1 : wr.cell? ⟨w.heap.size, 1, none⟩ = some (.slice B m d) := bw.cell 1
        have yl := bv.lt
        have z0 : wr.cell? ⟨w.heap.size + 1, 0, none⟩ = some (.slice F m cf) := bv.cell 0
        have z1 : wr.cell? ⟨w.heap.size + 1, 1, none⟩ = some (.slice (some ⟨b0, o0, none⟩) g cg) := bv.cell 1
        have kN : Kept (IsNet wr A g c ns B m d ps) := ⟨hN8.below hb⟩
        have kF : Kept (Ints wr F m fs) := ⟨hF8.below hb⟩
        have kh : Kept (Below w8.heap.size w8 wr) := ⟨hb⟩
        have kU : Kept (Below wr.heap.size wr wr.drew) := ⟨(Below.refl _ _).drew⟩
        have k0 : (0 : Int) ≤ (k : Int) := by omega
        have k1 : (k : Int) < (L : Int) := by omega
        obtain ⟨wi, rfl⟩ : ∃ wi : World, wi = wr := ⟨_, rfl⟩
        clear hb bw bv hct hr hq hrb hz5 hi
        by_cases hgt : q < 3 * ab r
        · have HSM := Lib.hid (show smB (ksL ps) fs (cyc (esOf ps) g ci) = false by rw [HA.out]; exact decide_eq_false (by omega))
          have HK3 := Lib.hid (show ckV ns ps g m zs fs ls = 3 by rw [HK.out, show smAll (ksL ps) fs (cssL (esOf ps) g) = false from all_no2 HCK.out HSM.out]; rfl)
          clear hab
          go_upto_region 11 with fail
          go_region_held3 (fun w' => w.heap.size < w'.heap.size ∧ w.heap.size + 1 < w'.heap.size ∧ w'.cell? ⟨w.heap.size, 0, none⟩ = some (.slice A g c) ∧ w'.cell? ⟨w.heap.size, 1, none⟩ = some (.slice B m d) ∧ w'.cell? ⟨w.heap.size + 1, 0, none⟩ = some (.slice F m cf) ∧ w'.cell? ⟨w.heap.size + 1, 1, none⟩ = some (.slice (some ⟨b0, o0, none⟩) g cg) ∧ Kept (Below wi.heap.size wi w'))
            (first | (go_split_ands; refine ⟨by have := hbb.size; omega, by have := hbb.size; omega, ?_, ?_, ?_, ?_, ⟨bthen (Kept.out ‹Kept (Below wi.heap.size _ _)›) hbb (Kept.out ‹Kept (Below wi.heap.size _ _)›).size⟩⟩ <;> (rw [hbb.cell (by simp; omega)]; assumption)) | go_keep)
            (first | (go_at_call 96; go_split_ands; refine (res_any _ _ _ _ _ _ _ _ ci fs ns ps _ (kN.out.below (Kept.out ‹Kept (Below wi.heap.size _ _)›)) HOK.out (kF.out.below (Kept.out ‹Kept (Below wi.heap.size _ _)›)) HFR.out hcm HCT.out).mono ?_; rw [HR.out]; rintro e5 wb ⟨rfl, hbb⟩) | (go_at_call 95; refine (absOf_any _ _ (by omega) (by omega)).mono ?_; rintro e5 wb ⟨rfl, rfl⟩) | (go_at_call 97; go_split_ands; refine (bnd_any _ _ _ _ _ _ _ _ ci fs ns ps _ (kN.out.below (Kept.out ‹Kept (Below wi.heap.size _ _)›)) HOK.out (kF.out.below (Kept.out ‹Kept (Below wi.heap.size _ _)›)) HFR.out hcm HCT.out).mono ?_; rw [HQ.out]; rintro e6 wb ⟨rfl, hbb⟩))
          rename_i hh
          obtain ⟨_, _, _, _, _, _, ⟨hbB⟩⟩ := hh
          have hbN := bthen kh.out hbB kh.out.size
          clear kh kU kN kF
          go_wp2_with fail
          go_ret2
          exact ⟨ri2 HK3.out.symm HCC.out.symm, hW8.trans (hbN.mono hW8.size)⟩
        · have HSM := Lib.hid (show smB (ksL ps) fs (cyc (esOf ps) g ci) = true by rw [HA.out]; exact decide_eq_true (by omega))
          have HN := Lib.hid (all_next HCK.out HP.out HSM.out)
          clear hab
          go_upto_region 11 with fail
          go_region_held3 (fun w' => w.heap.size < w'.heap.size ∧ w.heap.size + 1 < w'.heap.size ∧ w'.cell? ⟨w.heap.size, 0, none⟩ = some (.slice A g c) ∧ w'.cell? ⟨w.heap.size, 1, none⟩ = some (.slice B m d) ∧ w'.cell? ⟨w.heap.size + 1, 0, none⟩ = some (.slice F m cf) ∧ w'.cell? ⟨w.heap.size + 1, 1, none⟩ = some (.slice (some ⟨b0, o0, none⟩) g cg) ∧ Kept (Below wi.heap.size wi w'))
            (first | (go_split_ands; refine ⟨by have := hbb.size; omega, by have := hbb.size; omega, ?_, ?_, ?_, ?_, ⟨bthen (Kept.out ‹Kept (Below wi.heap.size _ _)›) hbb (Kept.out ‹Kept (Below wi.heap.size _ _)›).size⟩⟩ <;> (rw [hbb.cell (by simp; omega)]; assumption)) | go_keep)
            (first | (go_at_call 96; go_split_ands; refine (res_any _ _ _ _ _ _ _ _ ci fs ns ps _ (kN.out.below (Kept.out ‹Kept (Below wi.heap.size _ _)›)) HOK.out (kF.out.below (Kept.out ‹Kept (Below wi.heap.size _ _)›)) HFR.out hcm HCT.out).mono ?_; rw [HR.out]; rintro e5 wb ⟨rfl, hbb⟩) | (go_at_call 95; refine (absOf_any _ _ (by omega) (by omega)).mono ?_; rintro e5 wb ⟨rfl, rfl⟩) | (go_at_call 97; go_split_ands; refine (bnd_any _ _ _ _ _ _ _ _ ci fs ns ps _ (kN.out.below (Kept.out ‹Kept (Below wi.heap.size _ _)›)) HOK.out (kF.out.below (Kept.out ‹Kept (Below wi.heap.size _ _)›)) HFR.out hcm HCT.out).mono ?_; rw [HQ.out]; rintro e6 wb ⟨rfl, hbb⟩))
          rename_i hh
          obtain ⟨_, _, _, _, _, _, ⟨hbB⟩⟩ := hh
          have hbN := bthen kh.out hbB kh.out.size
          clear kh kU kN kF
          go_wp2_with fail
          go_roundw
          case rel => exact ⟨k + 1, by omega, by go_num, HN, hbN⟩
          case measure => simp [intOf]; omega
      · obtain rfl : k = L := by omega
        have HSA := Lib.hid (show smAll (ksL ps) fs (cssL (esOf ps) g) = true by
          have h1 := HP.out
          rwa [List.take_of_length_le (by rw [HCSS.out, List.length_map, HLL.out]; exact Nat.le_refl _)] at h1)
        have HK3 := Lib.hid (show ckV ns ps g m zs fs ls = 0 by rw [HK.out, HSA.out]; rfl)
        go_wp2_with fail
        go_ret2
        exact ⟨ri2 HK3.out.symm HCC.out.symm, hW8.trans (hb.mono hW8.size)⟩
end Go.Proofs.YtpgegfnhokhlmabGreat
