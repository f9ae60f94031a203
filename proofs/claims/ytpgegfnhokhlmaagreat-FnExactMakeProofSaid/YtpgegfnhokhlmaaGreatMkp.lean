/- What MakeProof (of the program and of the reference) does, by walks over its text. Condition: at most 2^20 supplies. -/
import Derived.Test.YtpgegfnhokhlmaaGreatOpp
set_option linter.unusedVariables false
set_option maxRecDepth 100000
namespace Go.Proofs.YtpgegfnhokhlmaaGreat
open Go.ChangeShapes Go.WideShapes Go.ChangeAt Go.RowKit Go.Joins Go.Deep
attribute [local go_sem ↓] Go.wp_at_zero Go.wp_at_succ

def lvlB (x : Int) : Bool := inB x (-500000000000000000) 500000000000000000
section
variable (ns : List Nd) (ps : List Pp) (n : Nat) (zs : List Int) (x : Int)
/-- The made proof: code, flows, levels. -/
noncomputable def mkC : Int := if codeC ns ps n zs = 0 then (if lvlB x = true then fofC ns ps n zs else 2) else codeC ns ps n zs
noncomputable def mkF : List Int := if mkC ns ps n zs x = 0 then slvL ns ps n zs else []
noncomputable def mkV : List Int := if mkC ns ps n zs x = 0 then lvR (esOf ps) (ksL ps) n (slvL ns ps n zs) x else []
end
section
variable {ns : List Nd} {ps : List Pp} {n : Nat} {zs : List Int} {x : Int}
theorem mk_bad {k : Int} (h : mkC ns ps n zs x = k) (hk : k ≠ 0) : mkF ns ps n zs x = [] ∧ mkV ns ps n zs x = [] := ⟨by unfold mkF; rw [h, if_neg hk], by unfold mkV; rw [h, if_neg hk]⟩
theorem mk_ok (h : mkC ns ps n zs x = 0) : mkF ns ps n zs x = slvL ns ps n zs ∧ mkV ns ps n zs x = lvR (esOf ps) (ksL ps) n (slvL ns ps n zs) x := ⟨by unfold mkF; rw [if_pos h], by unfold mkV; rw [if_pos h]⟩
theorem mkC_1 (h : codeC ns ps n zs ≠ 0) : mkC ns ps n zs x = codeC ns ps n zs := by unfold mkC; rw [if_neg h]
theorem mkC_2 (h : codeC ns ps n zs = 0) (hx : lvlB x = false) : mkC ns ps n zs x = 2 := by unfold mkC; rw [if_pos h, if_neg (by rw [hx]; decide)]
theorem mkC_3 (h : codeC ns ps n zs = 0) (hx : lvlB x = true) : mkC ns ps n zs x = fofC ns ps n zs := by unfold mkC; rw [if_pos h, if_pos hx]
end
theorem isLvl_any (x : Int) (w : World) : Calls Tryz.prog 98 #[.int .i64 x] w fun e w' => e = .returned (.bool (lvlB x)) ∧ w = w' := by
  go_enter Tryz.func98, Tryz.ntmps98
  go_wp2_with (go_at_call 154; refine (within_any _ _ _ _).mono ?_; rintro e w' ⟨rfl, rfl⟩)
  go_ret
  exact ⟨rfl, rfl⟩
theorem sIsLvl_any (x : Int) (w : World) : Calls Tryz.prog 97 #[.int .i64 x] w fun e w' => e = .returned (.bool (lvlB x)) ∧ w = w' := by
  go_enter Tryz.func97, Tryz.ntmps97
  go_wp2_with (go_at_call 153; refine (in_any _ _ _ _).mono ?_; rintro e w' ⟨rfl, rfl⟩)
  go_ret
  exact ⟨rfl, rfl⟩
theorem retPc_gen {w w' : World} {fl lv : List Int} {k : Int} {A B : Option Addr} {n c m d : Nat} (hn : fl.length = n) (hm : lv.length = m) (h1 : Own w' w.heap.size A n c fl) (h2 : Own w' w.heap.size B m d lv) (ha : Ap A B) (hb : Below w.heap.size w w') : RetPc w fl lv k (.returned (.tuple #[.agg #[.slice A n c, .slice B m d], .int .i64 k])) w' := by
  subst hn hm
  exact ⟨A, c, B, d, rfl, h1, h2, ha, hb⟩
set_option maxHeartbeats 20000000 in
theorem mkp_any (A B C : Option Addr) (n c m d l e : Nat) (x : Int) (zs : List Int) (ns : List Nd) (ps : List Pp) (w : World) (h : IsNet w A n c ns B m d ps) (hz : Ints w C l zs) (hl : l ≤ 1048576) :
    Calls Tryz.prog 40 #[.agg #[.slice A n c, .slice B m d], .slice C l e, .int .i64 x] w (RetPc w (mkF ns ps n zs x) (mkV ns ps n zs x) (mkC ns ps n zs x)) := by
  have bN := (box_new w #[.slice A n c, .slice B m d] 33).alloc (.cells #[.slice none 0 0, .slice none 0 0] 51)
  have bR := box_at (w.alloc (.cells #[.slice A n c, .slice B m d] 33)) #[.slice none 0 0, .slice none 0 0] 51 (g := w.heap.size + 1) (by simp)
  have hV : Below w.heap.size w ((w.alloc (.cells #[.slice A n c, .slice B m d] 33)).alloc (.cells #[.slice none 0 0, .slice none 0 0] 51)) := ((Below.refl _ _).alloc (Nat.le_refl _) _).alloc (by simp) _
  have hV2 : w.heap.size + 2 ≤ ((w.alloc (.cells #[.slice A n c, .slice B m d] 33)).alloc (.cells #[.slice none 0 0, .slice none 0 0] 51)).heap.size := by simp
  by_cases hcc : codeC ns ps n zs = 0
  case neg =>
    have hk := mkC_1 (x := x) hcc
    obtain ⟨hf, hv⟩ := mk_bad hk hcc
    have HF := Lib.hid hf
    have HL := Lib.hid hv
    obtain ⟨K, hK⟩ : ∃ y, codeC ns ps n zs = y := ⟨_, rfl⟩
    rw [hK] at hcc hk
    have HK := Lib.hid hK
    have HKC := Lib.hid hk
    have t1 : (K != 0) = true := by simpa using hcc
    have t2 : (K == 0) = false := by simpa using hcc
    clear hk hf hv hK hcc
    go_enter Tryz.func40, Tryz.ntmps40
    go_upto_region 1 with fail
    generalize ((w.alloc (.cells #[.slice A n c, .slice B m d] 33)).alloc (.cells #[.slice none 0 0, .slice none 0 0] 51)) = V at *
    have xl := bN.lt
    have x0 : V.cell? ⟨w.heap.size, 0, none⟩ = some (.slice A n c) := bN.cell 0
    have x1 : V.cell? ⟨w.heap.size, 1, none⟩ = some (.slice B m d) := bN.cell 1
    have yl := bR.lt
    have z0 : V.cell? ⟨w.heap.size + 1, 0, none⟩ = some (.slice none 0 0) := bR.cell 0
    have z1 : V.cell? ⟨w.heap.size + 1, 1, none⟩ = some (.slice none 0 0) := bR.cell 1
    have f0 := bR.free 0
    have f1 := bR.free 1
    go_upto_region 3 with (go_at_call 87; refine (codeC_any _ _ _ _ _ _ _ _ _ ns ps zs _ (h.below hV) (hz.below hV) hl).mono ?_; rw [HK.out]; rintro e1 w1 ⟨rfl, hb1⟩)
    have hW1 := bthen hV hb1 hV.size
    have bN1 := bN.belowA hb1
    have bR1 := bR.belowA hb1
    have hs1 := hb1.size
    clear x0 x1 xl yl z0 z1 f0 f1
    have xl := bN1.lt
    have x0 : w1.cell? ⟨w.heap.size, 0, none⟩ = some (.slice A n c) := bN1.cell 0
    have x1 : w1.cell? ⟨w.heap.size, 1, none⟩ = some (.slice B m d) := bN1.cell 1
    have yl := bR1.lt
    have z0 : w1.cell? ⟨w.heap.size + 1, 0, none⟩ = some (.slice none 0 0) := bR1.cell 0
    have z1 : w1.cell? ⟨w.heap.size + 1, 1, none⟩ = some (.slice none 0 0) := bR1.cell 1
    have f0 := bR1.free 0
    have f1 := bR1.free 1
    go_wp2_with fail
    refine bodyPost_ret (v := .tuple #[.agg #[.slice none 0 0, .slice none 0 0], .int .i64 (K)]) (by simp [results, Tryz.results40, go_sem, z0, z1]) rfl ?_
    exact retPc_nil HF.out HL.out HKC.out ((hW1.setCell (p := ⟨w.heap.size + 1, 0, none⟩) (by simp) _).setCell (p := ⟨w.heap.size + 1, 1, none⟩) (by simp) _)
  have HCC := Lib.hid hcc
  cases hx : lvlB x
  case false =>
    have hk := mkC_2 hcc hx
    obtain ⟨hf, hv⟩ := mk_bad hk (by decide)
    have HF := Lib.hid hf
    have HL := Lib.hid hv
    have HKC := Lib.hid hk
    have HX := Lib.hid hx
    clear hk hf hv hcc hx
    go_enter Tryz.func40, Tryz.ntmps40
    go_upto_region 1 with fail
    generalize ((w.alloc (.cells #[.slice A n c, .slice B m d] 33)).alloc (.cells #[.slice none 0 0, .slice none 0 0] 51)) = V at *
    have xl := bN.lt
    have x0 : V.cell? ⟨w.heap.size, 0, none⟩ = some (.slice A n c) := bN.cell 0
    have x1 : V.cell? ⟨w.heap.size, 1, none⟩ = some (.slice B m d) := bN.cell 1
    have yl := bR.lt
    have z0 : V.cell? ⟨w.heap.size + 1, 0, none⟩ = some (.slice none 0 0) := bR.cell 0
    have z1 : V.cell? ⟨w.heap.size + 1, 1, none⟩ = some (.slice none 0 0) := bR.cell 1
    have f0 := bR.free 0
    have f1 := bR.free 1
    go_upto_region 4 with (go_at_call 87; refine (codeC_any _ _ _ _ _ _ _ _ _ ns ps zs _ (h.below hV) (hz.below hV) hl).mono ?_; rw [HCC.out]; rintro e1 w1 ⟨rfl, hb1⟩)
    have hW1 := bthen hV hb1 hV.size
    have bN1 := bN.belowA hb1
    have bR1 := bR.belowA hb1
    have hs1 := hb1.size
    clear x0 x1 xl yl z0 z1 f0 f1
    have xl := bN1.lt
    have x0 : w1.cell? ⟨w.heap.size, 0, none⟩ = some (.slice A n c) := bN1.cell 0
    have x1 : w1.cell? ⟨w.heap.size, 1, none⟩ = some (.slice B m d) := bN1.cell 1
    have yl := bR1.lt
    have z0 : w1.cell? ⟨w.heap.size + 1, 0, none⟩ = some (.slice none 0 0) := bR1.cell 0
    have z1 : w1.cell? ⟨w.heap.size + 1, 1, none⟩ = some (.slice none 0 0) := bR1.cell 1
    have f0 := bR1.free 0
    have f1 := bR1.free 1
    go_upto_region 5 with (go_at_call 98; refine (isLvl_any _ _).mono ?_; rw [HX.out]; rintro e9 w9 ⟨rfl, rfl⟩)
    go_wp2_with fail
    refine bodyPost_ret (v := .tuple #[.agg #[.slice none 0 0, .slice none 0 0], .int .i64 (2)]) (by simp [results, Tryz.results40, go_sem, z0, z1]) rfl ?_
    exact retPc_nil HF.out HL.out HKC.out ((hW1.setCell (p := ⟨w.heap.size + 1, 0, none⟩) (by simp) _).setCell (p := ⟨w.heap.size + 1, 1, none⟩) (by simp) _)
  have HX := Lib.hid hx
  have HXB := Lib.hid (inB_iff x _ _ |>.1 hx)
  have hk3 := mkC_3 hcc hx
  obtain ⟨_, hok, hfl, hcb⟩ := codeC_zero hcc
  have hn1 : 0 < n := by have := hok.1; have := h.nodes.len; omega
  have hg : Good (esOf ps) n := by rw [← h.nodes.len]; exact net_good hok
  have HCN := Lib.hid ((conB_iff hg hn1).1 hcb)
  have HOK := Lib.hid hok
  clear hok hfl hcb hg hcc hx
  by_cases hfo : fofC ns ps n zs = 0
  case neg =>
    obtain ⟨hf, hv⟩ := mk_bad hk3 hfo
    have HF := Lib.hid hf
    have HL := Lib.hid hv
    obtain ⟨K, hK⟩ : ∃ y, fofC ns ps n zs = y := ⟨_, rfl⟩
    rw [hK] at hfo hk3
    have HK := Lib.hid hK
    have HKC := Lib.hid hk3
    have t1 : (K != 0) = true := by simpa using hfo
    clear hf hv hK hk3 hfo
    go_enter Tryz.func40, Tryz.ntmps40
    go_upto_region 1 with fail
    generalize ((w.alloc (.cells #[.slice A n c, .slice B m d] 33)).alloc (.cells #[.slice none 0 0, .slice none 0 0] 51)) = V at *
    have xl := bN.lt
    have x0 : V.cell? ⟨w.heap.size, 0, none⟩ = some (.slice A n c) := bN.cell 0
    have x1 : V.cell? ⟨w.heap.size, 1, none⟩ = some (.slice B m d) := bN.cell 1
    have yl := bR.lt
    have z0 : V.cell? ⟨w.heap.size + 1, 0, none⟩ = some (.slice none 0 0) := bR.cell 0
    have z1 : V.cell? ⟨w.heap.size + 1, 1, none⟩ = some (.slice none 0 0) := bR.cell 1
    have f0 := bR.free 0
    have f1 := bR.free 1
    go_upto_region 4 with (go_at_call 87; refine (codeC_any _ _ _ _ _ _ _ _ _ ns ps zs _ (h.below hV) (hz.below hV) hl).mono ?_; rw [HCC.out]; rintro e1 w1 ⟨rfl, hb1⟩)
    have hW1 := bthen hV hb1 hV.size
    have bN1 := bN.belowA hb1
    have bR1 := bR.belowA hb1
    have hs1 := hb1.size
    clear x0 x1 xl yl z0 z1 f0 f1
    have xl := bN1.lt
    have x0 : w1.cell? ⟨w.heap.size, 0, none⟩ = some (.slice A n c) := bN1.cell 0
    have x1 : w1.cell? ⟨w.heap.size, 1, none⟩ = some (.slice B m d) := bN1.cell 1
    have yl := bR1.lt
    have z0 : w1.cell? ⟨w.heap.size + 1, 0, none⟩ = some (.slice none 0 0) := bR1.cell 0
    have z1 : w1.cell? ⟨w.heap.size + 1, 1, none⟩ = some (.slice none 0 0) := bR1.cell 1
    have f0 := bR1.free 0
    have f1 := bR1.free 1
    go_upto_region 6 with (go_at_call 98; refine (isLvl_any _ _).mono ?_; rw [HX.out]; rintro e9 w9 ⟨rfl, rfl⟩)
    go_upto_region 8 with (go_at_call 55; refine (solve_any _ _ _ _ _ _ _ _ _ zs ns ps _ (h.below hW1) (hz.below hW1) hl).mono ?_; rw [HK.out]; rintro e2 w2 ⟨A2, c2, rfl, o2, hb2⟩)
    have hW2 := bthen hW1 hb2 hW1.size
    have bN2 := bN1.belowA hb2
    have bR2 := bR1.belowA hb2
    clear x0 x1 xl yl z0 z1 f0 f1
    have xl := bN2.lt
    have x0 : w2.cell? ⟨w.heap.size, 0, none⟩ = some (.slice A n c) := bN2.cell 0
    have x1 : w2.cell? ⟨w.heap.size, 1, none⟩ = some (.slice B m d) := bN2.cell 1
    have yl := bR2.lt
    have z0 : w2.cell? ⟨w.heap.size + 1, 0, none⟩ = some (.slice none 0 0) := bR2.cell 0
    have z1 : w2.cell? ⟨w.heap.size + 1, 1, none⟩ = some (.slice none 0 0) := bR2.cell 1
    have f0 := bR2.free 0
    have f1 := bR2.free 1
    go_wp2_with fail
    refine bodyPost_ret (v := .tuple #[.agg #[.slice none 0 0, .slice none 0 0], .int .i64 (K)]) (by simp [results, Tryz.results40, go_sem, z0, z1]) rfl ?_
    exact retPc_nil HF.out HL.out HKC.out ((hW2.setCell (p := ⟨w.heap.size + 1, 0, none⟩) (by simp) _).setCell (p := ⟨w.heap.size + 1, 1, none⟩) (by simp) _)
  obtain ⟨_, _, _, hsl, hsr⟩ := slv_facts h hfo
  have hx1 : -4000000000000000000 ≤ x := by have := HXB.out.1; omega
  have hx2 : x ≤ 4000000000000000000 := by have := HXB.out.2; omega
  rw [hfo] at hk3
  obtain ⟨hf, hv⟩ := mk_ok hk3
  have HF := Lib.hid hf
  have HL := Lib.hid hv
  have HKC := Lib.hid hk3
  have HFO := Lib.hid hfo
  have HSL := Lib.hid hsl
  have HSR := Lib.hid hsr
  have HLL := Lib.hid (lvR_len (esOf ps) (ksL ps) n (slvL ns ps n zs) x)
  clear hfo hsl hsr hk3 hf hv
  go_enter Tryz.func40, Tryz.ntmps40
  go_upto_region 1 with fail
  generalize ((w.alloc (.cells #[.slice A n c, .slice B m d] 33)).alloc (.cells #[.slice none 0 0, .slice none 0 0] 51)) = V at *
  have xl := bN.lt
  have x0 : V.cell? ⟨w.heap.size, 0, none⟩ = some (.slice A n c) := bN.cell 0
  have x1 : V.cell? ⟨w.heap.size, 1, none⟩ = some (.slice B m d) := bN.cell 1
  have yl := bR.lt
  have z0 : V.cell? ⟨w.heap.size + 1, 0, none⟩ = some (.slice none 0 0) := bR.cell 0
  have z1 : V.cell? ⟨w.heap.size + 1, 1, none⟩ = some (.slice none 0 0) := bR.cell 1
  have f0 := bR.free 0
  have f1 := bR.free 1
  go_upto_region 4 with (go_at_call 87; refine (codeC_any _ _ _ _ _ _ _ _ _ ns ps zs _ (h.below hV) (hz.below hV) hl).mono ?_; rw [HCC.out]; rintro e1 w1 ⟨rfl, hb1⟩)
  have hW1 := bthen hV hb1 hV.size
  have bN1 := bN.belowA hb1
  have bR1 := bR.belowA hb1
  have hs1 := hb1.size
  clear x0 x1 xl yl z0 z1 f0 f1
  have xl := bN1.lt
  have x0 : w1.cell? ⟨w.heap.size, 0, none⟩ = some (.slice A n c) := bN1.cell 0
  have x1 : w1.cell? ⟨w.heap.size, 1, none⟩ = some (.slice B m d) := bN1.cell 1
  have yl := bR1.lt
  have z0 : w1.cell? ⟨w.heap.size + 1, 0, none⟩ = some (.slice none 0 0) := bR1.cell 0
  have z1 : w1.cell? ⟨w.heap.size + 1, 1, none⟩ = some (.slice none 0 0) := bR1.cell 1
  have f0 := bR1.free 0
  have f1 := bR1.free 1
  go_upto_region 6 with (go_at_call 98; refine (isLvl_any _ _).mono ?_; rw [HX.out]; rintro e9 w9 ⟨rfl, rfl⟩)
  go_upto_region 9 with (go_at_call 55; refine (solve_any _ _ _ _ _ _ _ _ _ zs ns ps _ (h.below hW1) (hz.below hW1) hl).mono ?_; rw [HFO.out]; rintro e2 w2 ⟨A2, c2, rfl, o2, hb2⟩; rw [HSL.out] at o2 ⊢)
  have hW2 := bthen hW1 hb2 hW1.size
  have bN2 := bN1.belowA hb2
  have bR2 := bR1.belowA hb2
  have hs2 := hb2.size
  clear x0 x1 xl yl z0 z1 f0 f1
  have xl := bN2.lt
  have x0 : w2.cell? ⟨w.heap.size, 0, none⟩ = some (.slice A n c) := bN2.cell 0
  have x1 : w2.cell? ⟨w.heap.size, 1, none⟩ = some (.slice B m d) := bN2.cell 1
  have yl := bR2.lt
  have z0 : w2.cell? ⟨w.heap.size + 1, 0, none⟩ = some (.slice none 0 0) := bR2.cell 0
  have z1 : w2.cell? ⟨w.heap.size + 1, 1, none⟩ = some (.slice none 0 0) := bR2.cell 1
  have f0 := bR2.free 0
  have f1 := bR2.free 1
  go_wp2_with (go_at_call 90; refine (lev_any _ _ _ _ _ _ _ _ x (slvL ns ps n zs) ns ps _ (h.below hW2) HOK.out o2.ints HSR.out ⟨hx1, hx2⟩).mono ?_; rintro e7 w7 ⟨A7, c7, rfl, o8, hb7⟩; rw [HLL.out] at o8 ⊢; have hc7 := hb7.cell (p := ⟨w.heap.size + 1, 0, none⟩) (by simp; omega); have hc8 := hb7.cell (p := ⟨w.heap.size + 1, 1, none⟩) (by simp; omega); rw [z0] at hc7; rw [z1] at hc8; have hd7 := hb7.frozen (p := ⟨w.heap.size + 1, 0, none⟩) (by simp; omega); have hd8 := hb7.frozen (p := ⟨w.heap.size + 1, 1, none⟩) (by simp; omega); rw [f0] at hd7; rw [f1] at hd8; have hs7 := hb7.size; have hyl7 : w.heap.size + 1 < w7.heap.size := by omega)
  have hW7 := bthen hW2 hb7 hW2.size
  refine bodyPost_ret (v := .tuple #[.agg #[.slice A2 m c2, .slice A7 n c7], .int .i64 0]) (by simp [results, Tryz.results40, go_sem, hc7, hc8]) rfl ?_
  rw [HF.out, HL.out, HKC.out]
  have e1 := HSL.out
  have e2 := HLL.out
  refine retPc_gen e1 e2 ?_ ?_ (ap_late o2 o8 (Nat.le_refl _)) ((hW7.setCell (p := ⟨w.heap.size + 1, 0, none⟩) (by simp) _).setCell (p := ⟨w.heap.size + 1, 1, none⟩) (by simp) _)
  · exact Own.mono (B := w1.heap.size) (Own.low1 (Own.low1 (o2.below hb7) (by simp; omega) _) (by simp; omega) _) (by omega)
  · exact Own.mono (B := w2.heap.size) (Own.low1 (Own.low1 o8 (by simp; omega) _) (by simp; omega) _) (by omega)
set_option maxHeartbeats 20000000 in
theorem sMkp_any (A B C : Option Addr) (n c m d l e : Nat) (x : Int) (zs : List Int) (ns : List Nd) (ps : List Pp) (w : World) (h : IsNet w A n c ns B m d ps) (hz : Ints w C l zs) (hnil : C = none → e = 0) (hl : l ≤ 1048576) :
    Calls Tryz.prog 39 #[.agg #[.slice A n c, .slice B m d], .slice C l e, .int .i64 x] w (RetPc w (mkF ns ps n zs x) (mkV ns ps n zs x) (mkC ns ps n zs x)) := by
  have bN := (box_new w #[.slice A n c, .slice B m d] 33).alloc (.cells #[.slice none 0 0, .slice none 0 0] 51)
  have bR := box_at (w.alloc (.cells #[.slice A n c, .slice B m d] 33)) #[.slice none 0 0, .slice none 0 0] 51 (g := w.heap.size + 1) (by simp)
  have hV : Below w.heap.size w ((w.alloc (.cells #[.slice A n c, .slice B m d] 33)).alloc (.cells #[.slice none 0 0, .slice none 0 0] 51)) := ((Below.refl _ _).alloc (Nat.le_refl _) _).alloc (by simp) _
  have hV2 : w.heap.size + 2 ≤ ((w.alloc (.cells #[.slice A n c, .slice B m d] 33)).alloc (.cells #[.slice none 0 0, .slice none 0 0] 51)).heap.size := by simp
  have HNL := Lib.hid hnil
  clear hnil
  by_cases hcc : codeC ns ps n zs = 0
  case neg =>
    have hk := mkC_1 (x := x) hcc
    obtain ⟨hf, hv⟩ := mk_bad hk hcc
    have HF := Lib.hid hf
    have HL := Lib.hid hv
    obtain ⟨K, hK⟩ : ∃ y, codeC ns ps n zs = y := ⟨_, rfl⟩
    rw [hK] at hcc hk
    have HK := Lib.hid hK
    have HKC := Lib.hid hk
    have t1 : (K != 0) = true := by simpa using hcc
    have t2 : (K == 0) = false := by simpa using hcc
    clear hk hf hv hK hcc
    go_enter Tryz.func39, Tryz.ntmps39
    go_upto_region 1 with fail
    generalize ((w.alloc (.cells #[.slice A n c, .slice B m d] 33)).alloc (.cells #[.slice none 0 0, .slice none 0 0] 51)) = V at *
    have xl := bN.lt
    have x0 : V.cell? ⟨w.heap.size, 0, none⟩ = some (.slice A n c) := bN.cell 0
    have x1 : V.cell? ⟨w.heap.size, 1, none⟩ = some (.slice B m d) := bN.cell 1
    have yl := bR.lt
    have z0 : V.cell? ⟨w.heap.size + 1, 0, none⟩ = some (.slice none 0 0) := bR.cell 0
    have z1 : V.cell? ⟨w.heap.size + 1, 1, none⟩ = some (.slice none 0 0) := bR.cell 1
    have f0 := bR.free 0
    have f1 := bR.free 1
    go_upto_region 5 with (go_at_call 82; refine (sCodeC_any _ _ _ _ _ _ _ _ _ ns ps zs _ (h.below hV) (hz.below hV) hl).mono ?_; rw [HK.out]; rintro e1 w1 ⟨rfl, hb1⟩)
    have hW1 := bthen hV hb1 hV.size
    have bN1 := bN.belowA hb1
    have bR1 := bR.belowA hb1
    have hs1 := hb1.size
    clear x0 x1 xl yl z0 z1 f0 f1
    have xl := bN1.lt
    have x0 : w1.cell? ⟨w.heap.size, 0, none⟩ = some (.slice A n c) := bN1.cell 0
    have x1 : w1.cell? ⟨w.heap.size, 1, none⟩ = some (.slice B m d) := bN1.cell 1
    have yl := bR1.lt
    have z0 : w1.cell? ⟨w.heap.size + 1, 0, none⟩ = some (.slice none 0 0) := bR1.cell 0
    have z1 : w1.cell? ⟨w.heap.size + 1, 1, none⟩ = some (.slice none 0 0) := bR1.cell 1
    have f0 := bR1.free 0
    have f1 := bR1.free 1
    go_wp2_with fail
    refine bodyPost_ret (v := .tuple #[.agg #[.slice none 0 0, .slice none 0 0], .int .i64 (K)]) (by simp [results, Tryz.results39, go_sem, z0, z1]) rfl ?_
    exact retPc_nil HF.out HL.out HKC.out ((hW1.setCell (p := ⟨w.heap.size + 1, 0, none⟩) (by simp) _).setCell (p := ⟨w.heap.size + 1, 1, none⟩) (by simp) _)
  have HCC := Lib.hid hcc
  cases hx : lvlB x
  case false =>
    have hk := mkC_2 hcc hx
    obtain ⟨hf, hv⟩ := mk_bad hk (by decide)
    have HF := Lib.hid hf
    have HL := Lib.hid hv
    have HKC := Lib.hid hk
    have HX := Lib.hid hx
    clear hk hf hv hcc hx
    go_enter Tryz.func39, Tryz.ntmps39
    go_upto_region 1 with fail
    generalize ((w.alloc (.cells #[.slice A n c, .slice B m d] 33)).alloc (.cells #[.slice none 0 0, .slice none 0 0] 51)) = V at *
    have xl := bN.lt
    have x0 : V.cell? ⟨w.heap.size, 0, none⟩ = some (.slice A n c) := bN.cell 0
    have x1 : V.cell? ⟨w.heap.size, 1, none⟩ = some (.slice B m d) := bN.cell 1
    have yl := bR.lt
    have z0 : V.cell? ⟨w.heap.size + 1, 0, none⟩ = some (.slice none 0 0) := bR.cell 0
    have z1 : V.cell? ⟨w.heap.size + 1, 1, none⟩ = some (.slice none 0 0) := bR.cell 1
    have f0 := bR.free 0
    have f1 := bR.free 1
    go_upto_region 2 with (go_at_call 82; refine (sCodeC_any _ _ _ _ _ _ _ _ _ ns ps zs _ (h.below hV) (hz.below hV) hl).mono ?_; rw [HCC.out]; rintro e1 w1 ⟨rfl, hb1⟩)
    have hW1 := bthen hV hb1 hV.size
    have bN1 := bN.belowA hb1
    have bR1 := bR.belowA hb1
    have hs1 := hb1.size
    clear x0 x1 xl yl z0 z1 f0 f1
    have xl := bN1.lt
    have x0 : w1.cell? ⟨w.heap.size, 0, none⟩ = some (.slice A n c) := bN1.cell 0
    have x1 : w1.cell? ⟨w.heap.size, 1, none⟩ = some (.slice B m d) := bN1.cell 1
    have yl := bR1.lt
    have z0 : w1.cell? ⟨w.heap.size + 1, 0, none⟩ = some (.slice none 0 0) := bR1.cell 0
    have z1 : w1.cell? ⟨w.heap.size + 1, 1, none⟩ = some (.slice none 0 0) := bR1.cell 1
    have f0 := bR1.free 0
    have f1 := bR1.free 1
    go_upto_region 5 with (go_at_call 97; refine (sIsLvl_any _ _).mono ?_; rw [HX.out]; rintro e9 w9 ⟨rfl, rfl⟩)
    go_wp2_with fail
    refine bodyPost_ret (v := .tuple #[.agg #[.slice none 0 0, .slice none 0 0], .int .i64 (2)]) (by simp [results, Tryz.results39, go_sem, z0, z1]) rfl ?_
    exact retPc_nil HF.out HL.out HKC.out ((hW1.setCell (p := ⟨w.heap.size + 1, 0, none⟩) (by simp) _).setCell (p := ⟨w.heap.size + 1, 1, none⟩) (by simp) _)
  have HX := Lib.hid hx
  have HXB := Lib.hid (inB_iff x _ _ |>.1 hx)
  have hk3 := mkC_3 hcc hx
  obtain ⟨_, hok, hfl, hcb⟩ := codeC_zero hcc
  have hn1 : 0 < n := by have := hok.1; have := h.nodes.len; omega
  have hg : Good (esOf ps) n := by rw [← h.nodes.len]; exact net_good hok
  have HCN := Lib.hid ((conB_iff hg hn1).1 hcb)
  have HOK := Lib.hid hok
  clear hok hfl hcb hg hcc hx
  by_cases hfo : fofC ns ps n zs = 0
  case neg =>
    obtain ⟨hf, hv⟩ := mk_bad hk3 hfo
    have HF := Lib.hid hf
    have HL := Lib.hid hv
    obtain ⟨K, hK⟩ : ∃ y, fofC ns ps n zs = y := ⟨_, rfl⟩
    rw [hK] at hfo hk3
    have HK := Lib.hid hK
    have HKC := Lib.hid hk3
    have t1 : (K != 0) = true := by simpa using hfo
    clear hf hv hK hk3 hfo
    go_enter Tryz.func39, Tryz.ntmps39
    go_upto_region 1 with fail
    generalize ((w.alloc (.cells #[.slice A n c, .slice B m d] 33)).alloc (.cells #[.slice none 0 0, .slice none 0 0] 51)) = V at *
    have xl := bN.lt
    have x0 : V.cell? ⟨w.heap.size, 0, none⟩ = some (.slice A n c) := bN.cell 0
    have x1 : V.cell? ⟨w.heap.size, 1, none⟩ = some (.slice B m d) := bN.cell 1
    have yl := bR.lt
    have z0 : V.cell? ⟨w.heap.size + 1, 0, none⟩ = some (.slice none 0 0) := bR.cell 0
    have z1 : V.cell? ⟨w.heap.size + 1, 1, none⟩ = some (.slice none 0 0) := bR.cell 1
    have f0 := bR.free 0
    have f1 := bR.free 1
    go_upto_region 2 with (go_at_call 82; refine (sCodeC_any _ _ _ _ _ _ _ _ _ ns ps zs _ (h.below hV) (hz.below hV) hl).mono ?_; rw [HCC.out]; rintro e1 w1 ⟨rfl, hb1⟩)
    have hW1 := bthen hV hb1 hV.size
    have bN1 := bN.belowA hb1
    have bR1 := bR.belowA hb1
    have hs1 := hb1.size
    clear x0 x1 xl yl z0 z1 f0 f1
    have xl := bN1.lt
    have x0 : w1.cell? ⟨w.heap.size, 0, none⟩ = some (.slice A n c) := bN1.cell 0
    have x1 : w1.cell? ⟨w.heap.size, 1, none⟩ = some (.slice B m d) := bN1.cell 1
    have yl := bR1.lt
    have z0 : w1.cell? ⟨w.heap.size + 1, 0, none⟩ = some (.slice none 0 0) := bR1.cell 0
    have z1 : w1.cell? ⟨w.heap.size + 1, 1, none⟩ = some (.slice none 0 0) := bR1.cell 1
    have f0 := bR1.free 0
    have f1 := bR1.free 1
    go_upto_region 6 with (go_at_call 97; refine (sIsLvl_any _ _).mono ?_; rw [HX.out]; rintro e9 w9 ⟨rfl, rfl⟩)
    go_upto_region 8 with (go_at_call 26; refine (sSolveL_any _ _ _ _ _ _ _ _ _ zs ns ps _ (h.below hW1) (hz.below hW1) HNL.out hl).mono ?_; rw [HK.out]; rintro e2 w2 ⟨A2, c2, rfl, o2, hb2⟩)
    have hW2 := bthen hW1 hb2 hW1.size
    have bN2 := bN1.belowA hb2
    have bR2 := bR1.belowA hb2
    clear x0 x1 xl yl z0 z1 f0 f1
    have xl := bN2.lt
    have x0 : w2.cell? ⟨w.heap.size, 0, none⟩ = some (.slice A n c) := bN2.cell 0
    have x1 : w2.cell? ⟨w.heap.size, 1, none⟩ = some (.slice B m d) := bN2.cell 1
    have yl := bR2.lt
    have z0 : w2.cell? ⟨w.heap.size + 1, 0, none⟩ = some (.slice none 0 0) := bR2.cell 0
    have z1 : w2.cell? ⟨w.heap.size + 1, 1, none⟩ = some (.slice none 0 0) := bR2.cell 1
    have f0 := bR2.free 0
    have f1 := bR2.free 1
    go_wp2_with fail
    refine bodyPost_ret (v := .tuple #[.agg #[.slice none 0 0, .slice none 0 0], .int .i64 (K)]) (by simp [results, Tryz.results39, go_sem, z0, z1]) rfl ?_
    exact retPc_nil HF.out HL.out HKC.out ((hW2.setCell (p := ⟨w.heap.size + 1, 0, none⟩) (by simp) _).setCell (p := ⟨w.heap.size + 1, 1, none⟩) (by simp) _)
  obtain ⟨_, _, _, hsl, hsr⟩ := slv_facts h hfo
  have hx1 : -4000000000000000000 ≤ x := by have := HXB.out.1; omega
  have hx2 : x ≤ 4000000000000000000 := by have := HXB.out.2; omega
  rw [hfo] at hk3
  obtain ⟨hf, hv⟩ := mk_ok hk3
  have HF := Lib.hid hf
  have HL := Lib.hid hv
  have HKC := Lib.hid hk3
  have HFO := Lib.hid hfo
  have HSL := Lib.hid hsl
  have HSR := Lib.hid hsr
  have HLL := Lib.hid (lvR_len (esOf ps) (ksL ps) n (slvL ns ps n zs) x)
  clear hfo hsl hsr hk3 hf hv
  go_enter Tryz.func39, Tryz.ntmps39
  go_upto_region 1 with fail
  generalize ((w.alloc (.cells #[.slice A n c, .slice B m d] 33)).alloc (.cells #[.slice none 0 0, .slice none 0 0] 51)) = V at *
  have xl := bN.lt
  have x0 : V.cell? ⟨w.heap.size, 0, none⟩ = some (.slice A n c) := bN.cell 0
  have x1 : V.cell? ⟨w.heap.size, 1, none⟩ = some (.slice B m d) := bN.cell 1
  have yl := bR.lt
  have z0 : V.cell? ⟨w.heap.size + 1, 0, none⟩ = some (.slice none 0 0) := bR.cell 0
  have z1 : V.cell? ⟨w.heap.size + 1, 1, none⟩ = some (.slice none 0 0) := bR.cell 1
  have f0 := bR.free 0
  have f1 := bR.free 1
  go_upto_region 2 with (go_at_call 82; refine (sCodeC_any _ _ _ _ _ _ _ _ _ ns ps zs _ (h.below hV) (hz.below hV) hl).mono ?_; rw [HCC.out]; rintro e1 w1 ⟨rfl, hb1⟩)
  have hW1 := bthen hV hb1 hV.size
  have bN1 := bN.belowA hb1
  have bR1 := bR.belowA hb1
  have hs1 := hb1.size
  clear x0 x1 xl yl z0 z1 f0 f1
  have xl := bN1.lt
  have x0 : w1.cell? ⟨w.heap.size, 0, none⟩ = some (.slice A n c) := bN1.cell 0
  have x1 : w1.cell? ⟨w.heap.size, 1, none⟩ = some (.slice B m d) := bN1.cell 1
  have yl := bR1.lt
  have z0 : w1.cell? ⟨w.heap.size + 1, 0, none⟩ = some (.slice none 0 0) := bR1.cell 0
  have z1 : w1.cell? ⟨w.heap.size + 1, 1, none⟩ = some (.slice none 0 0) := bR1.cell 1
  have f0 := bR1.free 0
  have f1 := bR1.free 1
  go_upto_region 6 with (go_at_call 97; refine (sIsLvl_any _ _).mono ?_; rw [HX.out]; rintro e9 w9 ⟨rfl, rfl⟩)
  go_upto_region 9 with (go_at_call 26; refine (sSolveL_any _ _ _ _ _ _ _ _ _ zs ns ps _ (h.below hW1) (hz.below hW1) HNL.out hl).mono ?_; rw [HFO.out]; rintro e2 w2 ⟨A2, c2, rfl, o2, hb2⟩; rw [HSL.out] at o2 ⊢)
  have hW2 := bthen hW1 hb2 hW1.size
  have bN2 := bN1.belowA hb2
  have bR2 := bR1.belowA hb2
  have hs2 := hb2.size
  clear x0 x1 xl yl z0 z1 f0 f1
  have xl := bN2.lt
  have x0 : w2.cell? ⟨w.heap.size, 0, none⟩ = some (.slice A n c) := bN2.cell 0
  have x1 : w2.cell? ⟨w.heap.size, 1, none⟩ = some (.slice B m d) := bN2.cell 1
  have yl := bR2.lt
  have z0 : w2.cell? ⟨w.heap.size + 1, 0, none⟩ = some (.slice none 0 0) := bR2.cell 0
  have z1 : w2.cell? ⟨w.heap.size + 1, 1, none⟩ = some (.slice none 0 0) := bR2.cell 1
  have f0 := bR2.free 0
  have f1 := bR2.free 1
  go_wp2_with (go_at_call 85; refine (sLvs_any _ _ _ _ _ _ _ _ x (slvL ns ps n zs) ns ps _ (h.below hW2) HOK.out HCN.out o2.ints HSR.out ⟨hx1, hx2⟩).mono ?_; rintro e7 w7 ⟨A7, c7, rfl, o8, hb7⟩; rw [HLL.out] at o8 ⊢; have hc7 := hb7.cell (p := ⟨w.heap.size + 1, 0, none⟩) (by simp; omega); have hc8 := hb7.cell (p := ⟨w.heap.size + 1, 1, none⟩) (by simp; omega); rw [z0] at hc7; rw [z1] at hc8; have hd7 := hb7.frozen (p := ⟨w.heap.size + 1, 0, none⟩) (by simp; omega); have hd8 := hb7.frozen (p := ⟨w.heap.size + 1, 1, none⟩) (by simp; omega); rw [f0] at hd7; rw [f1] at hd8; have hs7 := hb7.size; have hyl7 : w.heap.size + 1 < w7.heap.size := by omega)
  have hW7 := bthen hW2 hb7 hW2.size
  refine bodyPost_ret (v := .tuple #[.agg #[.slice A2 m c2, .slice A7 n c7], .int .i64 0]) (by simp [results, Tryz.results39, go_sem, hc7, hc8]) rfl ?_
  rw [HF.out, HL.out, HKC.out]
  have e1 := HSL.out
  have e2 := HLL.out
  refine retPc_gen e1 e2 ?_ ?_ (ap_late o2 o8 (Nat.le_refl _)) ((hW7.setCell (p := ⟨w.heap.size + 1, 0, none⟩) (by simp) _).setCell (p := ⟨w.heap.size + 1, 1, none⟩) (by simp) _)
  · exact Own.mono (B := w1.heap.size) (Own.low1 (Own.low1 (o2.below hb7) (by simp; omega) _) (by simp; omega) _) (by omega)
  · exact Own.mono (B := w2.heap.size) (Own.low1 (Own.low1 o8 (by simp; omega) _) (by simp; omega) _) (by omega)
theorem mkF_len {A B : Option Addr} {n c m d : Nat} {ns : List Nd} {ps : List Pp} {zs : List Int} {x : Int} {w : World} (h : IsNet w A n c ns B m d ps) (hm : m ≤ 1048576) : (mkF ns ps n zs x).length ≤ 1048576 := by
  unfold mkF
  split
  · exact slvL_len h hm
  · simp
theorem mkV_len {A B : Option Addr} {n c m d : Nat} {ns : List Nd} {ps : List Pp} {zs : List Int} {x : Int} {w : World} (h : IsNet w A n c ns B m d ps) (hn : n ≤ 1048576) : (mkV ns ps n zs x).length ≤ 1048576 := by
  unfold mkV
  split
  · rw [lvR_len]; exact hn
  · simp
end Go.Proofs.YtpgegfnhokhlmaaGreat
