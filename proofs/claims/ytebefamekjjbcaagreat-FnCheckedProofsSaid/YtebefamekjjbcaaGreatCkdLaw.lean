/- The walk of the law FnCheckedProofs. No condition. -/
import Derived.Test.YtebefamekjjbcaaGreatNDraw15
import Derived.Test.YtebefamekjjbcaaGreatPep
import Derived.Test.YtebefamekjjbcaaGreatBlc
import Derived.Test.YtebefamekjjbcaaGreatSame
import Derived.Test.YtebefamekjjbcaaGreatChk
import Derived.Test.YtebefamekjjbcaaGreatChkS
import Derived.Test.YtebefamekjjbcaaGreatBig
set_option linter.unusedVariables false
set_option maxRecDepth 100000
namespace Go.Proofs.YtebefamekjjbcaaGreat
open Go.ChangeShapes Go.WideShapes Go.ChangeAt Go.RowKit Go.Joins Go.Deep
attribute [local go_sem ↓] Go.wp_at_zero Go.wp_at_succ

set_option maxHeartbeats 16000000 in
theorem law_FnCheckedProofs (A : Option Addr) (n c : Nat) (zs : List Int) (w : World) (h0 : Byts w A n zs ∧ n ≤ c ∧ c ≤ maxLen) :
    Calls Tryz.prog 4 #[.slice A n c] w fun e w' => e = .returned (.bool true) ∧ Below w.heap.size w w' := by
  obtain ⟨h, hnc, hcm⟩ := h0
  unfold maxLen at hcm
  by_cases hbig : 4096 < n
  · have hg := fun W => big_any A n c W (by omega)
    simp only [hbig, decide_true] at hg
    have HG := Lib.hid hg
    clear hg
    go_enter Tryz.func4, Tryz.ntmps4
    go_wp2_with (go_at_call 5; refine (HG.out _).mono ?_; rintro e w' ⟨rfl, rfl⟩)
    go_ret
    exact ⟨rfl, Below.refl _ _⟩
  have hg := fun W => big_any A n c W (by omega)
  simp only [hbig, decide_false] at hg
  have HG := Lib.hid hg
  have hn : n ≤ 4096 := by omega
  clear hg hbig
  go_enter Tryz.func4, Tryz.ntmps4
  go_wp2_with (go_at_call 5; refine (HG.out _).mono ?_; rintro e w' ⟨rfl, rfl⟩)
  refine (drawCP_any _ _ _ _ _ h hn).mono ?_
  rintro e w1 ⟨A1, c1, B1, d1, ns, ps, A2, c2, ys, C1, cf, fs, G1, cg, ls, rfl, oN1, oY1, oF1, oL1, hk7, hm11, hl8, hf9, hg9, hW1⟩
  clear h
  obtain ⟨K, hK⟩ : ∃ y, codeC ns ps ns.length ys = y := ⟨_, rfl⟩
  have HK := Lib.hid hK
  clear hK
  obtain ⟨V, hV⟩ : ∃ y, ckV ns ps ns.length ps.length ys fs ls = y := ⟨_, rfl⟩
  have HV := Lib.hid hV
  clear hV
  obtain ⟨M, hM⟩ : ∃ y, supC ns ps ns.length ps.length fs = y := ⟨_, rfl⟩
  have HM := Lib.hid hM
  clear hM
  obtain ⟨L, hL⟩ : ∃ y, supL ns ps ns.length ps.length fs = y := ⟨_, rfl⟩
  have HL := Lib.hid hL
  clear hL
  have hb2 : Below w1.heap.size w1 ((w1.alloc (.cells #[.slice A1 ns.length c1, .slice B1 ps.length d1] 27)).alloc (.cells #[.slice C1 fs.length cf, .slice G1 ls.length cg] 39)) := ((Below.refl _ _).alloc (Nat.le_refl _) _).alloc (by simp) _
  have b_1 := (box_new w1 #[.slice A1 ns.length c1, .slice B1 ps.length d1] 27).alloc (.cells #[.slice C1 fs.length cf, .slice G1 ls.length cg] 39)
  have b_2 := box_at (w1.alloc (.cells #[.slice A1 ns.length c1, .slice B1 ps.length d1] 27)) #[.slice C1 fs.length cf, .slice G1 ls.length cg] 39 (g := w1.heap.size + 1) (by simp)
  have net_3 := oN1.below hb2
  clear oN1
  have sup_4 := oY1.below hb2
  clear oY1
  have fl_5 := oF1.below hb2
  clear oF1
  have lv_6 := oL1.below hb2
  clear oL1
  have hB_7 := bthen hW1 hb2 hW1.size
  clear hW1
  go_wp2_with fail
  generalize ((w1.alloc (.cells #[.slice A1 ns.length c1, .slice B1 ps.length d1] 27)).alloc (.cells #[.slice C1 fs.length cf, .slice G1 ls.length cg] 39)) = w2 at *
  generalize w1.heap.size = X2 at *
  clear hb2
  have x_8 := b_1.lt
  have x_9 : w2.cell? ⟨X2, 0, none⟩ = some (.slice A1 ns.length c1) := b_1.cell 0
  have x_10 : w2.cell? ⟨X2, 1, none⟩ = some (.slice B1 ps.length d1) := b_1.cell 1
  have x_11 := b_2.lt
  have x_12 : w2.cell? ⟨X2 + 1, 0, none⟩ = some (.slice C1 fs.length cf) := b_2.cell 0
  have x_13 : w2.cell? ⟨X2 + 1, 1, none⟩ = some (.slice G1 ls.length cg) := b_2.cell 1
  refine (chk_any _ _ _ _ _ _ _ _ _ _ _ _ _ _ _ ys fs ls ns ps _ net_3.reads sup_4.ints fl_5.ints lv_6.ints (by omega) (by omega) (by omega)).mono ?_
  rw [HV.out, HK.out]
  rintro e w3 ⟨rfl, hb3⟩
  have net_14 := net_3.below hb3
  clear net_3
  have sup_15 := sup_4.below hb3
  clear sup_4
  have fl_16 := fl_5.below hb3
  clear fl_5
  have lv_17 := lv_6.below hb3
  clear lv_6
  have b_18 := b_1.belowA hb3
  have b_19 := b_2.belowA hb3
  have hB_20 := bthen hB_7 hb3 hB_7.size
  clear hB_7
  clear x_8 x_9 x_10 x_11 x_12 x_13
  clear b_1
  clear b_2
  have x_21 := b_18.lt
  have x_22 : w3.cell? ⟨X2, 0, none⟩ = some (.slice A1 ns.length c1) := b_18.cell 0
  have x_23 : w3.cell? ⟨X2, 1, none⟩ = some (.slice B1 ps.length d1) := b_18.cell 1
  have x_24 := b_19.lt
  have x_25 : w3.cell? ⟨X2 + 1, 0, none⟩ = some (.slice C1 fs.length cf) := b_19.cell 0
  have x_26 : w3.cell? ⟨X2 + 1, 1, none⟩ = some (.slice G1 ls.length cg) := b_19.cell 1
  clear hb3
  go_wp2_with fail
  refine (sChk_any _ _ _ _ _ _ _ _ _ _ _ _ _ _ _ ys fs ls ns ps _ net_14.reads sup_15.ints fl_16.ints lv_17.ints (by omega) (by omega) (by omega)).mono ?_
  rw [HV.out, HK.out]
  rintro e w4 ⟨rfl, hb4⟩
  have net_27 := net_14.below hb4
  clear net_14
  have sup_28 := sup_15.below hb4
  clear sup_15
  have fl_29 := fl_16.below hb4
  clear fl_16
  have lv_30 := lv_17.below hb4
  clear lv_17
  have b_31 := b_18.belowA hb4
  have b_32 := b_19.belowA hb4
  have hB_33 := bthen hB_20 hb4 hB_20.size
  clear hB_20
  clear x_21 x_22 x_23 x_24 x_25 x_26
  clear b_18
  clear b_19
  have x_34 := b_31.lt
  have x_35 : w4.cell? ⟨X2, 0, none⟩ = some (.slice A1 ns.length c1) := b_31.cell 0
  have x_36 : w4.cell? ⟨X2, 1, none⟩ = some (.slice B1 ps.length d1) := b_31.cell 1
  have x_37 := b_32.lt
  have x_38 : w4.cell? ⟨X2 + 1, 0, none⟩ = some (.slice C1 fs.length cf) := b_32.cell 0
  have x_39 : w4.cell? ⟨X2 + 1, 1, none⟩ = some (.slice G1 ls.length cg) := b_32.cell 1
  clear hb4
  by_cases t0 : K = 0
  case neg =>
    have e0 : (K != 0) = true := by simpa using t0
    clear t0
    go_wp2_with fail
    go_ret
    exact ⟨rfl, hB_33⟩
  subst t0
  by_cases t1 : V = 1
  case pos =>
    subst t1
    go_wp2_with fail
    go_ret
    exact ⟨rfl, hB_33⟩
  have e1 : (V == 1) = false := by simpa using t1
  have HV1 := Lib.hid t1
  clear t1
  obtain ⟨hfb, hof⟩ := ck_bal HK.out (by rw [HV.out]; exact HV1.out)
  obtain ⟨_, hok, hyb, _⟩ := codeC_zero HK.out
  have hM : supC ns ps ns.length ps.length fs = 0 := by unfold supC; rw [if_pos (codeF_ok hok hfb), if_pos (by rw [hof]; exact hyb)]
  have hL : L = ys := by rw [← HL.out]; unfold supL; rw [if_pos hM]; exact hof
  obtain rfl : M = 0 := by rw [← HM.out]; exact hM
  have HL2 := Lib.hid hL
  have HFB := Lib.hid hfb
  have HOF := Lib.hid hof
  have HOK := Lib.hid hok
  have HYB := Lib.hid hyb
  have hLl : L.length ≤ 1048576 := by rw [hL]; omega
  clear hfb hof hok hyb hL hM
  go_wp2_with fail
  refine (supOf_any _ _ _ _ _ _ _ _ _ ns ps fs _ net_27.reads fl_29.ints (by omega)).mono ?_
  rw [HL.out, HM.out]
  rintro e w5 ⟨P5, p5, rfl, oX5, hb5⟩
  have net_40 := net_27.below hb5
  clear net_27
  have sup_41 := sup_28.below hb5
  clear sup_28
  have fl_42 := fl_29.below hb5
  clear fl_29
  have lv_43 := lv_30.below hb5
  clear lv_30
  have b_44 := b_31.belowA hb5
  have b_45 := b_32.belowA hb5
  have hB_46 := bthen hB_33 hb5 hB_33.size
  clear hB_33
  clear x_34 x_35 x_36 x_37 x_38 x_39
  clear b_31
  clear b_32
  have x_47 := b_44.lt
  have x_48 : w5.cell? ⟨X2, 0, none⟩ = some (.slice A1 ns.length c1) := b_44.cell 0
  have x_49 : w5.cell? ⟨X2, 1, none⟩ = some (.slice B1 ps.length d1) := b_44.cell 1
  have x_50 := b_45.lt
  have x_51 : w5.cell? ⟨X2 + 1, 0, none⟩ = some (.slice C1 fs.length cf) := b_45.cell 0
  have x_52 : w5.cell? ⟨X2 + 1, 1, none⟩ = some (.slice G1 ls.length cg) := b_45.cell 1
  clear hb5
  have dL : decide (L = ys) = true := decide_eq_true HL2.out
  go_wp2_with fail
  refine (likeInts_any _ _ _ _ _ _ _ _ _ oX5.ints sup_41.ints hLl).mono ?_
  rw [dL]
  rintro e w6 ⟨rfl, hq6⟩
  have hb6 := hq6.below w5.heap.size
  have net_53 := net_40.below hb6
  clear net_40
  have sup_54 := sup_41.below hb6
  clear sup_41
  have fl_55 := fl_42.below hb6
  clear fl_42
  have lv_56 := lv_43.below hb6
  clear lv_43
  have x_57 := oX5.below hb6
  clear oX5
  have b_58 := b_44.belowA hb6
  have b_59 := b_45.belowA hb6
  have hB_60 := bthen hB_46 hb6 hB_46.size
  clear hB_46
  clear x_47 x_48 x_49 x_50 x_51 x_52
  clear b_44
  clear b_45
  have x_61 := b_58.lt
  have x_62 : w6.cell? ⟨X2, 0, none⟩ = some (.slice A1 ns.length c1) := b_58.cell 0
  have x_63 : w6.cell? ⟨X2, 1, none⟩ = some (.slice B1 ps.length d1) := b_58.cell 1
  have x_64 := b_59.lt
  have x_65 : w6.cell? ⟨X2 + 1, 0, none⟩ = some (.slice C1 fs.length cf) := b_59.cell 0
  have x_66 : w6.cell? ⟨X2 + 1, 1, none⟩ = some (.slice G1 ls.length cg) := b_59.cell 1
  clear hb6
  clear hq6
  go_wp2_with fail
  refine (balanced_any _ _ _ _ _ _ _ _ _ _ ns ps fs ys _ net_53.reads HOK.out fl_55.ints sup_54.ints HFB.out HYB.out HOF.out).mono ?_
  rintro e w7 ⟨rfl, hb7⟩
  have net_67 := net_53.below hb7
  clear net_53
  have sup_68 := sup_54.below hb7
  clear sup_54
  have fl_69 := fl_55.below hb7
  clear fl_55
  have lv_70 := lv_56.below hb7
  clear lv_56
  have x_71 := x_57.below hb7
  clear x_57
  have b_72 := b_58.belowA hb7
  have b_73 := b_59.belowA hb7
  have hB_74 := bthen hB_60 hb7 hB_60.size
  clear hB_60
  clear x_61 x_62 x_63 x_64 x_65 x_66
  clear b_58
  clear b_59
  have x_75 := b_72.lt
  have x_76 : w7.cell? ⟨X2, 0, none⟩ = some (.slice A1 ns.length c1) := b_72.cell 0
  have x_77 : w7.cell? ⟨X2, 1, none⟩ = some (.slice B1 ps.length d1) := b_72.cell 1
  have x_78 := b_73.lt
  have x_79 : w7.cell? ⟨X2 + 1, 0, none⟩ = some (.slice C1 fs.length cf) := b_73.cell 0
  have x_80 : w7.cell? ⟨X2 + 1, 1, none⟩ = some (.slice G1 ls.length cg) := b_73.cell 1
  clear hb7
  go_wp2_with fail
  refine (same_any _ _ _ _ _ _ _ _ fs ls fs [] _ fl_69.ints fl_69.ints (by omega)).mono ?_
  rintro e w8 ⟨rfl, hb8⟩
  have net_81 := net_67.below hb8
  clear net_67
  have sup_82 := sup_68.below hb8
  clear sup_68
  have fl_83 := fl_69.below hb8
  clear fl_69
  have lv_84 := lv_70.below hb8
  clear lv_70
  have x_85 := x_71.below hb8
  clear x_71
  have b_86 := b_72.belowA hb8
  have b_87 := b_73.belowA hb8
  have hB_88 := bthen hB_74 hb8 hB_74.size
  clear hB_74
  clear x_75 x_76 x_77 x_78 x_79 x_80
  clear b_72
  clear b_73
  have x_89 := b_86.lt
  have x_90 : w8.cell? ⟨X2, 0, none⟩ = some (.slice A1 ns.length c1) := b_86.cell 0
  have x_91 : w8.cell? ⟨X2, 1, none⟩ = some (.slice B1 ps.length d1) := b_86.cell 1
  have x_92 := b_87.lt
  have x_93 : w8.cell? ⟨X2 + 1, 0, none⟩ = some (.slice C1 fs.length cf) := b_87.cell 0
  have x_94 : w8.cell? ⟨X2 + 1, 1, none⟩ = some (.slice G1 ls.length cg) := b_87.cell 1
  clear hb8
  have dF : decide (fs = fs) = true := decide_eq_true rfl
  go_wp2_with fail
  go_ret
  exact ⟨rfl, hB_88⟩
end Go.Proofs.YtebefamekjjbcaaGreat
