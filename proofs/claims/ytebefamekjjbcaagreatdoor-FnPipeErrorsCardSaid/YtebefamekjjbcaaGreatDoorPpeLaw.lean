/- The walk of the law FnPipeErrors. Condition: the table of powers of ten. -/
import Derived.Test.YtebefamekjjbcaaGreatDoorNDraw16
import Derived.Deep.DeepCutAuto
import Derived.Test.YtebefamekjjbcaaGreatDoorKP
import Derived.Test.YtebefamekjjbcaaGreatDoorKT
import Derived.Test.YtebefamekjjbcaaGreatDoorChk
import Derived.Test.YtebefamekjjbcaaGreatDoorBig
set_option linter.unusedVariables false
set_option maxRecDepth 100000
namespace Go.Proofs.YtebefamekjjbcaaGreatDoor
open Go.ChangeShapes Go.WideShapes Go.ChangeAt Go.RowKit Go.Joins Go.Deep
attribute [local go_sem ↓] Go.wp_at_zero Go.wp_at_succ

theorem sizeW_any (z : Int) (w : World) (h1 : -4000000000000000000 ≤ z) (h2 : z ≤ 4000000000000000000) :
    Calls Tryz.prog 12 #[.int .i64 z] w fun e w' => e = .returned (.int .i64 (ab z)) ∧ w = w' := by
  have s1 : IntKind.i64.wrap (-z) = -z := IntWalk.i64_in _ (by omega)
  go_enter Tryz.func12, Tryz.ntmps12
  by_cases h : z ≤ -z
  · have e1 : max z (-z) = -z := by omega
    have HE := Lib.hid (show ab z = -z by unfold ab; omega)
    go_wp2_with fail
    go_ret
    exact ⟨ri HE.out.symm, rfl⟩
  · have e1 : max z (-z) = z := by omega
    have HE := Lib.hid (show ab z = z by unfold ab; omega)
    go_wp2_with fail
    go_ret
    exact ⟨ri HE.out.symm, rfl⟩
set_option maxHeartbeats 16000000 in
theorem law_FnPipeErrors (A : Option Addr) (n c : Nat) (zs : List Int) (w : World) (h0 : Byts w A n zs ∧ n ≤ c ∧ c ≤ maxLen) (hT : PowTab w) :
    Calls Tryz.prog 3 #[.slice A n c] w fun e w' => e = .returned (.bool true) ∧ Below w.heap.size w w' := by
  have HT := Lib.hid hT
  clear hT
  obtain ⟨h, hnc, hcm⟩ := h0
  unfold maxLen at hcm
  by_cases hbig : 4096 < n
  · have hg := fun W => big_any A n c W (by omega)
    simp only [hbig, decide_true] at hg
    have HG := Lib.hid hg
    clear hg
    go_enter Tryz.func3, Tryz.ntmps3
    go_wp2_with (go_at_call 4; refine (HG.out _).mono ?_; rintro e w' ⟨rfl, rfl⟩)
    go_ret
    exact ⟨rfl, Below.refl _ _⟩
  have hg := fun W => big_any A n c W (by omega)
  simp only [hbig, decide_false] at hg
  have HG := Lib.hid hg
  have hn : n ≤ 4096 := by omega
  clear hg hbig
  go_enter Tryz.func3, Tryz.ntmps3
  go_wp2_with (go_at_call 4; refine (HG.out _).mono ?_; rintro e w' ⟨rfl, rfl⟩)
  refine (drawPE_any _ _ _ _ _ h hn).mono ?_
  rintro e w1 ⟨A1, c1, B1, d1, ns, ps, C1, cf, fs, G1, cg, ls, q, rfl, oN1, oF1, oL1, hk7, hm11, hf9, hg9, hW1⟩
  clear h
  obtain ⟨K, hK⟩ : ∃ y, (perR ns ps ps.length ns.length fs ls q).2 = y := ⟨_, rfl⟩
  have HK := Lib.hid hK
  clear hK
  obtain ⟨E, hE⟩ : ∃ y, (perR ns ps ps.length ns.length fs ls q).1 = y := ⟨_, rfl⟩
  have HE := Lib.hid hE
  clear hE
  obtain ⟨M, hM⟩ : ∃ y, (prfR ns ps ps.length ns.length fs ls).2 = y := ⟨_, rfl⟩
  have HM := Lib.hid hM
  clear hM
  obtain ⟨V, hV⟩ : ∃ y, (prfR ns ps ps.length ns.length fs ls).1 = y := ⟨_, rfl⟩
  have HV := Lib.hid hV
  clear hV
  have hb2 : Below w1.heap.size w1 ((w1.alloc (.cells #[.slice A1 ns.length c1, .slice B1 ps.length d1] 27)).alloc (.cells #[.slice C1 fs.length cf, .slice G1 ls.length cg] 30)) := ((Below.refl _ _).alloc (Nat.le_refl _) _).alloc (by simp) _
  have b_1 := (box_new w1 #[.slice A1 ns.length c1, .slice B1 ps.length d1] 27).alloc (.cells #[.slice C1 fs.length cf, .slice G1 ls.length cg] 30)
  have b_2 := box_at (w1.alloc (.cells #[.slice A1 ns.length c1, .slice B1 ps.length d1] 27)) #[.slice C1 fs.length cf, .slice G1 ls.length cg] 30 (g := w1.heap.size + 1) (by simp)
  have net_3 := oN1.below hb2
  clear oN1
  have fl_4 := oF1.below hb2
  clear oF1
  have lv_5 := oL1.below hb2
  clear oL1
  have hB_6 := bthen hW1 hb2 hW1.size
  clear hW1
  go_wp2_with fail
  generalize ((w1.alloc (.cells #[.slice A1 ns.length c1, .slice B1 ps.length d1] 27)).alloc (.cells #[.slice C1 fs.length cf, .slice G1 ls.length cg] 30)) = w2 at *
  generalize w1.heap.size = X2 at *
  clear hb2
  have x_7 := b_1.lt
  have x_8 : w2.cell? ⟨X2, 0, none⟩ = some (.slice A1 ns.length c1) := b_1.cell 0
  have x_9 : w2.cell? ⟨X2, 1, none⟩ = some (.slice B1 ps.length d1) := b_1.cell 1
  have x_10 := b_2.lt
  have x_11 : w2.cell? ⟨X2 + 1, 0, none⟩ = some (.slice C1 fs.length cf) := b_2.cell 0
  have x_12 : w2.cell? ⟨X2 + 1, 1, none⟩ = some (.slice G1 ls.length cg) := b_2.cell 1
  refine (pipeError_any _ _ _ _ _ _ _ _ _ _ _ _ ns ps fs ls _ net_3.reads fl_4.ints lv_5.ints (by omega) (by omega) q).mono ?_
  rw [HE.out, HK.out]
  rintro e w3 ⟨rfl, hb3⟩
  have net_13 := net_3.below hb3
  clear net_3
  have fl_14 := fl_4.below hb3
  clear fl_4
  have lv_15 := lv_5.below hb3
  clear lv_5
  have b_16 := b_1.belowA hb3
  have b_17 := b_2.belowA hb3
  have hB_18 := bthen hB_6 hb3 hB_6.size
  clear hB_6
  clear x_7 x_8 x_9 x_10 x_11 x_12
  clear b_1
  clear b_2
  have x_19 := b_16.lt
  have x_20 : w3.cell? ⟨X2, 0, none⟩ = some (.slice A1 ns.length c1) := b_16.cell 0
  have x_21 : w3.cell? ⟨X2, 1, none⟩ = some (.slice B1 ps.length d1) := b_16.cell 1
  have x_22 := b_17.lt
  have x_23 : w3.cell? ⟨X2 + 1, 0, none⟩ = some (.slice C1 fs.length cf) := b_17.cell 0
  have x_24 : w3.cell? ⟨X2 + 1, 1, none⟩ = some (.slice G1 ls.length cg) := b_17.cell 1
  clear hb3
  go_wp2_with fail
  refine (sPipeError_any _ _ _ _ _ _ _ _ _ _ _ _ ns ps fs ls _ net_13.reads fl_14.ints lv_15.ints (by omega) (by omega) q).mono ?_
  rw [HE.out, HK.out]
  rintro e w4 ⟨rfl, hb4⟩
  have net_25 := net_13.below hb4
  clear net_13
  have fl_26 := fl_14.below hb4
  clear fl_14
  have lv_27 := lv_15.below hb4
  clear lv_15
  have b_28 := b_16.belowA hb4
  have b_29 := b_17.belowA hb4
  have hB_30 := bthen hB_18 hb4 hB_18.size
  clear hB_18
  clear x_19 x_20 x_21 x_22 x_23 x_24
  clear b_16
  clear b_17
  have x_31 := b_28.lt
  have x_32 : w4.cell? ⟨X2, 0, none⟩ = some (.slice A1 ns.length c1) := b_28.cell 0
  have x_33 : w4.cell? ⟨X2, 1, none⟩ = some (.slice B1 ps.length d1) := b_28.cell 1
  have x_34 := b_29.lt
  have x_35 : w4.cell? ⟨X2 + 1, 0, none⟩ = some (.slice C1 fs.length cf) := b_29.cell 0
  have x_36 : w4.cell? ⟨X2 + 1, 1, none⟩ = some (.slice G1 ls.length cg) := b_29.cell 1
  clear hb4
  go_wp2_with fail
  refine (proofError_any _ _ _ _ _ _ _ _ _ _ _ _ ns ps fs ls _ net_25.reads fl_26.ints lv_27.ints (by omega) (by omega)).mono ?_
  rw [HV.out, HM.out]
  rintro e w5 ⟨rfl, hb5⟩
  have net_37 := net_25.below hb5
  clear net_25
  have fl_38 := fl_26.below hb5
  clear fl_26
  have lv_39 := lv_27.below hb5
  clear lv_27
  have b_40 := b_28.belowA hb5
  have b_41 := b_29.belowA hb5
  have hB_42 := bthen hB_30 hb5 hB_30.size
  clear hB_30
  clear x_31 x_32 x_33 x_34 x_35 x_36
  clear b_28
  clear b_29
  have x_43 := b_40.lt
  have x_44 : w5.cell? ⟨X2, 0, none⟩ = some (.slice A1 ns.length c1) := b_40.cell 0
  have x_45 : w5.cell? ⟨X2, 1, none⟩ = some (.slice B1 ps.length d1) := b_40.cell 1
  have x_46 := b_41.lt
  have x_47 : w5.cell? ⟨X2 + 1, 0, none⟩ = some (.slice C1 fs.length cf) := b_41.cell 0
  have x_48 : w5.cell? ⟨X2 + 1, 1, none⟩ = some (.slice G1 ls.length cg) := b_41.cell 1
  clear hb5
  go_wp2_with fail
  refine (sProofError_any _ _ _ _ _ _ _ _ _ _ _ _ ns ps fs ls _ net_37.reads fl_38.ints lv_39.ints (by omega) (by omega)).mono ?_
  rw [HV.out, HM.out]
  rintro e w6 ⟨rfl, hb6⟩
  have net_49 := net_37.below hb6
  clear net_37
  have fl_50 := fl_38.below hb6
  clear fl_38
  have lv_51 := lv_39.below hb6
  clear lv_39
  have b_52 := b_40.belowA hb6
  have b_53 := b_41.belowA hb6
  have hB_54 := bthen hB_42 hb6 hB_42.size
  clear hB_42
  clear x_43 x_44 x_45 x_46 x_47 x_48
  clear b_40
  clear b_41
  have x_55 := b_52.lt
  have x_56 : w6.cell? ⟨X2, 0, none⟩ = some (.slice A1 ns.length c1) := b_52.cell 0
  have x_57 : w6.cell? ⟨X2, 1, none⟩ = some (.slice B1 ps.length d1) := b_52.cell 1
  have x_58 := b_53.lt
  have x_59 : w6.cell? ⟨X2 + 1, 0, none⟩ = some (.slice C1 fs.length cf) := b_53.cell 0
  have x_60 : w6.cell? ⟨X2 + 1, 1, none⟩ = some (.slice G1 ls.length cg) := b_53.cell 1
  clear hb6
  have KN := Lib.hid net_49
  have KF := Lib.hid fl_50
  have KL := Lib.hid lv_51
  have KT := Lib.hid (HT.out.below hB_54)
  have kU : Kept (Below w6.heap.size w6 w6.drew) := ⟨(Below.refl _ _).drew⟩
  go_upto_region 8 with fail
  go_cut [80] (fun t wx => t = .bool false ∧ Below w6.heap.size w6 wx)
  case first =>
    clear net_49 fl_50 lv_51 b_52 b_53
    obtain ⟨X, hX⟩ : ∃ y, ptx ns ps ps.length ns.length fs ls = y := ⟨_, rfl⟩
    have HX := Lib.hid hX
    clear hX
    go_region_held3 (fun w' => X2 < w'.heap.size ∧ X2 + 1 < w'.heap.size ∧ w'.cell? ⟨X2, 0, none⟩ = some (.slice A1 ns.length c1) ∧ w'.cell? ⟨X2, 1, none⟩ = some (.slice B1 ps.length d1) ∧ w'.cell? ⟨X2 + 1, 0, none⟩ = some (.slice C1 fs.length cf) ∧ w'.cell? ⟨X2 + 1, 1, none⟩ = some (.slice G1 ls.length cg) ∧ Kept (Below w6.heap.size w6 w'))
      (first | (go_split_ands; refine ⟨by have := hbr.size; omega, by have := hbr.size; omega, ?_, ?_, ?_, ?_, ⟨bthen (Kept.out ‹Kept (Below w6.heap.size _ _)›) hbr (Kept.out ‹Kept (Below w6.heap.size _ _)›).size⟩⟩ <;> (rw [hbr.cell (by simp; omega)]; assumption)) | go_keep)
      (first | (go_at_call 10; go_split_ands; refine (ptx_any _ _ _ _ _ _ _ _ _ _ _ _ ns ps fs ls _ (KN.out.below (Kept.out ‹Kept (Below w6.heap.size _ _)›)).reads (KF.out.below (Kept.out ‹Kept (Below w6.heap.size _ _)›)).ints (KL.out.below (Kept.out ‹Kept (Below w6.heap.size _ _)›)).ints (by omega) (by omega) (KT.out.below (Kept.out ‹Kept (Below w6.heap.size _ _)›))).mono ?_; rw [HX.out]; rintro e v7 ⟨rfl, hbr⟩) | (go_at_call 11; go_split_ands; refine (sPtx_any _ _ _ _ _ _ _ _ _ _ _ _ ns ps fs ls _ (KN.out.below (Kept.out ‹Kept (Below w6.heap.size _ _)›)).reads (KF.out.below (Kept.out ‹Kept (Below w6.heap.size _ _)›)).ints (KL.out.below (Kept.out ‹Kept (Below w6.heap.size _ _)›)).ints (by omega) (by omega)).mono ?_; rw [HX.out]; rintro e v8 ⟨rfl, hbr⟩))
    rename_i hh
    obtain ⟨_, _, _, _, _, _, ⟨hb9⟩⟩ := hh
    all_goals (try go_wp2_with fail; go_meet)
    all_goals exact ⟨rfl, hb9⟩
  case rest =>
  obtain ⟨rfl, hbc⟩ := hcut
  clear kU KN KF KL KT
  have net_61 := net_49.below hbc
  clear net_49
  have fl_62 := fl_50.below hbc
  clear fl_50
  have lv_63 := lv_51.below hbc
  clear lv_51
  have b_64 := b_52.belowA hbc
  have b_65 := b_53.belowA hbc
  have hB_66 := bthen hB_54 hbc hB_54.size
  clear hB_54
  clear x_55 x_56 x_57 x_58 x_59 x_60
  clear b_52
  clear b_53
  have x_67 := b_64.lt
  have x_68 : wc.cell? ⟨X2, 0, none⟩ = some (.slice A1 ns.length c1) := b_64.cell 0
  have x_69 : wc.cell? ⟨X2, 1, none⟩ = some (.slice B1 ps.length d1) := b_64.cell 1
  have x_70 := b_65.lt
  have x_71 : wc.cell? ⟨X2 + 1, 0, none⟩ = some (.slice C1 fs.length cf) := b_65.cell 0
  have x_72 : wc.cell? ⟨X2 + 1, 1, none⟩ = some (.slice G1 ls.length cg) := b_65.cell 1
  clear hbc
  by_cases t0 : K = 0
  case neg =>
    have e0 : (K != 0) = true := by simpa using t0
    clear t0
    go_wp2_with fail
    go_ret
    exact ⟨rfl, hB_66⟩
  subst t0
  obtain ⟨hq, i, rfl, hi, hE⟩ := pp_ok HK.out
  have hok : NetOk ns ps := by
    rcases codeQ_in ns ps ps.length ns.length fs ls with ⟨_, h1, _⟩ | h1 | h1
    · exact h1
    · omega
    · omega
  have hfbl : flB ps.length fs = true ∧ lvB ns.length ls = true := by
    rcases codeQ_in ns ps ps.length ns.length fs ls with ⟨_, _, h2, h3⟩ | h1 | h1
    · exact ⟨h2, h3⟩
    · omega
    · omega
  have hEb := peV_bd net_61.reads hok hfbl.1 hfbl.2 hi
  have hEW := pp_worst (n := ns.length) (ns := ns) hq hi
  rw [← hE, HE.out] at hEb
  rw [← hE, HE.out, HV.out] at hEW
  have hgt : ¬ V < ab E := by omega
  have HQ := Lib.hid hq
  have HOK := Lib.hid hok
  have HEE := Lib.hid (hE.symm.trans HE.out)
  clear hq hok hE hfbl hEW
  go_wp2_with fail
  refine (sizeW_any E _ (by omega) (by omega)).mono ?_
  rintro e9 w9 ⟨rfl, hw9⟩
  subst hw9
  obtain ⟨S, hS⟩ : ∃ y, supC ns ps ns.length ps.length fs = y := ⟨_, rfl⟩
  have HS := Lib.hid hS
  clear hS
  obtain ⟨L, hL⟩ : ∃ y, supL ns ps ns.length ps.length fs = y := ⟨_, rfl⟩
  have HL := Lib.hid hL
  clear hL
  go_wp2_with fail
  refine (supOf_any _ _ _ _ _ _ _ _ _ ns ps fs _ net_61.reads fl_62.ints (by omega)).mono ?_
  rw [HL.out, HS.out]
  rintro e w7 ⟨P7, p7, rfl, oX7, hb7⟩
  have net_73 := net_61.below hb7
  clear net_61
  have fl_74 := fl_62.below hb7
  clear fl_62
  have lv_75 := lv_63.below hb7
  clear lv_63
  have b_76 := b_64.belowA hb7
  have b_77 := b_65.belowA hb7
  have hB_78 := bthen hB_66 hb7 hB_66.size
  clear hB_66
  clear x_67 x_68 x_69 x_70 x_71 x_72
  clear b_64
  clear b_65
  have x_79 := b_76.lt
  have x_80 : w7.cell? ⟨X2, 0, none⟩ = some (.slice A1 ns.length c1) := b_76.cell 0
  have x_81 : w7.cell? ⟨X2, 1, none⟩ = some (.slice B1 ps.length d1) := b_76.cell 1
  have x_82 := b_77.lt
  have x_83 : w7.cell? ⟨X2 + 1, 0, none⟩ = some (.slice C1 fs.length cf) := b_77.cell 0
  have x_84 : w7.cell? ⟨X2 + 1, 1, none⟩ = some (.slice G1 ls.length cg) := b_77.cell 1
  clear hb7
  by_cases t1 : S = 0
  case neg =>
    have e1 : (S != 0) = true := by simpa using t1
    clear t1
    go_wp2_with fail
    go_ret
    exact ⟨rfl, hB_78⟩
  subst t1
  go_wp2_with fail
  refine (sConn_any _ _ _ _ _ _ ns ps _ net_73.reads).mono ?_
  rintro e w8 ⟨b, hb, rfl, hb8⟩
  have net_85 := net_73.below hb8
  clear net_73
  have fl_86 := fl_74.below hb8
  clear fl_74
  have lv_87 := lv_75.below hb8
  clear lv_75
  have x_88 := oX7.below hb8
  clear oX7
  have b_89 := b_76.belowA hb8
  have b_90 := b_77.belowA hb8
  have hB_91 := bthen hB_78 hb8 hB_78.size
  clear hB_78
  clear x_79 x_80 x_81 x_82 x_83 x_84
  clear b_76
  clear b_77
  have x_92 := b_89.lt
  have x_93 : w8.cell? ⟨X2, 0, none⟩ = some (.slice A1 ns.length c1) := b_89.cell 0
  have x_94 : w8.cell? ⟨X2, 1, none⟩ = some (.slice B1 ps.length d1) := b_89.cell 1
  have x_95 := b_90.lt
  have x_96 : w8.cell? ⟨X2 + 1, 0, none⟩ = some (.slice C1 fs.length cf) := b_90.cell 0
  have x_97 : w8.cell? ⟨X2 + 1, 1, none⟩ = some (.slice G1 ls.length cg) := b_90.cell 1
  clear hb8
  have HBB := Lib.hid hb
  clear hb
  cases b
  case false =>
    go_wp2_with fail
    go_ret
    exact ⟨rfl, hB_91⟩
  have hcc := pp_code HOK.out HS.out (HBB.out.1 rfl).2
  rw [HL.out] at hcc
  have hLl : L.length ≤ 1048576 := by
    rw [← HL.out, flB_len (supC_fl HS.out)]; omega
  have HCC := Lib.hid hcc
  clear hcc
  obtain ⟨Q, hQ⟩ : ∃ y, ckV ns ps ns.length ps.length L fs ls = y := ⟨_, rfl⟩
  have HQQ := Lib.hid hQ
  clear hQ
  go_wp2_with fail
  refine (chk_any _ _ _ _ _ _ _ _ _ _ _ _ _ _ _ L fs ls ns ps _ net_85.reads x_88.ints fl_86.ints lv_87.ints hLl (by omega) (by omega)).mono ?_
  rw [HQQ.out, HCC.out]
  rintro e w9 ⟨rfl, hb9⟩
  have net_98 := net_85.below hb9
  clear net_85
  have fl_99 := fl_86.below hb9
  clear fl_86
  have lv_100 := lv_87.below hb9
  clear lv_87
  have x_101 := x_88.below hb9
  clear x_88
  have b_102 := b_89.belowA hb9
  have b_103 := b_90.belowA hb9
  have hB_104 := bthen hB_91 hb9 hB_91.size
  clear hB_91
  clear x_92 x_93 x_94 x_95 x_96 x_97
  clear b_89
  clear b_90
  have x_105 := b_102.lt
  have x_106 : w9.cell? ⟨X2, 0, none⟩ = some (.slice A1 ns.length c1) := b_102.cell 0
  have x_107 : w9.cell? ⟨X2, 1, none⟩ = some (.slice B1 ps.length d1) := b_102.cell 1
  have x_108 := b_103.lt
  have x_109 : w9.cell? ⟨X2 + 1, 0, none⟩ = some (.slice C1 fs.length cf) := b_103.cell 0
  have x_110 : w9.cell? ⟨X2 + 1, 1, none⟩ = some (.slice G1 ls.length cg) := b_103.cell 1
  clear hb9
  by_cases t2 : Q = 0
  case neg =>
    have e2 : (Q != 0) = true := by simpa using t2
    clear t2
    go_wp2_with fail
    go_ret
    exact ⟨rfl, hB_104⟩
  subst t2
  obtain ⟨p1, p2⟩ := pp_end (zs := L) rfl rfl HQ.out HCC.out HQQ.out hi
  rw [HEE.out] at p1 p2
  obtain ⟨H, hH⟩ : ∃ y, codeH ns ps ns.length ps.length fs (i : Int) = y := ⟨_, rfl⟩
  obtain ⟨R, hR⟩ : ∃ y, rsoV ns ps ns.length ps.length fs (i : Int) = y := ⟨_, rfl⟩
  rw [hH] at p1 p2
  rw [hR] at p2
  have HHH := Lib.hid hH
  have HRR := Lib.hid hR
  have P1 := Lib.hid p1
  have P2 := Lib.hid p2
  clear hH hR p1 p2
  go_wp2_with fail
  refine (resOf_any _ _ _ _ _ _ _ _ _ (i : Int) ns ps fs _ net_98.reads fl_99.ints (by omega)).mono ?_
  rw [HRR.out, HHH.out]
  rintro e w10 ⟨rfl, hb10⟩
  have net_111 := net_98.below hb10
  clear net_98
  have fl_112 := fl_99.below hb10
  clear fl_99
  have lv_113 := lv_100.below hb10
  clear lv_100
  have x_114 := x_101.below hb10
  clear x_101
  have b_115 := b_102.belowA hb10
  have b_116 := b_103.belowA hb10
  have hB_117 := bthen hB_104 hb10 hB_104.size
  clear hB_104
  clear x_105 x_106 x_107 x_108 x_109 x_110
  clear b_102
  clear b_103
  have x_118 := b_115.lt
  have x_119 : w10.cell? ⟨X2, 0, none⟩ = some (.slice A1 ns.length c1) := b_115.cell 0
  have x_120 : w10.cell? ⟨X2, 1, none⟩ = some (.slice B1 ps.length d1) := b_115.cell 1
  have x_121 := b_116.lt
  have x_122 : w10.cell? ⟨X2 + 1, 0, none⟩ = some (.slice C1 fs.length cf) := b_116.cell 0
  have x_123 : w10.cell? ⟨X2 + 1, 1, none⟩ = some (.slice G1 ls.length cg) := b_116.cell 1
  clear hb10
  by_cases t3 : H = 0
  case neg =>
    obtain ⟨rfl, rfl⟩ := P1.out t3
    clear t3
    go_wp2_with fail
    go_ret
    exact ⟨rfl, hB_117⟩
  subst t3
  have hRb : -4000000000000000000 ≤ R ∧ R ≤ 4000000000000000000 := by have := P2.out rfl; omega
  have s9 : IntKind.i64.wrap (-R) = -R := IntWalk.i64_in _ (by omega)
  have e9 : (E == -R) = true := by rw [P2.out rfl]; simp
  go_wp2_with fail
  go_ret
  exact ⟨rfl, hB_117⟩
end Go.Proofs.YtebefamekjjbcaaGreatDoor
