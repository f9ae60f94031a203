/- The walk of the law FnScales. No condition. -/
import Derived.Test.YtebefamekjjbcaaGreatNDraw12
import Derived.Test.YtebefamekjjbcaaGreatGsc
import Derived.Test.YtebefamekjjbcaaGreatScale
import Derived.Test.YtebefamekjjbcaaGreatOpp
import Derived.Test.YtebefamekjjbcaaGreatBig
set_option linter.unusedVariables false
set_option maxRecDepth 100000
namespace Go.Proofs.YtebefamekjjbcaaGreat
open Go.ChangeShapes Go.WideShapes Go.ChangeAt Go.RowKit Go.Joins Go.Deep
attribute [local go_sem ↓] Go.wp_at_zero Go.wp_at_succ

theorem gs_val {ns : List Nd} {ps : List Pp} {zs : List Int} (hc : gsC ns ps ns.length zs = 0) : ∃ k : Nat, gsV ns ps ns.length zs = (k : Int) ∧ k ≤ 64 ∧ scaleCode (k : Int) zs = 0 ∧ opC ns ps ns.length (scl (k : Int) zs) = 0 ∧ (scaleCode ((k : Int) + 1) zs = 0 → opC ns ps ns.length (scl ((k : Int) + 1) zs) ≠ 0) := by
  have hcc : codeC ns ps ns.length zs = 0 := by
    by_cases h : codeC ns ps ns.length zs = 0
    · exact h
    · rw [(gs_code rfl h).1] at hc; exact absurd hc h
  have h0 : gsK ns ps ns.length zs ≠ 0 := fun h => by rw [(gs_none hcc h).1] at hc; exact absurd hc (by decide)
  obtain ⟨K, hK⟩ : ∃ y, gsK ns ps ns.length zs = y := ⟨_, rfl⟩
  have hv := (gs_some hcc hK (by omega)).2
  obtain ⟨g1, g2, g3, g4⟩ := gsN_facts 65 0 (T := gsT ns ps ns.length zs)
  unfold gsK at hK h0
  rw [hK] at g1 g2 g3 g4 h0
  have ht : gsT ns ps ns.length zs (K - 1) = true := g3 (K - 1) (Nat.zero_le _) (by omega)
  refine ⟨K - 1, by rw [hv]; omega, by omega, ?_, gs_true ht, fun hs => ?_⟩
  · by_cases h : scaleCode ((K - 1 : Nat) : Int) zs = 0
    · exact h
    · rw [gs_out rfl hcc (by omega) h] at ht; exact absurd ht (by decide)
  · by_cases h65 : K = 65
    · exfalso
      subst h65
      have h1 : (((65 - 1 : Nat) : Int) + 1) = 65 := by decide
      rw [h1] at hs
      unfold scaleCode at hs
      by_cases hz : 24 < zs.length
      · rw [if_pos hz] at hs; exact absurd hs (by decide)
      · rw [if_neg hz, if_pos (by decide)] at hs; exact absurd hs (by decide)
    · have h1 : (((K - 1 : Nat) : Int) + 1) = (K : Int) := by omega
      rw [h1]
      exact gs_false (g4 (by omega))
theorem scaleOf_ok {k : Int} {zs : List Int} (h : scaleCode k zs = 0) : scaleOf k zs = scl k zs := by unfold scaleOf; rw [if_pos h]
theorem scaleOf_len (k : Int) (zs : List Int) : (scaleOf k zs).length ≤ zs.length := by
  unfold scaleOf
  split
  · rw [scl_len]; exact Nat.le_refl _
  · exact Nat.zero_le _
set_option maxHeartbeats 16000000 in
theorem law_FnScales (A : Option Addr) (n c : Nat) (zs : List Int) (w : World) (h0 : Byts w A n zs ∧ n ≤ c ∧ c ≤ maxLen) :
    Calls Tryz.prog 3 #[.slice A n c] w fun e w' => e = .returned (.bool true) ∧ Below w.heap.size w w' := by
  obtain ⟨h, hnc, hcm⟩ := h0
  unfold maxLen at hcm
  by_cases hbig : 4096 < n
  · have hg := fun W => big_any A n c W (by omega)
    simp only [hbig, decide_true] at hg
    have HG := Lib.hid hg
    clear hg
    go_enter Tryz.func3, Tryz.ntmps3
    go_wp2_with (go_at_call 5; refine (HG.out _).mono ?_; rintro e w' ⟨rfl, rfl⟩)
    go_ret
    exact ⟨rfl, Below.refl _ _⟩
  have hg := fun W => big_any A n c W (by omega)
  simp only [hbig, decide_false] at hg
  have HG := Lib.hid hg
  have hn : n ≤ 4096 := by omega
  clear hg hbig
  go_enter Tryz.func3, Tryz.ntmps3
  go_wp2_with (go_at_call 5; refine (HG.out _).mono ?_; rintro e w' ⟨rfl, rfl⟩)
  refine (drawGS_any _ _ _ _ _ h hn).mono ?_
  rintro e w1 ⟨A1, c1, B1, d1, ns, ps, A2, c2, ys, rfl, oN1, oY1, hk7, hm11, hl8, hW1⟩
  obtain ⟨K, hK⟩ : ∃ y, gsC ns ps ns.length ys = y := ⟨_, rfl⟩
  have HK := Lib.hid hK
  clear hK
  obtain ⟨S, hS⟩ : ∃ y, gsV ns ps ns.length ys = y := ⟨_, rfl⟩
  have HS := Lib.hid hS
  clear hS
  have hb2 : Below w1.heap.size w1 (w1.alloc (.cells #[.slice A1 ns.length c1, .slice B1 ps.length d1] 27)) := (Below.refl _ _).alloc (Nat.le_refl _) _
  have b_1 := box_new w1 #[.slice A1 ns.length c1, .slice B1 ps.length d1] 27
  have net_2 := oN1.below hb2
  clear oN1
  have sup_3 := oY1.below hb2
  clear oY1
  have hB_4 := bthen hW1 hb2 hW1.size
  clear hW1
  go_wp2_with fail
  generalize (w1.alloc (.cells #[.slice A1 ns.length c1, .slice B1 ps.length d1] 27)) = w2 at *
  generalize w1.heap.size = X2 at *
  clear hb2
  have x_5 := b_1.lt
  have x_6 : w2.cell? ⟨X2, 0, none⟩ = some (.slice A1 ns.length c1) := b_1.cell 0
  have x_7 : w2.cell? ⟨X2, 1, none⟩ = some (.slice B1 ps.length d1) := b_1.cell 1
  refine (gsc_any _ _ _ _ _ _ _ _ ys ns ps _ net_2.reads sup_3.ints (by omega)).mono ?_
  rw [HK.out, HS.out]
  rintro e w3 ⟨rfl, hb3⟩
  have net_8 := net_2.below hb3
  clear net_2
  have sup_9 := sup_3.below hb3
  clear sup_3
  have b_10 := b_1.belowA hb3
  have hB_11 := bthen hB_4 hb3 hB_4.size
  clear hB_4
  clear x_5 x_6 x_7
  clear b_1
  have x_12 := b_10.lt
  have x_13 : w3.cell? ⟨X2, 0, none⟩ = some (.slice A1 ns.length c1) := b_10.cell 0
  have x_14 : w3.cell? ⟨X2, 1, none⟩ = some (.slice B1 ps.length d1) := b_10.cell 1
  clear hb3
  go_wp2_with fail
  refine (sGsc_any _ _ _ _ _ _ _ _ ys ns ps _ net_8.reads sup_9.ints (by omega)).mono ?_
  rw [HK.out, HS.out]
  rintro e w4 ⟨rfl, hb4⟩
  have net_15 := net_8.below hb4
  clear net_8
  have sup_16 := sup_9.below hb4
  clear sup_9
  have b_17 := b_10.belowA hb4
  have hB_18 := bthen hB_11 hb4 hB_11.size
  clear hB_11
  clear x_12 x_13 x_14
  clear b_10
  have x_19 := b_17.lt
  have x_20 : w4.cell? ⟨X2, 0, none⟩ = some (.slice A1 ns.length c1) := b_17.cell 0
  have x_21 : w4.cell? ⟨X2, 1, none⟩ = some (.slice B1 ps.length d1) := b_17.cell 1
  clear hb4
  have hB_c := hB_18
  by_cases t0 : K = 0
  case neg =>
    have e0 : (K != 0) = true := by simpa using t0
    clear t0
    go_wp2_with fail
    refine (drawScS_any _ _ _ _ _ (h.below hB_c) hn).mono ?_
    rintro e w5 ⟨A3, c3, us, k, rfl, oU5, hIk, hu9, hb5⟩
    have net_22 := net_15.below hb5
    clear net_15
    have sup_23 := sup_16.below hb5
    clear sup_16
    have b_24 := b_17.belowA hb5
    have hB_25 := bthen hB_18 hb5 hB_18.size
    clear hB_18
    clear x_19 x_20 x_21
    clear b_17
    have x_26 := b_24.lt
    have x_27 : w5.cell? ⟨X2, 0, none⟩ = some (.slice A1 ns.length c1) := b_24.cell 0
    have x_28 : w5.cell? ⟨X2, 1, none⟩ = some (.slice B1 ps.length d1) := b_24.cell 1
    clear hb5
    obtain ⟨C, hC⟩ : ∃ y, scaleCode k us = y := ⟨_, rfl⟩
    have HC := Lib.hid hC
    clear hC
    obtain ⟨L, hL⟩ : ∃ y, scaleOf k us = y := ⟨_, rfl⟩
    have HL := Lib.hid hL
    clear hL
    have hLl : L.length ≤ 1048576 := by rw [← HL.out]; have := scaleOf_len k us; omega
    go_wp2_with fail
    refine (scale_any _ _ us k _ oU5.ints (by omega)).mono ?_
    rw [HL.out, HC.out]
    rintro e w6 ⟨P6, p6, rfl, oX6, hb6⟩
    have net_29 := net_22.below hb6
    clear net_22
    have sup_30 := sup_23.below hb6
    clear sup_23
    have us_31 := oU5.below hb6
    clear oU5
    have b_32 := b_24.belowA hb6
    have hB_33 := bthen hB_25 hb6 hB_25.size
    clear hB_25
    clear x_26 x_27 x_28
    clear b_24
    have x_34 := b_32.lt
    have x_35 : w6.cell? ⟨X2, 0, none⟩ = some (.slice A1 ns.length c1) := b_32.cell 0
    have x_36 : w6.cell? ⟨X2, 1, none⟩ = some (.slice B1 ps.length d1) := b_32.cell 1
    clear hb6
    go_wp2_with fail
    refine (sScale_any _ _ us k _ us_31.ints (by omega)).mono ?_
    rw [HL.out, HC.out]
    rintro e w7 ⟨P7, p7, rfl, oX7, hb7⟩
    have net_37 := net_29.below hb7
    clear net_29
    have sup_38 := sup_30.below hb7
    clear sup_30
    have us_39 := us_31.below hb7
    clear us_31
    have x_40 := oX6.below hb7
    clear oX6
    have b_41 := b_32.belowA hb7
    have hB_42 := bthen hB_33 hb7 hB_33.size
    clear hB_33
    clear x_34 x_35 x_36
    clear b_32
    have x_43 := b_41.lt
    have x_44 : w7.cell? ⟨X2, 0, none⟩ = some (.slice A1 ns.length c1) := b_41.cell 0
    have x_45 : w7.cell? ⟨X2, 1, none⟩ = some (.slice B1 ps.length d1) := b_41.cell 1
    clear hb7
    go_wp2_with fail
    refine (likeInts_any _ _ _ _ _ _ _ _ _ x_40.ints oX7.ints hLl).mono ?_
    rintro e w8 ⟨rfl, hq8⟩
    have hb8 := hq8.below w7.heap.size
    have net_46 := net_37.below hb8
    clear net_37
    have sup_47 := sup_38.below hb8
    clear sup_38
    have us_48 := us_39.below hb8
    clear us_39
    have x_49 := x_40.below hb8
    clear x_40
    have y_50 := oX7.below hb8
    clear oX7
    have b_51 := b_41.belowA hb8
    have hB_52 := bthen hB_42 hb8 hB_42.size
    clear hB_42
    clear x_43 x_44 x_45
    clear b_41
    have x_53 := b_51.lt
    have x_54 : w8.cell? ⟨X2, 0, none⟩ = some (.slice A1 ns.length c1) := b_51.cell 0
    have x_55 : w8.cell? ⟨X2, 1, none⟩ = some (.slice B1 ps.length d1) := b_51.cell 1
    clear hb8
    clear hq8
    go_wp2_with fail
    go_ret
    exact ⟨rfl, hB_52⟩
  subst t0
  obtain ⟨k0, hS, hk64, hs1, hs2, hs3⟩ := gs_val HK.out
  rw [HS.out] at hS
  have HS1 := Lib.hid hs1
  have HS2 := Lib.hid hs2
  have HS3 := Lib.hid hs3
  clear hs1 hs2 hs3
  obtain rfl : S = (k0 : Int) := hS
  clear HS
  go_wp2_with fail
  refine (drawScS_any _ _ _ _ _ (h.below hB_c) hn).mono ?_
  rintro e w5 ⟨A3, c3, us, k, rfl, oU5, hIk, hu9, hb5⟩
  have net_22 := net_15.below hb5
  clear net_15
  have sup_23 := sup_16.below hb5
  clear sup_16
  have b_24 := b_17.belowA hb5
  have hB_25 := bthen hB_18 hb5 hB_18.size
  clear hB_18
  clear x_19 x_20 x_21
  clear b_17
  have x_26 := b_24.lt
  have x_27 : w5.cell? ⟨X2, 0, none⟩ = some (.slice A1 ns.length c1) := b_24.cell 0
  have x_28 : w5.cell? ⟨X2, 1, none⟩ = some (.slice B1 ps.length d1) := b_24.cell 1
  clear hb5
  obtain ⟨C, hC⟩ : ∃ y, scaleCode k us = y := ⟨_, rfl⟩
  have HC := Lib.hid hC
  clear hC
  obtain ⟨L, hL⟩ : ∃ y, scaleOf k us = y := ⟨_, rfl⟩
  have HL := Lib.hid hL
  clear hL
  have hLl : L.length ≤ 1048576 := by rw [← HL.out]; have := scaleOf_len k us; omega
  go_wp2_with fail
  refine (scale_any _ _ us k _ oU5.ints (by omega)).mono ?_
  rw [HL.out, HC.out]
  rintro e w6 ⟨P6, p6, rfl, oX6, hb6⟩
  have net_29 := net_22.below hb6
  clear net_22
  have sup_30 := sup_23.below hb6
  clear sup_23
  have us_31 := oU5.below hb6
  clear oU5
  have b_32 := b_24.belowA hb6
  have hB_33 := bthen hB_25 hb6 hB_25.size
  clear hB_25
  clear x_26 x_27 x_28
  clear b_24
  have x_34 := b_32.lt
  have x_35 : w6.cell? ⟨X2, 0, none⟩ = some (.slice A1 ns.length c1) := b_32.cell 0
  have x_36 : w6.cell? ⟨X2, 1, none⟩ = some (.slice B1 ps.length d1) := b_32.cell 1
  clear hb6
  go_wp2_with fail
  refine (sScale_any _ _ us k _ us_31.ints (by omega)).mono ?_
  rw [HL.out, HC.out]
  rintro e w7 ⟨P7, p7, rfl, oX7, hb7⟩
  have net_37 := net_29.below hb7
  clear net_29
  have sup_38 := sup_30.below hb7
  clear sup_30
  have us_39 := us_31.below hb7
  clear us_31
  have x_40 := oX6.below hb7
  clear oX6
  have b_41 := b_32.belowA hb7
  have hB_42 := bthen hB_33 hb7 hB_33.size
  clear hB_33
  clear x_34 x_35 x_36
  clear b_32
  have x_43 := b_41.lt
  have x_44 : w7.cell? ⟨X2, 0, none⟩ = some (.slice A1 ns.length c1) := b_41.cell 0
  have x_45 : w7.cell? ⟨X2, 1, none⟩ = some (.slice B1 ps.length d1) := b_41.cell 1
  clear hb7
  go_wp2_with fail
  refine (likeInts_any _ _ _ _ _ _ _ _ _ x_40.ints oX7.ints hLl).mono ?_
  rintro e w8 ⟨rfl, hq8⟩
  have hb8 := hq8.below w7.heap.size
  have net_46 := net_37.below hb8
  clear net_37
  have sup_47 := sup_38.below hb8
  clear sup_38
  have us_48 := us_39.below hb8
  clear us_39
  have x_49 := x_40.below hb8
  clear x_40
  have y_50 := oX7.below hb8
  clear oX7
  have b_51 := b_41.belowA hb8
  have hB_52 := bthen hB_42 hb8 hB_42.size
  clear hB_42
  clear x_43 x_44 x_45
  clear b_41
  have x_53 := b_51.lt
  have x_54 : w8.cell? ⟨X2, 0, none⟩ = some (.slice A1 ns.length c1) := b_51.cell 0
  have x_55 : w8.cell? ⟨X2, 1, none⟩ = some (.slice B1 ps.length d1) := b_51.cell 1
  clear hb8
  clear hq8
  obtain ⟨L3, hL3⟩ : ∃ y, scl (k0 : Int) ys = y := ⟨_, rfl⟩
  have HL3 := Lib.hid hL3
  clear hL3
  obtain ⟨C4, hC4⟩ : ∃ y, scaleCode ((k0 : Int) + 1) ys = y := ⟨_, rfl⟩
  have HC4 := Lib.hid hC4
  clear hC4
  obtain ⟨L4, hL4⟩ : ∃ y, scaleOf ((k0 : Int) + 1) ys = y := ⟨_, rfl⟩
  have HL4 := Lib.hid hL4
  clear hL4
  have HL3s := Lib.hid ((scaleOf_ok HS1.out).trans HL3.out)
  go_wp2_with fail
  refine (scale_any _ _ ys (k0 : Int) _ sup_47.ints (by omega)).mono ?_
  rw [HL3s.out, HS1.out]
  rintro e w9 ⟨P9, p9, rfl, oX9, hb9⟩
  have net_56 := net_46.below hb9
  clear net_46
  have sup_57 := sup_47.below hb9
  clear sup_47
  have us_58 := us_48.below hb9
  clear us_48
  have x_59 := x_49.below hb9
  clear x_49
  have y_60 := y_50.below hb9
  clear y_50
  have b_61 := b_51.belowA hb9
  have hB_62 := bthen hB_52 hb9 hB_52.size
  clear hB_52
  clear x_53 x_54 x_55
  clear b_51
  have x_63 := b_61.lt
  have x_64 : w9.cell? ⟨X2, 0, none⟩ = some (.slice A1 ns.length c1) := b_61.cell 0
  have x_65 : w9.cell? ⟨X2, 1, none⟩ = some (.slice B1 ps.length d1) := b_61.cell 1
  clear hb9
  go_wp2_with fail
  refine (scale_any _ _ ys ((k0 : Int) + 1) _ sup_57.ints (by omega)).mono ?_
  rw [HL4.out, HC4.out]
  rintro e w10 ⟨P10, p10, rfl, oX10, hb10⟩
  have net_66 := net_56.below hb10
  clear net_56
  have sup_67 := sup_57.below hb10
  clear sup_57
  have us_68 := us_58.below hb10
  clear us_58
  have x_69 := x_59.below hb10
  clear x_59
  have y_70 := y_60.below hb10
  clear y_60
  have l3_71 := oX9.below hb10
  clear oX9
  have b_72 := b_61.belowA hb10
  have hB_73 := bthen hB_62 hb10 hB_62.size
  clear hB_62
  clear x_63 x_64 x_65
  clear b_61
  have x_74 := b_72.lt
  have x_75 : w10.cell? ⟨X2, 0, none⟩ = some (.slice A1 ns.length c1) := b_72.cell 0
  have x_76 : w10.cell? ⟨X2, 1, none⟩ = some (.slice B1 ps.length d1) := b_72.cell 1
  clear hb10
  have h3l : L3.length ≤ 1048576 := by rw [← HL3.out, scl_len]; omega
  have h4l : L4.length ≤ 1048576 := by rw [← HL4.out]; have := scaleOf_len ((k0 : Int) + 1) ys; omega
  have HO3 := Lib.hid (show opC ns ps ns.length L3 = 0 by rw [← HL3.out]; exact HS2.out)
  go_wp2_with fail
  refine (isOp_any _ _ _ _ _ _ _ _ _ L3 ns ps _ net_66.reads l3_71.ints h3l).mono ?_
  rw [HO3.out]
  rintro e w11 ⟨rfl, hb11⟩
  have net_77 := net_66.below hb11
  clear net_66
  have sup_78 := sup_67.below hb11
  clear sup_67
  have us_79 := us_68.below hb11
  clear us_68
  have x_80 := x_69.below hb11
  clear x_69
  have y_81 := y_70.below hb11
  clear y_70
  have l3_82 := l3_71.below hb11
  clear l3_71
  have l4_83 := oX10.below hb11
  clear oX10
  have b_84 := b_72.belowA hb11
  have hB_85 := bthen hB_73 hb11 hB_73.size
  clear hB_73
  clear x_74 x_75 x_76
  clear b_72
  have x_86 := b_84.lt
  have x_87 : w11.cell? ⟨X2, 0, none⟩ = some (.slice A1 ns.length c1) := b_84.cell 0
  have x_88 : w11.cell? ⟨X2, 1, none⟩ = some (.slice B1 ps.length d1) := b_84.cell 1
  clear hb11
  by_cases t4 : C4 = 0
  case neg =>
    have e4 : (C4 != 0) = true := by simpa using t4
    clear t4
    go_wp2_with fail
    go_ret
    exact ⟨rfl, hB_85⟩
  subst t4
  have HO4 := Lib.hid (show (opC ns ps ns.length L4 == 0) = false by rw [← HL4.out, scaleOf_ok HC4.out]; simpa using HS3.out HC4.out)
  go_wp2_with fail
  refine (isOp_any _ _ _ _ _ _ _ _ _ L4 ns ps _ net_77.reads l4_83.ints h4l).mono ?_
  rw [HO4.out]
  rintro e w12 ⟨rfl, hb12⟩
  have net_89 := net_77.below hb12
  clear net_77
  have sup_90 := sup_78.below hb12
  clear sup_78
  have us_91 := us_79.below hb12
  clear us_79
  have x_92 := x_80.below hb12
  clear x_80
  have y_93 := y_81.below hb12
  clear y_81
  have l3_94 := l3_82.below hb12
  clear l3_82
  have l4_95 := l4_83.below hb12
  clear l4_83
  have b_96 := b_84.belowA hb12
  have hB_97 := bthen hB_85 hb12 hB_85.size
  clear hB_85
  clear x_86 x_87 x_88
  clear b_84
  have x_98 := b_96.lt
  have x_99 : w12.cell? ⟨X2, 0, none⟩ = some (.slice A1 ns.length c1) := b_96.cell 0
  have x_100 : w12.cell? ⟨X2, 1, none⟩ = some (.slice B1 ps.length d1) := b_96.cell 1
  clear hb12
  go_wp2_with fail
  go_ret
  exact ⟨rfl, hB_97⟩
end Go.Proofs.YtebefamekjjbcaaGreat
