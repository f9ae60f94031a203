/- The walk of the law FnSolvedLoops. No condition. -/
import Derived.Test.YtpgegfnhokhlmabGreatNDraw8
import Derived.Test.YtpgegfnhokhlmabGreatBlc
import Derived.Test.YtpgegfnhokhlmabGreatBal
import Derived.Test.YtpgegfnhokhlmabGreatBig
set_option linter.unusedVariables false
set_option maxRecDepth 100000
namespace Go.Proofs.YtpgegfnhokhlmabGreat
open Go.ChangeShapes Go.WideShapes Go.ChangeAt Go.RowKit Go.Joins Go.Deep
attribute [local go_sem ↓] Go.wp_at_zero Go.wp_at_succ

set_option maxHeartbeats 16000000 in
theorem law_FnSolvedLoops (A : Option Addr) (n c : Nat) (zs : List Int) (w : World) (h0 : Byts w A n zs ∧ n ≤ c ∧ c ≤ maxLen) :
    Calls Tryz.prog 4 #[.slice A n c] w fun e w' => e = .returned (.bool true) ∧ Below w.heap.size w w' := by
  obtain ⟨h, hnc, hcm⟩ := h0
  unfold maxLen at hcm
  by_cases hbig : 4096 < n
  · have hg := fun W => big_any A n c W (by omega)
    simp only [hbig, decide_true] at hg
    have HG := Lib.hid hg
    clear hg
    go_enter Tryz.func4, Tryz.ntmps4
    go_wp2_with (go_at_call 15; refine (HG.out _).mono ?_; rintro e w' ⟨rfl, rfl⟩)
    go_ret
    exact ⟨rfl, Below.refl _ _⟩
  have hg := fun W => big_any A n c W (by omega)
  simp only [hbig, decide_false] at hg
  have HG := Lib.hid hg
  have hn : n ≤ 4096 := by omega
  clear hg hbig
  go_enter Tryz.func4, Tryz.ntmps4
  go_wp2_with (go_at_call 15; refine (HG.out _).mono ?_; rintro e w' ⟨rfl, rfl⟩)
  refine (drawSL_any _ _ _ _ _ h hn).mono ?_
  rintro e w1 ⟨A1, c1, B1, d1, ns, ps, A2, c2, ys, rfl, oN1, oY1, hSm, hk7, hm11, hl8, hW1⟩
  clear h
  obtain ⟨K, hK⟩ : ∃ y, fofC ns ps ns.length ys = y := ⟨_, rfl⟩
  have HK := Lib.hid hK
  clear hK
  obtain ⟨L, hL⟩ : ∃ y, slvL ns ps ns.length ys = y := ⟨_, rfl⟩
  have HL := Lib.hid hL
  clear hL
  obtain ⟨M, hM⟩ : ∃ y, slvM ns ps ns.length ys = y := ⟨_, rfl⟩
  have HM := Lib.hid hM
  clear hM
  have hb2 : Below w1.heap.size w1 (w1.alloc (.cells #[.slice A1 ns.length c1, .slice B1 ps.length d1] 33)) := (Below.refl _ _).alloc (Nat.le_refl _) _
  have b_1 := box_new w1 #[.slice A1 ns.length c1, .slice B1 ps.length d1] 33
  have net_2 := oN1.below hb2
  clear oN1
  have sup_3 := oY1.below hb2
  clear oY1
  have hB_4 := bthen hW1 hb2 hW1.size
  clear hW1
  go_wp2_with fail
  generalize (w1.alloc (.cells #[.slice A1 ns.length c1, .slice B1 ps.length d1] 33)) = w2 at *
  generalize w1.heap.size = X2 at *
  clear hb2
  have x_5 := b_1.lt
  have x_6 : w2.cell? ⟨X2, 0, none⟩ = some (.slice A1 ns.length c1) := b_1.cell 0
  have x_7 : w2.cell? ⟨X2, 1, none⟩ = some (.slice B1 ps.length d1) := b_1.cell 1
  have hLl : L.length ≤ 1048576 := by rw [← HL.out]; exact slvL_len net_2.reads (by omega)
  refine (solveL_any _ _ _ _ _ _ _ _ _ ys ns ps _ net_2.reads sup_3.ints (by omega)).mono ?_
  rw [HL.out, HK.out]
  rintro e w3 ⟨P3, p3, rfl, oX3, hb3⟩
  have net_8 := net_2.below hb3
  clear net_2
  have sup_9 := sup_3.below hb3
  clear sup_3
  have b_10 := b_1.belowA hb3
  have hB_11 := bthen hB_4 hb3 hB_4.size
  clear hB_4
  clear x_5 x_6 x_7
  clear b_1
  have x_12 := b_10.lt
  have x_13 : w3.cell? ⟨X2, 0, none⟩ = some (.slice A1 ns.length c1) := b_10.cell 0
  have x_14 : w3.cell? ⟨X2, 1, none⟩ = some (.slice B1 ps.length d1) := b_10.cell 1
  clear hb3
  go_wp2_with fail
  refine (sSolveL_any _ _ _ _ _ _ _ _ _ ys ns ps _ net_8.reads sup_9.ints sup_9.nilc (by omega)).mono ?_
  rw [HL.out, HK.out]
  rintro e w4 ⟨P4, p4, rfl, oX4, hb4⟩
  have net_15 := net_8.below hb4
  clear net_8
  have sup_16 := sup_9.below hb4
  clear sup_9
  have x_17 := oX3.below hb4
  clear oX3
  have b_18 := b_10.belowA hb4
  have hB_19 := bthen hB_11 hb4 hB_11.size
  clear hB_11
  clear x_12 x_13 x_14
  clear b_10
  have x_20 := b_18.lt
  have x_21 : w4.cell? ⟨X2, 0, none⟩ = some (.slice A1 ns.length c1) := b_18.cell 0
  have x_22 : w4.cell? ⟨X2, 1, none⟩ = some (.slice B1 ps.length d1) := b_18.cell 1
  clear hb4
  go_wp2_with fail
  refine (likeInts_any _ _ _ _ _ _ _ _ _ x_17.ints oX4.ints hLl).mono ?_
  rintro e w5 ⟨rfl, hq5⟩
  have hb5 := hq5.below w4.heap.size
  have net_23 := net_15.below hb5
  clear net_15
  have sup_24 := sup_16.below hb5
  clear sup_16
  have x_25 := x_17.below hb5
  clear x_17
  have y_26 := oX4.below hb5
  clear oX4
  have b_27 := b_18.belowA hb5
  have hB_28 := bthen hB_19 hb5 hB_19.size
  clear hB_19
  clear x_20 x_21 x_22
  clear b_18
  have x_29 := b_27.lt
  have x_30 : w5.cell? ⟨X2, 0, none⟩ = some (.slice A1 ns.length c1) := b_27.cell 0
  have x_31 : w5.cell? ⟨X2, 1, none⟩ = some (.slice B1 ps.length d1) := b_27.cell 1
  clear hb5
  clear hq5
  go_wp2_with fail
  refine (moves_any _ _ _ _ _ _ _ _ _ ys ns ps _ net_23.reads sup_24.ints (by omega)).mono ?_
  rw [HM.out, HK.out]
  rintro e w6 ⟨rfl, hb6⟩
  have net_32 := net_23.below hb6
  clear net_23
  have sup_33 := sup_24.below hb6
  clear sup_24
  have x_34 := x_25.below hb6
  clear x_25
  have y_35 := y_26.below hb6
  clear y_26
  have b_36 := b_27.belowA hb6
  have hB_37 := bthen hB_28 hb6 hB_28.size
  clear hB_28
  clear x_29 x_30 x_31
  clear b_27
  have x_38 := b_36.lt
  have x_39 : w6.cell? ⟨X2, 0, none⟩ = some (.slice A1 ns.length c1) := b_36.cell 0
  have x_40 : w6.cell? ⟨X2, 1, none⟩ = some (.slice B1 ps.length d1) := b_36.cell 1
  clear hb6
  go_wp2_with fail
  refine (sMoves_any _ _ _ _ _ _ _ _ _ ys ns ps _ net_32.reads sup_33.ints sup_33.nilc (by omega)).mono ?_
  rw [HM.out, HK.out]
  rintro e w7 ⟨rfl, hb7⟩
  have net_41 := net_32.below hb7
  clear net_32
  have sup_42 := sup_33.below hb7
  clear sup_33
  have x_43 := x_34.below hb7
  clear x_34
  have y_44 := y_35.below hb7
  clear y_35
  have b_45 := b_36.belowA hb7
  have hB_46 := bthen hB_37 hb7 hB_37.size
  clear hB_37
  clear x_38 x_39 x_40
  clear b_36
  have x_47 := b_45.lt
  have x_48 : w7.cell? ⟨X2, 0, none⟩ = some (.slice A1 ns.length c1) := b_45.cell 0
  have x_49 : w7.cell? ⟨X2, 1, none⟩ = some (.slice B1 ps.length d1) := b_45.cell 1
  clear hb7
  by_cases t0 : K = 0
  case neg =>
    have e0 : (K != 0) = true := by simpa using t0
    clear t0
    go_wp2_with fail
    go_ret
    exact ⟨rfl, hB_46⟩
  subst t0
  obtain ⟨hok, hfl, hfi, hsl, hsi⟩ := slv_facts net_41.reads HK.out
  have HB := Lib.hid (slv_bal rfl HK.out)
  have H2 := Lib.hid (fofC_zero HK.out).2.1
  rw [HL.out] at hsl hsi HB
  have HOK := Lib.hid hok
  have HFI := Lib.hid hfi
  have HFL := Lib.hid hfl
  have H1 := Lib.hid (show flB ps.length L = true by unfold flB; rw [Bool.and_eq_true]; exact ⟨decide_eq_true hsl, hsi⟩)
  have HR1 := Lib.hid ((slv_ok HK.out).1.symm.trans HL.out)
  have HR2 := Lib.hid ((slv_ok HK.out).2.symm.trans HM.out)
  have HF0 := Lib.hid (fofL_ok HK.out)
  clear hok hfl hfi hsl hsi
  go_wp2_with fail
  refine (forestF_any _ _ _ _ _ _ _ _ _ ys ns ps _ net_41.reads sup_42.ints (by omega)).mono ?_
  rw [HF0.out, HK.out]
  rintro e w8 ⟨P8, p8, rfl, oX8, hb8⟩
  have net_50 := net_41.below hb8
  clear net_41
  have sup_51 := sup_42.below hb8
  clear sup_42
  have x_52 := x_43.below hb8
  clear x_43
  have y_53 := y_44.below hb8
  clear y_44
  have b_54 := b_45.belowA hb8
  have hB_55 := bthen hB_46 hb8 hB_46.size
  clear hB_46
  clear x_47 x_48 x_49
  clear b_45
  have x_56 := b_54.lt
  have x_57 : w8.cell? ⟨X2, 0, none⟩ = some (.slice A1 ns.length c1) := b_54.cell 0
  have x_58 : w8.cell? ⟨X2, 1, none⟩ = some (.slice B1 ps.length d1) := b_54.cell 1
  clear hb8
  rw [HFL.out] at oX8 ⊢
  go_wp2_with fail
  refine (relaxF_any _ _ _ _ _ _ _ _ ns ps (ffl (esOf ps) ns.length ys) _ net_50.reads HOK.out oX8.ints HFI.out).mono ?_
  rw [HR1.out, HR2.out]
  rintro e w9 ⟨P9, p9, rfl, oX9, hb9⟩
  have net_59 := net_50.below hb9
  clear net_50
  have sup_60 := sup_51.below hb9
  clear sup_51
  have x_61 := x_52.below hb9
  clear x_52
  have y_62 := y_53.below hb9
  clear y_53
  have f_63 := oX8.below hb9
  clear oX8
  have b_64 := b_54.belowA hb9
  have hB_65 := bthen hB_55 hb9 hB_55.size
  clear hB_55
  clear x_56 x_57 x_58
  clear b_54
  have x_66 := b_64.lt
  have x_67 : w9.cell? ⟨X2, 0, none⟩ = some (.slice A1 ns.length c1) := b_64.cell 0
  have x_68 : w9.cell? ⟨X2, 1, none⟩ = some (.slice B1 ps.length d1) := b_64.cell 1
  clear hb9
  go_wp2_with fail
  refine (likeInts_any _ _ _ _ _ _ _ _ _ x_61.ints oX9.ints hLl).mono ?_
  rintro e w10 ⟨rfl, hq10⟩
  have hb10 := hq10.below w9.heap.size
  have net_69 := net_59.below hb10
  clear net_59
  have sup_70 := sup_60.below hb10
  clear sup_60
  have x_71 := x_61.below hb10
  clear x_61
  have y_72 := y_62.below hb10
  clear y_62
  have f_73 := f_63.below hb10
  clear f_63
  have z_74 := oX9.below hb10
  clear oX9
  have b_75 := b_64.belowA hb10
  have hB_76 := bthen hB_65 hb10 hB_65.size
  clear hB_65
  clear x_66 x_67 x_68
  clear b_64
  have x_77 := b_75.lt
  have x_78 : w10.cell? ⟨X2, 0, none⟩ = some (.slice A1 ns.length c1) := b_75.cell 0
  have x_79 : w10.cell? ⟨X2, 1, none⟩ = some (.slice B1 ps.length d1) := b_75.cell 1
  clear hb10
  clear hq10
  go_wp2_with fail
  refine (balanced_any _ _ _ _ _ _ _ _ _ _ ns ps L ys _ net_69.reads HOK.out x_71.ints sup_70.ints H1.out H2.out HB.out).mono ?_
  rintro e w11 ⟨rfl, hb11⟩
  have net_80 := net_69.below hb11
  clear net_69
  have sup_81 := sup_70.below hb11
  clear sup_70
  have x_82 := x_71.below hb11
  clear x_71
  have y_83 := y_72.below hb11
  clear y_72
  have f_84 := f_73.below hb11
  clear f_73
  have z_85 := z_74.below hb11
  clear z_74
  have b_86 := b_75.belowA hb11
  have hB_87 := bthen hB_76 hb11 hB_76.size
  clear hB_76
  clear x_77 x_78 x_79
  clear b_75
  have x_88 := b_86.lt
  have x_89 : w11.cell? ⟨X2, 0, none⟩ = some (.slice A1 ns.length c1) := b_86.cell 0
  have x_90 : w11.cell? ⟨X2, 1, none⟩ = some (.slice B1 ps.length d1) := b_86.cell 1
  clear hb11
  go_wp2_with fail
  go_ret
  exact ⟨rfl, hB_87⟩
end Go.Proofs.YtpgegfnhokhlmabGreat
