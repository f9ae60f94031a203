/- The walk of the law FnProofs. No condition. -/
import Derived.Test.YtpgegfnhokhlmabGreatNDraw8
import Derived.Test.YtpgegfnhokhlmabGreatPrp
import Derived.Test.YtpgegfnhokhlmabGreatChk
import Derived.Test.YtpgegfnhokhlmabGreatChkS
import Derived.Test.YtpgegfnhokhlmabGreatBig
set_option linter.unusedVariables false
set_option maxRecDepth 100000
namespace Go.Proofs.YtpgegfnhokhlmabGreat
open Go.ChangeShapes Go.WideShapes Go.ChangeAt Go.RowKit Go.Joins Go.Deep
attribute [local go_sem ↓] Go.wp_at_zero Go.wp_at_succ

theorem size_any (z : Int) (w : World) (h1 : -1000000000000 ≤ z) (h2 : z ≤ 1000000000000) :
    Calls Tryz.prog 37 #[.int .i64 z] w fun e w' => e = .returned (.int .i64 (ab z)) ∧ w = w' := by
  have s1 : IntKind.i64.wrap (-z) = -z := IntWalk.i64_in _ (by omega)
  go_enter Tryz.func37, Tryz.ntmps37
  by_cases h : z ≤ -z
  · have e1 : max z (-z) = -z := by omega
    have HE := Lib.hid (show ab z = -z by unfold ab; omega)
    go_wp2_with fail
    go_ret
    exact ⟨ri HE.out.symm, rfl⟩
  · have e1 : max z (-z) = z := by omega
    have HE := Lib.hid (show ab z = z by unfold ab; omega)
    go_wp2_with fail
    go_ret
    exact ⟨ri HE.out.symm, rfl⟩
/-- One of the first flows is the greatest one. -/
def farB (L : List Int) (k : Nat) : Bool := (L.take k).any fun f => decide (30000 ≤ ab f)
theorem farB_step {L : List Int} {k : Nat} {z : Int} (h : L[k]? = some z) : farB L (k + 1) = (farB L k || decide (30000 ≤ ab z)) := by
  unfold farB
  rw [List.take_add_one, h, List.any_append]
  simp
theorem farB_no {L : List Int} (h : farB L L.length = false) : ∀ f ∈ L, ab f < 30000 := by
  unfold farB at h
  rw [List.take_length, List.any_eq_false] at h
  intro f hf
  have := h f hf
  simp at this
  exact this
set_option maxHeartbeats 16000000 in
theorem law_FnProofs (A : Option Addr) (n c : Nat) (zs : List Int) (w : World) (h0 : Byts w A n zs ∧ n ≤ c ∧ c ≤ maxLen) :
    Calls Tryz.prog 7 #[.slice A n c] w fun e w' => e = .returned (.bool true) ∧ Below w.heap.size w w' := by
  obtain ⟨h, hnc, hcm⟩ := h0
  unfold maxLen at hcm
  by_cases hbig : 4096 < n
  · have hg := fun W => big_any A n c W (by omega)
    simp only [hbig, decide_true] at hg
    have HG := Lib.hid hg
    clear hg
    go_enter Tryz.func7, Tryz.ntmps7
    go_wp2_with (go_at_call 15; refine (HG.out _).mono ?_; rintro e w' ⟨rfl, rfl⟩)
    go_ret
    exact ⟨rfl, Below.refl _ _⟩
  have hg := fun W => big_any A n c W (by omega)
  simp only [hbig, decide_false] at hg
  have HG := Lib.hid hg
  have hn : n ≤ 4096 := by omega
  clear hg hbig
  go_enter Tryz.func7, Tryz.ntmps7
  go_wp2_with (go_at_call 15; refine (HG.out _).mono ?_; rintro e w' ⟨rfl, rfl⟩)
  refine (drawMP_any _ _ _ _ _ h hn).mono ?_
  rintro e w1 ⟨A1, c1, B1, d1, ns, ps, A2, c2, ys, x, rfl, oN1, oY1, hSm, hIx, hk7, hm11, hl8, hW1⟩
  clear h hSm
  obtain ⟨K, hK⟩ : ∃ y, mkC ns ps ns.length ys x = y := ⟨_, rfl⟩
  have HK := Lib.hid hK
  clear hK
  obtain ⟨F, hF⟩ : ∃ y, mkF ns ps ns.length ys x = y := ⟨_, rfl⟩
  have HF := Lib.hid hF
  clear hF
  obtain ⟨L, hL⟩ : ∃ y, mkV ns ps ns.length ys x = y := ⟨_, rfl⟩
  have HL := Lib.hid hL
  clear hL
  obtain ⟨M, hM⟩ : ∃ y, slvM ns ps ns.length ys = y := ⟨_, rfl⟩
  have HM := Lib.hid hM
  clear hM
  obtain ⟨V, hV⟩ : ∃ y, ckV ns ps ns.length ps.length ys F L = y := ⟨_, rfl⟩
  have HV := Lib.hid hV
  clear hV
  have hb2 : Below w1.heap.size w1 (w1.alloc (.cells #[.slice A1 ns.length c1, .slice B1 ps.length d1] 33)) := (Below.refl _ _).alloc (Nat.le_refl _) _
  have b_1 := box_new w1 #[.slice A1 ns.length c1, .slice B1 ps.length d1] 33
  have net_2 := oN1.below hb2
  clear oN1
  have sup_3 := oY1.below hb2
  clear oY1
  have hB_4 := bthen hW1 hb2 hW1.size
  clear hW1
  go_wp2_with fail
  generalize (w1.alloc (.cells #[.slice A1 ns.length c1, .slice B1 ps.length d1] 33)) = w2 at *
  generalize w1.heap.size = X2 at *
  clear hb2
  have x_5 := b_1.lt
  have x_6 : w2.cell? ⟨X2, 0, none⟩ = some (.slice A1 ns.length c1) := b_1.cell 0
  have x_7 : w2.cell? ⟨X2, 1, none⟩ = some (.slice B1 ps.length d1) := b_1.cell 1
  have hFl : F.length ≤ 1048576 := by rw [← HF.out]; exact mkF_len net_2.reads (by omega)
  have hLl : L.length ≤ 1048576 := by rw [← HL.out]; exact mkV_len net_2.reads (by omega)
  refine (mkp_any _ _ _ _ _ _ _ _ _ x ys ns ps _ net_2.reads sup_3.ints (by omega)).mono ?_
  rw [HF.out, HL.out, HK.out]
  rintro e w3 ⟨P3, p3, Q3, q3, rfl, oX3, oZ3, aP3, hb3⟩
  have net_8 := net_2.below hb3
  clear net_2
  have sup_9 := sup_3.below hb3
  clear sup_3
  have b_10 := b_1.belowA hb3
  have hB_11 := bthen hB_4 hb3 hB_4.size
  clear hB_4
  clear x_5 x_6 x_7
  clear b_1
  have x_12 := b_10.lt
  have x_13 : w3.cell? ⟨X2, 0, none⟩ = some (.slice A1 ns.length c1) := b_10.cell 0
  have x_14 : w3.cell? ⟨X2, 1, none⟩ = some (.slice B1 ps.length d1) := b_10.cell 1
  clear hb3
  clear aP3
  have hb4 : Below w3.heap.size w3 (w3.alloc (.cells #[.slice P3 F.length p3, .slice Q3 L.length q3] 54)) := (Below.refl _ _).alloc (Nat.le_refl _) _
  have b_15 := box_new w3 #[.slice P3 F.length p3, .slice Q3 L.length q3] 54
  have net_16 := net_8.below hb4
  clear net_8
  have sup_17 := sup_9.below hb4
  clear sup_9
  have pf_18 := oX3.below hb4
  clear oX3
  have pl_19 := oZ3.below hb4
  clear oZ3
  have b_20 := b_10.belowA hb4
  clear b_10
  have hB_21 := bthen hB_11 hb4 hB_11.size
  clear hB_11
  go_wp2_with fail
  generalize (w3.alloc (.cells #[.slice P3 F.length p3, .slice Q3 L.length q3] 54)) = w4 at *
  generalize w3.heap.size = X4 at *
  clear hb4
  clear x_12 x_13 x_14
  have x_22 := b_20.lt
  have x_23 : w4.cell? ⟨X2, 0, none⟩ = some (.slice A1 ns.length c1) := b_20.cell 0
  have x_24 : w4.cell? ⟨X2, 1, none⟩ = some (.slice B1 ps.length d1) := b_20.cell 1
  have x_25 := b_15.lt
  have x_26 : w4.cell? ⟨X4, 0, none⟩ = some (.slice P3 F.length p3) := b_15.cell 0
  have x_27 : w4.cell? ⟨X4, 1, none⟩ = some (.slice Q3 L.length q3) := b_15.cell 1
  refine (sMkp_any _ _ _ _ _ _ _ _ _ x ys ns ps _ net_16.reads sup_17.ints sup_17.nilc (by omega)).mono ?_
  rw [HF.out, HL.out, HK.out]
  rintro e w5 ⟨P5, p5, Q5, q5, rfl, oX5, oZ5, aP5, hb5⟩
  have net_28 := net_16.below hb5
  clear net_16
  have sup_29 := sup_17.below hb5
  clear sup_17
  have pf_30 := pf_18.below hb5
  clear pf_18
  have pl_31 := pl_19.below hb5
  clear pl_19
  have b_32 := b_20.belowA hb5
  have b_33 := b_15.belowA hb5
  have hB_34 := bthen hB_21 hb5 hB_21.size
  clear hB_21
  clear x_22 x_23 x_24 x_25 x_26 x_27
  clear b_20
  clear b_15
  have x_35 := b_32.lt
  have x_36 : w5.cell? ⟨X2, 0, none⟩ = some (.slice A1 ns.length c1) := b_32.cell 0
  have x_37 : w5.cell? ⟨X2, 1, none⟩ = some (.slice B1 ps.length d1) := b_32.cell 1
  have x_38 := b_33.lt
  have x_39 : w5.cell? ⟨X4, 0, none⟩ = some (.slice P3 F.length p3) := b_33.cell 0
  have x_40 : w5.cell? ⟨X4, 1, none⟩ = some (.slice Q3 L.length q3) := b_33.cell 1
  clear hb5
  clear aP5
  have hb6 : Below w5.heap.size w5 (w5.alloc (.cells #[.slice P5 F.length p5, .slice Q5 L.length q5] 54)) := (Below.refl _ _).alloc (Nat.le_refl _) _
  have b_41 := box_new w5 #[.slice P5 F.length p5, .slice Q5 L.length q5] 54
  have net_42 := net_28.below hb6
  clear net_28
  have sup_43 := sup_29.below hb6
  clear sup_29
  have pf_44 := pf_30.below hb6
  clear pf_30
  have pl_45 := pl_31.below hb6
  clear pl_31
  have mf_46 := oX5.below hb6
  clear oX5
  have ml_47 := oZ5.below hb6
  clear oZ5
  have b_48 := b_32.belowA hb6
  clear b_32
  have b_49 := b_33.belowA hb6
  clear b_33
  have hB_50 := bthen hB_34 hb6 hB_34.size
  clear hB_34
  go_wp2_with fail
  generalize (w5.alloc (.cells #[.slice P5 F.length p5, .slice Q5 L.length q5] 54)) = w6 at *
  generalize w5.heap.size = X6 at *
  clear hb6
  clear x_35 x_36 x_37 x_38 x_39 x_40
  have x_51 := b_48.lt
  have x_52 : w6.cell? ⟨X2, 0, none⟩ = some (.slice A1 ns.length c1) := b_48.cell 0
  have x_53 : w6.cell? ⟨X2, 1, none⟩ = some (.slice B1 ps.length d1) := b_48.cell 1
  have x_54 := b_49.lt
  have x_55 : w6.cell? ⟨X4, 0, none⟩ = some (.slice P3 F.length p3) := b_49.cell 0
  have x_56 : w6.cell? ⟨X4, 1, none⟩ = some (.slice Q3 L.length q3) := b_49.cell 1
  have x_57 := b_41.lt
  have x_58 : w6.cell? ⟨X6, 0, none⟩ = some (.slice P5 F.length p5) := b_41.cell 0
  have x_59 : w6.cell? ⟨X6, 1, none⟩ = some (.slice Q5 L.length q5) := b_41.cell 1
  refine (likeInts_any _ _ _ _ _ _ _ _ _ pf_44.ints mf_46.ints hFl).mono ?_
  rintro e w7 ⟨rfl, hq7⟩
  have hb7 := hq7.below w6.heap.size
  have net_60 := net_42.below hb7
  clear net_42
  have sup_61 := sup_43.below hb7
  clear sup_43
  have pf_62 := pf_44.below hb7
  clear pf_44
  have pl_63 := pl_45.below hb7
  clear pl_45
  have mf_64 := mf_46.below hb7
  clear mf_46
  have ml_65 := ml_47.below hb7
  clear ml_47
  have b_66 := b_48.belowA hb7
  have b_67 := b_49.belowA hb7
  have b_68 := b_41.belowA hb7
  have hB_69 := bthen hB_50 hb7 hB_50.size
  clear hB_50
  clear x_51 x_52 x_53 x_54 x_55 x_56 x_57 x_58 x_59
  clear b_48
  clear b_49
  clear b_41
  have x_70 := b_66.lt
  have x_71 : w7.cell? ⟨X2, 0, none⟩ = some (.slice A1 ns.length c1) := b_66.cell 0
  have x_72 : w7.cell? ⟨X2, 1, none⟩ = some (.slice B1 ps.length d1) := b_66.cell 1
  have x_73 := b_67.lt
  have x_74 : w7.cell? ⟨X4, 0, none⟩ = some (.slice P3 F.length p3) := b_67.cell 0
  have x_75 : w7.cell? ⟨X4, 1, none⟩ = some (.slice Q3 L.length q3) := b_67.cell 1
  have x_76 := b_68.lt
  have x_77 : w7.cell? ⟨X6, 0, none⟩ = some (.slice P5 F.length p5) := b_68.cell 0
  have x_78 : w7.cell? ⟨X6, 1, none⟩ = some (.slice Q5 L.length q5) := b_68.cell 1
  clear hb7
  clear hq7
  go_wp2_with fail
  refine (likeInts_any _ _ _ _ _ _ _ _ _ pl_63.ints ml_65.ints hLl).mono ?_
  rintro e w8 ⟨rfl, hq8⟩
  have hb8 := hq8.below w7.heap.size
  have net_79 := net_60.below hb8
  clear net_60
  have sup_80 := sup_61.below hb8
  clear sup_61
  have pf_81 := pf_62.below hb8
  clear pf_62
  have pl_82 := pl_63.below hb8
  clear pl_63
  have mf_83 := mf_64.below hb8
  clear mf_64
  have ml_84 := ml_65.below hb8
  clear ml_65
  have b_85 := b_66.belowA hb8
  have b_86 := b_67.belowA hb8
  have b_87 := b_68.belowA hb8
  have hB_88 := bthen hB_69 hb8 hB_69.size
  clear hB_69
  clear x_70 x_71 x_72 x_73 x_74 x_75 x_76 x_77 x_78
  clear b_66
  clear b_67
  clear b_68
  have x_89 := b_85.lt
  have x_90 : w8.cell? ⟨X2, 0, none⟩ = some (.slice A1 ns.length c1) := b_85.cell 0
  have x_91 : w8.cell? ⟨X2, 1, none⟩ = some (.slice B1 ps.length d1) := b_85.cell 1
  have x_92 := b_86.lt
  have x_93 : w8.cell? ⟨X4, 0, none⟩ = some (.slice P3 F.length p3) := b_86.cell 0
  have x_94 : w8.cell? ⟨X4, 1, none⟩ = some (.slice Q3 L.length q3) := b_86.cell 1
  have x_95 := b_87.lt
  have x_96 : w8.cell? ⟨X6, 0, none⟩ = some (.slice P5 F.length p5) := b_87.cell 0
  have x_97 : w8.cell? ⟨X6, 1, none⟩ = some (.slice Q5 L.length q5) := b_87.cell 1
  clear hb8
  clear hq8
  by_cases t0 : K = 0
  case neg =>
    have e0 : (K != 0) = true := by simpa using t0
    clear t0
    go_wp2_with fail
    go_ret
    exact ⟨rfl, hB_88⟩
  subst t0
  obtain ⟨hcc, _, hfo⟩ := mk_parts HK.out
  have HCC := Lib.hid hcc
  have HFO := Lib.hid hfo
  have HAC := Lib.hid (show M ≠ 5000 → (∀ f ∈ F, ab f < 30000) → V = 0 from fun h5 hf => by
    rw [← HV.out, ← HF.out, ← HL.out]
    refine mk_accepted rfl rfl HK.out (by rw [HM.out]; exact h5) (fun f hff => hf f ?_)
    rw [← HF.out, (mk_ok HK.out).1]
    exact hff)
  have HIN := Lib.hid (show ∀ z ∈ F, -30000 ≤ z ∧ z ≤ 30000 from fun z hz => by
    rw [← HF.out, (mk_ok HK.out).1] at hz
    have h1 := (slv_facts net_79.reads hfo).2.2.2.2
    unfold inR at h1
    have := List.all_eq_true.1 h1 z hz
    simpa using this)
  clear hcc hfo
  go_wp2_with fail
  refine (moves_any _ _ _ _ _ _ _ _ _ ys ns ps _ net_79.reads sup_80.ints (by omega)).mono ?_
  rw [HM.out, HFO.out]
  rintro e w9 ⟨rfl, hb9⟩
  have net_98 := net_79.below hb9
  clear net_79
  have sup_99 := sup_80.below hb9
  clear sup_80
  have pf_100 := pf_81.below hb9
  clear pf_81
  have pl_101 := pl_82.below hb9
  clear pl_82
  have mf_102 := mf_83.below hb9
  clear mf_83
  have ml_103 := ml_84.below hb9
  clear ml_84
  have b_104 := b_85.belowA hb9
  have b_105 := b_86.belowA hb9
  have b_106 := b_87.belowA hb9
  have hB_107 := bthen hB_88 hb9 hB_88.size
  clear hB_88
  clear x_89 x_90 x_91 x_92 x_93 x_94 x_95 x_96 x_97
  clear b_85
  clear b_86
  clear b_87
  have x_108 := b_104.lt
  have x_109 : w9.cell? ⟨X2, 0, none⟩ = some (.slice A1 ns.length c1) := b_104.cell 0
  have x_110 : w9.cell? ⟨X2, 1, none⟩ = some (.slice B1 ps.length d1) := b_104.cell 1
  have x_111 := b_105.lt
  have x_112 : w9.cell? ⟨X4, 0, none⟩ = some (.slice P3 F.length p3) := b_105.cell 0
  have x_113 : w9.cell? ⟨X4, 1, none⟩ = some (.slice Q3 L.length q3) := b_105.cell 1
  have x_114 := b_106.lt
  have x_115 : w9.cell? ⟨X6, 0, none⟩ = some (.slice P5 F.length p5) := b_106.cell 0
  have x_116 : w9.cell? ⟨X6, 1, none⟩ = some (.slice Q5 L.length q5) := b_106.cell 1
  clear hb9
  go_wp2_with fail
  refine (chk_any _ _ _ _ _ _ _ _ _ _ _ _ _ _ _ ys F L ns ps _ net_98.reads sup_99.ints pf_100.ints pl_101.ints (by omega) hFl hLl).mono ?_
  rw [HV.out, HCC.out]
  rintro e w10 ⟨rfl, hb10⟩
  have net_117 := net_98.below hb10
  clear net_98
  have sup_118 := sup_99.below hb10
  clear sup_99
  have pf_119 := pf_100.below hb10
  clear pf_100
  have pl_120 := pl_101.below hb10
  clear pl_101
  have mf_121 := mf_102.below hb10
  clear mf_102
  have ml_122 := ml_103.below hb10
  clear ml_103
  have b_123 := b_104.belowA hb10
  have b_124 := b_105.belowA hb10
  have b_125 := b_106.belowA hb10
  have hB_126 := bthen hB_107 hb10 hB_107.size
  clear hB_107
  clear x_108 x_109 x_110 x_111 x_112 x_113 x_114 x_115 x_116
  clear b_104
  clear b_105
  clear b_106
  have x_127 := b_123.lt
  have x_128 : w10.cell? ⟨X2, 0, none⟩ = some (.slice A1 ns.length c1) := b_123.cell 0
  have x_129 : w10.cell? ⟨X2, 1, none⟩ = some (.slice B1 ps.length d1) := b_123.cell 1
  have x_130 := b_124.lt
  have x_131 : w10.cell? ⟨X4, 0, none⟩ = some (.slice P3 F.length p3) := b_124.cell 0
  have x_132 : w10.cell? ⟨X4, 1, none⟩ = some (.slice Q3 L.length q3) := b_124.cell 1
  have x_133 := b_125.lt
  have x_134 : w10.cell? ⟨X6, 0, none⟩ = some (.slice P5 F.length p5) := b_125.cell 0
  have x_135 : w10.cell? ⟨X6, 1, none⟩ = some (.slice Q5 L.length q5) := b_125.cell 1
  clear hb10
  go_wp2_with fail
  refine (sChk_any _ _ _ _ _ _ _ _ _ _ _ _ _ _ _ ys F L ns ps _ net_117.reads sup_118.ints mf_121.ints ml_122.ints (by omega) hFl hLl).mono ?_
  rw [HV.out, HCC.out]
  rintro e w11 ⟨rfl, hb11⟩
  have net_136 := net_117.below hb11
  clear net_117
  have sup_137 := sup_118.below hb11
  clear sup_118
  have pf_138 := pf_119.below hb11
  clear pf_119
  have pl_139 := pl_120.below hb11
  clear pl_120
  have mf_140 := mf_121.below hb11
  clear mf_121
  have ml_141 := ml_122.below hb11
  clear ml_122
  have b_142 := b_123.belowA hb11
  have b_143 := b_124.belowA hb11
  have b_144 := b_125.belowA hb11
  have hB_145 := bthen hB_126 hb11 hB_126.size
  clear hB_126
  clear x_127 x_128 x_129 x_130 x_131 x_132 x_133 x_134 x_135
  clear b_123
  clear b_124
  clear b_125
  have x_146 := b_142.lt
  have x_147 : w11.cell? ⟨X2, 0, none⟩ = some (.slice A1 ns.length c1) := b_142.cell 0
  have x_148 : w11.cell? ⟨X2, 1, none⟩ = some (.slice B1 ps.length d1) := b_142.cell 1
  have x_149 := b_143.lt
  have x_150 : w11.cell? ⟨X4, 0, none⟩ = some (.slice P3 F.length p3) := b_143.cell 0
  have x_151 : w11.cell? ⟨X4, 1, none⟩ = some (.slice Q3 L.length q3) := b_143.cell 1
  have x_152 := b_144.lt
  have x_153 : w11.cell? ⟨X6, 0, none⟩ = some (.slice P5 F.length p5) := b_144.cell 0
  have x_154 : w11.cell? ⟨X6, 1, none⟩ = some (.slice Q5 L.length q5) := b_144.cell 1
  clear hb11
  have HMF := Lib.hid mf_140.ints
  have hWF := hB_145
  clear net_136 sup_137 pf_138 pl_139 mf_140 ml_141
  obtain ⟨D, hD⟩ : ∃ y, F.length = y := ⟨_, rfl⟩
  have HD := Lib.hid hD
  clear hD
  go_wp2_with fail
  go_loop [16, 17] (fun bb ii => ∃ j : Nat, j ≤ F.length ∧ ii = .int .i64 (j : Int) ∧ bb = .bool (farB F j)) (fun _ ii => F.length - (intOf ii).toNat)
  case atStart => exact ⟨0, Nat.zero_le _, rfl, rfl⟩
  case round =>
    obtain ⟨j, hj, rfl, rfl⟩ := hrel
    by_cases hlt : j < F.length
    · have i1 : (j : Int) < (F.length : Int) := by omega
      obtain ⟨b, o, z, hPA, hbl, hz, hz64, hc⟩ := HMF.out.at_ hlt
      subst hPA
      have HST := Lib.hid (farB_step hz)
      have hzb := HIN.out z (List.mem_of_getElem? hz)
      clear hz
      cases hf : farB F j
      · rw [hf] at HST
        have HF2 := Lib.hid hf
        by_cases hge : (30000 : Int) ≤ ab z
        · have HR := Lib.hid (show farB F (j + 1) = true by rw [HST.out]; simpa using hge)
          clear hf
          go_wp2_with (go_at_call 37; refine (size_any _ _ (by omega) (by omega)).mono ?_; rintro e9 w9 ⟨rfl, rfl⟩)
          go_round
          case rel => exact ⟨j + 1, by omega, by go_num, by rw [HR.out]⟩
          case measure => simp [intOf]; omega
        · have HR := Lib.hid (show farB F (j + 1) = false by rw [HST.out]; simpa using hge)
          clear hf
          go_wp2_with (go_at_call 37; refine (size_any _ _ (by omega) (by omega)).mono ?_; rintro e9 w9 ⟨rfl, rfl⟩)
          go_round
          case rel => exact ⟨j + 1, by omega, by go_num, by rw [HR.out]; exact congrArg Value.bool (decide_eq_false (by omega))⟩
          case measure => simp [intOf]; omega
      · rw [hf] at HST
        have HR := Lib.hid (show farB F (j + 1) = true by rw [HST.out]; rfl)
        clear hf
        go_wp2_with fail
        go_round
        case rel => exact ⟨j + 1, by omega, by go_num, by rw [HR.out]⟩
        case measure => simp [intOf]; omega
    · have i1 : ¬ (j : Int) < (F.length : Int) := by omega
      have HJ := Lib.hid (show j = F.length by omega)
      by_cases h5 : M = 5000
      · have e5 : (M == 5000) = true := by simpa using h5
        clear h5
        go_wp2_with fail
        go_ret
        exact ⟨rfl, hWF⟩
      · have e5 : (M == 5000) = false := by simpa using h5
        cases hf : farB F j
        · have hv : V = 0 := HAC.out h5 (farB_no (by rw [← HJ.out]; exact hf))
          have e6 : (V == 0) = true := by simpa using hv
          clear hf hv h5
          go_wp2_with fail
          go_ret
          exact ⟨rfl, hWF⟩
        · clear hf h5
          go_wp2_with fail
          go_ret
          exact ⟨rfl, hWF⟩
end Go.Proofs.YtpgegfnhokhlmabGreat
