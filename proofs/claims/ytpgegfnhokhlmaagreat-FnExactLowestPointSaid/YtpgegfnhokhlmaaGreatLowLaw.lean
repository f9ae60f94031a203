/- The walk of the law on LowestPoint. No condition. -/
import Derived.Test.YtpgegfnhokhlmaaGreatOpp
import Derived.Test.YtpgegfnhokhlmaaGreatMarkP
import Derived.Test.YtpgegfnhokhlmaaGreatPrfIO
set_option linter.unusedVariables false
set_option maxRecDepth 100000
namespace Go.Proofs.YtpgegfnhokhlmaaGreat
open Go.RowKit Go.Joins Go.Deep
attribute [local go_sem ↓] Go.wp_at_zero Go.wp_at_succ

set_option maxHeartbeats 8000000 in
theorem law_FnExactLowestPoint (A0 : Option Addr) (n0 c0 : Nat) (ns0 : List Nd) (B0 : Option Addr) (m0 d0 : Nat) (ps0 : List Pp) (Z1 : Option Addr) (l1 e1 : Nat) (zs1 : List Int) (w : World) (h0 : IsNet w A0 n0 c0 ns0 B0 m0 d0 ps0) (h1 : Ints w Z1 l1 zs1 ∧ l1 ≤ e1 ∧ e1 ≤ maxLen) :
    Calls Tryz.prog 12 #[.agg #[.slice A0 n0 c0, .slice B0 m0 d0], .slice Z1 l1 e1] w fun e w' => e = .returned (.bool true) ∧ Below w.heap.size w w' := by
  obtain ⟨hz1, he1, hm_1⟩ := h1
  obtain rfl : zs1.length = l1 := hz1.len
  unfold maxLen at hm_1
  have bA_1 := box_new w #[.slice A0 n0 c0, .slice B0 m0 d0] 25
  have hW : Below w.heap.size w (w.alloc (.cells #[.slice A0 n0 c0, .slice B0 m0 d0] 25)) := by
    repeat (first | exact Below.refl _ _ | refine Below.alloc ?_ (by simp <;> omega) _)
  have nV0 := h0.below hW
  have iV1 := hz1.below hW
  by_cases hbig1 : (1048576 : Int) < zs1.length
  case pos =>
    go_enter Tryz.func12, Tryz.ntmps12
    go_wp2_with fail
    go_ret
    exact ⟨rfl, hW⟩
  have hl1 : zs1.length ≤ 1048576 := by omega
  go_enter Tryz.func12, Tryz.ntmps12
  go_wp2_with fail
  have hs0 : w.heap.size + 1 ≤ (w.alloc (.cells #[.slice A0 n0 c0, .slice B0 m0 d0] 25)).heap.size := by simp
  generalize (w.alloc (.cells #[.slice A0 n0 c0, .slice B0 m0 d0] 25)) = V at *
  have hB_0 : Below V.heap.size V V := Below.refl _ _
  have x_2 := bA_1.lt
  have x_3 : V.cell? ⟨w.heap.size, 0, none⟩ = some (.slice A0 n0 c0) := bA_1.cell 0
  have x_4 : V.cell? ⟨w.heap.size, 1, none⟩ = some (.slice B0 m0 d0) := bA_1.cell 1
  refine (szNet_any _ _ _ _ _ _ ns0 _ _ (nV0.below hB_0).nodes (Nat.le_trans h0.capA.1 h0.capA.2) (Nat.le_trans h0.capB.1 h0.capB.2) (by omega) (by omega)).mono ?_
  rintro e w1 ⟨left0, rfl, hleft0, hb1⟩
  have b_5 := bA_1.belowA hb1
  have hB_6 := bthen hB_0 hb1 hB_0.size
  clear hB_0
  have sz_7 : V.heap.size ≤ w1.heap.size := hb1.size
  clear bA_1
  clear x_2 x_3 x_4
  have x_8 := b_5.lt
  have x_9 : w1.cell? ⟨w.heap.size, 0, none⟩ = some (.slice A0 n0 c0) := b_5.cell 0
  have x_10 : w1.cell? ⟨w.heap.size, 1, none⟩ = some (.slice B0 m0 d0) := b_5.cell 1
  clear hb1
  rcases hleft0 with rfl | ⟨hl0_0, hl1_0⟩
  · go_wp2_with fail
    go_ret
    exact ⟨rfl, bthen hW hB_6 hW.size⟩
  have hn0 : n0 ≤ 1048576 := by omega
  have hm0 : m0 ≤ 1048576 := by omega
  have hr0 : (opF ns0 ps0 n0 zs1).length ≤ 1048576 := opF_len h0 hm0
  have hr1 : (opL ns0 ps0 n0 zs1 false).length ≤ 1048576 := opL_len h0 hn0 _
  go_wp2_with fail
  refine (toNetw_any _ _ _ _ _ _ _ _ _ (nV0.below hB_6) hn0 hm0).mono ?_
  rintro e w2 ⟨A2, c2, B2, d2, rfl, oN2, hb2⟩
  have b_11 := b_5.belowA hb2
  have hB_12 := bthen hB_6 hb2 hB_6.size
  clear hB_6
  have sz_13 : w1.heap.size ≤ w2.heap.size := hb2.size
  clear b_5
  clear x_8 x_9 x_10
  have x_14 := b_11.lt
  have x_15 : w2.cell? ⟨w.heap.size, 0, none⟩ = some (.slice A0 n0 c0) := b_11.cell 0
  have x_16 : w2.cell? ⟨w.heap.size, 1, none⟩ = some (.slice B0 m0 d0) := b_11.cell 1
  clear hb2
  have rw_17 := oN2.nodes.1.rw_
  have rw_18 := oN2.pipes.1.rw_
  have ap_19 := ap_of oN2.pipes.1.1 oN2.nodes.1.1 (by decide)
  go_wp2_with fail
  refine (toInts_any _ _ _ _ _ (iV1.below hB_12) hl1).mono ?_
  rintro e w3 ⟨Z3, f3, rfl, oI3, hb3⟩
  have s0_20 := oN2.below hb3
  clear oN2
  have b_21 := b_11.belowA hb3
  have hB_22 := bthen hB_12 hb3 hB_12.size
  clear hB_12
  have sz_23 : w2.heap.size ≤ w3.heap.size := hb3.size
  clear b_11
  clear x_14 x_15 x_16
  have x_24 := b_21.lt
  have x_25 : w3.cell? ⟨w.heap.size, 0, none⟩ = some (.slice A0 n0 c0) := b_21.cell 0
  have x_26 : w3.cell? ⟨w.heap.size, 1, none⟩ = some (.slice B0 m0 d0) := b_21.cell 1
  clear hb3
  have rw_27 := oI3.rw_
  go_wp2_with fail
  refine (sLoPoint_any _ _ _ _ _ _ _ _ _ zs1 ns0 ps0 _ s0_20.reads oI3.ints oI3.nilc hl1).mono ?_
  rintro e w4 ⟨A4_0, c4_0, B4_0, d4_0, rfl, oR4_0, oS4_0, aP4_0, hb4⟩
  have s0_28 := s0_20.below hb4
  clear s0_20
  have s1_29 := oI3.below hb4
  clear oI3
  have b_30 := b_21.belowA hb4
  have hB_31 := bthen hB_22 hb4 hB_22.size
  clear hB_22
  have sz_32 : w3.heap.size ≤ w4.heap.size := hb4.size
  clear b_21
  clear x_24 x_25 x_26
  have x_33 := b_30.lt
  have x_34 : w4.cell? ⟨w.heap.size, 0, none⟩ = some (.slice A0 n0 c0) := b_30.cell 0
  have x_35 : w4.cell? ⟨w.heap.size, 1, none⟩ = some (.slice B0 m0 d0) := b_30.cell 1
  clear hb4
  have rw_36 := oR4_0.rw_
  have rw_37 := oS4_0.rw_
  have hb5 : Below w4.heap.size w4 (w4.alloc (.cells #[.slice A4_0 (opF ns0 ps0 n0 zs1).length c4_0, .slice B4_0 (opL ns0 ps0 n0 zs1 false).length d4_0] 51)) := (Below.refl _ _).alloc (Nat.le_refl _) _
  have b_38 := box_new w4 #[.slice A4_0 (opF ns0 ps0 n0 zs1).length c4_0, .slice B4_0 (opL ns0 ps0 n0 zs1 false).length d4_0] 51
  have sz_39 : w4.heap.size + 1 ≤ (w4.alloc (.cells #[.slice A4_0 (opF ns0 ps0 n0 zs1).length c4_0, .slice B4_0 (opL ns0 ps0 n0 zs1 false).length d4_0] 51)).heap.size := by simp
  have s0_40 := s0_28.below hb5
  clear s0_28
  have s1_41 := s1_29.below hb5
  clear s1_29
  have w0_42 := oR4_0.below hb5
  clear oR4_0
  have w0_43 := oS4_0.below hb5
  clear oS4_0
  have b_44 := b_30.belowA hb5
  have hB_45 := bthen hB_31 hb5 hB_31.size
  clear hB_31
  have sz_46 : w4.heap.size ≤ (w4.alloc (.cells #[.slice A4_0 (opF ns0 ps0 n0 zs1).length c4_0, .slice B4_0 (opL ns0 ps0 n0 zs1 false).length d4_0] 51)).heap.size := hb5.size
  clear hb5
  go_wp2_with fail
  generalize (w4.alloc (.cells #[.slice A4_0 (opF ns0 ps0 n0 zs1).length c4_0, .slice B4_0 (opL ns0 ps0 n0 zs1 false).length d4_0] 51)) = w5 at *
  clear b_30
  clear x_33 x_34 x_35
  have x_47 := b_44.lt
  have x_48 : w5.cell? ⟨w.heap.size, 0, none⟩ = some (.slice A0 n0 c0) := b_44.cell 0
  have x_49 : w5.cell? ⟨w.heap.size, 1, none⟩ = some (.slice B0 m0 d0) := b_44.cell 1
  have x_50 := b_38.lt
  have x_51 : w5.cell? ⟨w4.heap.size, 0, none⟩ = some (.slice A4_0 (opF ns0 ps0 n0 zs1).length c4_0) := b_38.cell 0
  have x_52 : w5.cell? ⟨w4.heap.size, 1, none⟩ = some (.slice B4_0 (opL ns0 ps0 n0 zs1 false).length d4_0) := b_38.cell 1
  clear s0_40
  clear s1_41
  refine (toNetw_any _ _ _ _ _ _ _ _ _ (nV0.below hB_45) hn0 hm0).mono ?_
  rintro e w6 ⟨A6, c6, B6, d6, rfl, oN6, hb6⟩
  have w0_53 := w0_42.below hb6
  clear w0_42
  have w0_54 := w0_43.below hb6
  clear w0_43
  have b_55 := b_44.belowA hb6
  have b_56 := b_38.belowA hb6
  have hB_57 := bthen hB_45 hb6 hB_45.size
  clear hB_45
  have sz_58 : w5.heap.size ≤ w6.heap.size := hb6.size
  clear b_44
  clear b_38
  clear x_47 x_48 x_49 x_50 x_51 x_52
  have x_59 := b_55.lt
  have x_60 : w6.cell? ⟨w.heap.size, 0, none⟩ = some (.slice A0 n0 c0) := b_55.cell 0
  have x_61 : w6.cell? ⟨w.heap.size, 1, none⟩ = some (.slice B0 m0 d0) := b_55.cell 1
  have x_62 := b_56.lt
  have x_63 : w6.cell? ⟨w4.heap.size, 0, none⟩ = some (.slice A4_0 (opF ns0 ps0 n0 zs1).length c4_0) := b_56.cell 0
  have x_64 : w6.cell? ⟨w4.heap.size, 1, none⟩ = some (.slice B4_0 (opL ns0 ps0 n0 zs1 false).length d4_0) := b_56.cell 1
  clear hb6
  have rw_65 := oN6.nodes.1.rw_
  have rw_66 := oN6.pipes.1.rw_
  have ap_67 := ap_of oN6.pipes.1.1 oN6.nodes.1.1 (by decide)
  have hb7 : Below w6.heap.size w6 (w6.alloc (.cells #[.slice A6 n0 c6, .slice B6 m0 d6] 33)) := (Below.refl _ _).alloc (Nat.le_refl _) _
  have b_68 := box_new w6 #[.slice A6 n0 c6, .slice B6 m0 d6] 33
  have sz_69 : w6.heap.size + 1 ≤ (w6.alloc (.cells #[.slice A6 n0 c6, .slice B6 m0 d6] 33)).heap.size := by simp
  have w0_70 := w0_53.below hb7
  clear w0_53
  have w0_71 := w0_54.below hb7
  clear w0_54
  have x0_72 := oN6.below hb7
  clear oN6
  have b_73 := b_55.belowA hb7
  have b_74 := b_56.belowA hb7
  have hB_75 := bthen hB_57 hb7 hB_57.size
  clear hB_57
  have sz_76 : w6.heap.size ≤ (w6.alloc (.cells #[.slice A6 n0 c6, .slice B6 m0 d6] 33)).heap.size := hb7.size
  clear hb7
  go_wp2_with fail
  generalize (w6.alloc (.cells #[.slice A6 n0 c6, .slice B6 m0 d6] 33)) = w7 at *
  clear b_55
  clear b_56
  clear x_59 x_60 x_61 x_62 x_63 x_64
  have x_77 := b_73.lt
  have x_78 : w7.cell? ⟨w.heap.size, 0, none⟩ = some (.slice A0 n0 c0) := b_73.cell 0
  have x_79 : w7.cell? ⟨w.heap.size, 1, none⟩ = some (.slice B0 m0 d0) := b_73.cell 1
  have x_80 := b_74.lt
  have x_81 : w7.cell? ⟨w4.heap.size, 0, none⟩ = some (.slice A4_0 (opF ns0 ps0 n0 zs1).length c4_0) := b_74.cell 0
  have x_82 : w7.cell? ⟨w4.heap.size, 1, none⟩ = some (.slice B4_0 (opL ns0 ps0 n0 zs1 false).length d4_0) := b_74.cell 1
  have x_83 := b_68.lt
  have x_84 : w7.cell? ⟨w6.heap.size, 0, none⟩ = some (.slice A6 n0 c6) := b_68.cell 0
  have x_85 : w7.cell? ⟨w6.heap.size, 1, none⟩ = some (.slice B6 m0 d6) := b_68.cell 1
  refine (toInts_any _ _ _ _ _ (iV1.below hB_75) hl1).mono ?_
  rintro e w8 ⟨Z8, f8, rfl, oI8, hb8⟩
  have w0_86 := w0_70.below hb8
  clear w0_70
  have w0_87 := w0_71.below hb8
  clear w0_71
  have x0_88 := x0_72.below hb8
  clear x0_72
  have b_89 := b_73.belowA hb8
  have b_90 := b_74.belowA hb8
  have b_91 := b_68.belowA hb8
  have hB_92 := bthen hB_75 hb8 hB_75.size
  clear hB_75
  have sz_93 : w7.heap.size ≤ w8.heap.size := hb8.size
  clear b_73
  clear b_74
  clear b_68
  clear x_77 x_78 x_79 x_80 x_81 x_82 x_83 x_84 x_85
  have x_94 := b_89.lt
  have x_95 : w8.cell? ⟨w.heap.size, 0, none⟩ = some (.slice A0 n0 c0) := b_89.cell 0
  have x_96 : w8.cell? ⟨w.heap.size, 1, none⟩ = some (.slice B0 m0 d0) := b_89.cell 1
  have x_97 := b_90.lt
  have x_98 : w8.cell? ⟨w4.heap.size, 0, none⟩ = some (.slice A4_0 (opF ns0 ps0 n0 zs1).length c4_0) := b_90.cell 0
  have x_99 : w8.cell? ⟨w4.heap.size, 1, none⟩ = some (.slice B4_0 (opL ns0 ps0 n0 zs1 false).length d4_0) := b_90.cell 1
  have x_100 := b_91.lt
  have x_101 : w8.cell? ⟨w6.heap.size, 0, none⟩ = some (.slice A6 n0 c6) := b_91.cell 0
  have x_102 : w8.cell? ⟨w6.heap.size, 1, none⟩ = some (.slice B6 m0 d6) := b_91.cell 1
  clear hb8
  have rw_103 := oI8.rw_
  go_wp2_with fail
  refine (loPoint_any _ _ _ _ _ _ _ _ _ zs1 ns0 ps0 _ x0_88.reads oI8.ints hl1).mono ?_
  rintro e w9 ⟨A9_0, c9_0, B9_0, d9_0, rfl, oR9_0, oS9_0, aP9_0, hb9⟩
  have w0_104 := w0_86.below hb9
  clear w0_86
  have w0_105 := w0_87.below hb9
  clear w0_87
  have x0_106 := x0_88.below hb9
  clear x0_88
  have x1_107 := oI8.below hb9
  clear oI8
  have b_108 := b_89.belowA hb9
  have b_109 := b_90.belowA hb9
  have b_110 := b_91.belowA hb9
  have hB_111 := bthen hB_92 hb9 hB_92.size
  clear hB_92
  have sz_112 : w8.heap.size ≤ w9.heap.size := hb9.size
  clear b_89
  clear b_90
  clear b_91
  clear x_94 x_95 x_96 x_97 x_98 x_99 x_100 x_101 x_102
  have x_113 := b_108.lt
  have x_114 : w9.cell? ⟨w.heap.size, 0, none⟩ = some (.slice A0 n0 c0) := b_108.cell 0
  have x_115 : w9.cell? ⟨w.heap.size, 1, none⟩ = some (.slice B0 m0 d0) := b_108.cell 1
  have x_116 := b_109.lt
  have x_117 : w9.cell? ⟨w4.heap.size, 0, none⟩ = some (.slice A4_0 (opF ns0 ps0 n0 zs1).length c4_0) := b_109.cell 0
  have x_118 : w9.cell? ⟨w4.heap.size, 1, none⟩ = some (.slice B4_0 (opL ns0 ps0 n0 zs1 false).length d4_0) := b_109.cell 1
  have x_119 := b_110.lt
  have x_120 : w9.cell? ⟨w6.heap.size, 0, none⟩ = some (.slice A6 n0 c6) := b_110.cell 0
  have x_121 : w9.cell? ⟨w6.heap.size, 1, none⟩ = some (.slice B6 m0 d6) := b_110.cell 1
  clear hb9
  have rw_122 := oR9_0.rw_
  have rw_123 := oS9_0.rw_
  have hb10 : Below w9.heap.size w9 (w9.alloc (.cells #[.slice A9_0 (opF ns0 ps0 n0 zs1).length c9_0, .slice B9_0 (opL ns0 ps0 n0 zs1 false).length d9_0] 51)) := (Below.refl _ _).alloc (Nat.le_refl _) _
  have b_124 := box_new w9 #[.slice A9_0 (opF ns0 ps0 n0 zs1).length c9_0, .slice B9_0 (opL ns0 ps0 n0 zs1 false).length d9_0] 51
  have sz_125 : w9.heap.size + 1 ≤ (w9.alloc (.cells #[.slice A9_0 (opF ns0 ps0 n0 zs1).length c9_0, .slice B9_0 (opL ns0 ps0 n0 zs1 false).length d9_0] 51)).heap.size := by simp
  have w0_126 := w0_104.below hb10
  clear w0_104
  have w0_127 := w0_105.below hb10
  clear w0_105
  have x0_128 := x0_106.below hb10
  clear x0_106
  have x1_129 := x1_107.below hb10
  clear x1_107
  have g0_130 := oR9_0.below hb10
  clear oR9_0
  have g0_131 := oS9_0.below hb10
  clear oS9_0
  have b_132 := b_108.belowA hb10
  have b_133 := b_109.belowA hb10
  have b_134 := b_110.belowA hb10
  have hB_135 := bthen hB_111 hb10 hB_111.size
  clear hB_111
  have sz_136 : w9.heap.size ≤ (w9.alloc (.cells #[.slice A9_0 (opF ns0 ps0 n0 zs1).length c9_0, .slice B9_0 (opL ns0 ps0 n0 zs1 false).length d9_0] 51)).heap.size := hb10.size
  clear hb10
  go_wp2_with fail
  generalize (w9.alloc (.cells #[.slice A9_0 (opF ns0 ps0 n0 zs1).length c9_0, .slice B9_0 (opL ns0 ps0 n0 zs1 false).length d9_0] 51)) = w10 at *
  clear b_108
  clear b_109
  clear b_110
  clear x_113 x_114 x_115 x_116 x_117 x_118 x_119 x_120 x_121
  have x_137 := b_132.lt
  have x_138 : w10.cell? ⟨w.heap.size, 0, none⟩ = some (.slice A0 n0 c0) := b_132.cell 0
  have x_139 : w10.cell? ⟨w.heap.size, 1, none⟩ = some (.slice B0 m0 d0) := b_132.cell 1
  have x_140 := b_133.lt
  have x_141 : w10.cell? ⟨w4.heap.size, 0, none⟩ = some (.slice A4_0 (opF ns0 ps0 n0 zs1).length c4_0) := b_133.cell 0
  have x_142 : w10.cell? ⟨w4.heap.size, 1, none⟩ = some (.slice B4_0 (opL ns0 ps0 n0 zs1 false).length d4_0) := b_133.cell 1
  have x_143 := b_134.lt
  have x_144 : w10.cell? ⟨w6.heap.size, 0, none⟩ = some (.slice A6 n0 c6) := b_134.cell 0
  have x_145 : w10.cell? ⟨w6.heap.size, 1, none⟩ = some (.slice B6 m0 d6) := b_134.cell 1
  have x_146 := b_124.lt
  have x_147 : w10.cell? ⟨w9.heap.size, 0, none⟩ = some (.slice A9_0 (opF ns0 ps0 n0 zs1).length c9_0) := b_124.cell 0
  have x_148 : w10.cell? ⟨w9.heap.size, 1, none⟩ = some (.slice B9_0 (opL ns0 ps0 n0 zs1 false).length d9_0) := b_124.cell 1
  refine (eqProofA_any _ _ _ _ _ _ _ _ _ _ _ g0_130.ints g0_131.ints w0_126.ints w0_127.ints hr0 hr1).mono ?_
  rintro e w11 ⟨rfl, hb11⟩
  have w0_149 := w0_126.below hb11
  clear w0_126
  have w0_150 := w0_127.below hb11
  clear w0_127
  have x0_151 := x0_128.below hb11
  clear x0_128
  have x1_152 := x1_129.below hb11
  clear x1_129
  have g0_153 := g0_130.below hb11
  clear g0_130
  have g0_154 := g0_131.below hb11
  clear g0_131
  have b_155 := b_132.belowA hb11
  have b_156 := b_133.belowA hb11
  have b_157 := b_134.belowA hb11
  have b_158 := b_124.belowA hb11
  have hB_159 := bthen hB_135 hb11 hB_135.size
  clear hB_135
  have sz_160 : w10.heap.size ≤ w11.heap.size := hb11.size
  clear b_132
  clear b_133
  clear b_134
  clear b_124
  clear x_137 x_138 x_139 x_140 x_141 x_142 x_143 x_144 x_145 x_146 x_147 x_148
  have x_161 := b_155.lt
  have x_162 : w11.cell? ⟨w.heap.size, 0, none⟩ = some (.slice A0 n0 c0) := b_155.cell 0
  have x_163 : w11.cell? ⟨w.heap.size, 1, none⟩ = some (.slice B0 m0 d0) := b_155.cell 1
  have x_164 := b_156.lt
  have x_165 : w11.cell? ⟨w4.heap.size, 0, none⟩ = some (.slice A4_0 (opF ns0 ps0 n0 zs1).length c4_0) := b_156.cell 0
  have x_166 : w11.cell? ⟨w4.heap.size, 1, none⟩ = some (.slice B4_0 (opL ns0 ps0 n0 zs1 false).length d4_0) := b_156.cell 1
  have x_167 := b_157.lt
  have x_168 : w11.cell? ⟨w6.heap.size, 0, none⟩ = some (.slice A6 n0 c6) := b_157.cell 0
  have x_169 : w11.cell? ⟨w6.heap.size, 1, none⟩ = some (.slice B6 m0 d6) := b_157.cell 1
  have x_170 := b_158.lt
  have x_171 : w11.cell? ⟨w9.heap.size, 0, none⟩ = some (.slice A9_0 (opF ns0 ps0 n0 zs1).length c9_0) := b_158.cell 0
  have x_172 : w11.cell? ⟨w9.heap.size, 1, none⟩ = some (.slice B9_0 (opL ns0 ps0 n0 zs1 false).length d9_0) := b_158.cell 1
  clear hb11
  have kp_173 : Kept _ := ⟨w0_149⟩
  clear w0_149
  have kp_174 : Kept _ := ⟨w0_150⟩
  clear w0_150
  have kp_175 : Kept _ := ⟨x0_151⟩
  clear x0_151
  have kp_176 : Kept _ := ⟨x1_152⟩
  clear x1_152
  have kp_177 : Kept _ := ⟨g0_153⟩
  clear g0_153
  have kp_178 : Kept _ := ⟨g0_154⟩
  clear g0_154
  have kv_179 : Kept _ := ⟨nV0⟩
  clear nV0
  have kv_180 : Kept _ := ⟨iV1⟩
  clear iV1
  have kw_181 : Kept _ := ⟨hW⟩
  clear hW
  have kU : Kept (Below w11.heap.size w11 w11.drew) := ⟨(Below.refl _ _).drew⟩
  go_wp2_with fail
  go_region_held3 (fun w' => w.heap.size < w'.heap.size ∧ w6.heap.size < w'.heap.size ∧ w'.cell? ⟨w.heap.size, 0, none⟩ = some (.slice A0 n0 c0) ∧ w'.cell? ⟨w.heap.size, 1, none⟩ = some (.slice B0 m0 d0) ∧ w'.cell? ⟨w6.heap.size, 0, none⟩ = some (.slice A6 n0 c6) ∧ w'.cell? ⟨w6.heap.size, 1, none⟩ = some (.slice B6 m0 d6) ∧ Kept (Below w11.heap.size w11 w'))
    (first | (go_split_ands; refine ⟨by have := hbr.size; omega, by have := hbr.size; omega, ?_, ?_, ?_, ?_, ⟨bthen (Kept.out ‹Kept (Below _ _ _)›) hbr (Kept.out ‹Kept (Below _ _ _)›).size⟩⟩ <;> (rw [hbr.cell (by simp; omega)]; assumption)) | go_keep)
    (first | (go_at_call 16; go_split_ands; refine (toNetw_any _ _ _ _ _ _ _ _ _ ((kv_179.out.below hB_159).below (Kept.out ‹Kept (Below w11.heap.size _ _)›)) hn0 hm0).mono ?_; rintro e wr ⟨Ar, cr, Br, dr, rfl, oR, hbr⟩) | (go_at_call 19; go_split_ands; refine (eqNet_any _ _ _ _ _ _ _ _ _ _ _ _ ns0 ns0 ps0 ps0 _ (kp_175.out.reads.below (Kept.out ‹Kept (Below w11.heap.size _ _)›)).nodes (kp_175.out.reads.below (Kept.out ‹Kept (Below w11.heap.size _ _)›)).pipes oR.reads.nodes oR.reads.pipes hn0 hm0).mono ?_; rintro e wq12 ⟨be, hbe, rfl, hbr⟩; obtain rfl : be = true := hbe.2 ⟨rfl, rfl⟩; clear hbe))
  rename_i hh
  obtain ⟨_, _, _, _, _, _, ⟨hb12⟩⟩ := hh
  have w0_182 := kp_173.out
  clear kp_173
  have w0_183 := kp_174.out
  clear kp_174
  have x0_184 := kp_175.out
  clear kp_175
  have x1_185 := kp_176.out
  clear kp_176
  have g0_186 := kp_177.out
  clear kp_177
  have g0_187 := kp_178.out
  clear kp_178
  have nV0 := kv_179.out
  clear kv_179
  have iV1 := kv_180.out
  clear kv_180
  have hW := kw_181.out
  clear kw_181
  clear kU
  have w0_188 := w0_182.below hb12
  clear w0_182
  have w0_189 := w0_183.below hb12
  clear w0_183
  have x0_190 := x0_184.below hb12
  clear x0_184
  have x1_191 := x1_185.below hb12
  clear x1_185
  have g0_192 := g0_186.below hb12
  clear g0_186
  have g0_193 := g0_187.below hb12
  clear g0_187
  have b_194 := b_155.belowA hb12
  have b_195 := b_156.belowA hb12
  have b_196 := b_157.belowA hb12
  have b_197 := b_158.belowA hb12
  have hB_198 := bthen hB_159 hb12 hB_159.size
  clear hB_159
  have sz_199 : w11.heap.size ≤ wq12.heap.size := hb12.size
  clear b_155
  clear b_156
  clear b_157
  clear b_158
  clear x_161 x_162 x_163 x_164 x_165 x_166 x_167 x_168 x_169 x_170 x_171 x_172
  have x_200 := b_194.lt
  have x_201 : wq12.cell? ⟨w.heap.size, 0, none⟩ = some (.slice A0 n0 c0) := b_194.cell 0
  have x_202 : wq12.cell? ⟨w.heap.size, 1, none⟩ = some (.slice B0 m0 d0) := b_194.cell 1
  have x_203 := b_195.lt
  have x_204 : wq12.cell? ⟨w4.heap.size, 0, none⟩ = some (.slice A4_0 (opF ns0 ps0 n0 zs1).length c4_0) := b_195.cell 0
  have x_205 : wq12.cell? ⟨w4.heap.size, 1, none⟩ = some (.slice B4_0 (opL ns0 ps0 n0 zs1 false).length d4_0) := b_195.cell 1
  have x_206 := b_196.lt
  have x_207 : wq12.cell? ⟨w6.heap.size, 0, none⟩ = some (.slice A6 n0 c6) := b_196.cell 0
  have x_208 : wq12.cell? ⟨w6.heap.size, 1, none⟩ = some (.slice B6 m0 d6) := b_196.cell 1
  have x_209 := b_197.lt
  have x_210 : wq12.cell? ⟨w9.heap.size, 0, none⟩ = some (.slice A9_0 (opF ns0 ps0 n0 zs1).length c9_0) := b_197.cell 0
  have x_211 : wq12.cell? ⟨w9.heap.size, 1, none⟩ = some (.slice B9_0 (opL ns0 ps0 n0 zs1 false).length d9_0) := b_197.cell 1
  clear hb12
  go_wp2_with fail
  refine (toInts_any _ _ _ _ _ (iV1.below hB_198) hl1).mono ?_
  rintro e w13 ⟨Z13, f13, rfl, oI13, hb13⟩
  have w0_212 := w0_188.below hb13
  clear w0_188
  have w0_213 := w0_189.below hb13
  clear w0_189
  have x0_214 := x0_190.below hb13
  clear x0_190
  have x1_215 := x1_191.below hb13
  clear x1_191
  have g0_216 := g0_192.below hb13
  clear g0_192
  have g0_217 := g0_193.below hb13
  clear g0_193
  have b_218 := b_194.belowA hb13
  have b_219 := b_195.belowA hb13
  have b_220 := b_196.belowA hb13
  have b_221 := b_197.belowA hb13
  have hB_222 := bthen hB_198 hb13 hB_198.size
  clear hB_198
  have sz_223 : wq12.heap.size ≤ w13.heap.size := hb13.size
  clear b_194
  clear b_195
  clear b_196
  clear b_197
  clear x_200 x_201 x_202 x_203 x_204 x_205 x_206 x_207 x_208 x_209 x_210 x_211
  have x_224 := b_218.lt
  have x_225 : w13.cell? ⟨w.heap.size, 0, none⟩ = some (.slice A0 n0 c0) := b_218.cell 0
  have x_226 : w13.cell? ⟨w.heap.size, 1, none⟩ = some (.slice B0 m0 d0) := b_218.cell 1
  have x_227 := b_219.lt
  have x_228 : w13.cell? ⟨w4.heap.size, 0, none⟩ = some (.slice A4_0 (opF ns0 ps0 n0 zs1).length c4_0) := b_219.cell 0
  have x_229 : w13.cell? ⟨w4.heap.size, 1, none⟩ = some (.slice B4_0 (opL ns0 ps0 n0 zs1 false).length d4_0) := b_219.cell 1
  have x_230 := b_220.lt
  have x_231 : w13.cell? ⟨w6.heap.size, 0, none⟩ = some (.slice A6 n0 c6) := b_220.cell 0
  have x_232 : w13.cell? ⟨w6.heap.size, 1, none⟩ = some (.slice B6 m0 d6) := b_220.cell 1
  have x_233 := b_221.lt
  have x_234 : w13.cell? ⟨w9.heap.size, 0, none⟩ = some (.slice A9_0 (opF ns0 ps0 n0 zs1).length c9_0) := b_221.cell 0
  have x_235 : w13.cell? ⟨w9.heap.size, 1, none⟩ = some (.slice B9_0 (opL ns0 ps0 n0 zs1 false).length d9_0) := b_221.cell 1
  clear hb13
  have rw_236 := oI13.rw_
  go_wp2_with fail
  refine (eqInts_any _ _ _ _ _ _ _ _ _ x1_215.ints oI13.ints hl1).mono ?_
  rintro e w14 ⟨rfl, hq14⟩
  have hb14 := hq14.below w13.heap.size
  have w0_237 := w0_212.below hb14
  clear w0_212
  have w0_238 := w0_213.below hb14
  clear w0_213
  have x0_239 := x0_214.below hb14
  clear x0_214
  have x1_240 := x1_215.below hb14
  clear x1_215
  have g0_241 := g0_216.below hb14
  clear g0_216
  have g0_242 := g0_217.below hb14
  clear g0_217
  have z1_243 := oI13.below hb14
  clear oI13
  have b_244 := b_218.belowA hb14
  have b_245 := b_219.belowA hb14
  have b_246 := b_220.belowA hb14
  have b_247 := b_221.belowA hb14
  have hB_248 := bthen hB_222 hb14 hB_222.size
  clear hB_222
  have sz_249 : w13.heap.size ≤ w14.heap.size := hb14.size
  clear b_218
  clear b_219
  clear b_220
  clear b_221
  clear x_224 x_225 x_226 x_227 x_228 x_229 x_230 x_231 x_232 x_233 x_234 x_235
  have x_250 := b_244.lt
  have x_251 : w14.cell? ⟨w.heap.size, 0, none⟩ = some (.slice A0 n0 c0) := b_244.cell 0
  have x_252 : w14.cell? ⟨w.heap.size, 1, none⟩ = some (.slice B0 m0 d0) := b_244.cell 1
  have x_253 := b_245.lt
  have x_254 : w14.cell? ⟨w4.heap.size, 0, none⟩ = some (.slice A4_0 (opF ns0 ps0 n0 zs1).length c4_0) := b_245.cell 0
  have x_255 : w14.cell? ⟨w4.heap.size, 1, none⟩ = some (.slice B4_0 (opL ns0 ps0 n0 zs1 false).length d4_0) := b_245.cell 1
  have x_256 := b_246.lt
  have x_257 : w14.cell? ⟨w6.heap.size, 0, none⟩ = some (.slice A6 n0 c6) := b_246.cell 0
  have x_258 : w14.cell? ⟨w6.heap.size, 1, none⟩ = some (.slice B6 m0 d6) := b_246.cell 1
  have x_259 := b_247.lt
  have x_260 : w14.cell? ⟨w9.heap.size, 0, none⟩ = some (.slice A9_0 (opF ns0 ps0 n0 zs1).length c9_0) := b_247.cell 0
  have x_261 : w14.cell? ⟨w9.heap.size, 1, none⟩ = some (.slice B9_0 (opL ns0 ps0 n0 zs1 false).length d9_0) := b_247.cell 1
  clear hb14 hq14
  clear z1_243
  go_wp2_with fail
  refine (markNet1_any _ _ _ _ _ _ _ _ _ _ _ x0_239.nodes.1 x0_239.pipes.1 hn0 hm0).mono ?_
  rintro e w15 ⟨rfl, mN15, mP15, u15, hg15, hh15⟩
  clear x0_239
  have w0_262 := w0_237.grown hg15 (rw_apart rw_36 rw_65 (by omega))
  clear w0_237
  have w0_263 := w0_238.grown hg15 (rw_apart rw_37 rw_65 (by omega))
  clear w0_238
  have x1_264 := x1_240.grown hg15 (rw_apart rw_103 rw_65 (by omega))
  clear x1_240
  have g0_265 := g0_241.grown hg15 (rw_apart rw_122 rw_65 (by omega))
  clear g0_241
  have g0_266 := g0_242.grown hg15 (rw_apart rw_123 rw_65 (by omega))
  clear g0_242
  have b_267 := b_244.grown hg15 (rw_box rw_65 (by omega))
  have b_268 := b_245.grown hg15 (rw_box rw_65 (by omega))
  have b_269 := b_246.grown hg15 (rw_box rw_65 (by omega))
  have b_270 := b_247.grown hg15 (rw_box rw_65 (by omega))
  have hB_271 := hB_248.grown hg15 hB_248.size (rw_ge rw_65 (by omega))
  clear hB_248
  have sz_272 : w14.heap.size ≤ u15.heap.size := hg15.size
  clear b_244
  clear b_245
  clear b_246
  clear b_247
  have w0_273 := w0_262.grown hh15 (rw_apart rw_36 rw_66 (by omega))
  clear w0_262
  have w0_274 := w0_263.grown hh15 (rw_apart rw_37 rw_66 (by omega))
  clear w0_263
  have x1_275 := x1_264.grown hh15 (rw_apart rw_103 rw_66 (by omega))
  clear x1_264
  have g0_276 := g0_265.grown hh15 (rw_apart rw_122 rw_66 (by omega))
  clear g0_265
  have g0_277 := g0_266.grown hh15 (rw_apart rw_123 rw_66 (by omega))
  clear g0_266
  have b_278 := b_267.grown hh15 (rw_box rw_66 (by omega))
  have b_279 := b_268.grown hh15 (rw_box rw_66 (by omega))
  have b_280 := b_269.grown hh15 (rw_box rw_66 (by omega))
  have b_281 := b_270.grown hh15 (rw_box rw_66 (by omega))
  have hB_282 := hB_271.grown hh15 hB_271.size (rw_ge rw_66 (by omega))
  clear hB_271
  have sz_283 : u15.heap.size ≤ w15.heap.size := hh15.size
  clear b_267
  clear b_268
  clear b_269
  clear b_270
  clear x_250 x_251 x_252 x_253 x_254 x_255 x_256 x_257 x_258 x_259 x_260 x_261
  have x_284 := b_278.lt
  have x_285 : w15.cell? ⟨w.heap.size, 0, none⟩ = some (.slice A0 n0 c0) := b_278.cell 0
  have x_286 : w15.cell? ⟨w.heap.size, 1, none⟩ = some (.slice B0 m0 d0) := b_278.cell 1
  have x_287 := b_279.lt
  have x_288 : w15.cell? ⟨w4.heap.size, 0, none⟩ = some (.slice A4_0 (opF ns0 ps0 n0 zs1).length c4_0) := b_279.cell 0
  have x_289 : w15.cell? ⟨w4.heap.size, 1, none⟩ = some (.slice B4_0 (opL ns0 ps0 n0 zs1 false).length d4_0) := b_279.cell 1
  have x_290 := b_280.lt
  have x_291 : w15.cell? ⟨w6.heap.size, 0, none⟩ = some (.slice A6 n0 c6) := b_280.cell 0
  have x_292 : w15.cell? ⟨w6.heap.size, 1, none⟩ = some (.slice B6 m0 d6) := b_280.cell 1
  have x_293 := b_281.lt
  have x_294 : w15.cell? ⟨w9.heap.size, 0, none⟩ = some (.slice A9_0 (opF ns0 ps0 n0 zs1).length c9_0) := b_281.cell 0
  have x_295 : w15.cell? ⟨w9.heap.size, 1, none⟩ = some (.slice B9_0 (opL ns0 ps0 n0 zs1 false).length d9_0) := b_281.cell 1
  clear hg15 hh15
  go_wp2_with fail
  refine (markInts_any _ _ _ _ _ _ _ x1_275 hl1 (by omega) (by omega)).mono ?_
  rintro e w16 ⟨rfl, mI16, hg16⟩
  clear x1_275
  have w0_296 := w0_273.grown hg16 (rw_apart rw_36 rw_103 (by omega))
  clear w0_273
  have w0_297 := w0_274.grown hg16 (rw_apart rw_37 rw_103 (by omega))
  clear w0_274
  have x0_298 := mN15.grown hg16 (rw_apart rw_65 rw_103 (by omega))
  clear mN15
  have x0_299 := mP15.grown hg16 (rw_apart rw_66 rw_103 (by omega))
  clear mP15
  have g0_300 := g0_276.grown hg16 (rw_apart rw_122 rw_103 (by omega))
  clear g0_276
  have g0_301 := g0_277.grown hg16 (rw_apart rw_123 rw_103 (by omega))
  clear g0_277
  have b_302 := b_278.grown hg16 (rw_box rw_103 (by omega))
  have b_303 := b_279.grown hg16 (rw_box rw_103 (by omega))
  have b_304 := b_280.grown hg16 (rw_box rw_103 (by omega))
  have b_305 := b_281.grown hg16 (rw_box rw_103 (by omega))
  have hB_306 := hB_282.grown hg16 hB_282.size (rw_ge rw_103 (by omega))
  clear hB_282
  have sz_307 : w15.heap.size ≤ w16.heap.size := hg16.size
  clear b_278
  clear b_279
  clear b_280
  clear b_281
  clear x_284 x_285 x_286 x_287 x_288 x_289 x_290 x_291 x_292 x_293 x_294 x_295
  have x_308 := b_302.lt
  have x_309 : w16.cell? ⟨w.heap.size, 0, none⟩ = some (.slice A0 n0 c0) := b_302.cell 0
  have x_310 : w16.cell? ⟨w.heap.size, 1, none⟩ = some (.slice B0 m0 d0) := b_302.cell 1
  have x_311 := b_303.lt
  have x_312 : w16.cell? ⟨w4.heap.size, 0, none⟩ = some (.slice A4_0 (opF ns0 ps0 n0 zs1).length c4_0) := b_303.cell 0
  have x_313 : w16.cell? ⟨w4.heap.size, 1, none⟩ = some (.slice B4_0 (opL ns0 ps0 n0 zs1 false).length d4_0) := b_303.cell 1
  have x_314 := b_304.lt
  have x_315 : w16.cell? ⟨w6.heap.size, 0, none⟩ = some (.slice A6 n0 c6) := b_304.cell 0
  have x_316 : w16.cell? ⟨w6.heap.size, 1, none⟩ = some (.slice B6 m0 d6) := b_304.cell 1
  have x_317 := b_305.lt
  have x_318 : w16.cell? ⟨w9.heap.size, 0, none⟩ = some (.slice A9_0 (opF ns0 ps0 n0 zs1).length c9_0) := b_305.cell 0
  have x_319 : w16.cell? ⟨w9.heap.size, 1, none⟩ = some (.slice B9_0 (opL ns0 ps0 n0 zs1 false).length d9_0) := b_305.cell 1
  clear hg16
  go_wp2_with fail
  refine (eqProofA_any _ _ _ _ _ _ _ _ _ _ _ g0_300.ints g0_301.ints w0_296.ints w0_297.ints hr0 hr1).mono ?_
  rintro e w17 ⟨rfl, hb17⟩
  have w0_320 := w0_296.below hb17
  clear w0_296
  have w0_321 := w0_297.below hb17
  clear w0_297
  have x0_322 := x0_298.below hb17
  clear x0_298
  have x0_323 := x0_299.below hb17
  clear x0_299
  have x1_324 := mI16.below hb17
  clear mI16
  have g0_325 := g0_300.below hb17
  clear g0_300
  have g0_326 := g0_301.below hb17
  clear g0_301
  have b_327 := b_302.belowA hb17
  have b_328 := b_303.belowA hb17
  have b_329 := b_304.belowA hb17
  have b_330 := b_305.belowA hb17
  have hB_331 := bthen hB_306 hb17 hB_306.size
  clear hB_306
  have sz_332 : w16.heap.size ≤ w17.heap.size := hb17.size
  clear b_302
  clear b_303
  clear b_304
  clear b_305
  clear x_308 x_309 x_310 x_311 x_312 x_313 x_314 x_315 x_316 x_317 x_318 x_319
  have x_333 := b_327.lt
  have x_334 : w17.cell? ⟨w.heap.size, 0, none⟩ = some (.slice A0 n0 c0) := b_327.cell 0
  have x_335 : w17.cell? ⟨w.heap.size, 1, none⟩ = some (.slice B0 m0 d0) := b_327.cell 1
  have x_336 := b_328.lt
  have x_337 : w17.cell? ⟨w4.heap.size, 0, none⟩ = some (.slice A4_0 (opF ns0 ps0 n0 zs1).length c4_0) := b_328.cell 0
  have x_338 : w17.cell? ⟨w4.heap.size, 1, none⟩ = some (.slice B4_0 (opL ns0 ps0 n0 zs1 false).length d4_0) := b_328.cell 1
  have x_339 := b_329.lt
  have x_340 : w17.cell? ⟨w6.heap.size, 0, none⟩ = some (.slice A6 n0 c6) := b_329.cell 0
  have x_341 : w17.cell? ⟨w6.heap.size, 1, none⟩ = some (.slice B6 m0 d6) := b_329.cell 1
  have x_342 := b_330.lt
  have x_343 : w17.cell? ⟨w9.heap.size, 0, none⟩ = some (.slice A9_0 (opF ns0 ps0 n0 zs1).length c9_0) := b_330.cell 0
  have x_344 : w17.cell? ⟨w9.heap.size, 1, none⟩ = some (.slice B9_0 (opL ns0 ps0 n0 zs1 false).length d9_0) := b_330.cell 1
  clear hb17
  go_wp2_with fail
  refine (markProof_any _ _ _ _ _ _ _ _ _ _ _ _ g0_325 g0_326 (aP9_0.row) (aP9_0.symm.row) hr0 hr1 (by omega) (by omega)).mono ?_
  rintro e w18 ⟨rfl, mI18, mJ18, u18, hg18, hh18⟩
  clear g0_325 g0_326
  have w0_345 := w0_320.grown hg18 (rw_apart rw_36 rw_122 (by omega))
  clear w0_320
  have w0_346 := w0_321.grown hg18 (rw_apart rw_37 rw_122 (by omega))
  clear w0_321
  have x0_347 := x0_322.grown hg18 (rw_apart rw_65 rw_122 (by omega))
  clear x0_322
  have x0_348 := x0_323.grown hg18 (rw_apart rw_66 rw_122 (by omega))
  clear x0_323
  have x1_349 := x1_324.grown hg18 (rw_apart rw_103 rw_122 (by omega))
  clear x1_324
  have b_350 := b_327.grown hg18 (rw_box rw_122 (by omega))
  have b_351 := b_328.grown hg18 (rw_box rw_122 (by omega))
  have b_352 := b_329.grown hg18 (rw_box rw_122 (by omega))
  have b_353 := b_330.grown hg18 (rw_box rw_122 (by omega))
  have hB_354 := hB_331.grown hg18 hB_331.size (rw_ge rw_122 (by omega))
  clear hB_331
  have sz_355 : w17.heap.size ≤ u18.heap.size := hg18.size
  clear b_327
  clear b_328
  clear b_329
  clear b_330
  have w0_356 := w0_345.grown hh18 (rw_apart rw_36 rw_123 (by omega))
  clear w0_345
  have w0_357 := w0_346.grown hh18 (rw_apart rw_37 rw_123 (by omega))
  clear w0_346
  have x0_358 := x0_347.grown hh18 (rw_apart rw_65 rw_123 (by omega))
  clear x0_347
  have x0_359 := x0_348.grown hh18 (rw_apart rw_66 rw_123 (by omega))
  clear x0_348
  have x1_360 := x1_349.grown hh18 (rw_apart rw_103 rw_123 (by omega))
  clear x1_349
  have b_361 := b_350.grown hh18 (rw_box rw_123 (by omega))
  have b_362 := b_351.grown hh18 (rw_box rw_123 (by omega))
  have b_363 := b_352.grown hh18 (rw_box rw_123 (by omega))
  have b_364 := b_353.grown hh18 (rw_box rw_123 (by omega))
  have hB_365 := hB_354.grown hh18 hB_354.size (rw_ge rw_123 (by omega))
  clear hB_354
  have sz_366 : u18.heap.size ≤ w18.heap.size := hh18.size
  clear b_350
  clear b_351
  clear b_352
  clear b_353
  clear x_333 x_334 x_335 x_336 x_337 x_338 x_339 x_340 x_341 x_342 x_343 x_344
  have x_367 := b_361.lt
  have x_368 : w18.cell? ⟨w.heap.size, 0, none⟩ = some (.slice A0 n0 c0) := b_361.cell 0
  have x_369 : w18.cell? ⟨w.heap.size, 1, none⟩ = some (.slice B0 m0 d0) := b_361.cell 1
  have x_370 := b_362.lt
  have x_371 : w18.cell? ⟨w4.heap.size, 0, none⟩ = some (.slice A4_0 (opF ns0 ps0 n0 zs1).length c4_0) := b_362.cell 0
  have x_372 : w18.cell? ⟨w4.heap.size, 1, none⟩ = some (.slice B4_0 (opL ns0 ps0 n0 zs1 false).length d4_0) := b_362.cell 1
  have x_373 := b_363.lt
  have x_374 : w18.cell? ⟨w6.heap.size, 0, none⟩ = some (.slice A6 n0 c6) := b_363.cell 0
  have x_375 : w18.cell? ⟨w6.heap.size, 1, none⟩ = some (.slice B6 m0 d6) := b_363.cell 1
  have x_376 := b_364.lt
  have x_377 : w18.cell? ⟨w9.heap.size, 0, none⟩ = some (.slice A9_0 (opF ns0 ps0 n0 zs1).length c9_0) := b_364.cell 0
  have x_378 : w18.cell? ⟨w9.heap.size, 1, none⟩ = some (.slice B9_0 (opL ns0 ps0 n0 zs1 false).length d9_0) := b_364.cell 1
  clear hg18 hh18
  go_wp2_with fail
  refine (heldProof_any _ _ _ _ _ _ _ mI18.ints mJ18.ints hr0 hr1 (by omega) (by omega)).mono ?_
  rintro e w19 ⟨rfl, hb19⟩
  have w0_379 := w0_356.below hb19
  clear w0_356
  have w0_380 := w0_357.below hb19
  clear w0_357
  have x0_381 := x0_358.below hb19
  clear x0_358
  have x0_382 := x0_359.below hb19
  clear x0_359
  have x1_383 := x1_360.below hb19
  clear x1_360
  have g0_384 := mI18.below hb19
  clear mI18
  have g0_385 := mJ18.below hb19
  clear mJ18
  have b_386 := b_361.belowA hb19
  have b_387 := b_362.belowA hb19
  have b_388 := b_363.belowA hb19
  have b_389 := b_364.belowA hb19
  have hB_390 := bthen hB_365 hb19 hB_365.size
  clear hB_365
  have sz_391 : w18.heap.size ≤ w19.heap.size := hb19.size
  clear b_361
  clear b_362
  clear b_363
  clear b_364
  clear x_367 x_368 x_369 x_370 x_371 x_372 x_373 x_374 x_375 x_376 x_377 x_378
  have x_392 := b_386.lt
  have x_393 : w19.cell? ⟨w.heap.size, 0, none⟩ = some (.slice A0 n0 c0) := b_386.cell 0
  have x_394 : w19.cell? ⟨w.heap.size, 1, none⟩ = some (.slice B0 m0 d0) := b_386.cell 1
  have x_395 := b_387.lt
  have x_396 : w19.cell? ⟨w4.heap.size, 0, none⟩ = some (.slice A4_0 (opF ns0 ps0 n0 zs1).length c4_0) := b_387.cell 0
  have x_397 : w19.cell? ⟨w4.heap.size, 1, none⟩ = some (.slice B4_0 (opL ns0 ps0 n0 zs1 false).length d4_0) := b_387.cell 1
  have x_398 := b_388.lt
  have x_399 : w19.cell? ⟨w6.heap.size, 0, none⟩ = some (.slice A6 n0 c6) := b_388.cell 0
  have x_400 : w19.cell? ⟨w6.heap.size, 1, none⟩ = some (.slice B6 m0 d6) := b_388.cell 1
  have x_401 := b_389.lt
  have x_402 : w19.cell? ⟨w9.heap.size, 0, none⟩ = some (.slice A9_0 (opF ns0 ps0 n0 zs1).length c9_0) := b_389.cell 0
  have x_403 : w19.cell? ⟨w9.heap.size, 1, none⟩ = some (.slice B9_0 (opL ns0 ps0 n0 zs1 false).length d9_0) := b_389.cell 1
  clear hb19
  go_wp2_with fail
  refine (toNetw_any _ _ _ _ _ _ _ _ _ (nV0.below hB_390) hn0 hm0).mono ?_
  rintro e w20 ⟨A20, c20, B20, d20, rfl, oN20, hb20⟩
  have w0_404 := w0_379.below hb20
  clear w0_379
  have w0_405 := w0_380.below hb20
  clear w0_380
  have x0_406 := x0_381.below hb20
  clear x0_381
  have x0_407 := x0_382.below hb20
  clear x0_382
  have x1_408 := x1_383.below hb20
  clear x1_383
  have g0_409 := g0_384.below hb20
  clear g0_384
  have g0_410 := g0_385.below hb20
  clear g0_385
  have b_411 := b_386.belowA hb20
  have b_412 := b_387.belowA hb20
  have b_413 := b_388.belowA hb20
  have b_414 := b_389.belowA hb20
  have hB_415 := bthen hB_390 hb20 hB_390.size
  clear hB_390
  have sz_416 : w19.heap.size ≤ w20.heap.size := hb20.size
  clear b_386
  clear b_387
  clear b_388
  clear b_389
  clear x_392 x_393 x_394 x_395 x_396 x_397 x_398 x_399 x_400 x_401 x_402 x_403
  have x_417 := b_411.lt
  have x_418 : w20.cell? ⟨w.heap.size, 0, none⟩ = some (.slice A0 n0 c0) := b_411.cell 0
  have x_419 : w20.cell? ⟨w.heap.size, 1, none⟩ = some (.slice B0 m0 d0) := b_411.cell 1
  have x_420 := b_412.lt
  have x_421 : w20.cell? ⟨w4.heap.size, 0, none⟩ = some (.slice A4_0 (opF ns0 ps0 n0 zs1).length c4_0) := b_412.cell 0
  have x_422 : w20.cell? ⟨w4.heap.size, 1, none⟩ = some (.slice B4_0 (opL ns0 ps0 n0 zs1 false).length d4_0) := b_412.cell 1
  have x_423 := b_413.lt
  have x_424 : w20.cell? ⟨w6.heap.size, 0, none⟩ = some (.slice A6 n0 c6) := b_413.cell 0
  have x_425 : w20.cell? ⟨w6.heap.size, 1, none⟩ = some (.slice B6 m0 d6) := b_413.cell 1
  have x_426 := b_414.lt
  have x_427 : w20.cell? ⟨w9.heap.size, 0, none⟩ = some (.slice A9_0 (opF ns0 ps0 n0 zs1).length c9_0) := b_414.cell 0
  have x_428 : w20.cell? ⟨w9.heap.size, 1, none⟩ = some (.slice B9_0 (opL ns0 ps0 n0 zs1 false).length d9_0) := b_414.cell 1
  clear hb20
  have rw_429 := oN20.nodes.1.rw_
  have rw_430 := oN20.pipes.1.rw_
  have ap_431 := ap_of oN20.pipes.1.1 oN20.nodes.1.1 (by decide)
  go_wp2_with fail
  refine (toInts_any _ _ _ _ _ (iV1.below hB_415) hl1).mono ?_
  rintro e w21 ⟨Z21, f21, rfl, oI21, hb21⟩
  have w0_432 := w0_404.below hb21
  clear w0_404
  have w0_433 := w0_405.below hb21
  clear w0_405
  have x0_434 := x0_406.below hb21
  clear x0_406
  have x0_435 := x0_407.below hb21
  clear x0_407
  have x1_436 := x1_408.below hb21
  clear x1_408
  have g0_437 := g0_409.below hb21
  clear g0_409
  have g0_438 := g0_410.below hb21
  clear g0_410
  have y0_439 := oN20.below hb21
  clear oN20
  have b_440 := b_411.belowA hb21
  have b_441 := b_412.belowA hb21
  have b_442 := b_413.belowA hb21
  have b_443 := b_414.belowA hb21
  have hB_444 := bthen hB_415 hb21 hB_415.size
  clear hB_415
  have sz_445 : w20.heap.size ≤ w21.heap.size := hb21.size
  clear b_411
  clear b_412
  clear b_413
  clear b_414
  clear x_417 x_418 x_419 x_420 x_421 x_422 x_423 x_424 x_425 x_426 x_427 x_428
  have x_446 := b_440.lt
  have x_447 : w21.cell? ⟨w.heap.size, 0, none⟩ = some (.slice A0 n0 c0) := b_440.cell 0
  have x_448 : w21.cell? ⟨w.heap.size, 1, none⟩ = some (.slice B0 m0 d0) := b_440.cell 1
  have x_449 := b_441.lt
  have x_450 : w21.cell? ⟨w4.heap.size, 0, none⟩ = some (.slice A4_0 (opF ns0 ps0 n0 zs1).length c4_0) := b_441.cell 0
  have x_451 : w21.cell? ⟨w4.heap.size, 1, none⟩ = some (.slice B4_0 (opL ns0 ps0 n0 zs1 false).length d4_0) := b_441.cell 1
  have x_452 := b_442.lt
  have x_453 : w21.cell? ⟨w6.heap.size, 0, none⟩ = some (.slice A6 n0 c6) := b_442.cell 0
  have x_454 : w21.cell? ⟨w6.heap.size, 1, none⟩ = some (.slice B6 m0 d6) := b_442.cell 1
  have x_455 := b_443.lt
  have x_456 : w21.cell? ⟨w9.heap.size, 0, none⟩ = some (.slice A9_0 (opF ns0 ps0 n0 zs1).length c9_0) := b_443.cell 0
  have x_457 : w21.cell? ⟨w9.heap.size, 1, none⟩ = some (.slice B9_0 (opL ns0 ps0 n0 zs1 false).length d9_0) := b_443.cell 1
  clear hb21
  have rw_458 := oI21.rw_
  go_wp2_with fail
  refine (loPoint_any _ _ _ _ _ _ _ _ _ zs1 ns0 ps0 _ y0_439.reads oI21.ints hl1).mono ?_
  rintro e w22 ⟨A22_0, c22_0, B22_0, d22_0, rfl, oR22_0, oS22_0, aP22_0, hb22⟩
  have w0_459 := w0_432.below hb22
  clear w0_432
  have w0_460 := w0_433.below hb22
  clear w0_433
  have x0_461 := x0_434.below hb22
  clear x0_434
  have x0_462 := x0_435.below hb22
  clear x0_435
  have x1_463 := x1_436.below hb22
  clear x1_436
  have g0_464 := g0_437.below hb22
  clear g0_437
  have g0_465 := g0_438.below hb22
  clear g0_438
  have y0_466 := y0_439.below hb22
  clear y0_439
  have y1_467 := oI21.below hb22
  clear oI21
  have b_468 := b_440.belowA hb22
  have b_469 := b_441.belowA hb22
  have b_470 := b_442.belowA hb22
  have b_471 := b_443.belowA hb22
  have hB_472 := bthen hB_444 hb22 hB_444.size
  clear hB_444
  have sz_473 : w21.heap.size ≤ w22.heap.size := hb22.size
  clear b_440
  clear b_441
  clear b_442
  clear b_443
  clear x_446 x_447 x_448 x_449 x_450 x_451 x_452 x_453 x_454 x_455 x_456 x_457
  have x_474 := b_468.lt
  have x_475 : w22.cell? ⟨w.heap.size, 0, none⟩ = some (.slice A0 n0 c0) := b_468.cell 0
  have x_476 : w22.cell? ⟨w.heap.size, 1, none⟩ = some (.slice B0 m0 d0) := b_468.cell 1
  have x_477 := b_469.lt
  have x_478 : w22.cell? ⟨w4.heap.size, 0, none⟩ = some (.slice A4_0 (opF ns0 ps0 n0 zs1).length c4_0) := b_469.cell 0
  have x_479 : w22.cell? ⟨w4.heap.size, 1, none⟩ = some (.slice B4_0 (opL ns0 ps0 n0 zs1 false).length d4_0) := b_469.cell 1
  have x_480 := b_470.lt
  have x_481 : w22.cell? ⟨w6.heap.size, 0, none⟩ = some (.slice A6 n0 c6) := b_470.cell 0
  have x_482 : w22.cell? ⟨w6.heap.size, 1, none⟩ = some (.slice B6 m0 d6) := b_470.cell 1
  have x_483 := b_471.lt
  have x_484 : w22.cell? ⟨w9.heap.size, 0, none⟩ = some (.slice A9_0 (opF ns0 ps0 n0 zs1).length c9_0) := b_471.cell 0
  have x_485 : w22.cell? ⟨w9.heap.size, 1, none⟩ = some (.slice B9_0 (opL ns0 ps0 n0 zs1 false).length d9_0) := b_471.cell 1
  clear hb22
  have rw_486 := oR22_0.rw_
  have rw_487 := oS22_0.rw_
  have hb23 : Below w22.heap.size w22 (w22.alloc (.cells #[.slice A22_0 (opF ns0 ps0 n0 zs1).length c22_0, .slice B22_0 (opL ns0 ps0 n0 zs1 false).length d22_0] 51)) := (Below.refl _ _).alloc (Nat.le_refl _) _
  have b_488 := box_new w22 #[.slice A22_0 (opF ns0 ps0 n0 zs1).length c22_0, .slice B22_0 (opL ns0 ps0 n0 zs1 false).length d22_0] 51
  have sz_489 : w22.heap.size + 1 ≤ (w22.alloc (.cells #[.slice A22_0 (opF ns0 ps0 n0 zs1).length c22_0, .slice B22_0 (opL ns0 ps0 n0 zs1 false).length d22_0] 51)).heap.size := by simp
  have w0_490 := w0_459.below hb23
  clear w0_459
  have w0_491 := w0_460.below hb23
  clear w0_460
  have x0_492 := x0_461.below hb23
  clear x0_461
  have x0_493 := x0_462.below hb23
  clear x0_462
  have x1_494 := x1_463.below hb23
  clear x1_463
  have g0_495 := g0_464.below hb23
  clear g0_464
  have g0_496 := g0_465.below hb23
  clear g0_465
  have y0_497 := y0_466.below hb23
  clear y0_466
  have y1_498 := y1_467.below hb23
  clear y1_467
  have h0_499 := oR22_0.below hb23
  clear oR22_0
  have h0_500 := oS22_0.below hb23
  clear oS22_0
  have b_501 := b_468.belowA hb23
  have b_502 := b_469.belowA hb23
  have b_503 := b_470.belowA hb23
  have b_504 := b_471.belowA hb23
  have hB_505 := bthen hB_472 hb23 hB_472.size
  clear hB_472
  have sz_506 : w22.heap.size ≤ (w22.alloc (.cells #[.slice A22_0 (opF ns0 ps0 n0 zs1).length c22_0, .slice B22_0 (opL ns0 ps0 n0 zs1 false).length d22_0] 51)).heap.size := hb23.size
  clear hb23
  go_wp2_with fail
  generalize (w22.alloc (.cells #[.slice A22_0 (opF ns0 ps0 n0 zs1).length c22_0, .slice B22_0 (opL ns0 ps0 n0 zs1 false).length d22_0] 51)) = w23 at *
  clear b_468
  clear b_469
  clear b_470
  clear b_471
  clear x_474 x_475 x_476 x_477 x_478 x_479 x_480 x_481 x_482 x_483 x_484 x_485
  have x_507 := b_501.lt
  have x_508 : w23.cell? ⟨w.heap.size, 0, none⟩ = some (.slice A0 n0 c0) := b_501.cell 0
  have x_509 : w23.cell? ⟨w.heap.size, 1, none⟩ = some (.slice B0 m0 d0) := b_501.cell 1
  have x_510 := b_502.lt
  have x_511 : w23.cell? ⟨w4.heap.size, 0, none⟩ = some (.slice A4_0 (opF ns0 ps0 n0 zs1).length c4_0) := b_502.cell 0
  have x_512 : w23.cell? ⟨w4.heap.size, 1, none⟩ = some (.slice B4_0 (opL ns0 ps0 n0 zs1 false).length d4_0) := b_502.cell 1
  have x_513 := b_503.lt
  have x_514 : w23.cell? ⟨w6.heap.size, 0, none⟩ = some (.slice A6 n0 c6) := b_503.cell 0
  have x_515 : w23.cell? ⟨w6.heap.size, 1, none⟩ = some (.slice B6 m0 d6) := b_503.cell 1
  have x_516 := b_504.lt
  have x_517 : w23.cell? ⟨w9.heap.size, 0, none⟩ = some (.slice A9_0 (opF ns0 ps0 n0 zs1).length c9_0) := b_504.cell 0
  have x_518 : w23.cell? ⟨w9.heap.size, 1, none⟩ = some (.slice B9_0 (opL ns0 ps0 n0 zs1 false).length d9_0) := b_504.cell 1
  have x_519 := b_488.lt
  have x_520 : w23.cell? ⟨w22.heap.size, 0, none⟩ = some (.slice A22_0 (opF ns0 ps0 n0 zs1).length c22_0) := b_488.cell 0
  have x_521 : w23.cell? ⟨w22.heap.size, 1, none⟩ = some (.slice B22_0 (opL ns0 ps0 n0 zs1 false).length d22_0) := b_488.cell 1
  clear y0_497
  clear y1_498
  refine (eqProofA_any _ _ _ _ _ _ _ _ _ _ _ h0_499.ints h0_500.ints w0_490.ints w0_491.ints hr0 hr1).mono ?_
  rintro e w24 ⟨rfl, hb24⟩
  have w0_522 := w0_490.below hb24
  clear w0_490
  have w0_523 := w0_491.below hb24
  clear w0_491
  have x0_524 := x0_492.below hb24
  clear x0_492
  have x0_525 := x0_493.below hb24
  clear x0_493
  have x1_526 := x1_494.below hb24
  clear x1_494
  have g0_527 := g0_495.below hb24
  clear g0_495
  have g0_528 := g0_496.below hb24
  clear g0_496
  have h0_529 := h0_499.below hb24
  clear h0_499
  have h0_530 := h0_500.below hb24
  clear h0_500
  have b_531 := b_501.belowA hb24
  have b_532 := b_502.belowA hb24
  have b_533 := b_503.belowA hb24
  have b_534 := b_504.belowA hb24
  have b_535 := b_488.belowA hb24
  have hB_536 := bthen hB_505 hb24 hB_505.size
  clear hB_505
  have sz_537 : w23.heap.size ≤ w24.heap.size := hb24.size
  clear b_501
  clear b_502
  clear b_503
  clear b_504
  clear b_488
  clear x_507 x_508 x_509 x_510 x_511 x_512 x_513 x_514 x_515 x_516 x_517 x_518 x_519 x_520 x_521
  have x_538 := b_531.lt
  have x_539 : w24.cell? ⟨w.heap.size, 0, none⟩ = some (.slice A0 n0 c0) := b_531.cell 0
  have x_540 : w24.cell? ⟨w.heap.size, 1, none⟩ = some (.slice B0 m0 d0) := b_531.cell 1
  have x_541 := b_532.lt
  have x_542 : w24.cell? ⟨w4.heap.size, 0, none⟩ = some (.slice A4_0 (opF ns0 ps0 n0 zs1).length c4_0) := b_532.cell 0
  have x_543 : w24.cell? ⟨w4.heap.size, 1, none⟩ = some (.slice B4_0 (opL ns0 ps0 n0 zs1 false).length d4_0) := b_532.cell 1
  have x_544 := b_533.lt
  have x_545 : w24.cell? ⟨w6.heap.size, 0, none⟩ = some (.slice A6 n0 c6) := b_533.cell 0
  have x_546 : w24.cell? ⟨w6.heap.size, 1, none⟩ = some (.slice B6 m0 d6) := b_533.cell 1
  have x_547 := b_534.lt
  have x_548 : w24.cell? ⟨w9.heap.size, 0, none⟩ = some (.slice A9_0 (opF ns0 ps0 n0 zs1).length c9_0) := b_534.cell 0
  have x_549 : w24.cell? ⟨w9.heap.size, 1, none⟩ = some (.slice B9_0 (opL ns0 ps0 n0 zs1 false).length d9_0) := b_534.cell 1
  have x_550 := b_535.lt
  have x_551 : w24.cell? ⟨w22.heap.size, 0, none⟩ = some (.slice A22_0 (opF ns0 ps0 n0 zs1).length c22_0) := b_535.cell 0
  have x_552 : w24.cell? ⟨w22.heap.size, 1, none⟩ = some (.slice B22_0 (opL ns0 ps0 n0 zs1 false).length d22_0) := b_535.cell 1
  clear hb24
  go_wp2_with fail
  refine (heldProof_any _ _ _ _ _ _ _ g0_527.ints g0_528.ints hr0 hr1 (by omega) (by omega)).mono ?_
  rintro e w25 ⟨rfl, hb25⟩
  have w0_553 := w0_522.below hb25
  clear w0_522
  have w0_554 := w0_523.below hb25
  clear w0_523
  have x0_555 := x0_524.below hb25
  clear x0_524
  have x0_556 := x0_525.below hb25
  clear x0_525
  have x1_557 := x1_526.below hb25
  clear x1_526
  have g0_558 := g0_527.below hb25
  clear g0_527
  have g0_559 := g0_528.below hb25
  clear g0_528
  have h0_560 := h0_529.below hb25
  clear h0_529
  have h0_561 := h0_530.below hb25
  clear h0_530
  have b_562 := b_531.belowA hb25
  have b_563 := b_532.belowA hb25
  have b_564 := b_533.belowA hb25
  have b_565 := b_534.belowA hb25
  have b_566 := b_535.belowA hb25
  have hB_567 := bthen hB_536 hb25 hB_536.size
  clear hB_536
  have sz_568 : w24.heap.size ≤ w25.heap.size := hb25.size
  clear b_531
  clear b_532
  clear b_533
  clear b_534
  clear b_535
  clear x_538 x_539 x_540 x_541 x_542 x_543 x_544 x_545 x_546 x_547 x_548 x_549 x_550 x_551 x_552
  have x_569 := b_562.lt
  have x_570 : w25.cell? ⟨w.heap.size, 0, none⟩ = some (.slice A0 n0 c0) := b_562.cell 0
  have x_571 : w25.cell? ⟨w.heap.size, 1, none⟩ = some (.slice B0 m0 d0) := b_562.cell 1
  have x_572 := b_563.lt
  have x_573 : w25.cell? ⟨w4.heap.size, 0, none⟩ = some (.slice A4_0 (opF ns0 ps0 n0 zs1).length c4_0) := b_563.cell 0
  have x_574 : w25.cell? ⟨w4.heap.size, 1, none⟩ = some (.slice B4_0 (opL ns0 ps0 n0 zs1 false).length d4_0) := b_563.cell 1
  have x_575 := b_564.lt
  have x_576 : w25.cell? ⟨w6.heap.size, 0, none⟩ = some (.slice A6 n0 c6) := b_564.cell 0
  have x_577 : w25.cell? ⟨w6.heap.size, 1, none⟩ = some (.slice B6 m0 d6) := b_564.cell 1
  have x_578 := b_565.lt
  have x_579 : w25.cell? ⟨w9.heap.size, 0, none⟩ = some (.slice A9_0 (opF ns0 ps0 n0 zs1).length c9_0) := b_565.cell 0
  have x_580 : w25.cell? ⟨w9.heap.size, 1, none⟩ = some (.slice B9_0 (opL ns0 ps0 n0 zs1 false).length d9_0) := b_565.cell 1
  have x_581 := b_566.lt
  have x_582 : w25.cell? ⟨w22.heap.size, 0, none⟩ = some (.slice A22_0 (opF ns0 ps0 n0 zs1).length c22_0) := b_566.cell 0
  have x_583 : w25.cell? ⟨w22.heap.size, 1, none⟩ = some (.slice B22_0 (opL ns0 ps0 n0 zs1 false).length d22_0) := b_566.cell 1
  clear hb25
  go_wp2_with fail
  go_ret
  exact ⟨rfl, bthen hW hB_567 hW.size⟩
end Go.Proofs.YtpgegfnhokhlmaaGreat
