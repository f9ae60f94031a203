/- The walk of the law on OpenNetwork. No condition. -/
import Derived.Test.YtoijogaogheciaaOpenN
import Derived.Test.YtoijogaogheciaaRw
set_option linter.unusedVariables false
set_option maxRecDepth 100000
namespace Go.Proofs.Ytoijogaogheciaa
open Go.RowKit Go.Joins Go.Deep
attribute [local go_sem ↓] Go.wp_at_zero Go.wp_at_succ

set_option maxHeartbeats 8000000 in
theorem law_FnExactOpenNetwork (A0 : Option Addr) (n0 c0 : Nat) (ns0 : List Nd) (B0 : Option Addr) (m0 d0 : Nat) (ps0 : List Pp) (Z1 : Option Addr) (l1 e1 : Nat) (zs1 : List Int) (w : World) (h0 : IsNet w A0 n0 c0 ns0 B0 m0 d0 ps0) (h1 : Ints w Z1 l1 zs1 ∧ l1 ≤ e1 ∧ e1 ≤ maxLen) :
    Calls Try.prog 11 #[.agg #[.slice A0 n0 c0, .slice B0 m0 d0], .slice Z1 l1 e1] w fun e w' => e = .returned (.bool true) ∧ Below w.heap.size w w' := by
  obtain ⟨hz1, he1, hm_1⟩ := h1
  obtain rfl : zs1.length = l1 := hz1.len
  unfold maxLen at hm_1
  have bA_1 := box_new w #[.slice A0 n0 c0, .slice B0 m0 d0] 39
  have hW : Below w.heap.size w (w.alloc (.cells #[.slice A0 n0 c0, .slice B0 m0 d0] 39)) := by
    repeat (first | exact Below.refl _ _ | refine Below.alloc ?_ (by simp <;> omega) _)
  have nV0 := h0.below hW
  have iV1 := hz1.below hW
  by_cases hbig1 : (1048576 : Int) < zs1.length
  case pos =>
    go_enter Try.func11, Try.ntmps11
    go_wp2_with fail
    go_ret
    exact ⟨rfl, hW⟩
  have hl1 : zs1.length ≤ 1048576 := by omega
  go_enter Try.func11, Try.ntmps11
  go_wp2_with fail
  have hs0 : w.heap.size + 1 ≤ (w.alloc (.cells #[.slice A0 n0 c0, .slice B0 m0 d0] 39)).heap.size := by simp
  generalize (w.alloc (.cells #[.slice A0 n0 c0, .slice B0 m0 d0] 39)) = V at *
  have hB_0 : Below V.heap.size V V := Below.refl _ _
  have x_2 := bA_1.lt
  have x_3 : V.cell? ⟨w.heap.size, 0, none⟩ = some (.slice A0 n0 c0) := bA_1.cell 0
  have x_4 : V.cell? ⟨w.heap.size, 1, none⟩ = some (.slice B0 m0 d0) := bA_1.cell 1
  refine (szNet_any _ _ _ _ _ _ ns0 _ _ (nV0.below hB_0).nodes (Nat.le_trans h0.capA.1 h0.capA.2) (Nat.le_trans h0.capB.1 h0.capB.2) (by omega) (by omega)).mono ?_
  rintro e w1 ⟨left0, rfl, hleft0, hb1⟩
  have b_5 := bA_1.belowA hb1
  have hB_6 := bthen hB_0 hb1 hB_0.size
  clear hB_0
  have sz_7 : V.heap.size ≤ w1.heap.size := hb1.size
  clear bA_1
  clear x_2 x_3 x_4
  have x_8 := b_5.lt
  have x_9 : w1.cell? ⟨w.heap.size, 0, none⟩ = some (.slice A0 n0 c0) := b_5.cell 0
  have x_10 : w1.cell? ⟨w.heap.size, 1, none⟩ = some (.slice B0 m0 d0) := b_5.cell 1
  clear hb1
  rcases hleft0 with rfl | ⟨hl0_0, hl1_0⟩
  · go_wp2_with fail
    go_ret
    exact ⟨rfl, bthen hW hB_6 hW.size⟩
  have hn0 : n0 ≤ 1048576 := by omega
  have hm0 : m0 ≤ 1048576 := by omega
  have hr0 : (opNs ns0 ps0 m0 zs1).length ≤ 1048576 := by
    unfold opNs
    split
    · rw [h0.nodes.len]; exact hn0
    · simp
  have hr1 : (opPs ns0 ps0 m0 zs1).length ≤ 1048576 := by
    unfold opPs
    split
    · have := opP_len ps0 zs1 m0; omega
    · simp
  have hr2 : (opIs ns0 ps0 m0 zs1).length ≤ 1048576 := by
    unfold opIs
    split
    · have := opI_len zs1 m0; omega
    · simp
  go_wp2_with fail
  refine (toNetw_any _ _ _ _ _ _ _ _ _ (nV0.below hB_6) hn0 hm0).mono ?_
  rintro e w2 ⟨A2, c2, B2, d2, rfl, oN2, hb2⟩
  have b_11 := b_5.belowA hb2
  have hB_12 := bthen hB_6 hb2 hB_6.size
  clear hB_6
  have sz_13 : w1.heap.size ≤ w2.heap.size := hb2.size
  clear b_5
  clear x_8 x_9 x_10
  have x_14 := b_11.lt
  have x_15 : w2.cell? ⟨w.heap.size, 0, none⟩ = some (.slice A0 n0 c0) := b_11.cell 0
  have x_16 : w2.cell? ⟨w.heap.size, 1, none⟩ = some (.slice B0 m0 d0) := b_11.cell 1
  clear hb2
  have rw_17 := oN2.nodes.1.rw_
  have rw_18 := oN2.pipes.1.rw_
  have ap_19 := ap_of oN2.pipes.1.1 oN2.nodes.1.1 (by decide)
  go_wp2_with fail
  refine (toInts_any _ _ _ _ _ (iV1.below hB_12) hl1).mono ?_
  rintro e w3 ⟨Z3, f3, rfl, oI3, hb3⟩
  have s0_20 := oN2.below hb3
  clear oN2
  have b_21 := b_11.belowA hb3
  have hB_22 := bthen hB_12 hb3 hB_12.size
  clear hB_12
  have sz_23 : w2.heap.size ≤ w3.heap.size := hb3.size
  clear b_11
  clear x_14 x_15 x_16
  have x_24 := b_21.lt
  have x_25 : w3.cell? ⟨w.heap.size, 0, none⟩ = some (.slice A0 n0 c0) := b_21.cell 0
  have x_26 : w3.cell? ⟨w.heap.size, 1, none⟩ = some (.slice B0 m0 d0) := b_21.cell 1
  clear hb3
  have rw_27 := oI3.rw_
  go_wp2_with fail
  refine (sOpenN_any _ _ _ _ _ _ _ _ ns0 ps0 zs1 _ s0_20.reads oI3.ints hl1).mono ?_
  rintro e w4 ⟨A4_0, c4_0, B4_0, d4_0, A4_1, c4_1, rfl, oR4_0, oR4_1, hb4⟩
  have s0_28 := s0_20.below hb4
  clear s0_20
  have s1_29 := oI3.below hb4
  clear oI3
  have b_30 := b_21.belowA hb4
  have hB_31 := bthen hB_22 hb4 hB_22.size
  clear hB_22
  have sz_32 : w3.heap.size ≤ w4.heap.size := hb4.size
  clear b_21
  clear x_24 x_25 x_26
  have x_33 := b_30.lt
  have x_34 : w4.cell? ⟨w.heap.size, 0, none⟩ = some (.slice A0 n0 c0) := b_30.cell 0
  have x_35 : w4.cell? ⟨w.heap.size, 1, none⟩ = some (.slice B0 m0 d0) := b_30.cell 1
  clear hb4
  have rw_36 := oR4_0.nodes.1.rw_
  have rw_37 := oR4_0.pipes.1.rw_
  have ap_38 := ap_of oR4_0.pipes.1.1 oR4_0.nodes.1.1 (by decide)
  have rw_39 := oR4_1.rw_
  have ap_40 := ap_of oR4_1.1 oR4_0.nodes.1.1 (by decide)
  have ap_41 := ap_of oR4_1.1 oR4_0.pipes.1.1 (by decide)
  have hb5 : Below w4.heap.size w4 (w4.alloc (.cells #[.slice A4_0 (opNs ns0 ps0 m0 zs1).length c4_0, .slice B4_0 (opPs ns0 ps0 m0 zs1).length d4_0] 45)) := (Below.refl _ _).alloc (Nat.le_refl _) _
  have b_42 := box_new w4 #[.slice A4_0 (opNs ns0 ps0 m0 zs1).length c4_0, .slice B4_0 (opPs ns0 ps0 m0 zs1).length d4_0] 45
  have sz_43 : w4.heap.size + 1 ≤ (w4.alloc (.cells #[.slice A4_0 (opNs ns0 ps0 m0 zs1).length c4_0, .slice B4_0 (opPs ns0 ps0 m0 zs1).length d4_0] 45)).heap.size := by simp
  have s0_44 := s0_28.below hb5
  clear s0_28
  have s1_45 := s1_29.below hb5
  clear s1_29
  have w0_46 := oR4_0.below hb5
  clear oR4_0
  have w1_47 := oR4_1.below hb5
  clear oR4_1
  have b_48 := b_30.belowA hb5
  have hB_49 := bthen hB_31 hb5 hB_31.size
  clear hB_31
  have sz_50 : w4.heap.size ≤ (w4.alloc (.cells #[.slice A4_0 (opNs ns0 ps0 m0 zs1).length c4_0, .slice B4_0 (opPs ns0 ps0 m0 zs1).length d4_0] 45)).heap.size := hb5.size
  clear hb5
  go_wp2_with fail
  generalize (w4.alloc (.cells #[.slice A4_0 (opNs ns0 ps0 m0 zs1).length c4_0, .slice B4_0 (opPs ns0 ps0 m0 zs1).length d4_0] 45)) = w5 at *
  clear b_30
  clear x_33 x_34 x_35
  have x_51 := b_48.lt
  have x_52 : w5.cell? ⟨w.heap.size, 0, none⟩ = some (.slice A0 n0 c0) := b_48.cell 0
  have x_53 : w5.cell? ⟨w.heap.size, 1, none⟩ = some (.slice B0 m0 d0) := b_48.cell 1
  have x_54 := b_42.lt
  have x_55 : w5.cell? ⟨w4.heap.size, 0, none⟩ = some (.slice A4_0 (opNs ns0 ps0 m0 zs1).length c4_0) := b_42.cell 0
  have x_56 : w5.cell? ⟨w4.heap.size, 1, none⟩ = some (.slice B4_0 (opPs ns0 ps0 m0 zs1).length d4_0) := b_42.cell 1
  clear s0_44
  clear s1_45
  refine (toNetw_any _ _ _ _ _ _ _ _ _ (nV0.below hB_49) hn0 hm0).mono ?_
  rintro e w6 ⟨A6, c6, B6, d6, rfl, oN6, hb6⟩
  have w0_57 := w0_46.below hb6
  clear w0_46
  have w1_58 := w1_47.below hb6
  clear w1_47
  have b_59 := b_48.belowA hb6
  have b_60 := b_42.belowA hb6
  have hB_61 := bthen hB_49 hb6 hB_49.size
  clear hB_49
  have sz_62 : w5.heap.size ≤ w6.heap.size := hb6.size
  clear b_48
  clear b_42
  clear x_51 x_52 x_53 x_54 x_55 x_56
  have x_63 := b_59.lt
  have x_64 : w6.cell? ⟨w.heap.size, 0, none⟩ = some (.slice A0 n0 c0) := b_59.cell 0
  have x_65 : w6.cell? ⟨w.heap.size, 1, none⟩ = some (.slice B0 m0 d0) := b_59.cell 1
  have x_66 := b_60.lt
  have x_67 : w6.cell? ⟨w4.heap.size, 0, none⟩ = some (.slice A4_0 (opNs ns0 ps0 m0 zs1).length c4_0) := b_60.cell 0
  have x_68 : w6.cell? ⟨w4.heap.size, 1, none⟩ = some (.slice B4_0 (opPs ns0 ps0 m0 zs1).length d4_0) := b_60.cell 1
  clear hb6
  have rw_69 := oN6.nodes.1.rw_
  have rw_70 := oN6.pipes.1.rw_
  have ap_71 := ap_of oN6.pipes.1.1 oN6.nodes.1.1 (by decide)
  have hb7 : Below w6.heap.size w6 (w6.alloc (.cells #[.slice A6 n0 c6, .slice B6 m0 d6] 45)) := (Below.refl _ _).alloc (Nat.le_refl _) _
  have b_72 := box_new w6 #[.slice A6 n0 c6, .slice B6 m0 d6] 45
  have sz_73 : w6.heap.size + 1 ≤ (w6.alloc (.cells #[.slice A6 n0 c6, .slice B6 m0 d6] 45)).heap.size := by simp
  have w0_74 := w0_57.below hb7
  clear w0_57
  have w1_75 := w1_58.below hb7
  clear w1_58
  have x0_76 := oN6.below hb7
  clear oN6
  have b_77 := b_59.belowA hb7
  have b_78 := b_60.belowA hb7
  have hB_79 := bthen hB_61 hb7 hB_61.size
  clear hB_61
  have sz_80 : w6.heap.size ≤ (w6.alloc (.cells #[.slice A6 n0 c6, .slice B6 m0 d6] 45)).heap.size := hb7.size
  clear hb7
  go_wp2_with fail
  generalize (w6.alloc (.cells #[.slice A6 n0 c6, .slice B6 m0 d6] 45)) = w7 at *
  clear b_59
  clear b_60
  clear x_63 x_64 x_65 x_66 x_67 x_68
  have x_81 := b_77.lt
  have x_82 : w7.cell? ⟨w.heap.size, 0, none⟩ = some (.slice A0 n0 c0) := b_77.cell 0
  have x_83 : w7.cell? ⟨w.heap.size, 1, none⟩ = some (.slice B0 m0 d0) := b_77.cell 1
  have x_84 := b_78.lt
  have x_85 : w7.cell? ⟨w4.heap.size, 0, none⟩ = some (.slice A4_0 (opNs ns0 ps0 m0 zs1).length c4_0) := b_78.cell 0
  have x_86 : w7.cell? ⟨w4.heap.size, 1, none⟩ = some (.slice B4_0 (opPs ns0 ps0 m0 zs1).length d4_0) := b_78.cell 1
  have x_87 := b_72.lt
  have x_88 : w7.cell? ⟨w6.heap.size, 0, none⟩ = some (.slice A6 n0 c6) := b_72.cell 0
  have x_89 : w7.cell? ⟨w6.heap.size, 1, none⟩ = some (.slice B6 m0 d6) := b_72.cell 1
  refine (toInts_any _ _ _ _ _ (iV1.below hB_79) hl1).mono ?_
  rintro e w8 ⟨Z8, f8, rfl, oI8, hb8⟩
  have w0_90 := w0_74.below hb8
  clear w0_74
  have w1_91 := w1_75.below hb8
  clear w1_75
  have x0_92 := x0_76.below hb8
  clear x0_76
  have b_93 := b_77.belowA hb8
  have b_94 := b_78.belowA hb8
  have b_95 := b_72.belowA hb8
  have hB_96 := bthen hB_79 hb8 hB_79.size
  clear hB_79
  have sz_97 : w7.heap.size ≤ w8.heap.size := hb8.size
  clear b_77
  clear b_78
  clear b_72
  clear x_81 x_82 x_83 x_84 x_85 x_86 x_87 x_88 x_89
  have x_98 := b_93.lt
  have x_99 : w8.cell? ⟨w.heap.size, 0, none⟩ = some (.slice A0 n0 c0) := b_93.cell 0
  have x_100 : w8.cell? ⟨w.heap.size, 1, none⟩ = some (.slice B0 m0 d0) := b_93.cell 1
  have x_101 := b_94.lt
  have x_102 : w8.cell? ⟨w4.heap.size, 0, none⟩ = some (.slice A4_0 (opNs ns0 ps0 m0 zs1).length c4_0) := b_94.cell 0
  have x_103 : w8.cell? ⟨w4.heap.size, 1, none⟩ = some (.slice B4_0 (opPs ns0 ps0 m0 zs1).length d4_0) := b_94.cell 1
  have x_104 := b_95.lt
  have x_105 : w8.cell? ⟨w6.heap.size, 0, none⟩ = some (.slice A6 n0 c6) := b_95.cell 0
  have x_106 : w8.cell? ⟨w6.heap.size, 1, none⟩ = some (.slice B6 m0 d6) := b_95.cell 1
  clear hb8
  have rw_107 := oI8.rw_
  go_wp2_with fail
  refine (openN_any _ _ _ _ _ _ _ _ ns0 ps0 zs1 _ x0_92.reads oI8.ints hl1).mono ?_
  rintro e w9 ⟨A9_0, c9_0, B9_0, d9_0, A9_1, c9_1, rfl, oR9_0, oR9_1, hb9⟩
  have w0_108 := w0_90.below hb9
  clear w0_90
  have w1_109 := w1_91.below hb9
  clear w1_91
  have x0_110 := x0_92.below hb9
  clear x0_92
  have x1_111 := oI8.below hb9
  clear oI8
  have b_112 := b_93.belowA hb9
  have b_113 := b_94.belowA hb9
  have b_114 := b_95.belowA hb9
  have hB_115 := bthen hB_96 hb9 hB_96.size
  clear hB_96
  have sz_116 : w8.heap.size ≤ w9.heap.size := hb9.size
  clear b_93
  clear b_94
  clear b_95
  clear x_98 x_99 x_100 x_101 x_102 x_103 x_104 x_105 x_106
  have x_117 := b_112.lt
  have x_118 : w9.cell? ⟨w.heap.size, 0, none⟩ = some (.slice A0 n0 c0) := b_112.cell 0
  have x_119 : w9.cell? ⟨w.heap.size, 1, none⟩ = some (.slice B0 m0 d0) := b_112.cell 1
  have x_120 := b_113.lt
  have x_121 : w9.cell? ⟨w4.heap.size, 0, none⟩ = some (.slice A4_0 (opNs ns0 ps0 m0 zs1).length c4_0) := b_113.cell 0
  have x_122 : w9.cell? ⟨w4.heap.size, 1, none⟩ = some (.slice B4_0 (opPs ns0 ps0 m0 zs1).length d4_0) := b_113.cell 1
  have x_123 := b_114.lt
  have x_124 : w9.cell? ⟨w6.heap.size, 0, none⟩ = some (.slice A6 n0 c6) := b_114.cell 0
  have x_125 : w9.cell? ⟨w6.heap.size, 1, none⟩ = some (.slice B6 m0 d6) := b_114.cell 1
  clear hb9
  have rw_126 := oR9_0.nodes.1.rw_
  have rw_127 := oR9_0.pipes.1.rw_
  have ap_128 := ap_of oR9_0.pipes.1.1 oR9_0.nodes.1.1 (by decide)
  have rw_129 := oR9_1.rw_
  have ap_130 := ap_of oR9_1.1 oR9_0.nodes.1.1 (by decide)
  have ap_131 := ap_of oR9_1.1 oR9_0.pipes.1.1 (by decide)
  have hb10 : Below w9.heap.size w9 (w9.alloc (.cells #[.slice A9_0 (opNs ns0 ps0 m0 zs1).length c9_0, .slice B9_0 (opPs ns0 ps0 m0 zs1).length d9_0] 45)) := (Below.refl _ _).alloc (Nat.le_refl _) _
  have b_132 := box_new w9 #[.slice A9_0 (opNs ns0 ps0 m0 zs1).length c9_0, .slice B9_0 (opPs ns0 ps0 m0 zs1).length d9_0] 45
  have sz_133 : w9.heap.size + 1 ≤ (w9.alloc (.cells #[.slice A9_0 (opNs ns0 ps0 m0 zs1).length c9_0, .slice B9_0 (opPs ns0 ps0 m0 zs1).length d9_0] 45)).heap.size := by simp
  have w0_134 := w0_108.below hb10
  clear w0_108
  have w1_135 := w1_109.below hb10
  clear w1_109
  have x0_136 := x0_110.below hb10
  clear x0_110
  have x1_137 := x1_111.below hb10
  clear x1_111
  have g0_138 := oR9_0.below hb10
  clear oR9_0
  have g1_139 := oR9_1.below hb10
  clear oR9_1
  have b_140 := b_112.belowA hb10
  have b_141 := b_113.belowA hb10
  have b_142 := b_114.belowA hb10
  have hB_143 := bthen hB_115 hb10 hB_115.size
  clear hB_115
  have sz_144 : w9.heap.size ≤ (w9.alloc (.cells #[.slice A9_0 (opNs ns0 ps0 m0 zs1).length c9_0, .slice B9_0 (opPs ns0 ps0 m0 zs1).length d9_0] 45)).heap.size := hb10.size
  clear hb10
  go_wp2_with fail
  generalize (w9.alloc (.cells #[.slice A9_0 (opNs ns0 ps0 m0 zs1).length c9_0, .slice B9_0 (opPs ns0 ps0 m0 zs1).length d9_0] 45)) = w10 at *
  clear b_112
  clear b_113
  clear b_114
  clear x_117 x_118 x_119 x_120 x_121 x_122 x_123 x_124 x_125
  have x_145 := b_140.lt
  have x_146 : w10.cell? ⟨w.heap.size, 0, none⟩ = some (.slice A0 n0 c0) := b_140.cell 0
  have x_147 : w10.cell? ⟨w.heap.size, 1, none⟩ = some (.slice B0 m0 d0) := b_140.cell 1
  have x_148 := b_141.lt
  have x_149 : w10.cell? ⟨w4.heap.size, 0, none⟩ = some (.slice A4_0 (opNs ns0 ps0 m0 zs1).length c4_0) := b_141.cell 0
  have x_150 : w10.cell? ⟨w4.heap.size, 1, none⟩ = some (.slice B4_0 (opPs ns0 ps0 m0 zs1).length d4_0) := b_141.cell 1
  have x_151 := b_142.lt
  have x_152 : w10.cell? ⟨w6.heap.size, 0, none⟩ = some (.slice A6 n0 c6) := b_142.cell 0
  have x_153 : w10.cell? ⟨w6.heap.size, 1, none⟩ = some (.slice B6 m0 d6) := b_142.cell 1
  have x_154 := b_132.lt
  have x_155 : w10.cell? ⟨w9.heap.size, 0, none⟩ = some (.slice A9_0 (opNs ns0 ps0 m0 zs1).length c9_0) := b_132.cell 0
  have x_156 : w10.cell? ⟨w9.heap.size, 1, none⟩ = some (.slice B9_0 (opPs ns0 ps0 m0 zs1).length d9_0) := b_132.cell 1
  refine (eqNet_any _ _ _ _ _ _ _ _ _ _ _ _ _ _ _ _ _ g0_138.reads.nodes g0_138.reads.pipes w0_134.reads.nodes w0_134.reads.pipes hr0 hr1).mono ?_
  rintro e w11 ⟨be, hbe, rfl, hb11⟩
  obtain rfl : be = true := hbe.2 ⟨rfl, rfl⟩
  clear hbe
  have w0_157 := w0_134.below hb11
  clear w0_134
  have w1_158 := w1_135.below hb11
  clear w1_135
  have x0_159 := x0_136.below hb11
  clear x0_136
  have x1_160 := x1_137.below hb11
  clear x1_137
  have g0_161 := g0_138.below hb11
  clear g0_138
  have g1_162 := g1_139.below hb11
  clear g1_139
  have b_163 := b_140.belowA hb11
  have b_164 := b_141.belowA hb11
  have b_165 := b_142.belowA hb11
  have b_166 := b_132.belowA hb11
  have hB_167 := bthen hB_143 hb11 hB_143.size
  clear hB_143
  have sz_168 : w10.heap.size ≤ w11.heap.size := hb11.size
  clear b_140
  clear b_141
  clear b_142
  clear b_132
  clear x_145 x_146 x_147 x_148 x_149 x_150 x_151 x_152 x_153 x_154 x_155 x_156
  have x_169 := b_163.lt
  have x_170 : w11.cell? ⟨w.heap.size, 0, none⟩ = some (.slice A0 n0 c0) := b_163.cell 0
  have x_171 : w11.cell? ⟨w.heap.size, 1, none⟩ = some (.slice B0 m0 d0) := b_163.cell 1
  have x_172 := b_164.lt
  have x_173 : w11.cell? ⟨w4.heap.size, 0, none⟩ = some (.slice A4_0 (opNs ns0 ps0 m0 zs1).length c4_0) := b_164.cell 0
  have x_174 : w11.cell? ⟨w4.heap.size, 1, none⟩ = some (.slice B4_0 (opPs ns0 ps0 m0 zs1).length d4_0) := b_164.cell 1
  have x_175 := b_165.lt
  have x_176 : w11.cell? ⟨w6.heap.size, 0, none⟩ = some (.slice A6 n0 c6) := b_165.cell 0
  have x_177 : w11.cell? ⟨w6.heap.size, 1, none⟩ = some (.slice B6 m0 d6) := b_165.cell 1
  have x_178 := b_166.lt
  have x_179 : w11.cell? ⟨w9.heap.size, 0, none⟩ = some (.slice A9_0 (opNs ns0 ps0 m0 zs1).length c9_0) := b_166.cell 0
  have x_180 : w11.cell? ⟨w9.heap.size, 1, none⟩ = some (.slice B9_0 (opPs ns0 ps0 m0 zs1).length d9_0) := b_166.cell 1
  clear hb11
  go_wp2_with fail
  refine (eqInts_any _ _ _ _ _ _ _ _ _ g1_162.ints w1_158.ints hr2).mono ?_
  rintro e w12 ⟨rfl, hq12⟩
  have hb12 := hq12.below w11.heap.size
  have w0_181 := w0_157.below hb12
  clear w0_157
  have w1_182 := w1_158.below hb12
  clear w1_158
  have x0_183 := x0_159.below hb12
  clear x0_159
  have x1_184 := x1_160.below hb12
  clear x1_160
  have g0_185 := g0_161.below hb12
  clear g0_161
  have g1_186 := g1_162.below hb12
  clear g1_162
  have b_187 := b_163.belowA hb12
  have b_188 := b_164.belowA hb12
  have b_189 := b_165.belowA hb12
  have b_190 := b_166.belowA hb12
  have hB_191 := bthen hB_167 hb12 hB_167.size
  clear hB_167
  have sz_192 : w11.heap.size ≤ w12.heap.size := hb12.size
  clear b_163
  clear b_164
  clear b_165
  clear b_166
  clear x_169 x_170 x_171 x_172 x_173 x_174 x_175 x_176 x_177 x_178 x_179 x_180
  have x_193 := b_187.lt
  have x_194 : w12.cell? ⟨w.heap.size, 0, none⟩ = some (.slice A0 n0 c0) := b_187.cell 0
  have x_195 : w12.cell? ⟨w.heap.size, 1, none⟩ = some (.slice B0 m0 d0) := b_187.cell 1
  have x_196 := b_188.lt
  have x_197 : w12.cell? ⟨w4.heap.size, 0, none⟩ = some (.slice A4_0 (opNs ns0 ps0 m0 zs1).length c4_0) := b_188.cell 0
  have x_198 : w12.cell? ⟨w4.heap.size, 1, none⟩ = some (.slice B4_0 (opPs ns0 ps0 m0 zs1).length d4_0) := b_188.cell 1
  have x_199 := b_189.lt
  have x_200 : w12.cell? ⟨w6.heap.size, 0, none⟩ = some (.slice A6 n0 c6) := b_189.cell 0
  have x_201 : w12.cell? ⟨w6.heap.size, 1, none⟩ = some (.slice B6 m0 d6) := b_189.cell 1
  have x_202 := b_190.lt
  have x_203 : w12.cell? ⟨w9.heap.size, 0, none⟩ = some (.slice A9_0 (opNs ns0 ps0 m0 zs1).length c9_0) := b_190.cell 0
  have x_204 : w12.cell? ⟨w9.heap.size, 1, none⟩ = some (.slice B9_0 (opPs ns0 ps0 m0 zs1).length d9_0) := b_190.cell 1
  clear hb12 hq12
  have kp_205 : Kept _ := ⟨w0_181⟩
  clear w0_181
  have kp_206 : Kept _ := ⟨w1_182⟩
  clear w1_182
  have kp_207 : Kept _ := ⟨x0_183⟩
  clear x0_183
  have kp_208 : Kept _ := ⟨x1_184⟩
  clear x1_184
  have kp_209 : Kept _ := ⟨g0_185⟩
  clear g0_185
  have kp_210 : Kept _ := ⟨g1_186⟩
  clear g1_186
  have kv_211 : Kept _ := ⟨nV0⟩
  clear nV0
  have kv_212 : Kept _ := ⟨iV1⟩
  clear iV1
  have kw_213 : Kept _ := ⟨hW⟩
  clear hW
  have kU : Kept (Below w12.heap.size w12 w12.drew) := ⟨(Below.refl _ _).drew⟩
  go_wp2_with fail
  go_region_held3 (fun w' => w.heap.size < w'.heap.size ∧ w6.heap.size < w'.heap.size ∧ w'.cell? ⟨w.heap.size, 0, none⟩ = some (.slice A0 n0 c0) ∧ w'.cell? ⟨w.heap.size, 1, none⟩ = some (.slice B0 m0 d0) ∧ w'.cell? ⟨w6.heap.size, 0, none⟩ = some (.slice A6 n0 c6) ∧ w'.cell? ⟨w6.heap.size, 1, none⟩ = some (.slice B6 m0 d6) ∧ Kept (Below w12.heap.size w12 w'))
    (first | (go_split_ands; refine ⟨by have := hbr.size; omega, by have := hbr.size; omega, ?_, ?_, ?_, ?_, ⟨bthen (Kept.out ‹Kept (Below _ _ _)›) hbr (Kept.out ‹Kept (Below _ _ _)›).size⟩⟩ <;> (rw [hbr.cell (by simp; omega)]; assumption)) | go_keep)
    (first | (go_at_call 28; go_split_ands; refine (toNetw_any _ _ _ _ _ _ _ _ _ ((kv_211.out.below hB_191).below (Kept.out ‹Kept (Below w12.heap.size _ _)›)) hn0 hm0).mono ?_; rintro e wr ⟨Ar, cr, Br, dr, rfl, oR, hbr⟩) | (go_at_call 30; go_split_ands; refine (eqNet_any _ _ _ _ _ _ _ _ _ _ _ _ ns0 ns0 ps0 ps0 _ (kp_207.out.reads.below (Kept.out ‹Kept (Below w12.heap.size _ _)›)).nodes (kp_207.out.reads.below (Kept.out ‹Kept (Below w12.heap.size _ _)›)).pipes oR.reads.nodes oR.reads.pipes hn0 hm0).mono ?_; rintro e wq13 ⟨be, hbe, rfl, hbr⟩; obtain rfl : be = true := hbe.2 ⟨rfl, rfl⟩; clear hbe))
  rename_i hh
  obtain ⟨_, _, _, _, _, _, ⟨hb13⟩⟩ := hh
  have w0_214 := kp_205.out
  clear kp_205
  have w1_215 := kp_206.out
  clear kp_206
  have x0_216 := kp_207.out
  clear kp_207
  have x1_217 := kp_208.out
  clear kp_208
  have g0_218 := kp_209.out
  clear kp_209
  have g1_219 := kp_210.out
  clear kp_210
  have nV0 := kv_211.out
  clear kv_211
  have iV1 := kv_212.out
  clear kv_212
  have hW := kw_213.out
  clear kw_213
  clear kU
  have w0_220 := w0_214.below hb13
  clear w0_214
  have w1_221 := w1_215.below hb13
  clear w1_215
  have x0_222 := x0_216.below hb13
  clear x0_216
  have x1_223 := x1_217.below hb13
  clear x1_217
  have g0_224 := g0_218.below hb13
  clear g0_218
  have g1_225 := g1_219.below hb13
  clear g1_219
  have b_226 := b_187.belowA hb13
  have b_227 := b_188.belowA hb13
  have b_228 := b_189.belowA hb13
  have b_229 := b_190.belowA hb13
  have hB_230 := bthen hB_191 hb13 hB_191.size
  clear hB_191
  have sz_231 : w12.heap.size ≤ wq13.heap.size := hb13.size
  clear b_187
  clear b_188
  clear b_189
  clear b_190
  clear x_193 x_194 x_195 x_196 x_197 x_198 x_199 x_200 x_201 x_202 x_203 x_204
  have x_232 := b_226.lt
  have x_233 : wq13.cell? ⟨w.heap.size, 0, none⟩ = some (.slice A0 n0 c0) := b_226.cell 0
  have x_234 : wq13.cell? ⟨w.heap.size, 1, none⟩ = some (.slice B0 m0 d0) := b_226.cell 1
  have x_235 := b_227.lt
  have x_236 : wq13.cell? ⟨w4.heap.size, 0, none⟩ = some (.slice A4_0 (opNs ns0 ps0 m0 zs1).length c4_0) := b_227.cell 0
  have x_237 : wq13.cell? ⟨w4.heap.size, 1, none⟩ = some (.slice B4_0 (opPs ns0 ps0 m0 zs1).length d4_0) := b_227.cell 1
  have x_238 := b_228.lt
  have x_239 : wq13.cell? ⟨w6.heap.size, 0, none⟩ = some (.slice A6 n0 c6) := b_228.cell 0
  have x_240 : wq13.cell? ⟨w6.heap.size, 1, none⟩ = some (.slice B6 m0 d6) := b_228.cell 1
  have x_241 := b_229.lt
  have x_242 : wq13.cell? ⟨w9.heap.size, 0, none⟩ = some (.slice A9_0 (opNs ns0 ps0 m0 zs1).length c9_0) := b_229.cell 0
  have x_243 : wq13.cell? ⟨w9.heap.size, 1, none⟩ = some (.slice B9_0 (opPs ns0 ps0 m0 zs1).length d9_0) := b_229.cell 1
  clear hb13
  go_wp2_with fail
  refine (toInts_any _ _ _ _ _ (iV1.below hB_230) hl1).mono ?_
  rintro e w14 ⟨Z14, f14, rfl, oI14, hb14⟩
  have w0_244 := w0_220.below hb14
  clear w0_220
  have w1_245 := w1_221.below hb14
  clear w1_221
  have x0_246 := x0_222.below hb14
  clear x0_222
  have x1_247 := x1_223.below hb14
  clear x1_223
  have g0_248 := g0_224.below hb14
  clear g0_224
  have g1_249 := g1_225.below hb14
  clear g1_225
  have b_250 := b_226.belowA hb14
  have b_251 := b_227.belowA hb14
  have b_252 := b_228.belowA hb14
  have b_253 := b_229.belowA hb14
  have hB_254 := bthen hB_230 hb14 hB_230.size
  clear hB_230
  have sz_255 : wq13.heap.size ≤ w14.heap.size := hb14.size
  clear b_226
  clear b_227
  clear b_228
  clear b_229
  clear x_232 x_233 x_234 x_235 x_236 x_237 x_238 x_239 x_240 x_241 x_242 x_243
  have x_256 := b_250.lt
  have x_257 : w14.cell? ⟨w.heap.size, 0, none⟩ = some (.slice A0 n0 c0) := b_250.cell 0
  have x_258 : w14.cell? ⟨w.heap.size, 1, none⟩ = some (.slice B0 m0 d0) := b_250.cell 1
  have x_259 := b_251.lt
  have x_260 : w14.cell? ⟨w4.heap.size, 0, none⟩ = some (.slice A4_0 (opNs ns0 ps0 m0 zs1).length c4_0) := b_251.cell 0
  have x_261 : w14.cell? ⟨w4.heap.size, 1, none⟩ = some (.slice B4_0 (opPs ns0 ps0 m0 zs1).length d4_0) := b_251.cell 1
  have x_262 := b_252.lt
  have x_263 : w14.cell? ⟨w6.heap.size, 0, none⟩ = some (.slice A6 n0 c6) := b_252.cell 0
  have x_264 : w14.cell? ⟨w6.heap.size, 1, none⟩ = some (.slice B6 m0 d6) := b_252.cell 1
  have x_265 := b_253.lt
  have x_266 : w14.cell? ⟨w9.heap.size, 0, none⟩ = some (.slice A9_0 (opNs ns0 ps0 m0 zs1).length c9_0) := b_253.cell 0
  have x_267 : w14.cell? ⟨w9.heap.size, 1, none⟩ = some (.slice B9_0 (opPs ns0 ps0 m0 zs1).length d9_0) := b_253.cell 1
  clear hb14
  have rw_268 := oI14.rw_
  go_wp2_with fail
  refine (eqInts_any _ _ _ _ _ _ _ _ _ x1_247.ints oI14.ints hl1).mono ?_
  rintro e w15 ⟨rfl, hq15⟩
  have hb15 := hq15.below w14.heap.size
  have w0_269 := w0_244.below hb15
  clear w0_244
  have w1_270 := w1_245.below hb15
  clear w1_245
  have x0_271 := x0_246.below hb15
  clear x0_246
  have x1_272 := x1_247.below hb15
  clear x1_247
  have g0_273 := g0_248.below hb15
  clear g0_248
  have g1_274 := g1_249.below hb15
  clear g1_249
  have z1_275 := oI14.below hb15
  clear oI14
  have b_276 := b_250.belowA hb15
  have b_277 := b_251.belowA hb15
  have b_278 := b_252.belowA hb15
  have b_279 := b_253.belowA hb15
  have hB_280 := bthen hB_254 hb15 hB_254.size
  clear hB_254
  have sz_281 : w14.heap.size ≤ w15.heap.size := hb15.size
  clear b_250
  clear b_251
  clear b_252
  clear b_253
  clear x_256 x_257 x_258 x_259 x_260 x_261 x_262 x_263 x_264 x_265 x_266 x_267
  have x_282 := b_276.lt
  have x_283 : w15.cell? ⟨w.heap.size, 0, none⟩ = some (.slice A0 n0 c0) := b_276.cell 0
  have x_284 : w15.cell? ⟨w.heap.size, 1, none⟩ = some (.slice B0 m0 d0) := b_276.cell 1
  have x_285 := b_277.lt
  have x_286 : w15.cell? ⟨w4.heap.size, 0, none⟩ = some (.slice A4_0 (opNs ns0 ps0 m0 zs1).length c4_0) := b_277.cell 0
  have x_287 : w15.cell? ⟨w4.heap.size, 1, none⟩ = some (.slice B4_0 (opPs ns0 ps0 m0 zs1).length d4_0) := b_277.cell 1
  have x_288 := b_278.lt
  have x_289 : w15.cell? ⟨w6.heap.size, 0, none⟩ = some (.slice A6 n0 c6) := b_278.cell 0
  have x_290 : w15.cell? ⟨w6.heap.size, 1, none⟩ = some (.slice B6 m0 d6) := b_278.cell 1
  have x_291 := b_279.lt
  have x_292 : w15.cell? ⟨w9.heap.size, 0, none⟩ = some (.slice A9_0 (opNs ns0 ps0 m0 zs1).length c9_0) := b_279.cell 0
  have x_293 : w15.cell? ⟨w9.heap.size, 1, none⟩ = some (.slice B9_0 (opPs ns0 ps0 m0 zs1).length d9_0) := b_279.cell 1
  clear hb15 hq15
  clear z1_275
  go_wp2_with fail
  refine (markNet1_any _ _ _ _ _ _ _ _ _ _ _ x0_271.nodes.1 x0_271.pipes.1 hn0 hm0).mono ?_
  rintro e w16 ⟨rfl, mN16, mP16, u16, hg16, hh16⟩
  clear x0_271
  have w0_294 := w0_269.grown hg16 (rw_apart rw_36 rw_69 (by omega)) (rw_apart rw_37 rw_69 (by omega))
  clear w0_269
  have w1_295 := w1_270.grown hg16 (rw_apart rw_39 rw_69 (by omega))
  clear w1_270
  have x1_296 := x1_272.grown hg16 (rw_apart rw_107 rw_69 (by omega))
  clear x1_272
  have g0_297 := g0_273.grown hg16 (rw_apart rw_126 rw_69 (by omega)) (rw_apart rw_127 rw_69 (by omega))
  clear g0_273
  have g1_298 := g1_274.grown hg16 (rw_apart rw_129 rw_69 (by omega))
  clear g1_274
  have b_299 := b_276.grown hg16 (rw_box rw_69 (by omega))
  have b_300 := b_277.grown hg16 (rw_box rw_69 (by omega))
  have b_301 := b_278.grown hg16 (rw_box rw_69 (by omega))
  have b_302 := b_279.grown hg16 (rw_box rw_69 (by omega))
  have hB_303 := hB_280.grown hg16 hB_280.size (rw_ge rw_69 (by omega))
  clear hB_280
  have sz_304 : w15.heap.size ≤ u16.heap.size := hg16.size
  clear b_276
  clear b_277
  clear b_278
  clear b_279
  have w0_305 := w0_294.grown hh16 (rw_apart rw_36 rw_70 (by omega)) (rw_apart rw_37 rw_70 (by omega))
  clear w0_294
  have w1_306 := w1_295.grown hh16 (rw_apart rw_39 rw_70 (by omega))
  clear w1_295
  have x1_307 := x1_296.grown hh16 (rw_apart rw_107 rw_70 (by omega))
  clear x1_296
  have g0_308 := g0_297.grown hh16 (rw_apart rw_126 rw_70 (by omega)) (rw_apart rw_127 rw_70 (by omega))
  clear g0_297
  have g1_309 := g1_298.grown hh16 (rw_apart rw_129 rw_70 (by omega))
  clear g1_298
  have b_310 := b_299.grown hh16 (rw_box rw_70 (by omega))
  have b_311 := b_300.grown hh16 (rw_box rw_70 (by omega))
  have b_312 := b_301.grown hh16 (rw_box rw_70 (by omega))
  have b_313 := b_302.grown hh16 (rw_box rw_70 (by omega))
  have hB_314 := hB_303.grown hh16 hB_303.size (rw_ge rw_70 (by omega))
  clear hB_303
  have sz_315 : u16.heap.size ≤ w16.heap.size := hh16.size
  clear b_299
  clear b_300
  clear b_301
  clear b_302
  clear x_282 x_283 x_284 x_285 x_286 x_287 x_288 x_289 x_290 x_291 x_292 x_293
  have x_316 := b_310.lt
  have x_317 : w16.cell? ⟨w.heap.size, 0, none⟩ = some (.slice A0 n0 c0) := b_310.cell 0
  have x_318 : w16.cell? ⟨w.heap.size, 1, none⟩ = some (.slice B0 m0 d0) := b_310.cell 1
  have x_319 := b_311.lt
  have x_320 : w16.cell? ⟨w4.heap.size, 0, none⟩ = some (.slice A4_0 (opNs ns0 ps0 m0 zs1).length c4_0) := b_311.cell 0
  have x_321 : w16.cell? ⟨w4.heap.size, 1, none⟩ = some (.slice B4_0 (opPs ns0 ps0 m0 zs1).length d4_0) := b_311.cell 1
  have x_322 := b_312.lt
  have x_323 : w16.cell? ⟨w6.heap.size, 0, none⟩ = some (.slice A6 n0 c6) := b_312.cell 0
  have x_324 : w16.cell? ⟨w6.heap.size, 1, none⟩ = some (.slice B6 m0 d6) := b_312.cell 1
  have x_325 := b_313.lt
  have x_326 : w16.cell? ⟨w9.heap.size, 0, none⟩ = some (.slice A9_0 (opNs ns0 ps0 m0 zs1).length c9_0) := b_313.cell 0
  have x_327 : w16.cell? ⟨w9.heap.size, 1, none⟩ = some (.slice B9_0 (opPs ns0 ps0 m0 zs1).length d9_0) := b_313.cell 1
  clear hg16 hh16
  go_wp2_with fail
  refine (markInts_any _ _ _ _ _ _ _ x1_307 hl1 (by omega) (by omega)).mono ?_
  rintro e w17 ⟨rfl, mI17, hg17⟩
  clear x1_307
  have w0_328 := w0_305.grown hg17 (rw_apart rw_36 rw_107 (by omega)) (rw_apart rw_37 rw_107 (by omega))
  clear w0_305
  have w1_329 := w1_306.grown hg17 (rw_apart rw_39 rw_107 (by omega))
  clear w1_306
  have x0_330 := mN16.grown hg17 (rw_apart rw_69 rw_107 (by omega))
  clear mN16
  have x0_331 := mP16.grown hg17 (rw_apart rw_70 rw_107 (by omega))
  clear mP16
  have g0_332 := g0_308.grown hg17 (rw_apart rw_126 rw_107 (by omega)) (rw_apart rw_127 rw_107 (by omega))
  clear g0_308
  have g1_333 := g1_309.grown hg17 (rw_apart rw_129 rw_107 (by omega))
  clear g1_309
  have b_334 := b_310.grown hg17 (rw_box rw_107 (by omega))
  have b_335 := b_311.grown hg17 (rw_box rw_107 (by omega))
  have b_336 := b_312.grown hg17 (rw_box rw_107 (by omega))
  have b_337 := b_313.grown hg17 (rw_box rw_107 (by omega))
  have hB_338 := hB_314.grown hg17 hB_314.size (rw_ge rw_107 (by omega))
  clear hB_314
  have sz_339 : w16.heap.size ≤ w17.heap.size := hg17.size
  clear b_310
  clear b_311
  clear b_312
  clear b_313
  clear x_316 x_317 x_318 x_319 x_320 x_321 x_322 x_323 x_324 x_325 x_326 x_327
  have x_340 := b_334.lt
  have x_341 : w17.cell? ⟨w.heap.size, 0, none⟩ = some (.slice A0 n0 c0) := b_334.cell 0
  have x_342 : w17.cell? ⟨w.heap.size, 1, none⟩ = some (.slice B0 m0 d0) := b_334.cell 1
  have x_343 := b_335.lt
  have x_344 : w17.cell? ⟨w4.heap.size, 0, none⟩ = some (.slice A4_0 (opNs ns0 ps0 m0 zs1).length c4_0) := b_335.cell 0
  have x_345 : w17.cell? ⟨w4.heap.size, 1, none⟩ = some (.slice B4_0 (opPs ns0 ps0 m0 zs1).length d4_0) := b_335.cell 1
  have x_346 := b_336.lt
  have x_347 : w17.cell? ⟨w6.heap.size, 0, none⟩ = some (.slice A6 n0 c6) := b_336.cell 0
  have x_348 : w17.cell? ⟨w6.heap.size, 1, none⟩ = some (.slice B6 m0 d6) := b_336.cell 1
  have x_349 := b_337.lt
  have x_350 : w17.cell? ⟨w9.heap.size, 0, none⟩ = some (.slice A9_0 (opNs ns0 ps0 m0 zs1).length c9_0) := b_337.cell 0
  have x_351 : w17.cell? ⟨w9.heap.size, 1, none⟩ = some (.slice B9_0 (opPs ns0 ps0 m0 zs1).length d9_0) := b_337.cell 1
  clear hg17
  go_wp2_with fail
  refine (eqNet_any _ _ _ _ _ _ _ _ _ _ _ _ _ _ _ _ _ g0_332.reads.nodes g0_332.reads.pipes w0_328.reads.nodes w0_328.reads.pipes hr0 hr1).mono ?_
  rintro e w18 ⟨be, hbe, rfl, hb18⟩
  obtain rfl : be = true := hbe.2 ⟨rfl, rfl⟩
  clear hbe
  have w0_352 := w0_328.below hb18
  clear w0_328
  have w1_353 := w1_329.below hb18
  clear w1_329
  have x0_354 := x0_330.below hb18
  clear x0_330
  have x0_355 := x0_331.below hb18
  clear x0_331
  have x1_356 := mI17.below hb18
  clear mI17
  have g0_357 := g0_332.below hb18
  clear g0_332
  have g1_358 := g1_333.below hb18
  clear g1_333
  have b_359 := b_334.belowA hb18
  have b_360 := b_335.belowA hb18
  have b_361 := b_336.belowA hb18
  have b_362 := b_337.belowA hb18
  have hB_363 := bthen hB_338 hb18 hB_338.size
  clear hB_338
  have sz_364 : w17.heap.size ≤ w18.heap.size := hb18.size
  clear b_334
  clear b_335
  clear b_336
  clear b_337
  clear x_340 x_341 x_342 x_343 x_344 x_345 x_346 x_347 x_348 x_349 x_350 x_351
  have x_365 := b_359.lt
  have x_366 : w18.cell? ⟨w.heap.size, 0, none⟩ = some (.slice A0 n0 c0) := b_359.cell 0
  have x_367 : w18.cell? ⟨w.heap.size, 1, none⟩ = some (.slice B0 m0 d0) := b_359.cell 1
  have x_368 := b_360.lt
  have x_369 : w18.cell? ⟨w4.heap.size, 0, none⟩ = some (.slice A4_0 (opNs ns0 ps0 m0 zs1).length c4_0) := b_360.cell 0
  have x_370 : w18.cell? ⟨w4.heap.size, 1, none⟩ = some (.slice B4_0 (opPs ns0 ps0 m0 zs1).length d4_0) := b_360.cell 1
  have x_371 := b_361.lt
  have x_372 : w18.cell? ⟨w6.heap.size, 0, none⟩ = some (.slice A6 n0 c6) := b_361.cell 0
  have x_373 : w18.cell? ⟨w6.heap.size, 1, none⟩ = some (.slice B6 m0 d6) := b_361.cell 1
  have x_374 := b_362.lt
  have x_375 : w18.cell? ⟨w9.heap.size, 0, none⟩ = some (.slice A9_0 (opNs ns0 ps0 m0 zs1).length c9_0) := b_362.cell 0
  have x_376 : w18.cell? ⟨w9.heap.size, 1, none⟩ = some (.slice B9_0 (opPs ns0 ps0 m0 zs1).length d9_0) := b_362.cell 1
  clear hb18
  go_wp2_with fail
  refine (eqInts_any _ _ _ _ _ _ _ _ _ g1_358.ints w1_353.ints hr2).mono ?_
  rintro e w19 ⟨rfl, hq19⟩
  have hb19 := hq19.below w18.heap.size
  have w0_377 := w0_352.below hb19
  clear w0_352
  have w1_378 := w1_353.below hb19
  clear w1_353
  have x0_379 := x0_354.below hb19
  clear x0_354
  have x0_380 := x0_355.below hb19
  clear x0_355
  have x1_381 := x1_356.below hb19
  clear x1_356
  have g0_382 := g0_357.below hb19
  clear g0_357
  have g1_383 := g1_358.below hb19
  clear g1_358
  have b_384 := b_359.belowA hb19
  have b_385 := b_360.belowA hb19
  have b_386 := b_361.belowA hb19
  have b_387 := b_362.belowA hb19
  have hB_388 := bthen hB_363 hb19 hB_363.size
  clear hB_363
  have sz_389 : w18.heap.size ≤ w19.heap.size := hb19.size
  clear b_359
  clear b_360
  clear b_361
  clear b_362
  clear x_365 x_366 x_367 x_368 x_369 x_370 x_371 x_372 x_373 x_374 x_375 x_376
  have x_390 := b_384.lt
  have x_391 : w19.cell? ⟨w.heap.size, 0, none⟩ = some (.slice A0 n0 c0) := b_384.cell 0
  have x_392 : w19.cell? ⟨w.heap.size, 1, none⟩ = some (.slice B0 m0 d0) := b_384.cell 1
  have x_393 := b_385.lt
  have x_394 : w19.cell? ⟨w4.heap.size, 0, none⟩ = some (.slice A4_0 (opNs ns0 ps0 m0 zs1).length c4_0) := b_385.cell 0
  have x_395 : w19.cell? ⟨w4.heap.size, 1, none⟩ = some (.slice B4_0 (opPs ns0 ps0 m0 zs1).length d4_0) := b_385.cell 1
  have x_396 := b_386.lt
  have x_397 : w19.cell? ⟨w6.heap.size, 0, none⟩ = some (.slice A6 n0 c6) := b_386.cell 0
  have x_398 : w19.cell? ⟨w6.heap.size, 1, none⟩ = some (.slice B6 m0 d6) := b_386.cell 1
  have x_399 := b_387.lt
  have x_400 : w19.cell? ⟨w9.heap.size, 0, none⟩ = some (.slice A9_0 (opNs ns0 ps0 m0 zs1).length c9_0) := b_387.cell 0
  have x_401 : w19.cell? ⟨w9.heap.size, 1, none⟩ = some (.slice B9_0 (opPs ns0 ps0 m0 zs1).length d9_0) := b_387.cell 1
  clear hb19 hq19
  go_wp2_with fail
  refine (markNet1_any _ _ _ _ _ _ _ _ _ _ _ g0_382.nodes.1 g0_382.pipes.1 hr0 hr1).mono ?_
  rintro e w20 ⟨rfl, mN20, mP20, u20, hg20, hh20⟩
  clear g0_382
  have w0_402 := w0_377.grown hg20 (rw_apart rw_36 rw_126 (by omega)) (rw_apart rw_37 rw_126 (by omega))
  clear w0_377
  have w1_403 := w1_378.grown hg20 (rw_apart rw_39 rw_126 (by omega))
  clear w1_378
  have x0_404 := x0_379.grown hg20 (rw_apart rw_69 rw_126 (by omega))
  clear x0_379
  have x0_405 := x0_380.grown hg20 (rw_apart rw_70 rw_126 (by omega))
  clear x0_380
  have x1_406 := x1_381.grown hg20 (rw_apart rw_107 rw_126 (by omega))
  clear x1_381
  have g1_407 := g1_383.grown hg20 (ap_130.row)
  clear g1_383
  have b_408 := b_384.grown hg20 (rw_box rw_126 (by omega))
  have b_409 := b_385.grown hg20 (rw_box rw_126 (by omega))
  have b_410 := b_386.grown hg20 (rw_box rw_126 (by omega))
  have b_411 := b_387.grown hg20 (rw_box rw_126 (by omega))
  have hB_412 := hB_388.grown hg20 hB_388.size (rw_ge rw_126 (by omega))
  clear hB_388
  have sz_413 : w19.heap.size ≤ u20.heap.size := hg20.size
  clear b_384
  clear b_385
  clear b_386
  clear b_387
  have w0_414 := w0_402.grown hh20 (rw_apart rw_36 rw_127 (by omega)) (rw_apart rw_37 rw_127 (by omega))
  clear w0_402
  have w1_415 := w1_403.grown hh20 (rw_apart rw_39 rw_127 (by omega))
  clear w1_403
  have x0_416 := x0_404.grown hh20 (rw_apart rw_69 rw_127 (by omega))
  clear x0_404
  have x0_417 := x0_405.grown hh20 (rw_apart rw_70 rw_127 (by omega))
  clear x0_405
  have x1_418 := x1_406.grown hh20 (rw_apart rw_107 rw_127 (by omega))
  clear x1_406
  have g1_419 := g1_407.grown hh20 (ap_131.row)
  clear g1_407
  have b_420 := b_408.grown hh20 (rw_box rw_127 (by omega))
  have b_421 := b_409.grown hh20 (rw_box rw_127 (by omega))
  have b_422 := b_410.grown hh20 (rw_box rw_127 (by omega))
  have b_423 := b_411.grown hh20 (rw_box rw_127 (by omega))
  have hB_424 := hB_412.grown hh20 hB_412.size (rw_ge rw_127 (by omega))
  clear hB_412
  have sz_425 : u20.heap.size ≤ w20.heap.size := hh20.size
  clear b_408
  clear b_409
  clear b_410
  clear b_411
  clear x_390 x_391 x_392 x_393 x_394 x_395 x_396 x_397 x_398 x_399 x_400 x_401
  have x_426 := b_420.lt
  have x_427 : w20.cell? ⟨w.heap.size, 0, none⟩ = some (.slice A0 n0 c0) := b_420.cell 0
  have x_428 : w20.cell? ⟨w.heap.size, 1, none⟩ = some (.slice B0 m0 d0) := b_420.cell 1
  have x_429 := b_421.lt
  have x_430 : w20.cell? ⟨w4.heap.size, 0, none⟩ = some (.slice A4_0 (opNs ns0 ps0 m0 zs1).length c4_0) := b_421.cell 0
  have x_431 : w20.cell? ⟨w4.heap.size, 1, none⟩ = some (.slice B4_0 (opPs ns0 ps0 m0 zs1).length d4_0) := b_421.cell 1
  have x_432 := b_422.lt
  have x_433 : w20.cell? ⟨w6.heap.size, 0, none⟩ = some (.slice A6 n0 c6) := b_422.cell 0
  have x_434 : w20.cell? ⟨w6.heap.size, 1, none⟩ = some (.slice B6 m0 d6) := b_422.cell 1
  have x_435 := b_423.lt
  have x_436 : w20.cell? ⟨w9.heap.size, 0, none⟩ = some (.slice A9_0 (opNs ns0 ps0 m0 zs1).length c9_0) := b_423.cell 0
  have x_437 : w20.cell? ⟨w9.heap.size, 1, none⟩ = some (.slice B9_0 (opPs ns0 ps0 m0 zs1).length d9_0) := b_423.cell 1
  clear hg20 hh20
  go_wp2_with fail
  refine (markInts_any _ _ _ _ _ _ _ g1_419 hr2 (by omega) (by omega)).mono ?_
  rintro e w21 ⟨rfl, mI21, hg21⟩
  clear g1_419
  have w0_438 := w0_414.grown hg21 (rw_apart rw_36 rw_129 (by omega)) (rw_apart rw_37 rw_129 (by omega))
  clear w0_414
  have w1_439 := w1_415.grown hg21 (rw_apart rw_39 rw_129 (by omega))
  clear w1_415
  have x0_440 := x0_416.grown hg21 (rw_apart rw_69 rw_129 (by omega))
  clear x0_416
  have x0_441 := x0_417.grown hg21 (rw_apart rw_70 rw_129 (by omega))
  clear x0_417
  have x1_442 := x1_418.grown hg21 (rw_apart rw_107 rw_129 (by omega))
  clear x1_418
  have g0_443 := mN20.grown hg21 (ap_130.symm.row)
  clear mN20
  have g0_444 := mP20.grown hg21 (ap_131.symm.row)
  clear mP20
  have b_445 := b_420.grown hg21 (rw_box rw_129 (by omega))
  have b_446 := b_421.grown hg21 (rw_box rw_129 (by omega))
  have b_447 := b_422.grown hg21 (rw_box rw_129 (by omega))
  have b_448 := b_423.grown hg21 (rw_box rw_129 (by omega))
  have hB_449 := hB_424.grown hg21 hB_424.size (rw_ge rw_129 (by omega))
  clear hB_424
  have sz_450 : w20.heap.size ≤ w21.heap.size := hg21.size
  clear b_420
  clear b_421
  clear b_422
  clear b_423
  clear x_426 x_427 x_428 x_429 x_430 x_431 x_432 x_433 x_434 x_435 x_436 x_437
  have x_451 := b_445.lt
  have x_452 : w21.cell? ⟨w.heap.size, 0, none⟩ = some (.slice A0 n0 c0) := b_445.cell 0
  have x_453 : w21.cell? ⟨w.heap.size, 1, none⟩ = some (.slice B0 m0 d0) := b_445.cell 1
  have x_454 := b_446.lt
  have x_455 : w21.cell? ⟨w4.heap.size, 0, none⟩ = some (.slice A4_0 (opNs ns0 ps0 m0 zs1).length c4_0) := b_446.cell 0
  have x_456 : w21.cell? ⟨w4.heap.size, 1, none⟩ = some (.slice B4_0 (opPs ns0 ps0 m0 zs1).length d4_0) := b_446.cell 1
  have x_457 := b_447.lt
  have x_458 : w21.cell? ⟨w6.heap.size, 0, none⟩ = some (.slice A6 n0 c6) := b_447.cell 0
  have x_459 : w21.cell? ⟨w6.heap.size, 1, none⟩ = some (.slice B6 m0 d6) := b_447.cell 1
  have x_460 := b_448.lt
  have x_461 : w21.cell? ⟨w9.heap.size, 0, none⟩ = some (.slice A9_0 (opNs ns0 ps0 m0 zs1).length c9_0) := b_448.cell 0
  have x_462 : w21.cell? ⟨w9.heap.size, 1, none⟩ = some (.slice B9_0 (opPs ns0 ps0 m0 zs1).length d9_0) := b_448.cell 1
  clear hg21
  go_wp2_with fail
  refine (heldNet1_any _ _ _ _ _ _ _ (g0_443.recs (by omega)) (g0_444.recs (by omega)) hr0 hr1).mono ?_
  rintro e w22 ⟨rfl, hb22⟩
  have w0_463 := w0_438.below hb22
  clear w0_438
  have w1_464 := w1_439.below hb22
  clear w1_439
  have x0_465 := x0_440.below hb22
  clear x0_440
  have x0_466 := x0_441.below hb22
  clear x0_441
  have x1_467 := x1_442.below hb22
  clear x1_442
  have g0_468 := g0_443.below hb22
  clear g0_443
  have g0_469 := g0_444.below hb22
  clear g0_444
  have g1_470 := mI21.below hb22
  clear mI21
  have b_471 := b_445.belowA hb22
  have b_472 := b_446.belowA hb22
  have b_473 := b_447.belowA hb22
  have b_474 := b_448.belowA hb22
  have hB_475 := bthen hB_449 hb22 hB_449.size
  clear hB_449
  have sz_476 : w21.heap.size ≤ w22.heap.size := hb22.size
  clear b_445
  clear b_446
  clear b_447
  clear b_448
  clear x_451 x_452 x_453 x_454 x_455 x_456 x_457 x_458 x_459 x_460 x_461 x_462
  have x_477 := b_471.lt
  have x_478 : w22.cell? ⟨w.heap.size, 0, none⟩ = some (.slice A0 n0 c0) := b_471.cell 0
  have x_479 : w22.cell? ⟨w.heap.size, 1, none⟩ = some (.slice B0 m0 d0) := b_471.cell 1
  have x_480 := b_472.lt
  have x_481 : w22.cell? ⟨w4.heap.size, 0, none⟩ = some (.slice A4_0 (opNs ns0 ps0 m0 zs1).length c4_0) := b_472.cell 0
  have x_482 : w22.cell? ⟨w4.heap.size, 1, none⟩ = some (.slice B4_0 (opPs ns0 ps0 m0 zs1).length d4_0) := b_472.cell 1
  have x_483 := b_473.lt
  have x_484 : w22.cell? ⟨w6.heap.size, 0, none⟩ = some (.slice A6 n0 c6) := b_473.cell 0
  have x_485 : w22.cell? ⟨w6.heap.size, 1, none⟩ = some (.slice B6 m0 d6) := b_473.cell 1
  have x_486 := b_474.lt
  have x_487 : w22.cell? ⟨w9.heap.size, 0, none⟩ = some (.slice A9_0 (opNs ns0 ps0 m0 zs1).length c9_0) := b_474.cell 0
  have x_488 : w22.cell? ⟨w9.heap.size, 1, none⟩ = some (.slice B9_0 (opPs ns0 ps0 m0 zs1).length d9_0) := b_474.cell 1
  clear hb22
  go_wp2_with fail
  refine (heldInts_any _ _ _ _ _ g1_470.ints hr2 (by omega) (by omega)).mono ?_
  rintro e w' ⟨rfl, rfl⟩
  go_wp2_with fail
  refine (toNetw_any _ _ _ _ _ _ _ _ _ (nV0.below hB_475) hn0 hm0).mono ?_
  rintro e w23 ⟨A23, c23, B23, d23, rfl, oN23, hb23⟩
  have w0_489 := w0_463.below hb23
  clear w0_463
  have w1_490 := w1_464.below hb23
  clear w1_464
  have x0_491 := x0_465.below hb23
  clear x0_465
  have x0_492 := x0_466.below hb23
  clear x0_466
  have x1_493 := x1_467.below hb23
  clear x1_467
  have g0_494 := g0_468.below hb23
  clear g0_468
  have g0_495 := g0_469.below hb23
  clear g0_469
  have g1_496 := g1_470.below hb23
  clear g1_470
  have b_497 := b_471.belowA hb23
  have b_498 := b_472.belowA hb23
  have b_499 := b_473.belowA hb23
  have b_500 := b_474.belowA hb23
  have hB_501 := bthen hB_475 hb23 hB_475.size
  clear hB_475
  have sz_502 : w22.heap.size ≤ w23.heap.size := hb23.size
  clear b_471
  clear b_472
  clear b_473
  clear b_474
  clear x_477 x_478 x_479 x_480 x_481 x_482 x_483 x_484 x_485 x_486 x_487 x_488
  have x_503 := b_497.lt
  have x_504 : w23.cell? ⟨w.heap.size, 0, none⟩ = some (.slice A0 n0 c0) := b_497.cell 0
  have x_505 : w23.cell? ⟨w.heap.size, 1, none⟩ = some (.slice B0 m0 d0) := b_497.cell 1
  have x_506 := b_498.lt
  have x_507 : w23.cell? ⟨w4.heap.size, 0, none⟩ = some (.slice A4_0 (opNs ns0 ps0 m0 zs1).length c4_0) := b_498.cell 0
  have x_508 : w23.cell? ⟨w4.heap.size, 1, none⟩ = some (.slice B4_0 (opPs ns0 ps0 m0 zs1).length d4_0) := b_498.cell 1
  have x_509 := b_499.lt
  have x_510 : w23.cell? ⟨w6.heap.size, 0, none⟩ = some (.slice A6 n0 c6) := b_499.cell 0
  have x_511 : w23.cell? ⟨w6.heap.size, 1, none⟩ = some (.slice B6 m0 d6) := b_499.cell 1
  have x_512 := b_500.lt
  have x_513 : w23.cell? ⟨w9.heap.size, 0, none⟩ = some (.slice A9_0 (opNs ns0 ps0 m0 zs1).length c9_0) := b_500.cell 0
  have x_514 : w23.cell? ⟨w9.heap.size, 1, none⟩ = some (.slice B9_0 (opPs ns0 ps0 m0 zs1).length d9_0) := b_500.cell 1
  clear hb23
  have rw_515 := oN23.nodes.1.rw_
  have rw_516 := oN23.pipes.1.rw_
  have ap_517 := ap_of oN23.pipes.1.1 oN23.nodes.1.1 (by decide)
  go_wp2_with fail
  refine (toInts_any _ _ _ _ _ (iV1.below hB_501) hl1).mono ?_
  rintro e w24 ⟨Z24, f24, rfl, oI24, hb24⟩
  have w0_518 := w0_489.below hb24
  clear w0_489
  have w1_519 := w1_490.below hb24
  clear w1_490
  have x0_520 := x0_491.below hb24
  clear x0_491
  have x0_521 := x0_492.below hb24
  clear x0_492
  have x1_522 := x1_493.below hb24
  clear x1_493
  have g0_523 := g0_494.below hb24
  clear g0_494
  have g0_524 := g0_495.below hb24
  clear g0_495
  have g1_525 := g1_496.below hb24
  clear g1_496
  have y0_526 := oN23.below hb24
  clear oN23
  have b_527 := b_497.belowA hb24
  have b_528 := b_498.belowA hb24
  have b_529 := b_499.belowA hb24
  have b_530 := b_500.belowA hb24
  have hB_531 := bthen hB_501 hb24 hB_501.size
  clear hB_501
  have sz_532 : w23.heap.size ≤ w24.heap.size := hb24.size
  clear b_497
  clear b_498
  clear b_499
  clear b_500
  clear x_503 x_504 x_505 x_506 x_507 x_508 x_509 x_510 x_511 x_512 x_513 x_514
  have x_533 := b_527.lt
  have x_534 : w24.cell? ⟨w.heap.size, 0, none⟩ = some (.slice A0 n0 c0) := b_527.cell 0
  have x_535 : w24.cell? ⟨w.heap.size, 1, none⟩ = some (.slice B0 m0 d0) := b_527.cell 1
  have x_536 := b_528.lt
  have x_537 : w24.cell? ⟨w4.heap.size, 0, none⟩ = some (.slice A4_0 (opNs ns0 ps0 m0 zs1).length c4_0) := b_528.cell 0
  have x_538 : w24.cell? ⟨w4.heap.size, 1, none⟩ = some (.slice B4_0 (opPs ns0 ps0 m0 zs1).length d4_0) := b_528.cell 1
  have x_539 := b_529.lt
  have x_540 : w24.cell? ⟨w6.heap.size, 0, none⟩ = some (.slice A6 n0 c6) := b_529.cell 0
  have x_541 : w24.cell? ⟨w6.heap.size, 1, none⟩ = some (.slice B6 m0 d6) := b_529.cell 1
  have x_542 := b_530.lt
  have x_543 : w24.cell? ⟨w9.heap.size, 0, none⟩ = some (.slice A9_0 (opNs ns0 ps0 m0 zs1).length c9_0) := b_530.cell 0
  have x_544 : w24.cell? ⟨w9.heap.size, 1, none⟩ = some (.slice B9_0 (opPs ns0 ps0 m0 zs1).length d9_0) := b_530.cell 1
  clear hb24
  have rw_545 := oI24.rw_
  go_wp2_with fail
  refine (openN_any _ _ _ _ _ _ _ _ ns0 ps0 zs1 _ y0_526.reads oI24.ints hl1).mono ?_
  rintro e w25 ⟨A25_0, c25_0, B25_0, d25_0, A25_1, c25_1, rfl, oR25_0, oR25_1, hb25⟩
  have w0_546 := w0_518.below hb25
  clear w0_518
  have w1_547 := w1_519.below hb25
  clear w1_519
  have x0_548 := x0_520.below hb25
  clear x0_520
  have x0_549 := x0_521.below hb25
  clear x0_521
  have x1_550 := x1_522.below hb25
  clear x1_522
  have g0_551 := g0_523.below hb25
  clear g0_523
  have g0_552 := g0_524.below hb25
  clear g0_524
  have g1_553 := g1_525.below hb25
  clear g1_525
  have y0_554 := y0_526.below hb25
  clear y0_526
  have y1_555 := oI24.below hb25
  clear oI24
  have b_556 := b_527.belowA hb25
  have b_557 := b_528.belowA hb25
  have b_558 := b_529.belowA hb25
  have b_559 := b_530.belowA hb25
  have hB_560 := bthen hB_531 hb25 hB_531.size
  clear hB_531
  have sz_561 : w24.heap.size ≤ w25.heap.size := hb25.size
  clear b_527
  clear b_528
  clear b_529
  clear b_530
  clear x_533 x_534 x_535 x_536 x_537 x_538 x_539 x_540 x_541 x_542 x_543 x_544
  have x_562 := b_556.lt
  have x_563 : w25.cell? ⟨w.heap.size, 0, none⟩ = some (.slice A0 n0 c0) := b_556.cell 0
  have x_564 : w25.cell? ⟨w.heap.size, 1, none⟩ = some (.slice B0 m0 d0) := b_556.cell 1
  have x_565 := b_557.lt
  have x_566 : w25.cell? ⟨w4.heap.size, 0, none⟩ = some (.slice A4_0 (opNs ns0 ps0 m0 zs1).length c4_0) := b_557.cell 0
  have x_567 : w25.cell? ⟨w4.heap.size, 1, none⟩ = some (.slice B4_0 (opPs ns0 ps0 m0 zs1).length d4_0) := b_557.cell 1
  have x_568 := b_558.lt
  have x_569 : w25.cell? ⟨w6.heap.size, 0, none⟩ = some (.slice A6 n0 c6) := b_558.cell 0
  have x_570 : w25.cell? ⟨w6.heap.size, 1, none⟩ = some (.slice B6 m0 d6) := b_558.cell 1
  have x_571 := b_559.lt
  have x_572 : w25.cell? ⟨w9.heap.size, 0, none⟩ = some (.slice A9_0 (opNs ns0 ps0 m0 zs1).length c9_0) := b_559.cell 0
  have x_573 : w25.cell? ⟨w9.heap.size, 1, none⟩ = some (.slice B9_0 (opPs ns0 ps0 m0 zs1).length d9_0) := b_559.cell 1
  clear hb25
  have rw_574 := oR25_0.nodes.1.rw_
  have rw_575 := oR25_0.pipes.1.rw_
  have ap_576 := ap_of oR25_0.pipes.1.1 oR25_0.nodes.1.1 (by decide)
  have rw_577 := oR25_1.rw_
  have ap_578 := ap_of oR25_1.1 oR25_0.nodes.1.1 (by decide)
  have ap_579 := ap_of oR25_1.1 oR25_0.pipes.1.1 (by decide)
  have hb26 : Below w25.heap.size w25 (w25.alloc (.cells #[.slice A25_0 (opNs ns0 ps0 m0 zs1).length c25_0, .slice B25_0 (opPs ns0 ps0 m0 zs1).length d25_0] 45)) := (Below.refl _ _).alloc (Nat.le_refl _) _
  have b_580 := box_new w25 #[.slice A25_0 (opNs ns0 ps0 m0 zs1).length c25_0, .slice B25_0 (opPs ns0 ps0 m0 zs1).length d25_0] 45
  have sz_581 : w25.heap.size + 1 ≤ (w25.alloc (.cells #[.slice A25_0 (opNs ns0 ps0 m0 zs1).length c25_0, .slice B25_0 (opPs ns0 ps0 m0 zs1).length d25_0] 45)).heap.size := by simp
  have w0_582 := w0_546.below hb26
  clear w0_546
  have w1_583 := w1_547.below hb26
  clear w1_547
  have x0_584 := x0_548.below hb26
  clear x0_548
  have x0_585 := x0_549.below hb26
  clear x0_549
  have x1_586 := x1_550.below hb26
  clear x1_550
  have g0_587 := g0_551.below hb26
  clear g0_551
  have g0_588 := g0_552.below hb26
  clear g0_552
  have g1_589 := g1_553.below hb26
  clear g1_553
  have y0_590 := y0_554.below hb26
  clear y0_554
  have y1_591 := y1_555.below hb26
  clear y1_555
  have h0_592 := oR25_0.below hb26
  clear oR25_0
  have h1_593 := oR25_1.below hb26
  clear oR25_1
  have b_594 := b_556.belowA hb26
  have b_595 := b_557.belowA hb26
  have b_596 := b_558.belowA hb26
  have b_597 := b_559.belowA hb26
  have hB_598 := bthen hB_560 hb26 hB_560.size
  clear hB_560
  have sz_599 : w25.heap.size ≤ (w25.alloc (.cells #[.slice A25_0 (opNs ns0 ps0 m0 zs1).length c25_0, .slice B25_0 (opPs ns0 ps0 m0 zs1).length d25_0] 45)).heap.size := hb26.size
  clear hb26
  go_wp2_with fail
  generalize (w25.alloc (.cells #[.slice A25_0 (opNs ns0 ps0 m0 zs1).length c25_0, .slice B25_0 (opPs ns0 ps0 m0 zs1).length d25_0] 45)) = w26 at *
  clear b_556
  clear b_557
  clear b_558
  clear b_559
  clear x_562 x_563 x_564 x_565 x_566 x_567 x_568 x_569 x_570 x_571 x_572 x_573
  have x_600 := b_594.lt
  have x_601 : w26.cell? ⟨w.heap.size, 0, none⟩ = some (.slice A0 n0 c0) := b_594.cell 0
  have x_602 : w26.cell? ⟨w.heap.size, 1, none⟩ = some (.slice B0 m0 d0) := b_594.cell 1
  have x_603 := b_595.lt
  have x_604 : w26.cell? ⟨w4.heap.size, 0, none⟩ = some (.slice A4_0 (opNs ns0 ps0 m0 zs1).length c4_0) := b_595.cell 0
  have x_605 : w26.cell? ⟨w4.heap.size, 1, none⟩ = some (.slice B4_0 (opPs ns0 ps0 m0 zs1).length d4_0) := b_595.cell 1
  have x_606 := b_596.lt
  have x_607 : w26.cell? ⟨w6.heap.size, 0, none⟩ = some (.slice A6 n0 c6) := b_596.cell 0
  have x_608 : w26.cell? ⟨w6.heap.size, 1, none⟩ = some (.slice B6 m0 d6) := b_596.cell 1
  have x_609 := b_597.lt
  have x_610 : w26.cell? ⟨w9.heap.size, 0, none⟩ = some (.slice A9_0 (opNs ns0 ps0 m0 zs1).length c9_0) := b_597.cell 0
  have x_611 : w26.cell? ⟨w9.heap.size, 1, none⟩ = some (.slice B9_0 (opPs ns0 ps0 m0 zs1).length d9_0) := b_597.cell 1
  have x_612 := b_580.lt
  have x_613 : w26.cell? ⟨w25.heap.size, 0, none⟩ = some (.slice A25_0 (opNs ns0 ps0 m0 zs1).length c25_0) := b_580.cell 0
  have x_614 : w26.cell? ⟨w25.heap.size, 1, none⟩ = some (.slice B25_0 (opPs ns0 ps0 m0 zs1).length d25_0) := b_580.cell 1
  clear y0_590
  clear y1_591
  refine (eqNet_any _ _ _ _ _ _ _ _ _ _ _ _ _ _ _ _ _ h0_592.reads.nodes h0_592.reads.pipes w0_582.reads.nodes w0_582.reads.pipes hr0 hr1).mono ?_
  rintro e w27 ⟨be, hbe, rfl, hb27⟩
  obtain rfl : be = true := hbe.2 ⟨rfl, rfl⟩
  clear hbe
  have w0_615 := w0_582.below hb27
  clear w0_582
  have w1_616 := w1_583.below hb27
  clear w1_583
  have x0_617 := x0_584.below hb27
  clear x0_584
  have x0_618 := x0_585.below hb27
  clear x0_585
  have x1_619 := x1_586.below hb27
  clear x1_586
  have g0_620 := g0_587.below hb27
  clear g0_587
  have g0_621 := g0_588.below hb27
  clear g0_588
  have g1_622 := g1_589.below hb27
  clear g1_589
  have h0_623 := h0_592.below hb27
  clear h0_592
  have h1_624 := h1_593.below hb27
  clear h1_593
  have b_625 := b_594.belowA hb27
  have b_626 := b_595.belowA hb27
  have b_627 := b_596.belowA hb27
  have b_628 := b_597.belowA hb27
  have b_629 := b_580.belowA hb27
  have hB_630 := bthen hB_598 hb27 hB_598.size
  clear hB_598
  have sz_631 : w26.heap.size ≤ w27.heap.size := hb27.size
  clear b_594
  clear b_595
  clear b_596
  clear b_597
  clear b_580
  clear x_600 x_601 x_602 x_603 x_604 x_605 x_606 x_607 x_608 x_609 x_610 x_611 x_612 x_613 x_614
  have x_632 := b_625.lt
  have x_633 : w27.cell? ⟨w.heap.size, 0, none⟩ = some (.slice A0 n0 c0) := b_625.cell 0
  have x_634 : w27.cell? ⟨w.heap.size, 1, none⟩ = some (.slice B0 m0 d0) := b_625.cell 1
  have x_635 := b_626.lt
  have x_636 : w27.cell? ⟨w4.heap.size, 0, none⟩ = some (.slice A4_0 (opNs ns0 ps0 m0 zs1).length c4_0) := b_626.cell 0
  have x_637 : w27.cell? ⟨w4.heap.size, 1, none⟩ = some (.slice B4_0 (opPs ns0 ps0 m0 zs1).length d4_0) := b_626.cell 1
  have x_638 := b_627.lt
  have x_639 : w27.cell? ⟨w6.heap.size, 0, none⟩ = some (.slice A6 n0 c6) := b_627.cell 0
  have x_640 : w27.cell? ⟨w6.heap.size, 1, none⟩ = some (.slice B6 m0 d6) := b_627.cell 1
  have x_641 := b_628.lt
  have x_642 : w27.cell? ⟨w9.heap.size, 0, none⟩ = some (.slice A9_0 (opNs ns0 ps0 m0 zs1).length c9_0) := b_628.cell 0
  have x_643 : w27.cell? ⟨w9.heap.size, 1, none⟩ = some (.slice B9_0 (opPs ns0 ps0 m0 zs1).length d9_0) := b_628.cell 1
  have x_644 := b_629.lt
  have x_645 : w27.cell? ⟨w25.heap.size, 0, none⟩ = some (.slice A25_0 (opNs ns0 ps0 m0 zs1).length c25_0) := b_629.cell 0
  have x_646 : w27.cell? ⟨w25.heap.size, 1, none⟩ = some (.slice B25_0 (opPs ns0 ps0 m0 zs1).length d25_0) := b_629.cell 1
  clear hb27
  go_wp2_with fail
  refine (eqInts_any _ _ _ _ _ _ _ _ _ h1_624.ints w1_616.ints hr2).mono ?_
  rintro e w28 ⟨rfl, hq28⟩
  have hb28 := hq28.below w27.heap.size
  have w0_647 := w0_615.below hb28
  clear w0_615
  have w1_648 := w1_616.below hb28
  clear w1_616
  have x0_649 := x0_617.below hb28
  clear x0_617
  have x0_650 := x0_618.below hb28
  clear x0_618
  have x1_651 := x1_619.below hb28
  clear x1_619
  have g0_652 := g0_620.below hb28
  clear g0_620
  have g0_653 := g0_621.below hb28
  clear g0_621
  have g1_654 := g1_622.below hb28
  clear g1_622
  have h0_655 := h0_623.below hb28
  clear h0_623
  have h1_656 := h1_624.below hb28
  clear h1_624
  have b_657 := b_625.belowA hb28
  have b_658 := b_626.belowA hb28
  have b_659 := b_627.belowA hb28
  have b_660 := b_628.belowA hb28
  have b_661 := b_629.belowA hb28
  have hB_662 := bthen hB_630 hb28 hB_630.size
  clear hB_630
  have sz_663 : w27.heap.size ≤ w28.heap.size := hb28.size
  clear b_625
  clear b_626
  clear b_627
  clear b_628
  clear b_629
  clear x_632 x_633 x_634 x_635 x_636 x_637 x_638 x_639 x_640 x_641 x_642 x_643 x_644 x_645 x_646
  have x_664 := b_657.lt
  have x_665 : w28.cell? ⟨w.heap.size, 0, none⟩ = some (.slice A0 n0 c0) := b_657.cell 0
  have x_666 : w28.cell? ⟨w.heap.size, 1, none⟩ = some (.slice B0 m0 d0) := b_657.cell 1
  have x_667 := b_658.lt
  have x_668 : w28.cell? ⟨w4.heap.size, 0, none⟩ = some (.slice A4_0 (opNs ns0 ps0 m0 zs1).length c4_0) := b_658.cell 0
  have x_669 : w28.cell? ⟨w4.heap.size, 1, none⟩ = some (.slice B4_0 (opPs ns0 ps0 m0 zs1).length d4_0) := b_658.cell 1
  have x_670 := b_659.lt
  have x_671 : w28.cell? ⟨w6.heap.size, 0, none⟩ = some (.slice A6 n0 c6) := b_659.cell 0
  have x_672 : w28.cell? ⟨w6.heap.size, 1, none⟩ = some (.slice B6 m0 d6) := b_659.cell 1
  have x_673 := b_660.lt
  have x_674 : w28.cell? ⟨w9.heap.size, 0, none⟩ = some (.slice A9_0 (opNs ns0 ps0 m0 zs1).length c9_0) := b_660.cell 0
  have x_675 : w28.cell? ⟨w9.heap.size, 1, none⟩ = some (.slice B9_0 (opPs ns0 ps0 m0 zs1).length d9_0) := b_660.cell 1
  have x_676 := b_661.lt
  have x_677 : w28.cell? ⟨w25.heap.size, 0, none⟩ = some (.slice A25_0 (opNs ns0 ps0 m0 zs1).length c25_0) := b_661.cell 0
  have x_678 : w28.cell? ⟨w25.heap.size, 1, none⟩ = some (.slice B25_0 (opPs ns0 ps0 m0 zs1).length d25_0) := b_661.cell 1
  clear hb28 hq28
  go_wp2_with fail
  refine (heldNet1_any _ _ _ _ _ _ _ (g0_652.recs (by omega)) (g0_653.recs (by omega)) hr0 hr1).mono ?_
  rintro e w29 ⟨rfl, hb29⟩
  have w0_679 := w0_647.below hb29
  clear w0_647
  have w1_680 := w1_648.below hb29
  clear w1_648
  have x0_681 := x0_649.below hb29
  clear x0_649
  have x0_682 := x0_650.below hb29
  clear x0_650
  have x1_683 := x1_651.below hb29
  clear x1_651
  have g0_684 := g0_652.below hb29
  clear g0_652
  have g0_685 := g0_653.below hb29
  clear g0_653
  have g1_686 := g1_654.below hb29
  clear g1_654
  have h0_687 := h0_655.below hb29
  clear h0_655
  have h1_688 := h1_656.below hb29
  clear h1_656
  have b_689 := b_657.belowA hb29
  have b_690 := b_658.belowA hb29
  have b_691 := b_659.belowA hb29
  have b_692 := b_660.belowA hb29
  have b_693 := b_661.belowA hb29
  have hB_694 := bthen hB_662 hb29 hB_662.size
  clear hB_662
  have sz_695 : w28.heap.size ≤ w29.heap.size := hb29.size
  clear b_657
  clear b_658
  clear b_659
  clear b_660
  clear b_661
  clear x_664 x_665 x_666 x_667 x_668 x_669 x_670 x_671 x_672 x_673 x_674 x_675 x_676 x_677 x_678
  have x_696 := b_689.lt
  have x_697 : w29.cell? ⟨w.heap.size, 0, none⟩ = some (.slice A0 n0 c0) := b_689.cell 0
  have x_698 : w29.cell? ⟨w.heap.size, 1, none⟩ = some (.slice B0 m0 d0) := b_689.cell 1
  have x_699 := b_690.lt
  have x_700 : w29.cell? ⟨w4.heap.size, 0, none⟩ = some (.slice A4_0 (opNs ns0 ps0 m0 zs1).length c4_0) := b_690.cell 0
  have x_701 : w29.cell? ⟨w4.heap.size, 1, none⟩ = some (.slice B4_0 (opPs ns0 ps0 m0 zs1).length d4_0) := b_690.cell 1
  have x_702 := b_691.lt
  have x_703 : w29.cell? ⟨w6.heap.size, 0, none⟩ = some (.slice A6 n0 c6) := b_691.cell 0
  have x_704 : w29.cell? ⟨w6.heap.size, 1, none⟩ = some (.slice B6 m0 d6) := b_691.cell 1
  have x_705 := b_692.lt
  have x_706 : w29.cell? ⟨w9.heap.size, 0, none⟩ = some (.slice A9_0 (opNs ns0 ps0 m0 zs1).length c9_0) := b_692.cell 0
  have x_707 : w29.cell? ⟨w9.heap.size, 1, none⟩ = some (.slice B9_0 (opPs ns0 ps0 m0 zs1).length d9_0) := b_692.cell 1
  have x_708 := b_693.lt
  have x_709 : w29.cell? ⟨w25.heap.size, 0, none⟩ = some (.slice A25_0 (opNs ns0 ps0 m0 zs1).length c25_0) := b_693.cell 0
  have x_710 : w29.cell? ⟨w25.heap.size, 1, none⟩ = some (.slice B25_0 (opPs ns0 ps0 m0 zs1).length d25_0) := b_693.cell 1
  clear hb29
  go_wp2_with fail
  refine (heldInts_any _ _ _ _ _ g1_686.ints hr2 (by omega) (by omega)).mono ?_
  rintro e w' ⟨rfl, rfl⟩
  go_wp2_with fail
  go_ret
  exact ⟨rfl, bthen hW hB_694 hW.size⟩
end Go.Proofs.Ytoijogaogheciaa
