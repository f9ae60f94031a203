/- The walk of the law on SettledFlows. No condition. -/
import Derived.Test.YtpgegfnhokhlmaaGreatSef
import Derived.Test.YtpgegfnhokhlmaaGreatKA
set_option linter.unusedVariables false
set_option maxRecDepth 100000
namespace Go.Proofs.YtpgegfnhokhlmaaGreat
open Go.RowKit Go.Joins Go.Deep
attribute [local go_sem ↓] Go.wp_at_zero Go.wp_at_succ

set_option maxHeartbeats 8000000 in
theorem law_FnExactSettledFlows (A0 : Option Addr) (n0 c0 : Nat) (ns0 : List Nd) (B0 : Option Addr) (m0 d0 : Nat) (ps0 : List Pp) (Z1 : Option Addr) (l1 e1 : Nat) (zs1 : List Int) (Z2 : Option Addr) (l2 e2 : Nat) (zs2 : List Int) (w : World) (h0 : IsNet w A0 n0 c0 ns0 B0 m0 d0 ps0) (h1 : Ints w Z1 l1 zs1 ∧ l1 ≤ e1 ∧ e1 ≤ maxLen) (h2 : Ints w Z2 l2 zs2 ∧ l2 ≤ e2 ∧ e2 ≤ maxLen) :
    Calls Tryz.prog 13 #[.agg #[.slice A0 n0 c0, .slice B0 m0 d0], .slice Z1 l1 e1, .slice Z2 l2 e2] w fun e w' => e = .returned (.bool true) ∧ Below w.heap.size w w' := by
  obtain ⟨hz1, he1, hm_1⟩ := h1
  obtain rfl : zs1.length = l1 := hz1.len
  unfold maxLen at hm_1
  obtain ⟨hz2, he2, hm_2⟩ := h2
  obtain rfl : zs2.length = l2 := hz2.len
  unfold maxLen at hm_2
  have bA_1 := box_new w #[.slice A0 n0 c0, .slice B0 m0 d0] 25
  have hW : Below w.heap.size w (w.alloc (.cells #[.slice A0 n0 c0, .slice B0 m0 d0] 25)) := by
    repeat (first | exact Below.refl _ _ | refine Below.alloc ?_ (by simp <;> omega) _)
  have nV0 := h0.below hW
  have iV1 := hz1.below hW
  have iV2 := hz2.below hW
  by_cases hbig1 : (1048576 : Int) < zs1.length
  case pos =>
    go_enter Tryz.func13, Tryz.ntmps13
    go_wp2_with fail
    go_ret
    exact ⟨rfl, hW⟩
  have hl1 : zs1.length ≤ 1048576 := by omega
  by_cases hbig2 : (1048576 : Int) < zs2.length
  case pos =>
    go_enter Tryz.func13, Tryz.ntmps13
    go_wp2_with fail
    go_ret
    exact ⟨rfl, hW⟩
  have hl2 : zs2.length ≤ 1048576 := by omega
  go_enter Tryz.func13, Tryz.ntmps13
  go_wp2_with fail
  have hs0 : w.heap.size + 1 ≤ (w.alloc (.cells #[.slice A0 n0 c0, .slice B0 m0 d0] 25)).heap.size := by simp
  generalize (w.alloc (.cells #[.slice A0 n0 c0, .slice B0 m0 d0] 25)) = V at *
  have hB_0 : Below V.heap.size V V := Below.refl _ _
  have x_2 := bA_1.lt
  have x_3 : V.cell? ⟨w.heap.size, 0, none⟩ = some (.slice A0 n0 c0) := bA_1.cell 0
  have x_4 : V.cell? ⟨w.heap.size, 1, none⟩ = some (.slice B0 m0 d0) := bA_1.cell 1
  refine (szNet_any _ _ _ _ _ _ ns0 _ _ (nV0.below hB_0).nodes (Nat.le_trans h0.capA.1 h0.capA.2) (Nat.le_trans h0.capB.1 h0.capB.2) (by omega) (by omega)).mono ?_
  rintro e w1 ⟨left0, rfl, hleft0, hb1⟩
  have b_5 := bA_1.belowA hb1
  have hB_6 := bthen hB_0 hb1 hB_0.size
  clear hB_0
  have sz_7 : V.heap.size ≤ w1.heap.size := hb1.size
  clear bA_1
  clear x_2 x_3 x_4
  have x_8 := b_5.lt
  have x_9 : w1.cell? ⟨w.heap.size, 0, none⟩ = some (.slice A0 n0 c0) := b_5.cell 0
  have x_10 : w1.cell? ⟨w.heap.size, 1, none⟩ = some (.slice B0 m0 d0) := b_5.cell 1
  clear hb1
  rcases hleft0 with rfl | ⟨hl0_0, hl1_0⟩
  · go_wp2_with fail
    go_ret
    exact ⟨rfl, bthen hW hB_6 hW.size⟩
  have hn0 : n0 ≤ 1048576 := by omega
  have hm0 : m0 ≤ 1048576 := by omega
  have hr0 : (sefL ns0 ps0 m0 zs1 zs2).length ≤ 1048576 := by have := sefL_len (ns := ns0) (ps := ps0) (m := m0) (zs := zs1) (sup := zs2); omega
  go_wp2_with fail
  refine (toNetw_any _ _ _ _ _ _ _ _ _ (nV0.below hB_6) hn0 hm0).mono ?_
  rintro e w2 ⟨A2, c2, B2, d2, rfl, oN2, hb2⟩
  have b_11 := b_5.belowA hb2
  have hB_12 := bthen hB_6 hb2 hB_6.size
  clear hB_6
  have sz_13 : w1.heap.size ≤ w2.heap.size := hb2.size
  clear b_5
  clear x_8 x_9 x_10
  have x_14 := b_11.lt
  have x_15 : w2.cell? ⟨w.heap.size, 0, none⟩ = some (.slice A0 n0 c0) := b_11.cell 0
  have x_16 : w2.cell? ⟨w.heap.size, 1, none⟩ = some (.slice B0 m0 d0) := b_11.cell 1
  clear hb2
  have rw_17 := oN2.nodes.1.rw_
  have rw_18 := oN2.pipes.1.rw_
  have ap_19 := ap_of oN2.pipes.1.1 oN2.nodes.1.1 (by decide)
  go_wp2_with fail
  refine (toInts_any _ _ _ _ _ (iV1.below hB_12) hl1).mono ?_
  rintro e w3 ⟨Z3, f3, rfl, oI3, hb3⟩
  have s0_20 := oN2.below hb3
  clear oN2
  have b_21 := b_11.belowA hb3
  have hB_22 := bthen hB_12 hb3 hB_12.size
  clear hB_12
  have sz_23 : w2.heap.size ≤ w3.heap.size := hb3.size
  clear b_11
  clear x_14 x_15 x_16
  have x_24 := b_21.lt
  have x_25 : w3.cell? ⟨w.heap.size, 0, none⟩ = some (.slice A0 n0 c0) := b_21.cell 0
  have x_26 : w3.cell? ⟨w.heap.size, 1, none⟩ = some (.slice B0 m0 d0) := b_21.cell 1
  clear hb3
  have rw_27 := oI3.rw_
  go_wp2_with fail
  refine (toInts_any _ _ _ _ _ (iV2.below hB_22) hl2).mono ?_
  rintro e w4 ⟨Z4, f4, rfl, oI4, hb4⟩
  have s0_28 := s0_20.below hb4
  clear s0_20
  have s1_29 := oI3.below hb4
  clear oI3
  have b_30 := b_21.belowA hb4
  have hB_31 := bthen hB_22 hb4 hB_22.size
  clear hB_22
  have sz_32 : w3.heap.size ≤ w4.heap.size := hb4.size
  clear b_21
  clear x_24 x_25 x_26
  have x_33 := b_30.lt
  have x_34 : w4.cell? ⟨w.heap.size, 0, none⟩ = some (.slice A0 n0 c0) := b_30.cell 0
  have x_35 : w4.cell? ⟨w.heap.size, 1, none⟩ = some (.slice B0 m0 d0) := b_30.cell 1
  clear hb4
  have rw_36 := oI4.rw_
  go_wp2_with fail
  refine (sSettled_any _ _ _ _ _ _ _ _ _ _ ns0 ps0 zs1 zs2 _ s0_28.reads s1_29.ints oI4.ints oI4.nilc hl1 hl2).mono ?_
  rintro e w5 ⟨A5_0, c5_0, rfl, oR5_0, hb5⟩
  have s0_37 := s0_28.below hb5
  clear s0_28
  have s1_38 := s1_29.below hb5
  clear s1_29
  have s2_39 := oI4.below hb5
  clear oI4
  have b_40 := b_30.belowA hb5
  have hB_41 := bthen hB_31 hb5 hB_31.size
  clear hB_31
  have sz_42 : w4.heap.size ≤ w5.heap.size := hb5.size
  clear b_30
  clear x_33 x_34 x_35
  have x_43 := b_40.lt
  have x_44 : w5.cell? ⟨w.heap.size, 0, none⟩ = some (.slice A0 n0 c0) := b_40.cell 0
  have x_45 : w5.cell? ⟨w.heap.size, 1, none⟩ = some (.slice B0 m0 d0) := b_40.cell 1
  clear hb5
  have rw_46 := oR5_0.rw_
  clear s0_37
  clear s1_38
  clear s2_39
  go_wp2_with fail
  refine (toNetw_any _ _ _ _ _ _ _ _ _ (nV0.below hB_41) hn0 hm0).mono ?_
  rintro e w6 ⟨A6, c6, B6, d6, rfl, oN6, hb6⟩
  have w0_47 := oR5_0.below hb6
  clear oR5_0
  have b_48 := b_40.belowA hb6
  have hB_49 := bthen hB_41 hb6 hB_41.size
  clear hB_41
  have sz_50 : w5.heap.size ≤ w6.heap.size := hb6.size
  clear b_40
  clear x_43 x_44 x_45
  have x_51 := b_48.lt
  have x_52 : w6.cell? ⟨w.heap.size, 0, none⟩ = some (.slice A0 n0 c0) := b_48.cell 0
  have x_53 : w6.cell? ⟨w.heap.size, 1, none⟩ = some (.slice B0 m0 d0) := b_48.cell 1
  clear hb6
  have rw_54 := oN6.nodes.1.rw_
  have rw_55 := oN6.pipes.1.rw_
  have ap_56 := ap_of oN6.pipes.1.1 oN6.nodes.1.1 (by decide)
  have hb7 : Below w6.heap.size w6 (w6.alloc (.cells #[.slice A6 n0 c6, .slice B6 m0 d6] 33)) := (Below.refl _ _).alloc (Nat.le_refl _) _
  have b_57 := box_new w6 #[.slice A6 n0 c6, .slice B6 m0 d6] 33
  have sz_58 : w6.heap.size + 1 ≤ (w6.alloc (.cells #[.slice A6 n0 c6, .slice B6 m0 d6] 33)).heap.size := by simp
  have w0_59 := w0_47.below hb7
  clear w0_47
  have x0_60 := oN6.below hb7
  clear oN6
  have b_61 := b_48.belowA hb7
  have hB_62 := bthen hB_49 hb7 hB_49.size
  clear hB_49
  have sz_63 : w6.heap.size ≤ (w6.alloc (.cells #[.slice A6 n0 c6, .slice B6 m0 d6] 33)).heap.size := hb7.size
  clear hb7
  go_wp2_with fail
  generalize (w6.alloc (.cells #[.slice A6 n0 c6, .slice B6 m0 d6] 33)) = w7 at *
  clear b_48
  clear x_51 x_52 x_53
  have x_64 := b_61.lt
  have x_65 : w7.cell? ⟨w.heap.size, 0, none⟩ = some (.slice A0 n0 c0) := b_61.cell 0
  have x_66 : w7.cell? ⟨w.heap.size, 1, none⟩ = some (.slice B0 m0 d0) := b_61.cell 1
  have x_67 := b_57.lt
  have x_68 : w7.cell? ⟨w6.heap.size, 0, none⟩ = some (.slice A6 n0 c6) := b_57.cell 0
  have x_69 : w7.cell? ⟨w6.heap.size, 1, none⟩ = some (.slice B6 m0 d6) := b_57.cell 1
  refine (toInts_any _ _ _ _ _ (iV1.below hB_62) hl1).mono ?_
  rintro e w8 ⟨Z8, f8, rfl, oI8, hb8⟩
  have w0_70 := w0_59.below hb8
  clear w0_59
  have x0_71 := x0_60.below hb8
  clear x0_60
  have b_72 := b_61.belowA hb8
  have b_73 := b_57.belowA hb8
  have hB_74 := bthen hB_62 hb8 hB_62.size
  clear hB_62
  have sz_75 : w7.heap.size ≤ w8.heap.size := hb8.size
  clear b_61
  clear b_57
  clear x_64 x_65 x_66 x_67 x_68 x_69
  have x_76 := b_72.lt
  have x_77 : w8.cell? ⟨w.heap.size, 0, none⟩ = some (.slice A0 n0 c0) := b_72.cell 0
  have x_78 : w8.cell? ⟨w.heap.size, 1, none⟩ = some (.slice B0 m0 d0) := b_72.cell 1
  have x_79 := b_73.lt
  have x_80 : w8.cell? ⟨w6.heap.size, 0, none⟩ = some (.slice A6 n0 c6) := b_73.cell 0
  have x_81 : w8.cell? ⟨w6.heap.size, 1, none⟩ = some (.slice B6 m0 d6) := b_73.cell 1
  clear hb8
  have rw_82 := oI8.rw_
  go_wp2_with fail
  refine (toInts_any _ _ _ _ _ (iV2.below hB_74) hl2).mono ?_
  rintro e w9 ⟨Z9, f9, rfl, oI9, hb9⟩
  have w0_83 := w0_70.below hb9
  clear w0_70
  have x0_84 := x0_71.below hb9
  clear x0_71
  have x1_85 := oI8.below hb9
  clear oI8
  have b_86 := b_72.belowA hb9
  have b_87 := b_73.belowA hb9
  have hB_88 := bthen hB_74 hb9 hB_74.size
  clear hB_74
  have sz_89 : w8.heap.size ≤ w9.heap.size := hb9.size
  clear b_72
  clear b_73
  clear x_76 x_77 x_78 x_79 x_80 x_81
  have x_90 := b_86.lt
  have x_91 : w9.cell? ⟨w.heap.size, 0, none⟩ = some (.slice A0 n0 c0) := b_86.cell 0
  have x_92 : w9.cell? ⟨w.heap.size, 1, none⟩ = some (.slice B0 m0 d0) := b_86.cell 1
  have x_93 := b_87.lt
  have x_94 : w9.cell? ⟨w6.heap.size, 0, none⟩ = some (.slice A6 n0 c6) := b_87.cell 0
  have x_95 : w9.cell? ⟨w6.heap.size, 1, none⟩ = some (.slice B6 m0 d6) := b_87.cell 1
  clear hb9
  have rw_96 := oI9.rw_
  go_wp2_with fail
  refine (settled_any _ _ _ _ _ _ _ _ _ _ ns0 ps0 zs1 zs2 _ x0_84.reads x1_85.ints oI9.ints hl1 hl2).mono ?_
  rintro e w10 ⟨A10_0, c10_0, rfl, oR10_0, hb10⟩
  have w0_97 := w0_83.below hb10
  clear w0_83
  have x0_98 := x0_84.below hb10
  clear x0_84
  have x1_99 := x1_85.below hb10
  clear x1_85
  have x2_100 := oI9.below hb10
  clear oI9
  have b_101 := b_86.belowA hb10
  have b_102 := b_87.belowA hb10
  have hB_103 := bthen hB_88 hb10 hB_88.size
  clear hB_88
  have sz_104 : w9.heap.size ≤ w10.heap.size := hb10.size
  clear b_86
  clear b_87
  clear x_90 x_91 x_92 x_93 x_94 x_95
  have x_105 := b_101.lt
  have x_106 : w10.cell? ⟨w.heap.size, 0, none⟩ = some (.slice A0 n0 c0) := b_101.cell 0
  have x_107 : w10.cell? ⟨w.heap.size, 1, none⟩ = some (.slice B0 m0 d0) := b_101.cell 1
  have x_108 := b_102.lt
  have x_109 : w10.cell? ⟨w6.heap.size, 0, none⟩ = some (.slice A6 n0 c6) := b_102.cell 0
  have x_110 : w10.cell? ⟨w6.heap.size, 1, none⟩ = some (.slice B6 m0 d6) := b_102.cell 1
  clear hb10
  have rw_111 := oR10_0.rw_
  go_wp2_with fail
  refine (eqInts_any _ _ _ _ _ _ _ _ _ oR10_0.ints w0_97.ints hr0).mono ?_
  rintro e w11 ⟨rfl, hq11⟩
  have hb11 := hq11.below w10.heap.size
  have w0_112 := w0_97.below hb11
  clear w0_97
  have x0_113 := x0_98.below hb11
  clear x0_98
  have x1_114 := x1_99.below hb11
  clear x1_99
  have x2_115 := x2_100.below hb11
  clear x2_100
  have g0_116 := oR10_0.below hb11
  clear oR10_0
  have b_117 := b_101.belowA hb11
  have b_118 := b_102.belowA hb11
  have hB_119 := bthen hB_103 hb11 hB_103.size
  clear hB_103
  have sz_120 : w10.heap.size ≤ w11.heap.size := hb11.size
  clear b_101
  clear b_102
  clear x_105 x_106 x_107 x_108 x_109 x_110
  have x_121 := b_117.lt
  have x_122 : w11.cell? ⟨w.heap.size, 0, none⟩ = some (.slice A0 n0 c0) := b_117.cell 0
  have x_123 : w11.cell? ⟨w.heap.size, 1, none⟩ = some (.slice B0 m0 d0) := b_117.cell 1
  have x_124 := b_118.lt
  have x_125 : w11.cell? ⟨w6.heap.size, 0, none⟩ = some (.slice A6 n0 c6) := b_118.cell 0
  have x_126 : w11.cell? ⟨w6.heap.size, 1, none⟩ = some (.slice B6 m0 d6) := b_118.cell 1
  clear hb11 hq11
  have kp_127 : Kept _ := ⟨w0_112⟩
  clear w0_112
  have kp_128 : Kept _ := ⟨x0_113⟩
  clear x0_113
  have kp_129 : Kept _ := ⟨x1_114⟩
  clear x1_114
  have kp_130 : Kept _ := ⟨x2_115⟩
  clear x2_115
  have kp_131 : Kept _ := ⟨g0_116⟩
  clear g0_116
  have kv_132 : Kept _ := ⟨nV0⟩
  clear nV0
  have kv_133 : Kept _ := ⟨iV1⟩
  clear iV1
  have kv_134 : Kept _ := ⟨iV2⟩
  clear iV2
  have kw_135 : Kept _ := ⟨hW⟩
  clear hW
  have kU : Kept (Below w11.heap.size w11 w11.drew) := ⟨(Below.refl _ _).drew⟩
  go_wp2_with fail
  go_region_held3 (fun w' => w.heap.size < w'.heap.size ∧ w6.heap.size < w'.heap.size ∧ w'.cell? ⟨w.heap.size, 0, none⟩ = some (.slice A0 n0 c0) ∧ w'.cell? ⟨w.heap.size, 1, none⟩ = some (.slice B0 m0 d0) ∧ w'.cell? ⟨w6.heap.size, 0, none⟩ = some (.slice A6 n0 c6) ∧ w'.cell? ⟨w6.heap.size, 1, none⟩ = some (.slice B6 m0 d6) ∧ Kept (Below w11.heap.size w11 w'))
    (first | (go_split_ands; refine ⟨by have := hbr.size; omega, by have := hbr.size; omega, ?_, ?_, ?_, ?_, ⟨bthen (Kept.out ‹Kept (Below _ _ _)›) hbr (Kept.out ‹Kept (Below _ _ _)›).size⟩⟩ <;> (rw [hbr.cell (by simp; omega)]; assumption)) | go_keep)
    (first | (go_at_call 16; go_split_ands; refine (toNetw_any _ _ _ _ _ _ _ _ _ ((kv_132.out.below hB_119).below (Kept.out ‹Kept (Below w11.heap.size _ _)›)) hn0 hm0).mono ?_; rintro e wr ⟨Ar, cr, Br, dr, rfl, oR, hbr⟩) | (go_at_call 19; go_split_ands; refine (eqNet_any _ _ _ _ _ _ _ _ _ _ _ _ ns0 ns0 ps0 ps0 _ (kp_128.out.reads.below (Kept.out ‹Kept (Below w11.heap.size _ _)›)).nodes (kp_128.out.reads.below (Kept.out ‹Kept (Below w11.heap.size _ _)›)).pipes oR.reads.nodes oR.reads.pipes hn0 hm0).mono ?_; rintro e wq12 ⟨be, hbe, rfl, hbr⟩; obtain rfl : be = true := hbe.2 ⟨rfl, rfl⟩; clear hbe))
  rename_i hh
  obtain ⟨_, _, _, _, _, _, ⟨hb12⟩⟩ := hh
  have w0_136 := kp_127.out
  clear kp_127
  have x0_137 := kp_128.out
  clear kp_128
  have x1_138 := kp_129.out
  clear kp_129
  have x2_139 := kp_130.out
  clear kp_130
  have g0_140 := kp_131.out
  clear kp_131
  have nV0 := kv_132.out
  clear kv_132
  have iV1 := kv_133.out
  clear kv_133
  have iV2 := kv_134.out
  clear kv_134
  have hW := kw_135.out
  clear kw_135
  clear kU
  have w0_141 := w0_136.below hb12
  clear w0_136
  have x0_142 := x0_137.below hb12
  clear x0_137
  have x1_143 := x1_138.below hb12
  clear x1_138
  have x2_144 := x2_139.below hb12
  clear x2_139
  have g0_145 := g0_140.below hb12
  clear g0_140
  have b_146 := b_117.belowA hb12
  have b_147 := b_118.belowA hb12
  have hB_148 := bthen hB_119 hb12 hB_119.size
  clear hB_119
  have sz_149 : w11.heap.size ≤ wq12.heap.size := hb12.size
  clear b_117
  clear b_118
  clear x_121 x_122 x_123 x_124 x_125 x_126
  have x_150 := b_146.lt
  have x_151 : wq12.cell? ⟨w.heap.size, 0, none⟩ = some (.slice A0 n0 c0) := b_146.cell 0
  have x_152 : wq12.cell? ⟨w.heap.size, 1, none⟩ = some (.slice B0 m0 d0) := b_146.cell 1
  have x_153 := b_147.lt
  have x_154 : wq12.cell? ⟨w6.heap.size, 0, none⟩ = some (.slice A6 n0 c6) := b_147.cell 0
  have x_155 : wq12.cell? ⟨w6.heap.size, 1, none⟩ = some (.slice B6 m0 d6) := b_147.cell 1
  clear hb12
  go_wp2_with fail
  refine (toInts_any _ _ _ _ _ (iV1.below hB_148) hl1).mono ?_
  rintro e w13 ⟨Z13, f13, rfl, oI13, hb13⟩
  have w0_156 := w0_141.below hb13
  clear w0_141
  have x0_157 := x0_142.below hb13
  clear x0_142
  have x1_158 := x1_143.below hb13
  clear x1_143
  have x2_159 := x2_144.below hb13
  clear x2_144
  have g0_160 := g0_145.below hb13
  clear g0_145
  have b_161 := b_146.belowA hb13
  have b_162 := b_147.belowA hb13
  have hB_163 := bthen hB_148 hb13 hB_148.size
  clear hB_148
  have sz_164 : wq12.heap.size ≤ w13.heap.size := hb13.size
  clear b_146
  clear b_147
  clear x_150 x_151 x_152 x_153 x_154 x_155
  have x_165 := b_161.lt
  have x_166 : w13.cell? ⟨w.heap.size, 0, none⟩ = some (.slice A0 n0 c0) := b_161.cell 0
  have x_167 : w13.cell? ⟨w.heap.size, 1, none⟩ = some (.slice B0 m0 d0) := b_161.cell 1
  have x_168 := b_162.lt
  have x_169 : w13.cell? ⟨w6.heap.size, 0, none⟩ = some (.slice A6 n0 c6) := b_162.cell 0
  have x_170 : w13.cell? ⟨w6.heap.size, 1, none⟩ = some (.slice B6 m0 d6) := b_162.cell 1
  clear hb13
  have rw_171 := oI13.rw_
  go_wp2_with fail
  refine (eqInts_any _ _ _ _ _ _ _ _ _ x1_158.ints oI13.ints hl1).mono ?_
  rintro e w14 ⟨rfl, hq14⟩
  have hb14 := hq14.below w13.heap.size
  have w0_172 := w0_156.below hb14
  clear w0_156
  have x0_173 := x0_157.below hb14
  clear x0_157
  have x1_174 := x1_158.below hb14
  clear x1_158
  have x2_175 := x2_159.below hb14
  clear x2_159
  have g0_176 := g0_160.below hb14
  clear g0_160
  have z1_177 := oI13.below hb14
  clear oI13
  have b_178 := b_161.belowA hb14
  have b_179 := b_162.belowA hb14
  have hB_180 := bthen hB_163 hb14 hB_163.size
  clear hB_163
  have sz_181 : w13.heap.size ≤ w14.heap.size := hb14.size
  clear b_161
  clear b_162
  clear x_165 x_166 x_167 x_168 x_169 x_170
  have x_182 := b_178.lt
  have x_183 : w14.cell? ⟨w.heap.size, 0, none⟩ = some (.slice A0 n0 c0) := b_178.cell 0
  have x_184 : w14.cell? ⟨w.heap.size, 1, none⟩ = some (.slice B0 m0 d0) := b_178.cell 1
  have x_185 := b_179.lt
  have x_186 : w14.cell? ⟨w6.heap.size, 0, none⟩ = some (.slice A6 n0 c6) := b_179.cell 0
  have x_187 : w14.cell? ⟨w6.heap.size, 1, none⟩ = some (.slice B6 m0 d6) := b_179.cell 1
  clear hb14 hq14
  clear z1_177
  go_wp2_with fail
  refine (toInts_any _ _ _ _ _ (iV2.below hB_180) hl2).mono ?_
  rintro e w15 ⟨Z15, f15, rfl, oI15, hb15⟩
  have w0_188 := w0_172.below hb15
  clear w0_172
  have x0_189 := x0_173.below hb15
  clear x0_173
  have x1_190 := x1_174.below hb15
  clear x1_174
  have x2_191 := x2_175.below hb15
  clear x2_175
  have g0_192 := g0_176.below hb15
  clear g0_176
  have b_193 := b_178.belowA hb15
  have b_194 := b_179.belowA hb15
  have hB_195 := bthen hB_180 hb15 hB_180.size
  clear hB_180
  have sz_196 : w14.heap.size ≤ w15.heap.size := hb15.size
  clear b_178
  clear b_179
  clear x_182 x_183 x_184 x_185 x_186 x_187
  have x_197 := b_193.lt
  have x_198 : w15.cell? ⟨w.heap.size, 0, none⟩ = some (.slice A0 n0 c0) := b_193.cell 0
  have x_199 : w15.cell? ⟨w.heap.size, 1, none⟩ = some (.slice B0 m0 d0) := b_193.cell 1
  have x_200 := b_194.lt
  have x_201 : w15.cell? ⟨w6.heap.size, 0, none⟩ = some (.slice A6 n0 c6) := b_194.cell 0
  have x_202 : w15.cell? ⟨w6.heap.size, 1, none⟩ = some (.slice B6 m0 d6) := b_194.cell 1
  clear hb15
  have rw_203 := oI15.rw_
  go_wp2_with fail
  refine (eqInts_any _ _ _ _ _ _ _ _ _ x2_191.ints oI15.ints hl2).mono ?_
  rintro e w16 ⟨rfl, hq16⟩
  have hb16 := hq16.below w15.heap.size
  have w0_204 := w0_188.below hb16
  clear w0_188
  have x0_205 := x0_189.below hb16
  clear x0_189
  have x1_206 := x1_190.below hb16
  clear x1_190
  have x2_207 := x2_191.below hb16
  clear x2_191
  have g0_208 := g0_192.below hb16
  clear g0_192
  have z2_209 := oI15.below hb16
  clear oI15
  have b_210 := b_193.belowA hb16
  have b_211 := b_194.belowA hb16
  have hB_212 := bthen hB_195 hb16 hB_195.size
  clear hB_195
  have sz_213 : w15.heap.size ≤ w16.heap.size := hb16.size
  clear b_193
  clear b_194
  clear x_197 x_198 x_199 x_200 x_201 x_202
  have x_214 := b_210.lt
  have x_215 : w16.cell? ⟨w.heap.size, 0, none⟩ = some (.slice A0 n0 c0) := b_210.cell 0
  have x_216 : w16.cell? ⟨w.heap.size, 1, none⟩ = some (.slice B0 m0 d0) := b_210.cell 1
  have x_217 := b_211.lt
  have x_218 : w16.cell? ⟨w6.heap.size, 0, none⟩ = some (.slice A6 n0 c6) := b_211.cell 0
  have x_219 : w16.cell? ⟨w6.heap.size, 1, none⟩ = some (.slice B6 m0 d6) := b_211.cell 1
  clear hb16 hq16
  clear z2_209
  go_wp2_with fail
  refine (markNet1_any _ _ _ _ _ _ _ _ _ _ _ x0_205.nodes.1 x0_205.pipes.1 hn0 hm0).mono ?_
  rintro e w17 ⟨rfl, mN17, mP17, u17, hg17, hh17⟩
  clear x0_205
  have w0_220 := w0_204.grown hg17 (rw_apart rw_46 rw_54 (by omega))
  clear w0_204
  have x1_221 := x1_206.grown hg17 (rw_apart rw_82 rw_54 (by omega))
  clear x1_206
  have x2_222 := x2_207.grown hg17 (rw_apart rw_96 rw_54 (by omega))
  clear x2_207
  have g0_223 := g0_208.grown hg17 (rw_apart rw_111 rw_54 (by omega))
  clear g0_208
  have b_224 := b_210.grown hg17 (rw_box rw_54 (by omega))
  have b_225 := b_211.grown hg17 (rw_box rw_54 (by omega))
  have hB_226 := hB_212.grown hg17 hB_212.size (rw_ge rw_54 (by omega))
  clear hB_212
  have sz_227 : w16.heap.size ≤ u17.heap.size := hg17.size
  clear b_210
  clear b_211
  have w0_228 := w0_220.grown hh17 (rw_apart rw_46 rw_55 (by omega))
  clear w0_220
  have x1_229 := x1_221.grown hh17 (rw_apart rw_82 rw_55 (by omega))
  clear x1_221
  have x2_230 := x2_222.grown hh17 (rw_apart rw_96 rw_55 (by omega))
  clear x2_222
  have g0_231 := g0_223.grown hh17 (rw_apart rw_111 rw_55 (by omega))
  clear g0_223
  have b_232 := b_224.grown hh17 (rw_box rw_55 (by omega))
  have b_233 := b_225.grown hh17 (rw_box rw_55 (by omega))
  have hB_234 := hB_226.grown hh17 hB_226.size (rw_ge rw_55 (by omega))
  clear hB_226
  have sz_235 : u17.heap.size ≤ w17.heap.size := hh17.size
  clear b_224
  clear b_225
  clear x_214 x_215 x_216 x_217 x_218 x_219
  have x_236 := b_232.lt
  have x_237 : w17.cell? ⟨w.heap.size, 0, none⟩ = some (.slice A0 n0 c0) := b_232.cell 0
  have x_238 : w17.cell? ⟨w.heap.size, 1, none⟩ = some (.slice B0 m0 d0) := b_232.cell 1
  have x_239 := b_233.lt
  have x_240 : w17.cell? ⟨w6.heap.size, 0, none⟩ = some (.slice A6 n0 c6) := b_233.cell 0
  have x_241 : w17.cell? ⟨w6.heap.size, 1, none⟩ = some (.slice B6 m0 d6) := b_233.cell 1
  clear hg17 hh17
  go_wp2_with fail
  refine (markInts_any _ _ _ _ _ _ _ x1_229 hl1 (by omega) (by omega)).mono ?_
  rintro e w18 ⟨rfl, mI18, hg18⟩
  clear x1_229
  have w0_242 := w0_228.grown hg18 (rw_apart rw_46 rw_82 (by omega))
  clear w0_228
  have x0_243 := mN17.grown hg18 (rw_apart rw_54 rw_82 (by omega))
  clear mN17
  have x0_244 := mP17.grown hg18 (rw_apart rw_55 rw_82 (by omega))
  clear mP17
  have x2_245 := x2_230.grown hg18 (rw_apart rw_96 rw_82 (by omega))
  clear x2_230
  have g0_246 := g0_231.grown hg18 (rw_apart rw_111 rw_82 (by omega))
  clear g0_231
  have b_247 := b_232.grown hg18 (rw_box rw_82 (by omega))
  have b_248 := b_233.grown hg18 (rw_box rw_82 (by omega))
  have hB_249 := hB_234.grown hg18 hB_234.size (rw_ge rw_82 (by omega))
  clear hB_234
  have sz_250 : w17.heap.size ≤ w18.heap.size := hg18.size
  clear b_232
  clear b_233
  clear x_236 x_237 x_238 x_239 x_240 x_241
  have x_251 := b_247.lt
  have x_252 : w18.cell? ⟨w.heap.size, 0, none⟩ = some (.slice A0 n0 c0) := b_247.cell 0
  have x_253 : w18.cell? ⟨w.heap.size, 1, none⟩ = some (.slice B0 m0 d0) := b_247.cell 1
  have x_254 := b_248.lt
  have x_255 : w18.cell? ⟨w6.heap.size, 0, none⟩ = some (.slice A6 n0 c6) := b_248.cell 0
  have x_256 : w18.cell? ⟨w6.heap.size, 1, none⟩ = some (.slice B6 m0 d6) := b_248.cell 1
  clear hg18
  go_wp2_with fail
  refine (markInts_any _ _ _ _ _ _ _ x2_245 hl2 (by omega) (by omega)).mono ?_
  rintro e w19 ⟨rfl, mI19, hg19⟩
  clear x2_245
  have w0_257 := w0_242.grown hg19 (rw_apart rw_46 rw_96 (by omega))
  clear w0_242
  have x0_258 := x0_243.grown hg19 (rw_apart rw_54 rw_96 (by omega))
  clear x0_243
  have x0_259 := x0_244.grown hg19 (rw_apart rw_55 rw_96 (by omega))
  clear x0_244
  have x1_260 := mI18.grown hg19 (rw_apart rw_82 rw_96 (by omega))
  clear mI18
  have g0_261 := g0_246.grown hg19 (rw_apart rw_111 rw_96 (by omega))
  clear g0_246
  have b_262 := b_247.grown hg19 (rw_box rw_96 (by omega))
  have b_263 := b_248.grown hg19 (rw_box rw_96 (by omega))
  have hB_264 := hB_249.grown hg19 hB_249.size (rw_ge rw_96 (by omega))
  clear hB_249
  have sz_265 : w18.heap.size ≤ w19.heap.size := hg19.size
  clear b_247
  clear b_248
  clear x_251 x_252 x_253 x_254 x_255 x_256
  have x_266 := b_262.lt
  have x_267 : w19.cell? ⟨w.heap.size, 0, none⟩ = some (.slice A0 n0 c0) := b_262.cell 0
  have x_268 : w19.cell? ⟨w.heap.size, 1, none⟩ = some (.slice B0 m0 d0) := b_262.cell 1
  have x_269 := b_263.lt
  have x_270 : w19.cell? ⟨w6.heap.size, 0, none⟩ = some (.slice A6 n0 c6) := b_263.cell 0
  have x_271 : w19.cell? ⟨w6.heap.size, 1, none⟩ = some (.slice B6 m0 d6) := b_263.cell 1
  clear hg19
  go_wp2_with fail
  refine (eqInts_any _ _ _ _ _ _ _ _ _ g0_261.ints w0_257.ints hr0).mono ?_
  rintro e w20 ⟨rfl, hq20⟩
  have hb20 := hq20.below w19.heap.size
  have w0_272 := w0_257.below hb20
  clear w0_257
  have x0_273 := x0_258.below hb20
  clear x0_258
  have x0_274 := x0_259.below hb20
  clear x0_259
  have x1_275 := x1_260.below hb20
  clear x1_260
  have x2_276 := mI19.below hb20
  clear mI19
  have g0_277 := g0_261.below hb20
  clear g0_261
  have b_278 := b_262.belowA hb20
  have b_279 := b_263.belowA hb20
  have hB_280 := bthen hB_264 hb20 hB_264.size
  clear hB_264
  have sz_281 : w19.heap.size ≤ w20.heap.size := hb20.size
  clear b_262
  clear b_263
  clear x_266 x_267 x_268 x_269 x_270 x_271
  have x_282 := b_278.lt
  have x_283 : w20.cell? ⟨w.heap.size, 0, none⟩ = some (.slice A0 n0 c0) := b_278.cell 0
  have x_284 : w20.cell? ⟨w.heap.size, 1, none⟩ = some (.slice B0 m0 d0) := b_278.cell 1
  have x_285 := b_279.lt
  have x_286 : w20.cell? ⟨w6.heap.size, 0, none⟩ = some (.slice A6 n0 c6) := b_279.cell 0
  have x_287 : w20.cell? ⟨w6.heap.size, 1, none⟩ = some (.slice B6 m0 d6) := b_279.cell 1
  clear hb20 hq20
  go_wp2_with fail
  refine (markInts_any _ _ _ _ _ _ _ g0_277 hr0 (by omega) (by omega)).mono ?_
  rintro e w21 ⟨rfl, mI21, hg21⟩
  clear g0_277
  have w0_288 := w0_272.grown hg21 (rw_apart rw_46 rw_111 (by omega))
  clear w0_272
  have x0_289 := x0_273.grown hg21 (rw_apart rw_54 rw_111 (by omega))
  clear x0_273
  have x0_290 := x0_274.grown hg21 (rw_apart rw_55 rw_111 (by omega))
  clear x0_274
  have x1_291 := x1_275.grown hg21 (rw_apart rw_82 rw_111 (by omega))
  clear x1_275
  have x2_292 := x2_276.grown hg21 (rw_apart rw_96 rw_111 (by omega))
  clear x2_276
  have b_293 := b_278.grown hg21 (rw_box rw_111 (by omega))
  have b_294 := b_279.grown hg21 (rw_box rw_111 (by omega))
  have hB_295 := hB_280.grown hg21 hB_280.size (rw_ge rw_111 (by omega))
  clear hB_280
  have sz_296 : w20.heap.size ≤ w21.heap.size := hg21.size
  clear b_278
  clear b_279
  clear x_282 x_283 x_284 x_285 x_286 x_287
  have x_297 := b_293.lt
  have x_298 : w21.cell? ⟨w.heap.size, 0, none⟩ = some (.slice A0 n0 c0) := b_293.cell 0
  have x_299 : w21.cell? ⟨w.heap.size, 1, none⟩ = some (.slice B0 m0 d0) := b_293.cell 1
  have x_300 := b_294.lt
  have x_301 : w21.cell? ⟨w6.heap.size, 0, none⟩ = some (.slice A6 n0 c6) := b_294.cell 0
  have x_302 : w21.cell? ⟨w6.heap.size, 1, none⟩ = some (.slice B6 m0 d6) := b_294.cell 1
  clear hg21
  go_wp2_with fail
  refine (heldInts_any _ _ _ _ _ mI21.ints hr0 (by omega) (by omega)).mono ?_
  rintro e w' ⟨rfl, rfl⟩
  go_wp2_with fail
  refine (toNetw_any _ _ _ _ _ _ _ _ _ (nV0.below hB_295) hn0 hm0).mono ?_
  rintro e w22 ⟨A22, c22, B22, d22, rfl, oN22, hb22⟩
  have w0_303 := w0_288.below hb22
  clear w0_288
  have x0_304 := x0_289.below hb22
  clear x0_289
  have x0_305 := x0_290.below hb22
  clear x0_290
  have x1_306 := x1_291.below hb22
  clear x1_291
  have x2_307 := x2_292.below hb22
  clear x2_292
  have g0_308 := mI21.below hb22
  clear mI21
  have b_309 := b_293.belowA hb22
  have b_310 := b_294.belowA hb22
  have hB_311 := bthen hB_295 hb22 hB_295.size
  clear hB_295
  have sz_312 : w21.heap.size ≤ w22.heap.size := hb22.size
  clear b_293
  clear b_294
  clear x_297 x_298 x_299 x_300 x_301 x_302
  have x_313 := b_309.lt
  have x_314 : w22.cell? ⟨w.heap.size, 0, none⟩ = some (.slice A0 n0 c0) := b_309.cell 0
  have x_315 : w22.cell? ⟨w.heap.size, 1, none⟩ = some (.slice B0 m0 d0) := b_309.cell 1
  have x_316 := b_310.lt
  have x_317 : w22.cell? ⟨w6.heap.size, 0, none⟩ = some (.slice A6 n0 c6) := b_310.cell 0
  have x_318 : w22.cell? ⟨w6.heap.size, 1, none⟩ = some (.slice B6 m0 d6) := b_310.cell 1
  clear hb22
  have rw_319 := oN22.nodes.1.rw_
  have rw_320 := oN22.pipes.1.rw_
  have ap_321 := ap_of oN22.pipes.1.1 oN22.nodes.1.1 (by decide)
  go_wp2_with fail
  refine (toInts_any _ _ _ _ _ (iV1.below hB_311) hl1).mono ?_
  rintro e w23 ⟨Z23, f23, rfl, oI23, hb23⟩
  have w0_322 := w0_303.below hb23
  clear w0_303
  have x0_323 := x0_304.below hb23
  clear x0_304
  have x0_324 := x0_305.below hb23
  clear x0_305
  have x1_325 := x1_306.below hb23
  clear x1_306
  have x2_326 := x2_307.below hb23
  clear x2_307
  have g0_327 := g0_308.below hb23
  clear g0_308
  have y0_328 := oN22.below hb23
  clear oN22
  have b_329 := b_309.belowA hb23
  have b_330 := b_310.belowA hb23
  have hB_331 := bthen hB_311 hb23 hB_311.size
  clear hB_311
  have sz_332 : w22.heap.size ≤ w23.heap.size := hb23.size
  clear b_309
  clear b_310
  clear x_313 x_314 x_315 x_316 x_317 x_318
  have x_333 := b_329.lt
  have x_334 : w23.cell? ⟨w.heap.size, 0, none⟩ = some (.slice A0 n0 c0) := b_329.cell 0
  have x_335 : w23.cell? ⟨w.heap.size, 1, none⟩ = some (.slice B0 m0 d0) := b_329.cell 1
  have x_336 := b_330.lt
  have x_337 : w23.cell? ⟨w6.heap.size, 0, none⟩ = some (.slice A6 n0 c6) := b_330.cell 0
  have x_338 : w23.cell? ⟨w6.heap.size, 1, none⟩ = some (.slice B6 m0 d6) := b_330.cell 1
  clear hb23
  have rw_339 := oI23.rw_
  go_wp2_with fail
  refine (toInts_any _ _ _ _ _ (iV2.below hB_331) hl2).mono ?_
  rintro e w24 ⟨Z24, f24, rfl, oI24, hb24⟩
  have w0_340 := w0_322.below hb24
  clear w0_322
  have x0_341 := x0_323.below hb24
  clear x0_323
  have x0_342 := x0_324.below hb24
  clear x0_324
  have x1_343 := x1_325.below hb24
  clear x1_325
  have x2_344 := x2_326.below hb24
  clear x2_326
  have g0_345 := g0_327.below hb24
  clear g0_327
  have y0_346 := y0_328.below hb24
  clear y0_328
  have y1_347 := oI23.below hb24
  clear oI23
  have b_348 := b_329.belowA hb24
  have b_349 := b_330.belowA hb24
  have hB_350 := bthen hB_331 hb24 hB_331.size
  clear hB_331
  have sz_351 : w23.heap.size ≤ w24.heap.size := hb24.size
  clear b_329
  clear b_330
  clear x_333 x_334 x_335 x_336 x_337 x_338
  have x_352 := b_348.lt
  have x_353 : w24.cell? ⟨w.heap.size, 0, none⟩ = some (.slice A0 n0 c0) := b_348.cell 0
  have x_354 : w24.cell? ⟨w.heap.size, 1, none⟩ = some (.slice B0 m0 d0) := b_348.cell 1
  have x_355 := b_349.lt
  have x_356 : w24.cell? ⟨w6.heap.size, 0, none⟩ = some (.slice A6 n0 c6) := b_349.cell 0
  have x_357 : w24.cell? ⟨w6.heap.size, 1, none⟩ = some (.slice B6 m0 d6) := b_349.cell 1
  clear hb24
  have rw_358 := oI24.rw_
  go_wp2_with fail
  refine (settled_any _ _ _ _ _ _ _ _ _ _ ns0 ps0 zs1 zs2 _ y0_346.reads y1_347.ints oI24.ints hl1 hl2).mono ?_
  rintro e w25 ⟨A25_0, c25_0, rfl, oR25_0, hb25⟩
  have w0_359 := w0_340.below hb25
  clear w0_340
  have x0_360 := x0_341.below hb25
  clear x0_341
  have x0_361 := x0_342.below hb25
  clear x0_342
  have x1_362 := x1_343.below hb25
  clear x1_343
  have x2_363 := x2_344.below hb25
  clear x2_344
  have g0_364 := g0_345.below hb25
  clear g0_345
  have y0_365 := y0_346.below hb25
  clear y0_346
  have y1_366 := y1_347.below hb25
  clear y1_347
  have y2_367 := oI24.below hb25
  clear oI24
  have b_368 := b_348.belowA hb25
  have b_369 := b_349.belowA hb25
  have hB_370 := bthen hB_350 hb25 hB_350.size
  clear hB_350
  have sz_371 : w24.heap.size ≤ w25.heap.size := hb25.size
  clear b_348
  clear b_349
  clear x_352 x_353 x_354 x_355 x_356 x_357
  have x_372 := b_368.lt
  have x_373 : w25.cell? ⟨w.heap.size, 0, none⟩ = some (.slice A0 n0 c0) := b_368.cell 0
  have x_374 : w25.cell? ⟨w.heap.size, 1, none⟩ = some (.slice B0 m0 d0) := b_368.cell 1
  have x_375 := b_369.lt
  have x_376 : w25.cell? ⟨w6.heap.size, 0, none⟩ = some (.slice A6 n0 c6) := b_369.cell 0
  have x_377 : w25.cell? ⟨w6.heap.size, 1, none⟩ = some (.slice B6 m0 d6) := b_369.cell 1
  clear hb25
  have rw_378 := oR25_0.rw_
  clear y0_365
  clear y1_366
  clear y2_367
  go_wp2_with fail
  refine (eqInts_any _ _ _ _ _ _ _ _ _ oR25_0.ints w0_359.ints hr0).mono ?_
  rintro e w26 ⟨rfl, hq26⟩
  have hb26 := hq26.below w25.heap.size
  have w0_379 := w0_359.below hb26
  clear w0_359
  have x0_380 := x0_360.below hb26
  clear x0_360
  have x0_381 := x0_361.below hb26
  clear x0_361
  have x1_382 := x1_362.below hb26
  clear x1_362
  have x2_383 := x2_363.below hb26
  clear x2_363
  have g0_384 := g0_364.below hb26
  clear g0_364
  have h0_385 := oR25_0.below hb26
  clear oR25_0
  have b_386 := b_368.belowA hb26
  have b_387 := b_369.belowA hb26
  have hB_388 := bthen hB_370 hb26 hB_370.size
  clear hB_370
  have sz_389 : w25.heap.size ≤ w26.heap.size := hb26.size
  clear b_368
  clear b_369
  clear x_372 x_373 x_374 x_375 x_376 x_377
  have x_390 := b_386.lt
  have x_391 : w26.cell? ⟨w.heap.size, 0, none⟩ = some (.slice A0 n0 c0) := b_386.cell 0
  have x_392 : w26.cell? ⟨w.heap.size, 1, none⟩ = some (.slice B0 m0 d0) := b_386.cell 1
  have x_393 := b_387.lt
  have x_394 : w26.cell? ⟨w6.heap.size, 0, none⟩ = some (.slice A6 n0 c6) := b_387.cell 0
  have x_395 : w26.cell? ⟨w6.heap.size, 1, none⟩ = some (.slice B6 m0 d6) := b_387.cell 1
  clear hb26 hq26
  go_wp2_with fail
  refine (heldInts_any _ _ _ _ _ g0_384.ints hr0 (by omega) (by omega)).mono ?_
  rintro e w' ⟨rfl, rfl⟩
  go_wp2_with fail
  go_ret
  exact ⟨rfl, bthen hW hB_388 hW.size⟩
end Go.Proofs.YtpgegfnhokhlmaaGreat
