/- The walk of the law on RelaxChord. No condition. -/
import Derived.Test.YtpgegfnhokhlmaaGreatRxc
import Derived.Test.YtpgegfnhokhlmaaGreatRxs
import Derived.Test.YtpgegfnhokhlmaaGreatKA
set_option linter.unusedVariables false
set_option maxRecDepth 100000
namespace Go.Proofs.YtpgegfnhokhlmaaGreat
open Go.RowKit Go.Joins Go.Deep
attribute [local go_sem ↓] Go.wp_at_zero Go.wp_at_succ

set_option maxHeartbeats 8000000 in
theorem law_FnExactRelaxChord (A0 : Option Addr) (n0 c0 : Nat) (ns0 : List Nd) (B0 : Option Addr) (m0 d0 : Nat) (ps0 : List Pp) (Z1 : Option Addr) (l1 e1 : Nat) (zs1 : List Int) (q2 : Int) (w : World) (h0 : IsNet w A0 n0 c0 ns0 B0 m0 d0 ps0) (h1 : Ints w Z1 l1 zs1 ∧ l1 ≤ e1 ∧ e1 ≤ maxLen) (h2 : I64 q2) :
    Calls Tryz.prog 4 #[.agg #[.slice A0 n0 c0, .slice B0 m0 d0], .slice Z1 l1 e1, .int .i64 q2] w fun e w' => e = .returned (.bool true) ∧ Below w.heap.size w w' := by
  obtain ⟨hz1, he1, hm_1⟩ := h1
  obtain rfl : zs1.length = l1 := hz1.len
  unfold maxLen at hm_1
  have bA_1 := box_new w #[.slice A0 n0 c0, .slice B0 m0 d0] 25
  have hW : Below w.heap.size w (w.alloc (.cells #[.slice A0 n0 c0, .slice B0 m0 d0] 25)) := by
    repeat (first | exact Below.refl _ _ | refine Below.alloc ?_ (by simp <;> omega) _)
  have nV0 := h0.below hW
  have iV1 := hz1.below hW
  by_cases hbig1 : (1048576 : Int) < zs1.length
  case pos =>
    go_enter Tryz.func4, Tryz.ntmps4
    go_wp2_with fail
    go_ret
    exact ⟨rfl, hW⟩
  have hl1 : zs1.length ≤ 1048576 := by omega
  go_enter Tryz.func4, Tryz.ntmps4
  go_wp2_with fail
  have hs0 : w.heap.size + 1 ≤ (w.alloc (.cells #[.slice A0 n0 c0, .slice B0 m0 d0] 25)).heap.size := by simp
  generalize (w.alloc (.cells #[.slice A0 n0 c0, .slice B0 m0 d0] 25)) = V at *
  have hB_0 : Below V.heap.size V V := Below.refl _ _
  have x_2 := bA_1.lt
  have x_3 : V.cell? ⟨w.heap.size, 0, none⟩ = some (.slice A0 n0 c0) := bA_1.cell 0
  have x_4 : V.cell? ⟨w.heap.size, 1, none⟩ = some (.slice B0 m0 d0) := bA_1.cell 1
  refine (szNet_any _ _ _ _ _ _ ns0 _ _ (nV0.below hB_0).nodes (Nat.le_trans h0.capA.1 h0.capA.2) (Nat.le_trans h0.capB.1 h0.capB.2) (by omega) (by omega)).mono ?_
  rintro e w1 ⟨left0, rfl, hleft0, hb1⟩
  have b_5 := bA_1.belowA hb1
  have hB_6 := bthen hB_0 hb1 hB_0.size
  clear hB_0
  have sz_7 : V.heap.size ≤ w1.heap.size := hb1.size
  clear bA_1
  clear x_2 x_3 x_4
  have x_8 := b_5.lt
  have x_9 : w1.cell? ⟨w.heap.size, 0, none⟩ = some (.slice A0 n0 c0) := b_5.cell 0
  have x_10 : w1.cell? ⟨w.heap.size, 1, none⟩ = some (.slice B0 m0 d0) := b_5.cell 1
  clear hb1
  rcases hleft0 with rfl | ⟨hl0_0, hl1_0⟩
  · go_wp2_with fail
    go_ret
    exact ⟨rfl, bthen hW hB_6 hW.size⟩
  have hn0 : n0 ≤ 1048576 := by omega
  have hm0 : m0 ≤ 1048576 := by omega
  have hr0 : (rxL ns0 ps0 n0 m0 zs1 q2).length ≤ 1048576 := by unfold rxL; split <;> simp [addL_len] <;> omega
  go_wp2_with fail
  refine (toNetw_any _ _ _ _ _ _ _ _ _ (nV0.below hB_6) hn0 hm0).mono ?_
  rintro e w2 ⟨A2, c2, B2, d2, rfl, oN2, hb2⟩
  have b_11 := b_5.belowA hb2
  have hB_12 := bthen hB_6 hb2 hB_6.size
  clear hB_6
  have sz_13 : w1.heap.size ≤ w2.heap.size := hb2.size
  clear b_5
  clear x_8 x_9 x_10
  have x_14 := b_11.lt
  have x_15 : w2.cell? ⟨w.heap.size, 0, none⟩ = some (.slice A0 n0 c0) := b_11.cell 0
  have x_16 : w2.cell? ⟨w.heap.size, 1, none⟩ = some (.slice B0 m0 d0) := b_11.cell 1
  clear hb2
  have rw_17 := oN2.nodes.1.rw_
  have rw_18 := oN2.pipes.1.rw_
  have ap_19 := ap_of oN2.pipes.1.1 oN2.nodes.1.1 (by decide)
  go_wp2_with fail
  refine (toInts_any _ _ _ _ _ (iV1.below hB_12) hl1).mono ?_
  rintro e w3 ⟨Z3, f3, rfl, oI3, hb3⟩
  have s0_20 := oN2.below hb3
  clear oN2
  have b_21 := b_11.belowA hb3
  have hB_22 := bthen hB_12 hb3 hB_12.size
  clear hB_12
  have sz_23 : w2.heap.size ≤ w3.heap.size := hb3.size
  clear b_11
  clear x_14 x_15 x_16
  have x_24 := b_21.lt
  have x_25 : w3.cell? ⟨w.heap.size, 0, none⟩ = some (.slice A0 n0 c0) := b_21.cell 0
  have x_26 : w3.cell? ⟨w.heap.size, 1, none⟩ = some (.slice B0 m0 d0) := b_21.cell 1
  clear hb3
  have rw_27 := oI3.rw_
  go_wp2_with fail
  refine (sRxc_any _ _ _ _ _ _ _ _ _ q2 zs1 ns0 ps0 _ s0_20.reads oI3.ints hl1).mono ?_
  rintro e w4 ⟨A4_0, c4_0, rfl, oR4_0, hb4⟩
  have s0_28 := s0_20.below hb4
  clear s0_20
  have s1_29 := oI3.below hb4
  clear oI3
  have b_30 := b_21.belowA hb4
  have hB_31 := bthen hB_22 hb4 hB_22.size
  clear hB_22
  have sz_32 : w3.heap.size ≤ w4.heap.size := hb4.size
  clear b_21
  clear x_24 x_25 x_26
  have x_33 := b_30.lt
  have x_34 : w4.cell? ⟨w.heap.size, 0, none⟩ = some (.slice A0 n0 c0) := b_30.cell 0
  have x_35 : w4.cell? ⟨w.heap.size, 1, none⟩ = some (.slice B0 m0 d0) := b_30.cell 1
  clear hb4
  have rw_36 := oR4_0.rw_
  clear s0_28
  clear s1_29
  go_wp2_with fail
  refine (toNetw_any _ _ _ _ _ _ _ _ _ (nV0.below hB_31) hn0 hm0).mono ?_
  rintro e w5 ⟨A5, c5, B5, d5, rfl, oN5, hb5⟩
  have w0_37 := oR4_0.below hb5
  clear oR4_0
  have b_38 := b_30.belowA hb5
  have hB_39 := bthen hB_31 hb5 hB_31.size
  clear hB_31
  have sz_40 : w4.heap.size ≤ w5.heap.size := hb5.size
  clear b_30
  clear x_33 x_34 x_35
  have x_41 := b_38.lt
  have x_42 : w5.cell? ⟨w.heap.size, 0, none⟩ = some (.slice A0 n0 c0) := b_38.cell 0
  have x_43 : w5.cell? ⟨w.heap.size, 1, none⟩ = some (.slice B0 m0 d0) := b_38.cell 1
  clear hb5
  have rw_44 := oN5.nodes.1.rw_
  have rw_45 := oN5.pipes.1.rw_
  have ap_46 := ap_of oN5.pipes.1.1 oN5.nodes.1.1 (by decide)
  have hb6 : Below w5.heap.size w5 (w5.alloc (.cells #[.slice A5 n0 c5, .slice B5 m0 d5] 33)) := (Below.refl _ _).alloc (Nat.le_refl _) _
  have b_47 := box_new w5 #[.slice A5 n0 c5, .slice B5 m0 d5] 33
  have sz_48 : w5.heap.size + 1 ≤ (w5.alloc (.cells #[.slice A5 n0 c5, .slice B5 m0 d5] 33)).heap.size := by simp
  have w0_49 := w0_37.below hb6
  clear w0_37
  have x0_50 := oN5.below hb6
  clear oN5
  have b_51 := b_38.belowA hb6
  have hB_52 := bthen hB_39 hb6 hB_39.size
  clear hB_39
  have sz_53 : w5.heap.size ≤ (w5.alloc (.cells #[.slice A5 n0 c5, .slice B5 m0 d5] 33)).heap.size := hb6.size
  clear hb6
  go_wp2_with fail
  generalize (w5.alloc (.cells #[.slice A5 n0 c5, .slice B5 m0 d5] 33)) = w6 at *
  clear b_38
  clear x_41 x_42 x_43
  have x_54 := b_51.lt
  have x_55 : w6.cell? ⟨w.heap.size, 0, none⟩ = some (.slice A0 n0 c0) := b_51.cell 0
  have x_56 : w6.cell? ⟨w.heap.size, 1, none⟩ = some (.slice B0 m0 d0) := b_51.cell 1
  have x_57 := b_47.lt
  have x_58 : w6.cell? ⟨w5.heap.size, 0, none⟩ = some (.slice A5 n0 c5) := b_47.cell 0
  have x_59 : w6.cell? ⟨w5.heap.size, 1, none⟩ = some (.slice B5 m0 d5) := b_47.cell 1
  refine (toInts_any _ _ _ _ _ (iV1.below hB_52) hl1).mono ?_
  rintro e w7 ⟨Z7, f7, rfl, oI7, hb7⟩
  have w0_60 := w0_49.below hb7
  clear w0_49
  have x0_61 := x0_50.below hb7
  clear x0_50
  have b_62 := b_51.belowA hb7
  have b_63 := b_47.belowA hb7
  have hB_64 := bthen hB_52 hb7 hB_52.size
  clear hB_52
  have sz_65 : w6.heap.size ≤ w7.heap.size := hb7.size
  clear b_51
  clear b_47
  clear x_54 x_55 x_56 x_57 x_58 x_59
  have x_66 := b_62.lt
  have x_67 : w7.cell? ⟨w.heap.size, 0, none⟩ = some (.slice A0 n0 c0) := b_62.cell 0
  have x_68 : w7.cell? ⟨w.heap.size, 1, none⟩ = some (.slice B0 m0 d0) := b_62.cell 1
  have x_69 := b_63.lt
  have x_70 : w7.cell? ⟨w5.heap.size, 0, none⟩ = some (.slice A5 n0 c5) := b_63.cell 0
  have x_71 : w7.cell? ⟨w5.heap.size, 1, none⟩ = some (.slice B5 m0 d5) := b_63.cell 1
  clear hb7
  have rw_72 := oI7.rw_
  go_wp2_with fail
  refine (rxc_any _ _ _ _ _ _ _ _ _ q2 zs1 ns0 ps0 _ x0_61.reads oI7.ints hl1).mono ?_
  rintro e w8 ⟨A8_0, c8_0, rfl, oR8_0, hb8⟩
  have w0_73 := w0_60.below hb8
  clear w0_60
  have x0_74 := x0_61.below hb8
  clear x0_61
  have x1_75 := oI7.below hb8
  clear oI7
  have b_76 := b_62.belowA hb8
  have b_77 := b_63.belowA hb8
  have hB_78 := bthen hB_64 hb8 hB_64.size
  clear hB_64
  have sz_79 : w7.heap.size ≤ w8.heap.size := hb8.size
  clear b_62
  clear b_63
  clear x_66 x_67 x_68 x_69 x_70 x_71
  have x_80 := b_76.lt
  have x_81 : w8.cell? ⟨w.heap.size, 0, none⟩ = some (.slice A0 n0 c0) := b_76.cell 0
  have x_82 : w8.cell? ⟨w.heap.size, 1, none⟩ = some (.slice B0 m0 d0) := b_76.cell 1
  have x_83 := b_77.lt
  have x_84 : w8.cell? ⟨w5.heap.size, 0, none⟩ = some (.slice A5 n0 c5) := b_77.cell 0
  have x_85 : w8.cell? ⟨w5.heap.size, 1, none⟩ = some (.slice B5 m0 d5) := b_77.cell 1
  clear hb8
  have rw_86 := oR8_0.rw_
  go_wp2_with fail
  refine (eqInts_any _ _ _ _ _ _ _ _ _ oR8_0.ints w0_73.ints hr0).mono ?_
  rintro e w9 ⟨rfl, hq9⟩
  have hb9 := hq9.below w8.heap.size
  have w0_87 := w0_73.below hb9
  clear w0_73
  have x0_88 := x0_74.below hb9
  clear x0_74
  have x1_89 := x1_75.below hb9
  clear x1_75
  have g0_90 := oR8_0.below hb9
  clear oR8_0
  have b_91 := b_76.belowA hb9
  have b_92 := b_77.belowA hb9
  have hB_93 := bthen hB_78 hb9 hB_78.size
  clear hB_78
  have sz_94 : w8.heap.size ≤ w9.heap.size := hb9.size
  clear b_76
  clear b_77
  clear x_80 x_81 x_82 x_83 x_84 x_85
  have x_95 := b_91.lt
  have x_96 : w9.cell? ⟨w.heap.size, 0, none⟩ = some (.slice A0 n0 c0) := b_91.cell 0
  have x_97 : w9.cell? ⟨w.heap.size, 1, none⟩ = some (.slice B0 m0 d0) := b_91.cell 1
  have x_98 := b_92.lt
  have x_99 : w9.cell? ⟨w5.heap.size, 0, none⟩ = some (.slice A5 n0 c5) := b_92.cell 0
  have x_100 : w9.cell? ⟨w5.heap.size, 1, none⟩ = some (.slice B5 m0 d5) := b_92.cell 1
  clear hb9 hq9
  have kp_101 : Kept _ := ⟨w0_87⟩
  clear w0_87
  have kp_102 : Kept _ := ⟨x0_88⟩
  clear x0_88
  have kp_103 : Kept _ := ⟨x1_89⟩
  clear x1_89
  have kp_104 : Kept _ := ⟨g0_90⟩
  clear g0_90
  have kv_105 : Kept _ := ⟨nV0⟩
  clear nV0
  have kv_106 : Kept _ := ⟨iV1⟩
  clear iV1
  have kw_107 : Kept _ := ⟨hW⟩
  clear hW
  have kU : Kept (Below w9.heap.size w9 w9.drew) := ⟨(Below.refl _ _).drew⟩
  go_wp2_with fail
  go_region_held3 (fun w' => w.heap.size < w'.heap.size ∧ w5.heap.size < w'.heap.size ∧ w'.cell? ⟨w.heap.size, 0, none⟩ = some (.slice A0 n0 c0) ∧ w'.cell? ⟨w.heap.size, 1, none⟩ = some (.slice B0 m0 d0) ∧ w'.cell? ⟨w5.heap.size, 0, none⟩ = some (.slice A5 n0 c5) ∧ w'.cell? ⟨w5.heap.size, 1, none⟩ = some (.slice B5 m0 d5) ∧ Kept (Below w9.heap.size w9 w'))
    (first | (go_split_ands; refine ⟨by have := hbr.size; omega, by have := hbr.size; omega, ?_, ?_, ?_, ?_, ⟨bthen (Kept.out ‹Kept (Below _ _ _)›) hbr (Kept.out ‹Kept (Below _ _ _)›).size⟩⟩ <;> (rw [hbr.cell (by simp; omega)]; assumption)) | go_keep)
    (first | (go_at_call 16; go_split_ands; refine (toNetw_any _ _ _ _ _ _ _ _ _ ((kv_105.out.below hB_93).below (Kept.out ‹Kept (Below w9.heap.size _ _)›)) hn0 hm0).mono ?_; rintro e wr ⟨Ar, cr, Br, dr, rfl, oR, hbr⟩) | (go_at_call 19; go_split_ands; refine (eqNet_any _ _ _ _ _ _ _ _ _ _ _ _ ns0 ns0 ps0 ps0 _ (kp_102.out.reads.below (Kept.out ‹Kept (Below w9.heap.size _ _)›)).nodes (kp_102.out.reads.below (Kept.out ‹Kept (Below w9.heap.size _ _)›)).pipes oR.reads.nodes oR.reads.pipes hn0 hm0).mono ?_; rintro e wq10 ⟨be, hbe, rfl, hbr⟩; obtain rfl : be = true := hbe.2 ⟨rfl, rfl⟩; clear hbe))
  rename_i hh
  obtain ⟨_, _, _, _, _, _, ⟨hb10⟩⟩ := hh
  have w0_108 := kp_101.out
  clear kp_101
  have x0_109 := kp_102.out
  clear kp_102
  have x1_110 := kp_103.out
  clear kp_103
  have g0_111 := kp_104.out
  clear kp_104
  have nV0 := kv_105.out
  clear kv_105
  have iV1 := kv_106.out
  clear kv_106
  have hW := kw_107.out
  clear kw_107
  clear kU
  have w0_112 := w0_108.below hb10
  clear w0_108
  have x0_113 := x0_109.below hb10
  clear x0_109
  have x1_114 := x1_110.below hb10
  clear x1_110
  have g0_115 := g0_111.below hb10
  clear g0_111
  have b_116 := b_91.belowA hb10
  have b_117 := b_92.belowA hb10
  have hB_118 := bthen hB_93 hb10 hB_93.size
  clear hB_93
  have sz_119 : w9.heap.size ≤ wq10.heap.size := hb10.size
  clear b_91
  clear b_92
  clear x_95 x_96 x_97 x_98 x_99 x_100
  have x_120 := b_116.lt
  have x_121 : wq10.cell? ⟨w.heap.size, 0, none⟩ = some (.slice A0 n0 c0) := b_116.cell 0
  have x_122 : wq10.cell? ⟨w.heap.size, 1, none⟩ = some (.slice B0 m0 d0) := b_116.cell 1
  have x_123 := b_117.lt
  have x_124 : wq10.cell? ⟨w5.heap.size, 0, none⟩ = some (.slice A5 n0 c5) := b_117.cell 0
  have x_125 : wq10.cell? ⟨w5.heap.size, 1, none⟩ = some (.slice B5 m0 d5) := b_117.cell 1
  clear hb10
  go_wp2_with fail
  refine (toInts_any _ _ _ _ _ (iV1.below hB_118) hl1).mono ?_
  rintro e w11 ⟨Z11, f11, rfl, oI11, hb11⟩
  have w0_126 := w0_112.below hb11
  clear w0_112
  have x0_127 := x0_113.below hb11
  clear x0_113
  have x1_128 := x1_114.below hb11
  clear x1_114
  have g0_129 := g0_115.below hb11
  clear g0_115
  have b_130 := b_116.belowA hb11
  have b_131 := b_117.belowA hb11
  have hB_132 := bthen hB_118 hb11 hB_118.size
  clear hB_118
  have sz_133 : wq10.heap.size ≤ w11.heap.size := hb11.size
  clear b_116
  clear b_117
  clear x_120 x_121 x_122 x_123 x_124 x_125
  have x_134 := b_130.lt
  have x_135 : w11.cell? ⟨w.heap.size, 0, none⟩ = some (.slice A0 n0 c0) := b_130.cell 0
  have x_136 : w11.cell? ⟨w.heap.size, 1, none⟩ = some (.slice B0 m0 d0) := b_130.cell 1
  have x_137 := b_131.lt
  have x_138 : w11.cell? ⟨w5.heap.size, 0, none⟩ = some (.slice A5 n0 c5) := b_131.cell 0
  have x_139 : w11.cell? ⟨w5.heap.size, 1, none⟩ = some (.slice B5 m0 d5) := b_131.cell 1
  clear hb11
  have rw_140 := oI11.rw_
  go_wp2_with fail
  refine (eqInts_any _ _ _ _ _ _ _ _ _ x1_128.ints oI11.ints hl1).mono ?_
  rintro e w12 ⟨rfl, hq12⟩
  have hb12 := hq12.below w11.heap.size
  have w0_141 := w0_126.below hb12
  clear w0_126
  have x0_142 := x0_127.below hb12
  clear x0_127
  have x1_143 := x1_128.below hb12
  clear x1_128
  have g0_144 := g0_129.below hb12
  clear g0_129
  have z1_145 := oI11.below hb12
  clear oI11
  have b_146 := b_130.belowA hb12
  have b_147 := b_131.belowA hb12
  have hB_148 := bthen hB_132 hb12 hB_132.size
  clear hB_132
  have sz_149 : w11.heap.size ≤ w12.heap.size := hb12.size
  clear b_130
  clear b_131
  clear x_134 x_135 x_136 x_137 x_138 x_139
  have x_150 := b_146.lt
  have x_151 : w12.cell? ⟨w.heap.size, 0, none⟩ = some (.slice A0 n0 c0) := b_146.cell 0
  have x_152 : w12.cell? ⟨w.heap.size, 1, none⟩ = some (.slice B0 m0 d0) := b_146.cell 1
  have x_153 := b_147.lt
  have x_154 : w12.cell? ⟨w5.heap.size, 0, none⟩ = some (.slice A5 n0 c5) := b_147.cell 0
  have x_155 : w12.cell? ⟨w5.heap.size, 1, none⟩ = some (.slice B5 m0 d5) := b_147.cell 1
  clear hb12 hq12
  clear z1_145
  go_wp2_with fail
  refine (markNet1_any _ _ _ _ _ _ _ _ _ _ _ x0_142.nodes.1 x0_142.pipes.1 hn0 hm0).mono ?_
  rintro e w13 ⟨rfl, mN13, mP13, u13, hg13, hh13⟩
  clear x0_142
  have w0_156 := w0_141.grown hg13 (rw_apart rw_36 rw_44 (by omega))
  clear w0_141
  have x1_157 := x1_143.grown hg13 (rw_apart rw_72 rw_44 (by omega))
  clear x1_143
  have g0_158 := g0_144.grown hg13 (rw_apart rw_86 rw_44 (by omega))
  clear g0_144
  have b_159 := b_146.grown hg13 (rw_box rw_44 (by omega))
  have b_160 := b_147.grown hg13 (rw_box rw_44 (by omega))
  have hB_161 := hB_148.grown hg13 hB_148.size (rw_ge rw_44 (by omega))
  clear hB_148
  have sz_162 : w12.heap.size ≤ u13.heap.size := hg13.size
  clear b_146
  clear b_147
  have w0_163 := w0_156.grown hh13 (rw_apart rw_36 rw_45 (by omega))
  clear w0_156
  have x1_164 := x1_157.grown hh13 (rw_apart rw_72 rw_45 (by omega))
  clear x1_157
  have g0_165 := g0_158.grown hh13 (rw_apart rw_86 rw_45 (by omega))
  clear g0_158
  have b_166 := b_159.grown hh13 (rw_box rw_45 (by omega))
  have b_167 := b_160.grown hh13 (rw_box rw_45 (by omega))
  have hB_168 := hB_161.grown hh13 hB_161.size (rw_ge rw_45 (by omega))
  clear hB_161
  have sz_169 : u13.heap.size ≤ w13.heap.size := hh13.size
  clear b_159
  clear b_160
  clear x_150 x_151 x_152 x_153 x_154 x_155
  have x_170 := b_166.lt
  have x_171 : w13.cell? ⟨w.heap.size, 0, none⟩ = some (.slice A0 n0 c0) := b_166.cell 0
  have x_172 : w13.cell? ⟨w.heap.size, 1, none⟩ = some (.slice B0 m0 d0) := b_166.cell 1
  have x_173 := b_167.lt
  have x_174 : w13.cell? ⟨w5.heap.size, 0, none⟩ = some (.slice A5 n0 c5) := b_167.cell 0
  have x_175 : w13.cell? ⟨w5.heap.size, 1, none⟩ = some (.slice B5 m0 d5) := b_167.cell 1
  clear hg13 hh13
  go_wp2_with fail
  refine (markInts_any _ _ _ _ _ _ _ x1_164 hl1 (by omega) (by omega)).mono ?_
  rintro e w14 ⟨rfl, mI14, hg14⟩
  clear x1_164
  have w0_176 := w0_163.grown hg14 (rw_apart rw_36 rw_72 (by omega))
  clear w0_163
  have x0_177 := mN13.grown hg14 (rw_apart rw_44 rw_72 (by omega))
  clear mN13
  have x0_178 := mP13.grown hg14 (rw_apart rw_45 rw_72 (by omega))
  clear mP13
  have g0_179 := g0_165.grown hg14 (rw_apart rw_86 rw_72 (by omega))
  clear g0_165
  have b_180 := b_166.grown hg14 (rw_box rw_72 (by omega))
  have b_181 := b_167.grown hg14 (rw_box rw_72 (by omega))
  have hB_182 := hB_168.grown hg14 hB_168.size (rw_ge rw_72 (by omega))
  clear hB_168
  have sz_183 : w13.heap.size ≤ w14.heap.size := hg14.size
  clear b_166
  clear b_167
  clear x_170 x_171 x_172 x_173 x_174 x_175
  have x_184 := b_180.lt
  have x_185 : w14.cell? ⟨w.heap.size, 0, none⟩ = some (.slice A0 n0 c0) := b_180.cell 0
  have x_186 : w14.cell? ⟨w.heap.size, 1, none⟩ = some (.slice B0 m0 d0) := b_180.cell 1
  have x_187 := b_181.lt
  have x_188 : w14.cell? ⟨w5.heap.size, 0, none⟩ = some (.slice A5 n0 c5) := b_181.cell 0
  have x_189 : w14.cell? ⟨w5.heap.size, 1, none⟩ = some (.slice B5 m0 d5) := b_181.cell 1
  clear hg14
  go_wp2_with fail
  refine (eqInts_any _ _ _ _ _ _ _ _ _ g0_179.ints w0_176.ints hr0).mono ?_
  rintro e w15 ⟨rfl, hq15⟩
  have hb15 := hq15.below w14.heap.size
  have w0_190 := w0_176.below hb15
  clear w0_176
  have x0_191 := x0_177.below hb15
  clear x0_177
  have x0_192 := x0_178.below hb15
  clear x0_178
  have x1_193 := mI14.below hb15
  clear mI14
  have g0_194 := g0_179.below hb15
  clear g0_179
  have b_195 := b_180.belowA hb15
  have b_196 := b_181.belowA hb15
  have hB_197 := bthen hB_182 hb15 hB_182.size
  clear hB_182
  have sz_198 : w14.heap.size ≤ w15.heap.size := hb15.size
  clear b_180
  clear b_181
  clear x_184 x_185 x_186 x_187 x_188 x_189
  have x_199 := b_195.lt
  have x_200 : w15.cell? ⟨w.heap.size, 0, none⟩ = some (.slice A0 n0 c0) := b_195.cell 0
  have x_201 : w15.cell? ⟨w.heap.size, 1, none⟩ = some (.slice B0 m0 d0) := b_195.cell 1
  have x_202 := b_196.lt
  have x_203 : w15.cell? ⟨w5.heap.size, 0, none⟩ = some (.slice A5 n0 c5) := b_196.cell 0
  have x_204 : w15.cell? ⟨w5.heap.size, 1, none⟩ = some (.slice B5 m0 d5) := b_196.cell 1
  clear hb15 hq15
  go_wp2_with fail
  refine (markInts_any _ _ _ _ _ _ _ g0_194 hr0 (by omega) (by omega)).mono ?_
  rintro e w16 ⟨rfl, mI16, hg16⟩
  clear g0_194
  have w0_205 := w0_190.grown hg16 (rw_apart rw_36 rw_86 (by omega))
  clear w0_190
  have x0_206 := x0_191.grown hg16 (rw_apart rw_44 rw_86 (by omega))
  clear x0_191
  have x0_207 := x0_192.grown hg16 (rw_apart rw_45 rw_86 (by omega))
  clear x0_192
  have x1_208 := x1_193.grown hg16 (rw_apart rw_72 rw_86 (by omega))
  clear x1_193
  have b_209 := b_195.grown hg16 (rw_box rw_86 (by omega))
  have b_210 := b_196.grown hg16 (rw_box rw_86 (by omega))
  have hB_211 := hB_197.grown hg16 hB_197.size (rw_ge rw_86 (by omega))
  clear hB_197
  have sz_212 : w15.heap.size ≤ w16.heap.size := hg16.size
  clear b_195
  clear b_196
  clear x_199 x_200 x_201 x_202 x_203 x_204
  have x_213 := b_209.lt
  have x_214 : w16.cell? ⟨w.heap.size, 0, none⟩ = some (.slice A0 n0 c0) := b_209.cell 0
  have x_215 : w16.cell? ⟨w.heap.size, 1, none⟩ = some (.slice B0 m0 d0) := b_209.cell 1
  have x_216 := b_210.lt
  have x_217 : w16.cell? ⟨w5.heap.size, 0, none⟩ = some (.slice A5 n0 c5) := b_210.cell 0
  have x_218 : w16.cell? ⟨w5.heap.size, 1, none⟩ = some (.slice B5 m0 d5) := b_210.cell 1
  clear hg16
  go_wp2_with fail
  refine (heldInts_any _ _ _ _ _ mI16.ints hr0 (by omega) (by omega)).mono ?_
  rintro e w' ⟨rfl, rfl⟩
  go_wp2_with fail
  refine (toNetw_any _ _ _ _ _ _ _ _ _ (nV0.below hB_211) hn0 hm0).mono ?_
  rintro e w17 ⟨A17, c17, B17, d17, rfl, oN17, hb17⟩
  have w0_219 := w0_205.below hb17
  clear w0_205
  have x0_220 := x0_206.below hb17
  clear x0_206
  have x0_221 := x0_207.below hb17
  clear x0_207
  have x1_222 := x1_208.below hb17
  clear x1_208
  have g0_223 := mI16.below hb17
  clear mI16
  have b_224 := b_209.belowA hb17
  have b_225 := b_210.belowA hb17
  have hB_226 := bthen hB_211 hb17 hB_211.size
  clear hB_211
  have sz_227 : w16.heap.size ≤ w17.heap.size := hb17.size
  clear b_209
  clear b_210
  clear x_213 x_214 x_215 x_216 x_217 x_218
  have x_228 := b_224.lt
  have x_229 : w17.cell? ⟨w.heap.size, 0, none⟩ = some (.slice A0 n0 c0) := b_224.cell 0
  have x_230 : w17.cell? ⟨w.heap.size, 1, none⟩ = some (.slice B0 m0 d0) := b_224.cell 1
  have x_231 := b_225.lt
  have x_232 : w17.cell? ⟨w5.heap.size, 0, none⟩ = some (.slice A5 n0 c5) := b_225.cell 0
  have x_233 : w17.cell? ⟨w5.heap.size, 1, none⟩ = some (.slice B5 m0 d5) := b_225.cell 1
  clear hb17
  have rw_234 := oN17.nodes.1.rw_
  have rw_235 := oN17.pipes.1.rw_
  have ap_236 := ap_of oN17.pipes.1.1 oN17.nodes.1.1 (by decide)
  go_wp2_with fail
  refine (toInts_any _ _ _ _ _ (iV1.below hB_226) hl1).mono ?_
  rintro e w18 ⟨Z18, f18, rfl, oI18, hb18⟩
  have w0_237 := w0_219.below hb18
  clear w0_219
  have x0_238 := x0_220.below hb18
  clear x0_220
  have x0_239 := x0_221.below hb18
  clear x0_221
  have x1_240 := x1_222.below hb18
  clear x1_222
  have g0_241 := g0_223.below hb18
  clear g0_223
  have y0_242 := oN17.below hb18
  clear oN17
  have b_243 := b_224.belowA hb18
  have b_244 := b_225.belowA hb18
  have hB_245 := bthen hB_226 hb18 hB_226.size
  clear hB_226
  have sz_246 : w17.heap.size ≤ w18.heap.size := hb18.size
  clear b_224
  clear b_225
  clear x_228 x_229 x_230 x_231 x_232 x_233
  have x_247 := b_243.lt
  have x_248 : w18.cell? ⟨w.heap.size, 0, none⟩ = some (.slice A0 n0 c0) := b_243.cell 0
  have x_249 : w18.cell? ⟨w.heap.size, 1, none⟩ = some (.slice B0 m0 d0) := b_243.cell 1
  have x_250 := b_244.lt
  have x_251 : w18.cell? ⟨w5.heap.size, 0, none⟩ = some (.slice A5 n0 c5) := b_244.cell 0
  have x_252 : w18.cell? ⟨w5.heap.size, 1, none⟩ = some (.slice B5 m0 d5) := b_244.cell 1
  clear hb18
  have rw_253 := oI18.rw_
  go_wp2_with fail
  refine (rxc_any _ _ _ _ _ _ _ _ _ q2 zs1 ns0 ps0 _ y0_242.reads oI18.ints hl1).mono ?_
  rintro e w19 ⟨A19_0, c19_0, rfl, oR19_0, hb19⟩
  have w0_254 := w0_237.below hb19
  clear w0_237
  have x0_255 := x0_238.below hb19
  clear x0_238
  have x0_256 := x0_239.below hb19
  clear x0_239
  have x1_257 := x1_240.below hb19
  clear x1_240
  have g0_258 := g0_241.below hb19
  clear g0_241
  have y0_259 := y0_242.below hb19
  clear y0_242
  have y1_260 := oI18.below hb19
  clear oI18
  have b_261 := b_243.belowA hb19
  have b_262 := b_244.belowA hb19
  have hB_263 := bthen hB_245 hb19 hB_245.size
  clear hB_245
  have sz_264 : w18.heap.size ≤ w19.heap.size := hb19.size
  clear b_243
  clear b_244
  clear x_247 x_248 x_249 x_250 x_251 x_252
  have x_265 := b_261.lt
  have x_266 : w19.cell? ⟨w.heap.size, 0, none⟩ = some (.slice A0 n0 c0) := b_261.cell 0
  have x_267 : w19.cell? ⟨w.heap.size, 1, none⟩ = some (.slice B0 m0 d0) := b_261.cell 1
  have x_268 := b_262.lt
  have x_269 : w19.cell? ⟨w5.heap.size, 0, none⟩ = some (.slice A5 n0 c5) := b_262.cell 0
  have x_270 : w19.cell? ⟨w5.heap.size, 1, none⟩ = some (.slice B5 m0 d5) := b_262.cell 1
  clear hb19
  have rw_271 := oR19_0.rw_
  clear y0_259
  clear y1_260
  go_wp2_with fail
  refine (eqInts_any _ _ _ _ _ _ _ _ _ oR19_0.ints w0_254.ints hr0).mono ?_
  rintro e w20 ⟨rfl, hq20⟩
  have hb20 := hq20.below w19.heap.size
  have w0_272 := w0_254.below hb20
  clear w0_254
  have x0_273 := x0_255.below hb20
  clear x0_255
  have x0_274 := x0_256.below hb20
  clear x0_256
  have x1_275 := x1_257.below hb20
  clear x1_257
  have g0_276 := g0_258.below hb20
  clear g0_258
  have h0_277 := oR19_0.below hb20
  clear oR19_0
  have b_278 := b_261.belowA hb20
  have b_279 := b_262.belowA hb20
  have hB_280 := bthen hB_263 hb20 hB_263.size
  clear hB_263
  have sz_281 : w19.heap.size ≤ w20.heap.size := hb20.size
  clear b_261
  clear b_262
  clear x_265 x_266 x_267 x_268 x_269 x_270
  have x_282 := b_278.lt
  have x_283 : w20.cell? ⟨w.heap.size, 0, none⟩ = some (.slice A0 n0 c0) := b_278.cell 0
  have x_284 : w20.cell? ⟨w.heap.size, 1, none⟩ = some (.slice B0 m0 d0) := b_278.cell 1
  have x_285 := b_279.lt
  have x_286 : w20.cell? ⟨w5.heap.size, 0, none⟩ = some (.slice A5 n0 c5) := b_279.cell 0
  have x_287 : w20.cell? ⟨w5.heap.size, 1, none⟩ = some (.slice B5 m0 d5) := b_279.cell 1
  clear hb20 hq20
  go_wp2_with fail
  refine (heldInts_any _ _ _ _ _ g0_276.ints hr0 (by omega) (by omega)).mono ?_
  rintro e w' ⟨rfl, rfl⟩
  go_wp2_with fail
  go_ret
  exact ⟨rfl, bthen hW hB_280 hW.size⟩
end Go.Proofs.YtpgegfnhokhlmaaGreat
