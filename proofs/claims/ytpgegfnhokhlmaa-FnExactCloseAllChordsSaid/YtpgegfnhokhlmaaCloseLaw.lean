/- The walk of the law on CloseAllChords. No condition. -/
import Derived.Test.YtpgegfnhokhlmaaCloseAll
import Derived.Test.YtpgegfnhokhlmaaKA
set_option linter.unusedVariables false
set_option maxRecDepth 100000
namespace Go.Proofs.Ytpgegfnhokhlmaa
open Go.RowKit Go.Joins Go.Deep
attribute [local go_sem ↓] Go.wp_at_zero Go.wp_at_succ

set_option maxHeartbeats 8000000 in
theorem law_FnExactCloseAllChords (A0 : Option Addr) (n0 c0 : Nat) (ns0 : List Nd) (B0 : Option Addr) (m0 d0 : Nat) (ps0 : List Pp) (w : World) (h0 : IsNet w A0 n0 c0 ns0 B0 m0 d0 ps0) :
    Calls Try.prog 3 #[.agg #[.slice A0 n0 c0, .slice B0 m0 d0]] w fun e w' => e = .returned (.bool true) ∧ Below w.heap.size w w' := by
  have bA_1 := box_new w #[.slice A0 n0 c0, .slice B0 m0 d0] 25
  have hW : Below w.heap.size w (w.alloc (.cells #[.slice A0 n0 c0, .slice B0 m0 d0] 25)) := by
    repeat (first | exact Below.refl _ _ | refine Below.alloc ?_ (by simp <;> omega) _)
  have nV0 := h0.below hW
  go_enter Try.func3, Try.ntmps3
  go_wp2_with fail
  have hs0 : w.heap.size + 1 ≤ (w.alloc (.cells #[.slice A0 n0 c0, .slice B0 m0 d0] 25)).heap.size := by simp
  generalize (w.alloc (.cells #[.slice A0 n0 c0, .slice B0 m0 d0] 25)) = V at *
  have hB_0 : Below V.heap.size V V := Below.refl _ _
  have x_2 := bA_1.lt
  have x_3 : V.cell? ⟨w.heap.size, 0, none⟩ = some (.slice A0 n0 c0) := bA_1.cell 0
  have x_4 : V.cell? ⟨w.heap.size, 1, none⟩ = some (.slice B0 m0 d0) := bA_1.cell 1
  refine (szNet_any _ _ _ _ _ _ ns0 _ _ (nV0.below hB_0).nodes (Nat.le_trans h0.capA.1 h0.capA.2) (Nat.le_trans h0.capB.1 h0.capB.2) (by omega) (by omega)).mono ?_
  rintro e w1 ⟨left0, rfl, hleft0, hb1⟩
  have b_5 := bA_1.belowA hb1
  have hB_6 := bthen hB_0 hb1 hB_0.size
  clear hB_0
  have sz_7 : V.heap.size ≤ w1.heap.size := hb1.size
  clear bA_1
  clear x_2 x_3 x_4
  have x_8 := b_5.lt
  have x_9 : w1.cell? ⟨w.heap.size, 0, none⟩ = some (.slice A0 n0 c0) := b_5.cell 0
  have x_10 : w1.cell? ⟨w.heap.size, 1, none⟩ = some (.slice B0 m0 d0) := b_5.cell 1
  clear hb1
  rcases hleft0 with rfl | ⟨hl0_0, hl1_0⟩
  · go_wp2_with fail
    go_ret
    exact ⟨rfl, bthen hW hB_6 hW.size⟩
  have hn0 : n0 ≤ 1048576 := by omega
  have hm0 : m0 ≤ 1048576 := by omega
  have hr0 : (clR ns0 ps0 n0).1.length ≤ 1048576 := by
    by_cases hok : NetOk ns0 ps0
    · rw [clR_ok hok]; simp [cls, clsTo_len, esOf_len]; have := h0.pipes.len; omega
    · rw [clR_no hok]; simp
  go_wp2_with fail
  refine (toNetw_any _ _ _ _ _ _ _ _ _ (nV0.below hB_6) hn0 hm0).mono ?_
  rintro e w2 ⟨A2, c2, B2, d2, rfl, oN2, hb2⟩
  have b_11 := b_5.belowA hb2
  have hB_12 := bthen hB_6 hb2 hB_6.size
  clear hB_6
  have sz_13 : w1.heap.size ≤ w2.heap.size := hb2.size
  clear b_5
  clear x_8 x_9 x_10
  have x_14 := b_11.lt
  have x_15 : w2.cell? ⟨w.heap.size, 0, none⟩ = some (.slice A0 n0 c0) := b_11.cell 0
  have x_16 : w2.cell? ⟨w.heap.size, 1, none⟩ = some (.slice B0 m0 d0) := b_11.cell 1
  clear hb2
  have rw_17 := oN2.nodes.1.rw_
  have rw_18 := oN2.pipes.1.rw_
  have ap_19 := ap_of oN2.pipes.1.1 oN2.nodes.1.1 (by decide)
  go_wp2_with fail
  refine (sCloseAll_any _ _ _ _ _ _ ns0 ps0 _ oN2.reads hm0).mono ?_
  rintro e w3 ⟨A3_0, c3_0, rfl, oR3_0, hb3⟩
  have s0_20 := oN2.below hb3
  clear oN2
  have b_21 := b_11.belowA hb3
  have hB_22 := bthen hB_12 hb3 hB_12.size
  clear hB_12
  have sz_23 : w2.heap.size ≤ w3.heap.size := hb3.size
  clear b_11
  clear x_14 x_15 x_16
  have x_24 := b_21.lt
  have x_25 : w3.cell? ⟨w.heap.size, 0, none⟩ = some (.slice A0 n0 c0) := b_21.cell 0
  have x_26 : w3.cell? ⟨w.heap.size, 1, none⟩ = some (.slice B0 m0 d0) := b_21.cell 1
  clear hb3
  have rw_27 := oR3_0.rw_
  clear s0_20
  go_wp2_with fail
  refine (toNetw_any _ _ _ _ _ _ _ _ _ (nV0.below hB_22) hn0 hm0).mono ?_
  rintro e w4 ⟨A4, c4, B4, d4, rfl, oN4, hb4⟩
  have w0_28 := oR3_0.below hb4
  clear oR3_0
  have b_29 := b_21.belowA hb4
  have hB_30 := bthen hB_22 hb4 hB_22.size
  clear hB_22
  have sz_31 : w3.heap.size ≤ w4.heap.size := hb4.size
  clear b_21
  clear x_24 x_25 x_26
  have x_32 := b_29.lt
  have x_33 : w4.cell? ⟨w.heap.size, 0, none⟩ = some (.slice A0 n0 c0) := b_29.cell 0
  have x_34 : w4.cell? ⟨w.heap.size, 1, none⟩ = some (.slice B0 m0 d0) := b_29.cell 1
  clear hb4
  have rw_35 := oN4.nodes.1.rw_
  have rw_36 := oN4.pipes.1.rw_
  have ap_37 := ap_of oN4.pipes.1.1 oN4.nodes.1.1 (by decide)
  have hb5 : Below w4.heap.size w4 (w4.alloc (.cells #[.slice A4 n0 c4, .slice B4 m0 d4] 33)) := (Below.refl _ _).alloc (Nat.le_refl _) _
  have b_38 := box_new w4 #[.slice A4 n0 c4, .slice B4 m0 d4] 33
  have sz_39 : w4.heap.size + 1 ≤ (w4.alloc (.cells #[.slice A4 n0 c4, .slice B4 m0 d4] 33)).heap.size := by simp
  have w0_40 := w0_28.below hb5
  clear w0_28
  have x0_41 := oN4.below hb5
  clear oN4
  have b_42 := b_29.belowA hb5
  have hB_43 := bthen hB_30 hb5 hB_30.size
  clear hB_30
  have sz_44 : w4.heap.size ≤ (w4.alloc (.cells #[.slice A4 n0 c4, .slice B4 m0 d4] 33)).heap.size := hb5.size
  clear hb5
  go_wp2_with fail
  generalize (w4.alloc (.cells #[.slice A4 n0 c4, .slice B4 m0 d4] 33)) = w5 at *
  clear b_29
  clear x_32 x_33 x_34
  have x_45 := b_42.lt
  have x_46 : w5.cell? ⟨w.heap.size, 0, none⟩ = some (.slice A0 n0 c0) := b_42.cell 0
  have x_47 : w5.cell? ⟨w.heap.size, 1, none⟩ = some (.slice B0 m0 d0) := b_42.cell 1
  have x_48 := b_38.lt
  have x_49 : w5.cell? ⟨w4.heap.size, 0, none⟩ = some (.slice A4 n0 c4) := b_38.cell 0
  have x_50 : w5.cell? ⟨w4.heap.size, 1, none⟩ = some (.slice B4 m0 d4) := b_38.cell 1
  refine (closeAll_any _ _ _ _ _ _ ns0 ps0 _ x0_41.reads hm0).mono ?_
  rintro e w6 ⟨A6_0, c6_0, rfl, oR6_0, hb6⟩
  have w0_51 := w0_40.below hb6
  clear w0_40
  have x0_52 := x0_41.below hb6
  clear x0_41
  have b_53 := b_42.belowA hb6
  have b_54 := b_38.belowA hb6
  have hB_55 := bthen hB_43 hb6 hB_43.size
  clear hB_43
  have sz_56 : w5.heap.size ≤ w6.heap.size := hb6.size
  clear b_42
  clear b_38
  clear x_45 x_46 x_47 x_48 x_49 x_50
  have x_57 := b_53.lt
  have x_58 : w6.cell? ⟨w.heap.size, 0, none⟩ = some (.slice A0 n0 c0) := b_53.cell 0
  have x_59 : w6.cell? ⟨w.heap.size, 1, none⟩ = some (.slice B0 m0 d0) := b_53.cell 1
  have x_60 := b_54.lt
  have x_61 : w6.cell? ⟨w4.heap.size, 0, none⟩ = some (.slice A4 n0 c4) := b_54.cell 0
  have x_62 : w6.cell? ⟨w4.heap.size, 1, none⟩ = some (.slice B4 m0 d4) := b_54.cell 1
  clear hb6
  have rw_63 := oR6_0.rw_
  go_wp2_with fail
  refine (eqInts_any _ _ _ _ _ _ _ _ _ oR6_0.ints w0_51.ints hr0).mono ?_
  rintro e w7 ⟨rfl, hq7⟩
  have hb7 := hq7.below w6.heap.size
  have w0_64 := w0_51.below hb7
  clear w0_51
  have x0_65 := x0_52.below hb7
  clear x0_52
  have g0_66 := oR6_0.below hb7
  clear oR6_0
  have b_67 := b_53.belowA hb7
  have b_68 := b_54.belowA hb7
  have hB_69 := bthen hB_55 hb7 hB_55.size
  clear hB_55
  have sz_70 : w6.heap.size ≤ w7.heap.size := hb7.size
  clear b_53
  clear b_54
  clear x_57 x_58 x_59 x_60 x_61 x_62
  have x_71 := b_67.lt
  have x_72 : w7.cell? ⟨w.heap.size, 0, none⟩ = some (.slice A0 n0 c0) := b_67.cell 0
  have x_73 : w7.cell? ⟨w.heap.size, 1, none⟩ = some (.slice B0 m0 d0) := b_67.cell 1
  have x_74 := b_68.lt
  have x_75 : w7.cell? ⟨w4.heap.size, 0, none⟩ = some (.slice A4 n0 c4) := b_68.cell 0
  have x_76 : w7.cell? ⟨w4.heap.size, 1, none⟩ = some (.slice B4 m0 d4) := b_68.cell 1
  clear hb7 hq7
  have kp_77 : Kept _ := ⟨w0_64⟩
  clear w0_64
  have kp_78 : Kept _ := ⟨x0_65⟩
  clear x0_65
  have kp_79 : Kept _ := ⟨g0_66⟩
  clear g0_66
  have kv_80 : Kept _ := ⟨nV0⟩
  clear nV0
  have kw_81 : Kept _ := ⟨hW⟩
  clear hW
  have kU : Kept (Below w7.heap.size w7 w7.drew) := ⟨(Below.refl _ _).drew⟩
  go_wp2_with fail
  go_region_held3 (fun w' => w.heap.size < w'.heap.size ∧ w4.heap.size < w'.heap.size ∧ w'.cell? ⟨w.heap.size, 0, none⟩ = some (.slice A0 n0 c0) ∧ w'.cell? ⟨w.heap.size, 1, none⟩ = some (.slice B0 m0 d0) ∧ w'.cell? ⟨w4.heap.size, 0, none⟩ = some (.slice A4 n0 c4) ∧ w'.cell? ⟨w4.heap.size, 1, none⟩ = some (.slice B4 m0 d4) ∧ Kept (Below w7.heap.size w7 w'))
    (first | (go_split_ands; refine ⟨by have := hbr.size; omega, by have := hbr.size; omega, ?_, ?_, ?_, ?_, ⟨bthen (Kept.out ‹Kept (Below _ _ _)›) hbr (Kept.out ‹Kept (Below _ _ _)›).size⟩⟩ <;> (rw [hbr.cell (by simp; omega)]; assumption)) | go_keep)
    (first | (go_at_call 6; go_split_ands; refine (toNetw_any _ _ _ _ _ _ _ _ _ ((kv_80.out.below hB_69).below (Kept.out ‹Kept (Below w7.heap.size _ _)›)) hn0 hm0).mono ?_; rintro e wr ⟨Ar, cr, Br, dr, rfl, oR, hbr⟩) | (go_at_call 9; go_split_ands; refine (eqNet_any _ _ _ _ _ _ _ _ _ _ _ _ ns0 ns0 ps0 ps0 _ (kp_78.out.reads.below (Kept.out ‹Kept (Below w7.heap.size _ _)›)).nodes (kp_78.out.reads.below (Kept.out ‹Kept (Below w7.heap.size _ _)›)).pipes oR.reads.nodes oR.reads.pipes hn0 hm0).mono ?_; rintro e wq8 ⟨be, hbe, rfl, hbr⟩; obtain rfl : be = true := hbe.2 ⟨rfl, rfl⟩; clear hbe))
  rename_i hh
  obtain ⟨_, _, _, _, _, _, ⟨hb8⟩⟩ := hh
  have w0_82 := kp_77.out
  clear kp_77
  have x0_83 := kp_78.out
  clear kp_78
  have g0_84 := kp_79.out
  clear kp_79
  have nV0 := kv_80.out
  clear kv_80
  have hW := kw_81.out
  clear kw_81
  clear kU
  have w0_85 := w0_82.below hb8
  clear w0_82
  have x0_86 := x0_83.below hb8
  clear x0_83
  have g0_87 := g0_84.below hb8
  clear g0_84
  have b_88 := b_67.belowA hb8
  have b_89 := b_68.belowA hb8
  have hB_90 := bthen hB_69 hb8 hB_69.size
  clear hB_69
  have sz_91 : w7.heap.size ≤ wq8.heap.size := hb8.size
  clear b_67
  clear b_68
  clear x_71 x_72 x_73 x_74 x_75 x_76
  have x_92 := b_88.lt
  have x_93 : wq8.cell? ⟨w.heap.size, 0, none⟩ = some (.slice A0 n0 c0) := b_88.cell 0
  have x_94 : wq8.cell? ⟨w.heap.size, 1, none⟩ = some (.slice B0 m0 d0) := b_88.cell 1
  have x_95 := b_89.lt
  have x_96 : wq8.cell? ⟨w4.heap.size, 0, none⟩ = some (.slice A4 n0 c4) := b_89.cell 0
  have x_97 : wq8.cell? ⟨w4.heap.size, 1, none⟩ = some (.slice B4 m0 d4) := b_89.cell 1
  clear hb8
  go_wp2_with fail
  refine (markNet1_any _ _ _ _ _ _ _ _ _ _ _ x0_86.nodes.1 x0_86.pipes.1 hn0 hm0).mono ?_
  rintro e w9 ⟨rfl, mN9, mP9, u9, hg9, hh9⟩
  clear x0_86
  have w0_98 := w0_85.grown hg9 (rw_apart rw_27 rw_35 (by omega))
  clear w0_85
  have g0_99 := g0_87.grown hg9 (rw_apart rw_63 rw_35 (by omega))
  clear g0_87
  have b_100 := b_88.grown hg9 (rw_box rw_35 (by omega))
  have b_101 := b_89.grown hg9 (rw_box rw_35 (by omega))
  have hB_102 := hB_90.grown hg9 hB_90.size (rw_ge rw_35 (by omega))
  clear hB_90
  have sz_103 : wq8.heap.size ≤ u9.heap.size := hg9.size
  clear b_88
  clear b_89
  have w0_104 := w0_98.grown hh9 (rw_apart rw_27 rw_36 (by omega))
  clear w0_98
  have g0_105 := g0_99.grown hh9 (rw_apart rw_63 rw_36 (by omega))
  clear g0_99
  have b_106 := b_100.grown hh9 (rw_box rw_36 (by omega))
  have b_107 := b_101.grown hh9 (rw_box rw_36 (by omega))
  have hB_108 := hB_102.grown hh9 hB_102.size (rw_ge rw_36 (by omega))
  clear hB_102
  have sz_109 : u9.heap.size ≤ w9.heap.size := hh9.size
  clear b_100
  clear b_101
  clear x_92 x_93 x_94 x_95 x_96 x_97
  have x_110 := b_106.lt
  have x_111 : w9.cell? ⟨w.heap.size, 0, none⟩ = some (.slice A0 n0 c0) := b_106.cell 0
  have x_112 : w9.cell? ⟨w.heap.size, 1, none⟩ = some (.slice B0 m0 d0) := b_106.cell 1
  have x_113 := b_107.lt
  have x_114 : w9.cell? ⟨w4.heap.size, 0, none⟩ = some (.slice A4 n0 c4) := b_107.cell 0
  have x_115 : w9.cell? ⟨w4.heap.size, 1, none⟩ = some (.slice B4 m0 d4) := b_107.cell 1
  clear hg9 hh9
  go_wp2_with fail
  refine (eqInts_any _ _ _ _ _ _ _ _ _ g0_105.ints w0_104.ints hr0).mono ?_
  rintro e w10 ⟨rfl, hq10⟩
  have hb10 := hq10.below w9.heap.size
  have w0_116 := w0_104.below hb10
  clear w0_104
  have x0_117 := mN9.below hb10
  clear mN9
  have x0_118 := mP9.below hb10
  clear mP9
  have g0_119 := g0_105.below hb10
  clear g0_105
  have b_120 := b_106.belowA hb10
  have b_121 := b_107.belowA hb10
  have hB_122 := bthen hB_108 hb10 hB_108.size
  clear hB_108
  have sz_123 : w9.heap.size ≤ w10.heap.size := hb10.size
  clear b_106
  clear b_107
  clear x_110 x_111 x_112 x_113 x_114 x_115
  have x_124 := b_120.lt
  have x_125 : w10.cell? ⟨w.heap.size, 0, none⟩ = some (.slice A0 n0 c0) := b_120.cell 0
  have x_126 : w10.cell? ⟨w.heap.size, 1, none⟩ = some (.slice B0 m0 d0) := b_120.cell 1
  have x_127 := b_121.lt
  have x_128 : w10.cell? ⟨w4.heap.size, 0, none⟩ = some (.slice A4 n0 c4) := b_121.cell 0
  have x_129 : w10.cell? ⟨w4.heap.size, 1, none⟩ = some (.slice B4 m0 d4) := b_121.cell 1
  clear hb10 hq10
  go_wp2_with fail
  refine (markInts_any _ _ _ _ _ _ _ g0_119 hr0 (by omega) (by omega)).mono ?_
  rintro e w11 ⟨rfl, mI11, hg11⟩
  clear g0_119
  have w0_130 := w0_116.grown hg11 (rw_apart rw_27 rw_63 (by omega))
  clear w0_116
  have x0_131 := x0_117.grown hg11 (rw_apart rw_35 rw_63 (by omega))
  clear x0_117
  have x0_132 := x0_118.grown hg11 (rw_apart rw_36 rw_63 (by omega))
  clear x0_118
  have b_133 := b_120.grown hg11 (rw_box rw_63 (by omega))
  have b_134 := b_121.grown hg11 (rw_box rw_63 (by omega))
  have hB_135 := hB_122.grown hg11 hB_122.size (rw_ge rw_63 (by omega))
  clear hB_122
  have sz_136 : w10.heap.size ≤ w11.heap.size := hg11.size
  clear b_120
  clear b_121
  clear x_124 x_125 x_126 x_127 x_128 x_129
  have x_137 := b_133.lt
  have x_138 : w11.cell? ⟨w.heap.size, 0, none⟩ = some (.slice A0 n0 c0) := b_133.cell 0
  have x_139 : w11.cell? ⟨w.heap.size, 1, none⟩ = some (.slice B0 m0 d0) := b_133.cell 1
  have x_140 := b_134.lt
  have x_141 : w11.cell? ⟨w4.heap.size, 0, none⟩ = some (.slice A4 n0 c4) := b_134.cell 0
  have x_142 : w11.cell? ⟨w4.heap.size, 1, none⟩ = some (.slice B4 m0 d4) := b_134.cell 1
  clear hg11
  go_wp2_with fail
  refine (heldInts_any _ _ _ _ _ mI11.ints hr0 (by omega) (by omega)).mono ?_
  rintro e w' ⟨rfl, rfl⟩
  go_wp2_with fail
  refine (toNetw_any _ _ _ _ _ _ _ _ _ (nV0.below hB_135) hn0 hm0).mono ?_
  rintro e w12 ⟨A12, c12, B12, d12, rfl, oN12, hb12⟩
  have w0_143 := w0_130.below hb12
  clear w0_130
  have x0_144 := x0_131.below hb12
  clear x0_131
  have x0_145 := x0_132.below hb12
  clear x0_132
  have g0_146 := mI11.below hb12
  clear mI11
  have b_147 := b_133.belowA hb12
  have b_148 := b_134.belowA hb12
  have hB_149 := bthen hB_135 hb12 hB_135.size
  clear hB_135
  have sz_150 : w11.heap.size ≤ w12.heap.size := hb12.size
  clear b_133
  clear b_134
  clear x_137 x_138 x_139 x_140 x_141 x_142
  have x_151 := b_147.lt
  have x_152 : w12.cell? ⟨w.heap.size, 0, none⟩ = some (.slice A0 n0 c0) := b_147.cell 0
  have x_153 : w12.cell? ⟨w.heap.size, 1, none⟩ = some (.slice B0 m0 d0) := b_147.cell 1
  have x_154 := b_148.lt
  have x_155 : w12.cell? ⟨w4.heap.size, 0, none⟩ = some (.slice A4 n0 c4) := b_148.cell 0
  have x_156 : w12.cell? ⟨w4.heap.size, 1, none⟩ = some (.slice B4 m0 d4) := b_148.cell 1
  clear hb12
  have rw_157 := oN12.nodes.1.rw_
  have rw_158 := oN12.pipes.1.rw_
  have ap_159 := ap_of oN12.pipes.1.1 oN12.nodes.1.1 (by decide)
  go_wp2_with fail
  refine (closeAll_any _ _ _ _ _ _ ns0 ps0 _ oN12.reads hm0).mono ?_
  rintro e w13 ⟨A13_0, c13_0, rfl, oR13_0, hb13⟩
  have w0_160 := w0_143.below hb13
  clear w0_143
  have x0_161 := x0_144.below hb13
  clear x0_144
  have x0_162 := x0_145.below hb13
  clear x0_145
  have g0_163 := g0_146.below hb13
  clear g0_146
  have y0_164 := oN12.below hb13
  clear oN12
  have b_165 := b_147.belowA hb13
  have b_166 := b_148.belowA hb13
  have hB_167 := bthen hB_149 hb13 hB_149.size
  clear hB_149
  have sz_168 : w12.heap.size ≤ w13.heap.size := hb13.size
  clear b_147
  clear b_148
  clear x_151 x_152 x_153 x_154 x_155 x_156
  have x_169 := b_165.lt
  have x_170 : w13.cell? ⟨w.heap.size, 0, none⟩ = some (.slice A0 n0 c0) := b_165.cell 0
  have x_171 : w13.cell? ⟨w.heap.size, 1, none⟩ = some (.slice B0 m0 d0) := b_165.cell 1
  have x_172 := b_166.lt
  have x_173 : w13.cell? ⟨w4.heap.size, 0, none⟩ = some (.slice A4 n0 c4) := b_166.cell 0
  have x_174 : w13.cell? ⟨w4.heap.size, 1, none⟩ = some (.slice B4 m0 d4) := b_166.cell 1
  clear hb13
  have rw_175 := oR13_0.rw_
  clear y0_164
  go_wp2_with fail
  refine (eqInts_any _ _ _ _ _ _ _ _ _ oR13_0.ints w0_160.ints hr0).mono ?_
  rintro e w14 ⟨rfl, hq14⟩
  have hb14 := hq14.below w13.heap.size
  have w0_176 := w0_160.below hb14
  clear w0_160
  have x0_177 := x0_161.below hb14
  clear x0_161
  have x0_178 := x0_162.below hb14
  clear x0_162
  have g0_179 := g0_163.below hb14
  clear g0_163
  have h0_180 := oR13_0.below hb14
  clear oR13_0
  have b_181 := b_165.belowA hb14
  have b_182 := b_166.belowA hb14
  have hB_183 := bthen hB_167 hb14 hB_167.size
  clear hB_167
  have sz_184 : w13.heap.size ≤ w14.heap.size := hb14.size
  clear b_165
  clear b_166
  clear x_169 x_170 x_171 x_172 x_173 x_174
  have x_185 := b_181.lt
  have x_186 : w14.cell? ⟨w.heap.size, 0, none⟩ = some (.slice A0 n0 c0) := b_181.cell 0
  have x_187 : w14.cell? ⟨w.heap.size, 1, none⟩ = some (.slice B0 m0 d0) := b_181.cell 1
  have x_188 := b_182.lt
  have x_189 : w14.cell? ⟨w4.heap.size, 0, none⟩ = some (.slice A4 n0 c4) := b_182.cell 0
  have x_190 : w14.cell? ⟨w4.heap.size, 1, none⟩ = some (.slice B4 m0 d4) := b_182.cell 1
  clear hb14 hq14
  go_wp2_with fail
  refine (heldInts_any _ _ _ _ _ g0_179.ints hr0 (by omega) (by omega)).mono ?_
  rintro e w' ⟨rfl, rfl⟩
  go_wp2_with fail
  go_ret
  exact ⟨rfl, bthen hW hB_183 hW.size⟩
end Go.Proofs.Ytpgegfnhokhlmaa
