/- The walk of the law on ReadSettings. No condition. -/
import Derived.Test.YtoijogaogheciaaRead
import Derived.Test.YtoijogaogheciaaRw
set_option linter.unusedVariables false
set_option maxRecDepth 100000
namespace Go.Proofs.Ytoijogaogheciaa
open Go.RowKit Go.Joins Go.Deep
attribute [local go_sem ↓] Go.wp_at_zero Go.wp_at_succ

set_option maxHeartbeats 8000000 in
theorem law_FnExactReadSettings (A0 : Option Addr) (n0 c0 : Nat) (ns0 : List Nd) (B0 : Option Addr) (m0 d0 : Nat) (ps0 : List Pp) (s1 : ByteArray) (w : World) (h0 : IsNet w A0 n0 c0 ns0 B0 m0 d0 ps0) (h1 : s1.size ≤ maxLen) :
    Calls Try.prog 9 #[.agg #[.slice A0 n0 c0, .slice B0 m0 d0], .string s1] w fun e w' => e = .returned (.bool true) ∧ Below w.heap.size w w' := by
  unfold maxLen at h1
  have bA_1 := box_new w #[.slice A0 n0 c0, .slice B0 m0 d0] 39
  have hW : Below w.heap.size w (w.alloc (.cells #[.slice A0 n0 c0, .slice B0 m0 d0] 39)) := by
    repeat (first | exact Below.refl _ _ | refine Below.alloc ?_ (by simp <;> omega) _)
  have nV0 := h0.below hW
  by_cases hbig1 : (1048576 : Int) < s1.size
  case pos =>
    go_enter Try.func9, Try.ntmps9
    go_wp2_with fail
    go_ret
    exact ⟨rfl, hW⟩
  have hl1 : s1.size ≤ 1048576 := by omega
  go_enter Try.func9, Try.ntmps9
  go_wp2_with fail
  have hs0 : w.heap.size + 1 ≤ (w.alloc (.cells #[.slice A0 n0 c0, .slice B0 m0 d0] 39)).heap.size := by simp
  generalize (w.alloc (.cells #[.slice A0 n0 c0, .slice B0 m0 d0] 39)) = V at *
  have hB_0 : Below V.heap.size V V := Below.refl _ _
  have x_2 := bA_1.lt
  have x_3 : V.cell? ⟨w.heap.size, 0, none⟩ = some (.slice A0 n0 c0) := bA_1.cell 0
  have x_4 : V.cell? ⟨w.heap.size, 1, none⟩ = some (.slice B0 m0 d0) := bA_1.cell 1
  refine (szNet_any _ _ _ _ _ _ ns0 _ _ (nV0.below hB_0).nodes (Nat.le_trans h0.capA.1 h0.capA.2) (Nat.le_trans h0.capB.1 h0.capB.2) (by omega) (by omega)).mono ?_
  rintro e w1 ⟨left0, rfl, hleft0, hb1⟩
  have b_5 := bA_1.belowA hb1
  have hB_6 := bthen hB_0 hb1 hB_0.size
  clear hB_0
  have sz_7 : V.heap.size ≤ w1.heap.size := hb1.size
  clear bA_1
  clear x_2 x_3 x_4
  have x_8 := b_5.lt
  have x_9 : w1.cell? ⟨w.heap.size, 0, none⟩ = some (.slice A0 n0 c0) := b_5.cell 0
  have x_10 : w1.cell? ⟨w.heap.size, 1, none⟩ = some (.slice B0 m0 d0) := b_5.cell 1
  clear hb1
  rcases hleft0 with rfl | ⟨hl0_0, hl1_0⟩
  · go_wp2_with fail
    go_ret
    exact ⟨rfl, bthen hW hB_6 hW.size⟩
  have hn0 : n0 ≤ 1048576 := by omega
  have hm0 : m0 ≤ 1048576 := by omega
  have hr0 : (readS ns0 ps0 m0 s1).length ≤ 1048576 := by
    unfold readS
    split
    · simp [rdS]; omega
    · simp
  go_wp2_with fail
  refine (toNetw_any _ _ _ _ _ _ _ _ _ (nV0.below hB_6) hn0 hm0).mono ?_
  rintro e w2 ⟨A2, c2, B2, d2, rfl, oN2, hb2⟩
  have b_11 := b_5.belowA hb2
  have hB_12 := bthen hB_6 hb2 hB_6.size
  clear hB_6
  have sz_13 : w1.heap.size ≤ w2.heap.size := hb2.size
  clear b_5
  clear x_8 x_9 x_10
  have x_14 := b_11.lt
  have x_15 : w2.cell? ⟨w.heap.size, 0, none⟩ = some (.slice A0 n0 c0) := b_11.cell 0
  have x_16 : w2.cell? ⟨w.heap.size, 1, none⟩ = some (.slice B0 m0 d0) := b_11.cell 1
  clear hb2
  have rw_17 := oN2.nodes.1.rw_
  have rw_18 := oN2.pipes.1.rw_
  go_wp2_with fail
  refine (sRead_any _ _ _ _ _ _ ns0 ps0 s1 _ oN2.reads hl1).mono ?_
  rintro e w3 ⟨A3_0, c3_0, rfl, oR3_0, hb3⟩
  have s0_19 := oN2.below hb3
  clear oN2
  have b_20 := b_11.belowA hb3
  have hB_21 := bthen hB_12 hb3 hB_12.size
  clear hB_12
  have sz_22 : w2.heap.size ≤ w3.heap.size := hb3.size
  clear b_11
  clear x_14 x_15 x_16
  have x_23 := b_20.lt
  have x_24 : w3.cell? ⟨w.heap.size, 0, none⟩ = some (.slice A0 n0 c0) := b_20.cell 0
  have x_25 : w3.cell? ⟨w.heap.size, 1, none⟩ = some (.slice B0 m0 d0) := b_20.cell 1
  clear hb3
  have rw_26 := oR3_0.rw_
  clear s0_19
  go_wp2_with fail
  refine (toNetw_any _ _ _ _ _ _ _ _ _ (nV0.below hB_21) hn0 hm0).mono ?_
  rintro e w4 ⟨A4, c4, B4, d4, rfl, oN4, hb4⟩
  have w0_27 := oR3_0.below hb4
  clear oR3_0
  have b_28 := b_20.belowA hb4
  have hB_29 := bthen hB_21 hb4 hB_21.size
  clear hB_21
  have sz_30 : w3.heap.size ≤ w4.heap.size := hb4.size
  clear b_20
  clear x_23 x_24 x_25
  have x_31 := b_28.lt
  have x_32 : w4.cell? ⟨w.heap.size, 0, none⟩ = some (.slice A0 n0 c0) := b_28.cell 0
  have x_33 : w4.cell? ⟨w.heap.size, 1, none⟩ = some (.slice B0 m0 d0) := b_28.cell 1
  clear hb4
  have rw_34 := oN4.nodes.1.rw_
  have rw_35 := oN4.pipes.1.rw_
  have hb5 : Below w4.heap.size w4 (w4.alloc (.cells #[.slice A4 n0 c4, .slice B4 m0 d4] 45)) := (Below.refl _ _).alloc (Nat.le_refl _) _
  have b_36 := box_new w4 #[.slice A4 n0 c4, .slice B4 m0 d4] 45
  have sz_37 : w4.heap.size + 1 ≤ (w4.alloc (.cells #[.slice A4 n0 c4, .slice B4 m0 d4] 45)).heap.size := by simp
  have w0_38 := w0_27.below hb5
  clear w0_27
  have x0_39 := oN4.below hb5
  clear oN4
  have b_40 := b_28.belowA hb5
  have hB_41 := bthen hB_29 hb5 hB_29.size
  clear hB_29
  have sz_42 : w4.heap.size ≤ (w4.alloc (.cells #[.slice A4 n0 c4, .slice B4 m0 d4] 45)).heap.size := hb5.size
  clear hb5
  go_wp2_with fail
  generalize (w4.alloc (.cells #[.slice A4 n0 c4, .slice B4 m0 d4] 45)) = w5 at *
  clear b_28
  clear x_31 x_32 x_33
  have x_43 := b_40.lt
  have x_44 : w5.cell? ⟨w.heap.size, 0, none⟩ = some (.slice A0 n0 c0) := b_40.cell 0
  have x_45 : w5.cell? ⟨w.heap.size, 1, none⟩ = some (.slice B0 m0 d0) := b_40.cell 1
  have x_46 := b_36.lt
  have x_47 : w5.cell? ⟨w4.heap.size, 0, none⟩ = some (.slice A4 n0 c4) := b_36.cell 0
  have x_48 : w5.cell? ⟨w4.heap.size, 1, none⟩ = some (.slice B4 m0 d4) := b_36.cell 1
  refine (read_any _ _ _ _ _ _ ns0 ps0 s1 _ x0_39.reads hl1).mono ?_
  rintro e w6 ⟨A6_0, c6_0, rfl, oR6_0, hb6⟩
  have w0_49 := w0_38.below hb6
  clear w0_38
  have x0_50 := x0_39.below hb6
  clear x0_39
  have b_51 := b_40.belowA hb6
  have b_52 := b_36.belowA hb6
  have hB_53 := bthen hB_41 hb6 hB_41.size
  clear hB_41
  have sz_54 : w5.heap.size ≤ w6.heap.size := hb6.size
  clear b_40
  clear b_36
  clear x_43 x_44 x_45 x_46 x_47 x_48
  have x_55 := b_51.lt
  have x_56 : w6.cell? ⟨w.heap.size, 0, none⟩ = some (.slice A0 n0 c0) := b_51.cell 0
  have x_57 : w6.cell? ⟨w.heap.size, 1, none⟩ = some (.slice B0 m0 d0) := b_51.cell 1
  have x_58 := b_52.lt
  have x_59 : w6.cell? ⟨w4.heap.size, 0, none⟩ = some (.slice A4 n0 c4) := b_52.cell 0
  have x_60 : w6.cell? ⟨w4.heap.size, 1, none⟩ = some (.slice B4 m0 d4) := b_52.cell 1
  clear hb6
  have rw_61 := oR6_0.rw_
  go_wp2_with fail
  refine (eqInts_any _ _ _ _ _ _ _ _ _ oR6_0.ints w0_49.ints hr0).mono ?_
  rintro e w7 ⟨rfl, hq7⟩
  have hb7 := hq7.below w6.heap.size
  have w0_62 := w0_49.below hb7
  clear w0_49
  have x0_63 := x0_50.below hb7
  clear x0_50
  have g0_64 := oR6_0.below hb7
  clear oR6_0
  have b_65 := b_51.belowA hb7
  have b_66 := b_52.belowA hb7
  have hB_67 := bthen hB_53 hb7 hB_53.size
  clear hB_53
  have sz_68 : w6.heap.size ≤ w7.heap.size := hb7.size
  clear b_51
  clear b_52
  clear x_55 x_56 x_57 x_58 x_59 x_60
  have x_69 := b_65.lt
  have x_70 : w7.cell? ⟨w.heap.size, 0, none⟩ = some (.slice A0 n0 c0) := b_65.cell 0
  have x_71 : w7.cell? ⟨w.heap.size, 1, none⟩ = some (.slice B0 m0 d0) := b_65.cell 1
  have x_72 := b_66.lt
  have x_73 : w7.cell? ⟨w4.heap.size, 0, none⟩ = some (.slice A4 n0 c4) := b_66.cell 0
  have x_74 : w7.cell? ⟨w4.heap.size, 1, none⟩ = some (.slice B4 m0 d4) := b_66.cell 1
  clear hb7 hq7
  have kp_75 : Kept _ := ⟨w0_62⟩
  clear w0_62
  have kp_76 : Kept _ := ⟨x0_63⟩
  clear x0_63
  have kp_77 : Kept _ := ⟨g0_64⟩
  clear g0_64
  have kv_78 : Kept _ := ⟨nV0⟩
  clear nV0
  have kw_79 : Kept _ := ⟨hW⟩
  clear hW
  have kU : Kept (Below w7.heap.size w7 w7.drew) := ⟨(Below.refl _ _).drew⟩
  go_wp2_with fail
  go_region_held3 (fun w' => w.heap.size < w'.heap.size ∧ w4.heap.size < w'.heap.size ∧ w'.cell? ⟨w.heap.size, 0, none⟩ = some (.slice A0 n0 c0) ∧ w'.cell? ⟨w.heap.size, 1, none⟩ = some (.slice B0 m0 d0) ∧ w'.cell? ⟨w4.heap.size, 0, none⟩ = some (.slice A4 n0 c4) ∧ w'.cell? ⟨w4.heap.size, 1, none⟩ = some (.slice B4 m0 d4) ∧ Kept (Below w7.heap.size w7 w'))
    (first | (go_split_ands; refine ⟨by have := hbr.size; omega, by have := hbr.size; omega, ?_, ?_, ?_, ?_, ⟨bthen (Kept.out ‹Kept (Below _ _ _)›) hbr (Kept.out ‹Kept (Below _ _ _)›).size⟩⟩ <;> (rw [hbr.cell (by simp; omega)]; assumption)) | go_keep)
    (first | (go_at_call 28; go_split_ands; refine (toNetw_any _ _ _ _ _ _ _ _ _ ((kv_78.out.below hB_67).below (Kept.out ‹Kept (Below w7.heap.size _ _)›)) hn0 hm0).mono ?_; rintro e wr ⟨Ar, cr, Br, dr, rfl, oR, hbr⟩) | (go_at_call 30; go_split_ands; refine (eqNet_any _ _ _ _ _ _ _ _ _ _ _ _ ns0 ns0 ps0 ps0 _ (kp_76.out.reads.below (Kept.out ‹Kept (Below w7.heap.size _ _)›)).nodes (kp_76.out.reads.below (Kept.out ‹Kept (Below w7.heap.size _ _)›)).pipes oR.reads.nodes oR.reads.pipes hn0 hm0).mono ?_; rintro e wq8 ⟨be, hbe, rfl, hbr⟩; obtain rfl : be = true := hbe.2 ⟨rfl, rfl⟩; clear hbe))
  rename_i hh
  obtain ⟨_, _, _, _, _, _, ⟨hb8⟩⟩ := hh
  have w0_80 := kp_75.out
  clear kp_75
  have x0_81 := kp_76.out
  clear kp_76
  have g0_82 := kp_77.out
  clear kp_77
  have nV0 := kv_78.out
  clear kv_78
  have hW := kw_79.out
  clear kw_79
  clear kU
  have w0_83 := w0_80.below hb8
  clear w0_80
  have x0_84 := x0_81.below hb8
  clear x0_81
  have g0_85 := g0_82.below hb8
  clear g0_82
  have b_86 := b_65.belowA hb8
  have b_87 := b_66.belowA hb8
  have hB_88 := bthen hB_67 hb8 hB_67.size
  clear hB_67
  have sz_89 : w7.heap.size ≤ wq8.heap.size := hb8.size
  clear b_65
  clear b_66
  clear x_69 x_70 x_71 x_72 x_73 x_74
  have x_90 := b_86.lt
  have x_91 : wq8.cell? ⟨w.heap.size, 0, none⟩ = some (.slice A0 n0 c0) := b_86.cell 0
  have x_92 : wq8.cell? ⟨w.heap.size, 1, none⟩ = some (.slice B0 m0 d0) := b_86.cell 1
  have x_93 := b_87.lt
  have x_94 : wq8.cell? ⟨w4.heap.size, 0, none⟩ = some (.slice A4 n0 c4) := b_87.cell 0
  have x_95 : wq8.cell? ⟨w4.heap.size, 1, none⟩ = some (.slice B4 m0 d4) := b_87.cell 1
  clear hb8
  go_wp2_with fail
  refine (markNet1_any _ _ _ _ _ _ _ _ _ _ _ x0_84.nodes.1 x0_84.pipes.1 hn0 hm0).mono ?_
  rintro e w9 ⟨rfl, mN9, mP9, u9, hg9, hh9⟩
  clear x0_84
  have w0_96 := w0_83.grown hg9 (rw_apart rw_26 rw_34 (by omega))
  clear w0_83
  have g0_97 := g0_85.grown hg9 (rw_apart rw_61 rw_34 (by omega))
  clear g0_85
  have b_98 := b_86.grown hg9 (rw_box rw_34 (by omega))
  have b_99 := b_87.grown hg9 (rw_box rw_34 (by omega))
  have hB_100 := hB_88.grown hg9 hB_88.size (rw_ge rw_34 (by omega))
  clear hB_88
  have sz_101 : wq8.heap.size ≤ u9.heap.size := hg9.size
  clear b_86
  clear b_87
  have w0_102 := w0_96.grown hh9 (rw_apart rw_26 rw_35 (by omega))
  clear w0_96
  have g0_103 := g0_97.grown hh9 (rw_apart rw_61 rw_35 (by omega))
  clear g0_97
  have b_104 := b_98.grown hh9 (rw_box rw_35 (by omega))
  have b_105 := b_99.grown hh9 (rw_box rw_35 (by omega))
  have hB_106 := hB_100.grown hh9 hB_100.size (rw_ge rw_35 (by omega))
  clear hB_100
  have sz_107 : u9.heap.size ≤ w9.heap.size := hh9.size
  clear b_98
  clear b_99
  clear x_90 x_91 x_92 x_93 x_94 x_95
  have x_108 := b_104.lt
  have x_109 : w9.cell? ⟨w.heap.size, 0, none⟩ = some (.slice A0 n0 c0) := b_104.cell 0
  have x_110 : w9.cell? ⟨w.heap.size, 1, none⟩ = some (.slice B0 m0 d0) := b_104.cell 1
  have x_111 := b_105.lt
  have x_112 : w9.cell? ⟨w4.heap.size, 0, none⟩ = some (.slice A4 n0 c4) := b_105.cell 0
  have x_113 : w9.cell? ⟨w4.heap.size, 1, none⟩ = some (.slice B4 m0 d4) := b_105.cell 1
  clear hg9 hh9
  go_wp2_with fail
  refine (eqInts_any _ _ _ _ _ _ _ _ _ g0_103.ints w0_102.ints hr0).mono ?_
  rintro e w10 ⟨rfl, hq10⟩
  have hb10 := hq10.below w9.heap.size
  have w0_114 := w0_102.below hb10
  clear w0_102
  have x0_115 := mN9.below hb10
  clear mN9
  have x0_116 := mP9.below hb10
  clear mP9
  have g0_117 := g0_103.below hb10
  clear g0_103
  have b_118 := b_104.belowA hb10
  have b_119 := b_105.belowA hb10
  have hB_120 := bthen hB_106 hb10 hB_106.size
  clear hB_106
  have sz_121 : w9.heap.size ≤ w10.heap.size := hb10.size
  clear b_104
  clear b_105
  clear x_108 x_109 x_110 x_111 x_112 x_113
  have x_122 := b_118.lt
  have x_123 : w10.cell? ⟨w.heap.size, 0, none⟩ = some (.slice A0 n0 c0) := b_118.cell 0
  have x_124 : w10.cell? ⟨w.heap.size, 1, none⟩ = some (.slice B0 m0 d0) := b_118.cell 1
  have x_125 := b_119.lt
  have x_126 : w10.cell? ⟨w4.heap.size, 0, none⟩ = some (.slice A4 n0 c4) := b_119.cell 0
  have x_127 : w10.cell? ⟨w4.heap.size, 1, none⟩ = some (.slice B4 m0 d4) := b_119.cell 1
  clear hb10 hq10
  go_wp2_with fail
  refine (markInts_any _ _ _ _ _ _ _ g0_117 hr0 (by omega) (by omega)).mono ?_
  rintro e w11 ⟨rfl, mI11, hg11⟩
  clear g0_117
  have w0_128 := w0_114.grown hg11 (rw_apart rw_26 rw_61 (by omega))
  clear w0_114
  have x0_129 := x0_115.grown hg11 (rw_apart rw_34 rw_61 (by omega))
  clear x0_115
  have x0_130 := x0_116.grown hg11 (rw_apart rw_35 rw_61 (by omega))
  clear x0_116
  have b_131 := b_118.grown hg11 (rw_box rw_61 (by omega))
  have b_132 := b_119.grown hg11 (rw_box rw_61 (by omega))
  have hB_133 := hB_120.grown hg11 hB_120.size (rw_ge rw_61 (by omega))
  clear hB_120
  have sz_134 : w10.heap.size ≤ w11.heap.size := hg11.size
  clear b_118
  clear b_119
  clear x_122 x_123 x_124 x_125 x_126 x_127
  have x_135 := b_131.lt
  have x_136 : w11.cell? ⟨w.heap.size, 0, none⟩ = some (.slice A0 n0 c0) := b_131.cell 0
  have x_137 : w11.cell? ⟨w.heap.size, 1, none⟩ = some (.slice B0 m0 d0) := b_131.cell 1
  have x_138 := b_132.lt
  have x_139 : w11.cell? ⟨w4.heap.size, 0, none⟩ = some (.slice A4 n0 c4) := b_132.cell 0
  have x_140 : w11.cell? ⟨w4.heap.size, 1, none⟩ = some (.slice B4 m0 d4) := b_132.cell 1
  clear hg11
  go_wp2_with fail
  refine (heldInts_any _ _ _ _ _ mI11.ints hr0 (by omega) (by omega)).mono ?_
  rintro e w' ⟨rfl, rfl⟩
  go_wp2_with fail
  refine (toNetw_any _ _ _ _ _ _ _ _ _ (nV0.below hB_133) hn0 hm0).mono ?_
  rintro e w12 ⟨A12, c12, B12, d12, rfl, oN12, hb12⟩
  have w0_141 := w0_128.below hb12
  clear w0_128
  have x0_142 := x0_129.below hb12
  clear x0_129
  have x0_143 := x0_130.below hb12
  clear x0_130
  have g0_144 := mI11.below hb12
  clear mI11
  have b_145 := b_131.belowA hb12
  have b_146 := b_132.belowA hb12
  have hB_147 := bthen hB_133 hb12 hB_133.size
  clear hB_133
  have sz_148 : w11.heap.size ≤ w12.heap.size := hb12.size
  clear b_131
  clear b_132
  clear x_135 x_136 x_137 x_138 x_139 x_140
  have x_149 := b_145.lt
  have x_150 : w12.cell? ⟨w.heap.size, 0, none⟩ = some (.slice A0 n0 c0) := b_145.cell 0
  have x_151 : w12.cell? ⟨w.heap.size, 1, none⟩ = some (.slice B0 m0 d0) := b_145.cell 1
  have x_152 := b_146.lt
  have x_153 : w12.cell? ⟨w4.heap.size, 0, none⟩ = some (.slice A4 n0 c4) := b_146.cell 0
  have x_154 : w12.cell? ⟨w4.heap.size, 1, none⟩ = some (.slice B4 m0 d4) := b_146.cell 1
  clear hb12
  have rw_155 := oN12.nodes.1.rw_
  have rw_156 := oN12.pipes.1.rw_
  go_wp2_with fail
  refine (read_any _ _ _ _ _ _ ns0 ps0 s1 _ oN12.reads hl1).mono ?_
  rintro e w13 ⟨A13_0, c13_0, rfl, oR13_0, hb13⟩
  have w0_157 := w0_141.below hb13
  clear w0_141
  have x0_158 := x0_142.below hb13
  clear x0_142
  have x0_159 := x0_143.below hb13
  clear x0_143
  have g0_160 := g0_144.below hb13
  clear g0_144
  have y0_161 := oN12.below hb13
  clear oN12
  have b_162 := b_145.belowA hb13
  have b_163 := b_146.belowA hb13
  have hB_164 := bthen hB_147 hb13 hB_147.size
  clear hB_147
  have sz_165 : w12.heap.size ≤ w13.heap.size := hb13.size
  clear b_145
  clear b_146
  clear x_149 x_150 x_151 x_152 x_153 x_154
  have x_166 := b_162.lt
  have x_167 : w13.cell? ⟨w.heap.size, 0, none⟩ = some (.slice A0 n0 c0) := b_162.cell 0
  have x_168 : w13.cell? ⟨w.heap.size, 1, none⟩ = some (.slice B0 m0 d0) := b_162.cell 1
  have x_169 := b_163.lt
  have x_170 : w13.cell? ⟨w4.heap.size, 0, none⟩ = some (.slice A4 n0 c4) := b_163.cell 0
  have x_171 : w13.cell? ⟨w4.heap.size, 1, none⟩ = some (.slice B4 m0 d4) := b_163.cell 1
  clear hb13
  have rw_172 := oR13_0.rw_
  clear y0_161
  go_wp2_with fail
  refine (eqInts_any _ _ _ _ _ _ _ _ _ oR13_0.ints w0_157.ints hr0).mono ?_
  rintro e w14 ⟨rfl, hq14⟩
  have hb14 := hq14.below w13.heap.size
  have w0_173 := w0_157.below hb14
  clear w0_157
  have x0_174 := x0_158.below hb14
  clear x0_158
  have x0_175 := x0_159.below hb14
  clear x0_159
  have g0_176 := g0_160.below hb14
  clear g0_160
  have h0_177 := oR13_0.below hb14
  clear oR13_0
  have b_178 := b_162.belowA hb14
  have b_179 := b_163.belowA hb14
  have hB_180 := bthen hB_164 hb14 hB_164.size
  clear hB_164
  have sz_181 : w13.heap.size ≤ w14.heap.size := hb14.size
  clear b_162
  clear b_163
  clear x_166 x_167 x_168 x_169 x_170 x_171
  have x_182 := b_178.lt
  have x_183 : w14.cell? ⟨w.heap.size, 0, none⟩ = some (.slice A0 n0 c0) := b_178.cell 0
  have x_184 : w14.cell? ⟨w.heap.size, 1, none⟩ = some (.slice B0 m0 d0) := b_178.cell 1
  have x_185 := b_179.lt
  have x_186 : w14.cell? ⟨w4.heap.size, 0, none⟩ = some (.slice A4 n0 c4) := b_179.cell 0
  have x_187 : w14.cell? ⟨w4.heap.size, 1, none⟩ = some (.slice B4 m0 d4) := b_179.cell 1
  clear hb14 hq14
  go_wp2_with fail
  refine (heldInts_any _ _ _ _ _ g0_176.ints hr0 (by omega) (by omega)).mono ?_
  rintro e w' ⟨rfl, rfl⟩
  go_wp2_with fail
  go_ret
  exact ⟨rfl, bthen hW hB_180 hW.size⟩
end Go.Proofs.Ytoijogaogheciaa
