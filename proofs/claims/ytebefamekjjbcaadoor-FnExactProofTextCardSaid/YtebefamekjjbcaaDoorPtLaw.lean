/- The walk of the law on ProofText. Condition: the table of powers of ten. -/
import Derived.Test.YtebefamekjjbcaaDoorPts
import Derived.Test.YtebefamekjjbcaaDoorPtw
import Derived.Test.YtebefamekjjbcaaDoorPErr2
import Derived.Test.YtebefamekjjbcaaDoorPrfIO
import Derived.Test.YtebefamekjjbcaaDoorKA
set_option linter.unusedVariables false
set_option maxRecDepth 100000
namespace Go.Proofs.YtebefamekjjbcaaDoor
open Go.RowKit Go.Joins Go.Deep
attribute [local go_sem ↓] Go.wp_at_zero Go.wp_at_succ

set_option maxHeartbeats 8000000 in
theorem law_FnExactProofText (A0 : Option Addr) (n0 c0 : Nat) (ns0 : List Nd) (B0 : Option Addr) (m0 d0 : Nat) (ps0 : List Pp) (A1 : Option Addr) (n1 c1 : Nat) (zs1 : List Int) (B1 : Option Addr) (m1 d1 : Nat) (ys1 : List Int) (w : World) (h0 : IsNet w A0 n0 c0 ns0 B0 m0 d0 ps0) (h1 : (Ints w A1 n1 zs1 ∧ n1 ≤ c1 ∧ c1 ≤ maxLen) ∧ Ints w B1 m1 ys1 ∧ m1 ≤ d1 ∧ d1 ≤ maxLen) (hT : PowTab w) :
    Calls Tryd.prog 3 #[.agg #[.slice A0 n0 c0, .slice B0 m0 d0], .agg #[.slice A1 n1 c1, .slice B1 m1 d1]] w fun e w' => e = .returned (.bool true) ∧ Below w.heap.size w w' := by
  obtain ⟨⟨hz1, he1, hm_1⟩, hy1, hf1, hg_1⟩ := h1
  obtain rfl : zs1.length = n1 := hz1.len
  obtain rfl : ys1.length = m1 := hy1.len
  unfold maxLen at hm_1 hg_1
  have bA_1 := box_new w #[.slice A0 n0 c0, .slice B0 m0 d0] 25
  have bA_2 := box_at (w.alloc (.cells #[.slice A0 n0 c0, .slice B0 m0 d0] 25)) #[.slice A1 zs1.length c1, .slice B1 ys1.length d1] 28 (g := w.heap.size + 1) (by simp)
  have bA_3 := bA_1.alloc (.cells #[.slice A1 zs1.length c1, .slice B1 ys1.length d1] 28)
  clear bA_1
  have hW : Below w.heap.size w ((w.alloc (.cells #[.slice A0 n0 c0, .slice B0 m0 d0] 25)).alloc (.cells #[.slice A1 zs1.length c1, .slice B1 ys1.length d1] 28)) := by
    repeat (first | exact Below.refl _ _ | refine Below.alloc ?_ (by simp <;> omega) _)
  have nV0 := h0.below hW
  have pV1 := hz1.below hW
  have qV1 := hy1.below hW
  go_enter Tryd.func3, Tryd.ntmps3
  go_wp2_with fail
  have hs0 : w.heap.size + 2 ≤ ((w.alloc (.cells #[.slice A0 n0 c0, .slice B0 m0 d0] 25)).alloc (.cells #[.slice A1 zs1.length c1, .slice B1 ys1.length d1] 28)).heap.size := by simp
  generalize ((w.alloc (.cells #[.slice A0 n0 c0, .slice B0 m0 d0] 25)).alloc (.cells #[.slice A1 zs1.length c1, .slice B1 ys1.length d1] 28)) = V at *
  have hB_0 : Below V.heap.size V V := Below.refl _ _
  have x_4 := bA_3.lt
  have x_5 : V.cell? ⟨w.heap.size, 0, none⟩ = some (.slice A0 n0 c0) := bA_3.cell 0
  have x_6 : V.cell? ⟨w.heap.size, 1, none⟩ = some (.slice B0 m0 d0) := bA_3.cell 1
  have x_7 := bA_2.lt
  have x_8 : V.cell? ⟨w.heap.size + 1, 0, none⟩ = some (.slice A1 zs1.length c1) := bA_2.cell 0
  have x_9 : V.cell? ⟨w.heap.size + 1, 1, none⟩ = some (.slice B1 ys1.length d1) := bA_2.cell 1
  refine (szNet_any _ _ _ _ _ _ ns0 _ _ (nV0.below hB_0).nodes (Nat.le_trans h0.capA.1 h0.capA.2) (Nat.le_trans h0.capB.1 h0.capB.2) (by omega) (by omega)).mono ?_
  rintro e w1 ⟨left0, rfl, hleft0, hb1⟩
  have b_10 := bA_3.belowA hb1
  have b_11 := bA_2.belowA hb1
  have hB_12 := bthen hB_0 hb1 hB_0.size
  clear hB_0
  have sz_13 : V.heap.size ≤ w1.heap.size := hb1.size
  clear bA_3
  clear bA_2
  clear x_4 x_5 x_6 x_7 x_8 x_9
  have x_14 := b_10.lt
  have x_15 : w1.cell? ⟨w.heap.size, 0, none⟩ = some (.slice A0 n0 c0) := b_10.cell 0
  have x_16 : w1.cell? ⟨w.heap.size, 1, none⟩ = some (.slice B0 m0 d0) := b_10.cell 1
  have x_17 := b_11.lt
  have x_18 : w1.cell? ⟨w.heap.size + 1, 0, none⟩ = some (.slice A1 zs1.length c1) := b_11.cell 0
  have x_19 : w1.cell? ⟨w.heap.size + 1, 1, none⟩ = some (.slice B1 ys1.length d1) := b_11.cell 1
  clear hb1
  rcases hleft0 with rfl | ⟨hl0_0, hl1_0⟩
  · go_wp2_with fail
    go_ret
    exact ⟨rfl, bthen hW hB_12 hW.size⟩
  have hn0 : n0 ≤ 1048576 := by omega
  have hm0 : m0 ≤ 1048576 := by omega
  go_wp2_with fail
  refine (szProof_any _ _ _ _ _ _ _ _ (by omega) (by omega) (by omega) (by omega)).mono ?_
  rintro e w2 ⟨left1, rfl, hleft1, hb2⟩
  have b_20 := b_10.belowA hb2
  have b_21 := b_11.belowA hb2
  have hB_22 := bthen hB_12 hb2 hB_12.size
  clear hB_12
  have sz_23 : w1.heap.size ≤ w2.heap.size := hb2.size
  clear b_10
  clear b_11
  clear x_14 x_15 x_16 x_17 x_18 x_19
  have x_24 := b_20.lt
  have x_25 : w2.cell? ⟨w.heap.size, 0, none⟩ = some (.slice A0 n0 c0) := b_20.cell 0
  have x_26 : w2.cell? ⟨w.heap.size, 1, none⟩ = some (.slice B0 m0 d0) := b_20.cell 1
  have x_27 := b_21.lt
  have x_28 : w2.cell? ⟨w.heap.size + 1, 0, none⟩ = some (.slice A1 zs1.length c1) := b_21.cell 0
  have x_29 : w2.cell? ⟨w.heap.size + 1, 1, none⟩ = some (.slice B1 ys1.length d1) := b_21.cell 1
  clear hb2
  rcases hleft1 with rfl | ⟨hl0_1, hl1_1⟩
  · go_wp2_with fail
    go_ret
    exact ⟨rfl, bthen hW hB_22 hW.size⟩
  have hl1 : zs1.length ≤ 1048576 := by omega
  have hk1 : ys1.length ≤ 1048576 := by omega
  have HT := Lib.hid hT
  clear hT
  have kv_30 : Kept _ := ⟨nV0⟩
  clear nV0
  have kv_31 : Kept _ := ⟨pV1⟩
  clear pV1
  have kv_32 : Kept _ := ⟨qV1⟩
  clear qV1
  have kw_33 : Kept _ := ⟨hW⟩
  clear hW
  have kU : Kept (Below w2.heap.size w2 w2.drew) := ⟨(Below.refl _ _).drew⟩
  go_wp2_with fail
  go_region_held3 (fun w' => w.heap.size < w'.heap.size ∧ w.heap.size + 1 < w'.heap.size ∧ w'.cell? ⟨w.heap.size, 0, none⟩ = some (.slice A0 n0 c0) ∧ w'.cell? ⟨w.heap.size, 1, none⟩ = some (.slice B0 m0 d0) ∧ w'.cell? ⟨w.heap.size + 1, 0, none⟩ = some (.slice A1 zs1.length c1) ∧ w'.cell? ⟨w.heap.size + 1, 1, none⟩ = some (.slice B1 ys1.length d1) ∧ Kept (Below w2.heap.size w2 w'))
    (first | (go_split_ands; refine ⟨by have := hbr.size; omega, by have := hbr.size; omega, ?_, ?_, ?_, ?_, ⟨bthen (Kept.out ‹Kept (Below _ _ _)›) hbr (Kept.out ‹Kept (Below _ _ _)›).size⟩⟩ <;> (rw [hbr.cell (by simp; omega)]; assumption)) | go_keep)
    (first | (go_at_call 7; go_split_ands; refine (toNetw_any _ _ _ _ _ _ _ _ _ ((kv_30.out.below hB_22).below (Kept.out ‹Kept (Below w2.heap.size _ _)›)) hn0 hm0).mono ?_; rintro e wr ⟨Ar, cr, Br, dr, rfl, oR0_, hbr⟩) | (go_at_call 8; go_split_ands; refine (toProofA_any _ _ _ _ _ _ _ ((kv_31.out.below hB_22).below (Kept.out ‹Kept (Below w2.heap.size _ _)›)) ((kv_32.out.below hB_22).below (Kept.out ‹Kept (Below w2.heap.size _ _)›)) hl1 hk1).mono ?_; rintro e ws ⟨As, cs, Bs, ds, rfl, oP1_, oQ1_, hbr⟩; have oR0_ := oR0_.below hbr) | (go_at_call 6; go_split_ands; refine (sPtx_any _ _ _ _ _ _ _ _ _ _ _ _ ns0 ps0 zs1 ys1 _ oR0_.reads oP1_.ints oQ1_.ints hl1 hk1).mono ?_; rintro e wq3 ⟨rfl, hbr⟩))
  rename_i hh
  obtain ⟨_, _, _, _, _, _, ⟨hb3⟩⟩ := hh
  have nV0 := kv_30.out
  clear kv_30
  have pV1 := kv_31.out
  clear kv_31
  have qV1 := kv_32.out
  clear kv_32
  have hW := kw_33.out
  clear kw_33
  clear kU
  have b_34 := b_20.belowA hb3
  have b_35 := b_21.belowA hb3
  have hB_36 := bthen hB_22 hb3 hB_22.size
  clear hB_22
  have sz_37 : w2.heap.size ≤ wq3.heap.size := hb3.size
  clear b_20
  clear b_21
  clear x_24 x_25 x_26 x_27 x_28 x_29
  have x_38 := b_34.lt
  have x_39 : wq3.cell? ⟨w.heap.size, 0, none⟩ = some (.slice A0 n0 c0) := b_34.cell 0
  have x_40 : wq3.cell? ⟨w.heap.size, 1, none⟩ = some (.slice B0 m0 d0) := b_34.cell 1
  have x_41 := b_35.lt
  have x_42 : wq3.cell? ⟨w.heap.size + 1, 0, none⟩ = some (.slice A1 zs1.length c1) := b_35.cell 0
  have x_43 : wq3.cell? ⟨w.heap.size + 1, 1, none⟩ = some (.slice B1 ys1.length d1) := b_35.cell 1
  clear hb3
  go_wp2_with fail
  refine (toNetw_any _ _ _ _ _ _ _ _ _ (nV0.below hB_36) hn0 hm0).mono ?_
  rintro e w4 ⟨A4, c4, B4, d4, rfl, oN4, hb4⟩
  have b_44 := b_34.belowA hb4
  have b_45 := b_35.belowA hb4
  have hB_46 := bthen hB_36 hb4 hB_36.size
  clear hB_36
  have sz_47 : wq3.heap.size ≤ w4.heap.size := hb4.size
  clear b_34
  clear b_35
  clear x_38 x_39 x_40 x_41 x_42 x_43
  have x_48 := b_44.lt
  have x_49 : w4.cell? ⟨w.heap.size, 0, none⟩ = some (.slice A0 n0 c0) := b_44.cell 0
  have x_50 : w4.cell? ⟨w.heap.size, 1, none⟩ = some (.slice B0 m0 d0) := b_44.cell 1
  have x_51 := b_45.lt
  have x_52 : w4.cell? ⟨w.heap.size + 1, 0, none⟩ = some (.slice A1 zs1.length c1) := b_45.cell 0
  have x_53 : w4.cell? ⟨w.heap.size + 1, 1, none⟩ = some (.slice B1 ys1.length d1) := b_45.cell 1
  clear hb4
  have rw_54 := oN4.nodes.1.rw_
  have rw_55 := oN4.pipes.1.rw_
  have ap_56 := ap_of oN4.pipes.1.1 oN4.nodes.1.1 (by decide)
  have hb5 : Below w4.heap.size w4 (w4.alloc (.cells #[.slice A4 n0 c4, .slice B4 m0 d4] 35)) := (Below.refl _ _).alloc (Nat.le_refl _) _
  have b_57 := box_new w4 #[.slice A4 n0 c4, .slice B4 m0 d4] 35
  have sz_58 : w4.heap.size + 1 ≤ (w4.alloc (.cells #[.slice A4 n0 c4, .slice B4 m0 d4] 35)).heap.size := by simp
  have x0_59 := oN4.below hb5
  clear oN4
  have b_60 := b_44.belowA hb5
  have b_61 := b_45.belowA hb5
  have hB_62 := bthen hB_46 hb5 hB_46.size
  clear hB_46
  have sz_63 : w4.heap.size ≤ (w4.alloc (.cells #[.slice A4 n0 c4, .slice B4 m0 d4] 35)).heap.size := hb5.size
  clear hb5
  go_wp2_with fail
  generalize (w4.alloc (.cells #[.slice A4 n0 c4, .slice B4 m0 d4] 35)) = w5 at *
  clear b_44
  clear b_45
  clear x_48 x_49 x_50 x_51 x_52 x_53
  have x_64 := b_60.lt
  have x_65 : w5.cell? ⟨w.heap.size, 0, none⟩ = some (.slice A0 n0 c0) := b_60.cell 0
  have x_66 : w5.cell? ⟨w.heap.size, 1, none⟩ = some (.slice B0 m0 d0) := b_60.cell 1
  have x_67 := b_61.lt
  have x_68 : w5.cell? ⟨w.heap.size + 1, 0, none⟩ = some (.slice A1 zs1.length c1) := b_61.cell 0
  have x_69 : w5.cell? ⟨w.heap.size + 1, 1, none⟩ = some (.slice B1 ys1.length d1) := b_61.cell 1
  have x_70 := b_57.lt
  have x_71 : w5.cell? ⟨w4.heap.size, 0, none⟩ = some (.slice A4 n0 c4) := b_57.cell 0
  have x_72 : w5.cell? ⟨w4.heap.size, 1, none⟩ = some (.slice B4 m0 d4) := b_57.cell 1
  refine (toProofA_any _ _ _ _ _ _ _ (pV1.below hB_62) (qV1.below hB_62) hl1 hk1).mono ?_
  rintro e w6 ⟨A6, c6, B6, d6, rfl, oP6, oQ6, hb6⟩
  have x0_73 := x0_59.below hb6
  clear x0_59
  have b_74 := b_60.belowA hb6
  have b_75 := b_61.belowA hb6
  have b_76 := b_57.belowA hb6
  have hB_77 := bthen hB_62 hb6 hB_62.size
  clear hB_62
  have sz_78 : w5.heap.size ≤ w6.heap.size := hb6.size
  clear b_60
  clear b_61
  clear b_57
  clear x_64 x_65 x_66 x_67 x_68 x_69 x_70 x_71 x_72
  have x_79 := b_74.lt
  have x_80 : w6.cell? ⟨w.heap.size, 0, none⟩ = some (.slice A0 n0 c0) := b_74.cell 0
  have x_81 : w6.cell? ⟨w.heap.size, 1, none⟩ = some (.slice B0 m0 d0) := b_74.cell 1
  have x_82 := b_75.lt
  have x_83 : w6.cell? ⟨w.heap.size + 1, 0, none⟩ = some (.slice A1 zs1.length c1) := b_75.cell 0
  have x_84 : w6.cell? ⟨w.heap.size + 1, 1, none⟩ = some (.slice B1 ys1.length d1) := b_75.cell 1
  have x_85 := b_76.lt
  have x_86 : w6.cell? ⟨w4.heap.size, 0, none⟩ = some (.slice A4 n0 c4) := b_76.cell 0
  have x_87 : w6.cell? ⟨w4.heap.size, 1, none⟩ = some (.slice B4 m0 d4) := b_76.cell 1
  clear hb6
  have rw_88 := oP6.rw_
  have rw_89 := oQ6.rw_
  have hb7 : Below w6.heap.size w6 (w6.alloc (.cells #[.slice A6 zs1.length c6, .slice B6 ys1.length d6] 37)) := (Below.refl _ _).alloc (Nat.le_refl _) _
  have b_90 := box_new w6 #[.slice A6 zs1.length c6, .slice B6 ys1.length d6] 37
  have sz_91 : w6.heap.size + 1 ≤ (w6.alloc (.cells #[.slice A6 zs1.length c6, .slice B6 ys1.length d6] 37)).heap.size := by simp
  have x0_92 := x0_73.below hb7
  clear x0_73
  have x1_93 := oP6.below hb7
  clear oP6
  have x1_94 := oQ6.below hb7
  clear oQ6
  have b_95 := b_74.belowA hb7
  have b_96 := b_75.belowA hb7
  have b_97 := b_76.belowA hb7
  have hB_98 := bthen hB_77 hb7 hB_77.size
  clear hB_77
  have sz_99 : w6.heap.size ≤ (w6.alloc (.cells #[.slice A6 zs1.length c6, .slice B6 ys1.length d6] 37)).heap.size := hb7.size
  clear hb7
  go_wp2_with fail
  generalize (w6.alloc (.cells #[.slice A6 zs1.length c6, .slice B6 ys1.length d6] 37)) = w7 at *
  clear b_74
  clear b_75
  clear b_76
  clear x_79 x_80 x_81 x_82 x_83 x_84 x_85 x_86 x_87
  have x_100 := b_95.lt
  have x_101 : w7.cell? ⟨w.heap.size, 0, none⟩ = some (.slice A0 n0 c0) := b_95.cell 0
  have x_102 : w7.cell? ⟨w.heap.size, 1, none⟩ = some (.slice B0 m0 d0) := b_95.cell 1
  have x_103 := b_96.lt
  have x_104 : w7.cell? ⟨w.heap.size + 1, 0, none⟩ = some (.slice A1 zs1.length c1) := b_96.cell 0
  have x_105 : w7.cell? ⟨w.heap.size + 1, 1, none⟩ = some (.slice B1 ys1.length d1) := b_96.cell 1
  have x_106 := b_97.lt
  have x_107 : w7.cell? ⟨w4.heap.size, 0, none⟩ = some (.slice A4 n0 c4) := b_97.cell 0
  have x_108 : w7.cell? ⟨w4.heap.size, 1, none⟩ = some (.slice B4 m0 d4) := b_97.cell 1
  have x_109 := b_90.lt
  have x_110 : w7.cell? ⟨w6.heap.size, 0, none⟩ = some (.slice A6 zs1.length c6) := b_90.cell 0
  have x_111 : w7.cell? ⟨w6.heap.size, 1, none⟩ = some (.slice B6 ys1.length d6) := b_90.cell 1
  refine (ptx_any _ _ _ _ _ _ _ _ _ _ _ _ ns0 ps0 zs1 ys1 _ x0_92.reads x1_93.ints x1_94.ints hl1 hk1 ((HT.out.below hW).below hB_98)).mono ?_
  rintro e w8 ⟨rfl, hb8⟩
  have x0_112 := x0_92.below hb8
  clear x0_92
  have x1_113 := x1_93.below hb8
  clear x1_93
  have x1_114 := x1_94.below hb8
  clear x1_94
  have b_115 := b_95.belowA hb8
  have b_116 := b_96.belowA hb8
  have b_117 := b_97.belowA hb8
  have b_118 := b_90.belowA hb8
  have hB_119 := bthen hB_98 hb8 hB_98.size
  clear hB_98
  have sz_120 : w7.heap.size ≤ w8.heap.size := hb8.size
  clear b_95
  clear b_96
  clear b_97
  clear b_90
  clear x_100 x_101 x_102 x_103 x_104 x_105 x_106 x_107 x_108 x_109 x_110 x_111
  have x_121 := b_115.lt
  have x_122 : w8.cell? ⟨w.heap.size, 0, none⟩ = some (.slice A0 n0 c0) := b_115.cell 0
  have x_123 : w8.cell? ⟨w.heap.size, 1, none⟩ = some (.slice B0 m0 d0) := b_115.cell 1
  have x_124 := b_116.lt
  have x_125 : w8.cell? ⟨w.heap.size + 1, 0, none⟩ = some (.slice A1 zs1.length c1) := b_116.cell 0
  have x_126 : w8.cell? ⟨w.heap.size + 1, 1, none⟩ = some (.slice B1 ys1.length d1) := b_116.cell 1
  have x_127 := b_117.lt
  have x_128 : w8.cell? ⟨w4.heap.size, 0, none⟩ = some (.slice A4 n0 c4) := b_117.cell 0
  have x_129 : w8.cell? ⟨w4.heap.size, 1, none⟩ = some (.slice B4 m0 d4) := b_117.cell 1
  have x_130 := b_118.lt
  have x_131 : w8.cell? ⟨w6.heap.size, 0, none⟩ = some (.slice A6 zs1.length c6) := b_118.cell 0
  have x_132 : w8.cell? ⟨w6.heap.size, 1, none⟩ = some (.slice B6 ys1.length d6) := b_118.cell 1
  clear hb8
  have kp_133 : Kept _ := ⟨x0_112⟩
  clear x0_112
  have kp_134 : Kept _ := ⟨x1_113⟩
  clear x1_113
  have kp_135 : Kept _ := ⟨x1_114⟩
  clear x1_114
  have kv_136 : Kept _ := ⟨nV0⟩
  clear nV0
  have kv_137 : Kept _ := ⟨pV1⟩
  clear pV1
  have kv_138 : Kept _ := ⟨qV1⟩
  clear qV1
  have kw_139 : Kept _ := ⟨hW⟩
  clear hW
  have kU : Kept (Below w8.heap.size w8 w8.drew) := ⟨(Below.refl _ _).drew⟩
  go_wp2_with fail
  go_region_held3 (fun w' => w.heap.size < w'.heap.size ∧ w4.heap.size < w'.heap.size ∧ w'.cell? ⟨w.heap.size, 0, none⟩ = some (.slice A0 n0 c0) ∧ w'.cell? ⟨w.heap.size, 1, none⟩ = some (.slice B0 m0 d0) ∧ w'.cell? ⟨w4.heap.size, 0, none⟩ = some (.slice A4 n0 c4) ∧ w'.cell? ⟨w4.heap.size, 1, none⟩ = some (.slice B4 m0 d4) ∧ Kept (Below w8.heap.size w8 w'))
    (first | (go_split_ands; refine ⟨by have := hbr.size; omega, by have := hbr.size; omega, ?_, ?_, ?_, ?_, ⟨bthen (Kept.out ‹Kept (Below _ _ _)›) hbr (Kept.out ‹Kept (Below _ _ _)›).size⟩⟩ <;> (rw [hbr.cell (by simp; omega)]; assumption)) | go_keep)
    (first | (go_at_call 7; go_split_ands; refine (toNetw_any _ _ _ _ _ _ _ _ _ ((kv_136.out.below hB_119).below (Kept.out ‹Kept (Below w8.heap.size _ _)›)) hn0 hm0).mono ?_; rintro e wr ⟨Ar, cr, Br, dr, rfl, oR, hbr⟩) | (go_at_call 10; go_split_ands; refine (eqNet_any _ _ _ _ _ _ _ _ _ _ _ _ ns0 ns0 ps0 ps0 _ (kp_133.out.reads.below (Kept.out ‹Kept (Below w8.heap.size _ _)›)).nodes (kp_133.out.reads.below (Kept.out ‹Kept (Below w8.heap.size _ _)›)).pipes oR.reads.nodes oR.reads.pipes hn0 hm0).mono ?_; rintro e wq9 ⟨be, hbe, rfl, hbr⟩; obtain rfl : be = true := hbe.2 ⟨rfl, rfl⟩; clear hbe))
  rename_i hh
  obtain ⟨_, _, _, _, _, _, ⟨hb9⟩⟩ := hh
  have x0_140 := kp_133.out
  clear kp_133
  have x1_141 := kp_134.out
  clear kp_134
  have x1_142 := kp_135.out
  clear kp_135
  have nV0 := kv_136.out
  clear kv_136
  have pV1 := kv_137.out
  clear kv_137
  have qV1 := kv_138.out
  clear kv_138
  have hW := kw_139.out
  clear kw_139
  clear kU
  have x0_143 := x0_140.below hb9
  clear x0_140
  have x1_144 := x1_141.below hb9
  clear x1_141
  have x1_145 := x1_142.below hb9
  clear x1_142
  have b_146 := b_115.belowA hb9
  have b_147 := b_116.belowA hb9
  have b_148 := b_117.belowA hb9
  have b_149 := b_118.belowA hb9
  have hB_150 := bthen hB_119 hb9 hB_119.size
  clear hB_119
  have sz_151 : w8.heap.size ≤ wq9.heap.size := hb9.size
  clear b_115
  clear b_116
  clear b_117
  clear b_118
  clear x_121 x_122 x_123 x_124 x_125 x_126 x_127 x_128 x_129 x_130 x_131 x_132
  have x_152 := b_146.lt
  have x_153 : wq9.cell? ⟨w.heap.size, 0, none⟩ = some (.slice A0 n0 c0) := b_146.cell 0
  have x_154 : wq9.cell? ⟨w.heap.size, 1, none⟩ = some (.slice B0 m0 d0) := b_146.cell 1
  have x_155 := b_147.lt
  have x_156 : wq9.cell? ⟨w.heap.size + 1, 0, none⟩ = some (.slice A1 zs1.length c1) := b_147.cell 0
  have x_157 : wq9.cell? ⟨w.heap.size + 1, 1, none⟩ = some (.slice B1 ys1.length d1) := b_147.cell 1
  have x_158 := b_148.lt
  have x_159 : wq9.cell? ⟨w4.heap.size, 0, none⟩ = some (.slice A4 n0 c4) := b_148.cell 0
  have x_160 : wq9.cell? ⟨w4.heap.size, 1, none⟩ = some (.slice B4 m0 d4) := b_148.cell 1
  have x_161 := b_149.lt
  have x_162 : wq9.cell? ⟨w6.heap.size, 0, none⟩ = some (.slice A6 zs1.length c6) := b_149.cell 0
  have x_163 : wq9.cell? ⟨w6.heap.size, 1, none⟩ = some (.slice B6 ys1.length d6) := b_149.cell 1
  clear hb9
  have kp_164 : Kept _ := ⟨x0_143⟩
  clear x0_143
  have kp_165 : Kept _ := ⟨x1_144⟩
  clear x1_144
  have kp_166 : Kept _ := ⟨x1_145⟩
  clear x1_145
  have kv_167 : Kept _ := ⟨nV0⟩
  clear nV0
  have kv_168 : Kept _ := ⟨pV1⟩
  clear pV1
  have kv_169 : Kept _ := ⟨qV1⟩
  clear qV1
  have kw_170 : Kept _ := ⟨hW⟩
  clear hW
  have kU : Kept (Below wq9.heap.size wq9 wq9.drew) := ⟨(Below.refl _ _).drew⟩
  go_wp2_with fail
  go_region_held3 (fun w' => w.heap.size + 1 < w'.heap.size ∧ w6.heap.size < w'.heap.size ∧ w'.cell? ⟨w.heap.size + 1, 0, none⟩ = some (.slice A1 zs1.length c1) ∧ w'.cell? ⟨w.heap.size + 1, 1, none⟩ = some (.slice B1 ys1.length d1) ∧ w'.cell? ⟨w6.heap.size, 0, none⟩ = some (.slice A6 zs1.length c6) ∧ w'.cell? ⟨w6.heap.size, 1, none⟩ = some (.slice B6 ys1.length d6) ∧ Kept (Below wq9.heap.size wq9 w'))
    (first | (go_split_ands; refine ⟨by have := hbr.size; omega, by have := hbr.size; omega, ?_, ?_, ?_, ?_, ⟨bthen (Kept.out ‹Kept (Below _ _ _)›) hbr (Kept.out ‹Kept (Below _ _ _)›).size⟩⟩ <;> (rw [hbr.cell (by simp; omega)]; assumption)) | go_keep)
    (first | (go_at_call 8; go_split_ands; refine (toProofA_any _ _ _ _ _ _ _ ((kv_168.out.below hB_150).below (Kept.out ‹Kept (Below wq9.heap.size _ _)›)) ((kv_169.out.below hB_150).below (Kept.out ‹Kept (Below wq9.heap.size _ _)›)) hl1 hk1).mono ?_; rintro e wr ⟨Ar, cr, Br, dr, rfl, oR, oR2, hbr⟩) | (go_at_call 11; go_split_ands; refine (eqProofA_any _ _ _ _ _ _ _ _ _ _ _ (kp_165.out.ints.below (Kept.out ‹Kept (Below wq9.heap.size _ _)›)) (kp_166.out.ints.below (Kept.out ‹Kept (Below wq9.heap.size _ _)›)) oR.ints oR2.ints hl1 hk1).mono ?_; rintro e wq10 ⟨rfl, hbr⟩))
  rename_i hh
  obtain ⟨_, _, _, _, _, _, ⟨hb10⟩⟩ := hh
  have x0_171 := kp_164.out
  clear kp_164
  have x1_172 := kp_165.out
  clear kp_165
  have x1_173 := kp_166.out
  clear kp_166
  have nV0 := kv_167.out
  clear kv_167
  have pV1 := kv_168.out
  clear kv_168
  have qV1 := kv_169.out
  clear kv_169
  have hW := kw_170.out
  clear kw_170
  clear kU
  have x0_174 := x0_171.below hb10
  clear x0_171
  have x1_175 := x1_172.below hb10
  clear x1_172
  have x1_176 := x1_173.below hb10
  clear x1_173
  have b_177 := b_146.belowA hb10
  have b_178 := b_147.belowA hb10
  have b_179 := b_148.belowA hb10
  have b_180 := b_149.belowA hb10
  have hB_181 := bthen hB_150 hb10 hB_150.size
  clear hB_150
  have sz_182 : wq9.heap.size ≤ wq10.heap.size := hb10.size
  clear b_146
  clear b_147
  clear b_148
  clear b_149
  clear x_152 x_153 x_154 x_155 x_156 x_157 x_158 x_159 x_160 x_161 x_162 x_163
  have x_183 := b_177.lt
  have x_184 : wq10.cell? ⟨w.heap.size, 0, none⟩ = some (.slice A0 n0 c0) := b_177.cell 0
  have x_185 : wq10.cell? ⟨w.heap.size, 1, none⟩ = some (.slice B0 m0 d0) := b_177.cell 1
  have x_186 := b_178.lt
  have x_187 : wq10.cell? ⟨w.heap.size + 1, 0, none⟩ = some (.slice A1 zs1.length c1) := b_178.cell 0
  have x_188 : wq10.cell? ⟨w.heap.size + 1, 1, none⟩ = some (.slice B1 ys1.length d1) := b_178.cell 1
  have x_189 := b_179.lt
  have x_190 : wq10.cell? ⟨w4.heap.size, 0, none⟩ = some (.slice A4 n0 c4) := b_179.cell 0
  have x_191 : wq10.cell? ⟨w4.heap.size, 1, none⟩ = some (.slice B4 m0 d4) := b_179.cell 1
  have x_192 := b_180.lt
  have x_193 : wq10.cell? ⟨w6.heap.size, 0, none⟩ = some (.slice A6 zs1.length c6) := b_180.cell 0
  have x_194 : wq10.cell? ⟨w6.heap.size, 1, none⟩ = some (.slice B6 ys1.length d6) := b_180.cell 1
  clear hb10
  go_wp2_with fail
  go_ret
  exact ⟨rfl, bthen hW hB_181 hW.size⟩
end Go.Proofs.YtebefamekjjbcaaDoor
