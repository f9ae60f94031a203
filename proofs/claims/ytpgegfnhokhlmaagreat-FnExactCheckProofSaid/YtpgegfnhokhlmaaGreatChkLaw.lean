/- The walk of the law on CheckProof. No condition. -/
import Derived.Test.YtpgegfnhokhlmaaGreatChk
import Derived.Test.YtpgegfnhokhlmaaGreatChkS
import Derived.Test.YtpgegfnhokhlmaaGreatMarkP
import Derived.Test.YtpgegfnhokhlmaaGreatPrfIO
set_option linter.unusedVariables false
set_option maxRecDepth 100000
namespace Go.Proofs.YtpgegfnhokhlmaaGreat
open Go.RowKit Go.Joins Go.Deep
attribute [local go_sem ↓] Go.wp_at_zero Go.wp_at_succ

set_option maxHeartbeats 8000000 in
theorem law_FnExactCheckProof (A0 : Option Addr) (n0 c0 : Nat) (ns0 : List Nd) (B0 : Option Addr) (m0 d0 : Nat) (ps0 : List Pp) (Z1 : Option Addr) (l1 e1 : Nat) (zs1 : List Int) (A2 : Option Addr) (n2 c2 : Nat) (zs2 : List Int) (B2 : Option Addr) (m2 d2 : Nat) (ys2 : List Int) (w : World) (h0 : IsNet w A0 n0 c0 ns0 B0 m0 d0 ps0) (h1 : Ints w Z1 l1 zs1 ∧ l1 ≤ e1 ∧ e1 ≤ maxLen) (h2 : (Ints w A2 n2 zs2 ∧ n2 ≤ c2 ∧ c2 ≤ maxLen) ∧ Ints w B2 m2 ys2 ∧ m2 ≤ d2 ∧ d2 ≤ maxLen) :
    Calls Tryz.prog 7 #[.agg #[.slice A0 n0 c0, .slice B0 m0 d0], .slice Z1 l1 e1, .agg #[.slice A2 n2 c2, .slice B2 m2 d2]] w fun e w' => e = .returned (.bool true) ∧ Below w.heap.size w w' := by
  obtain ⟨hz1, he1, hm_1⟩ := h1
  obtain rfl : zs1.length = l1 := hz1.len
  unfold maxLen at hm_1
  obtain ⟨⟨hz2, he2, hm_2⟩, hy2, hf2, hg_2⟩ := h2
  obtain rfl : zs2.length = n2 := hz2.len
  obtain rfl : ys2.length = m2 := hy2.len
  unfold maxLen at hm_2 hg_2
  have bA_1 := box_new w #[.slice A0 n0 c0, .slice B0 m0 d0] 25
  have bA_2 := box_at (w.alloc (.cells #[.slice A0 n0 c0, .slice B0 m0 d0] 25)) #[.slice A2 zs2.length c2, .slice B2 ys2.length d2] 48 (g := w.heap.size + 1) (by simp)
  have bA_3 := bA_1.alloc (.cells #[.slice A2 zs2.length c2, .slice B2 ys2.length d2] 48)
  clear bA_1
  have hW : Below w.heap.size w ((w.alloc (.cells #[.slice A0 n0 c0, .slice B0 m0 d0] 25)).alloc (.cells #[.slice A2 zs2.length c2, .slice B2 ys2.length d2] 48)) := by
    repeat (first | exact Below.refl _ _ | refine Below.alloc ?_ (by simp <;> omega) _)
  have nV0 := h0.below hW
  have iV1 := hz1.below hW
  have pV2 := hz2.below hW
  have qV2 := hy2.below hW
  by_cases hbig1 : (1048576 : Int) < zs1.length
  case pos =>
    go_enter Tryz.func7, Tryz.ntmps7
    go_wp2_with fail
    go_ret
    exact ⟨rfl, hW⟩
  have hl1 : zs1.length ≤ 1048576 := by omega
  go_enter Tryz.func7, Tryz.ntmps7
  go_wp2_with fail
  have hs0 : w.heap.size + 2 ≤ ((w.alloc (.cells #[.slice A0 n0 c0, .slice B0 m0 d0] 25)).alloc (.cells #[.slice A2 zs2.length c2, .slice B2 ys2.length d2] 48)).heap.size := by simp
  generalize ((w.alloc (.cells #[.slice A0 n0 c0, .slice B0 m0 d0] 25)).alloc (.cells #[.slice A2 zs2.length c2, .slice B2 ys2.length d2] 48)) = V at *
  have hB_0 : Below V.heap.size V V := Below.refl _ _
  have x_4 := bA_3.lt
  have x_5 : V.cell? ⟨w.heap.size, 0, none⟩ = some (.slice A0 n0 c0) := bA_3.cell 0
  have x_6 : V.cell? ⟨w.heap.size, 1, none⟩ = some (.slice B0 m0 d0) := bA_3.cell 1
  have x_7 := bA_2.lt
  have x_8 : V.cell? ⟨w.heap.size + 1, 0, none⟩ = some (.slice A2 zs2.length c2) := bA_2.cell 0
  have x_9 : V.cell? ⟨w.heap.size + 1, 1, none⟩ = some (.slice B2 ys2.length d2) := bA_2.cell 1
  refine (szNet_any _ _ _ _ _ _ ns0 _ _ (nV0.below hB_0).nodes (Nat.le_trans h0.capA.1 h0.capA.2) (Nat.le_trans h0.capB.1 h0.capB.2) (by omega) (by omega)).mono ?_
  rintro e w1 ⟨left0, rfl, hleft0, hb1⟩
  have b_10 := bA_3.belowA hb1
  have b_11 := bA_2.belowA hb1
  have hB_12 := bthen hB_0 hb1 hB_0.size
  clear hB_0
  have sz_13 : V.heap.size ≤ w1.heap.size := hb1.size
  clear bA_3
  clear bA_2
  clear x_4 x_5 x_6 x_7 x_8 x_9
  have x_14 := b_10.lt
  have x_15 : w1.cell? ⟨w.heap.size, 0, none⟩ = some (.slice A0 n0 c0) := b_10.cell 0
  have x_16 : w1.cell? ⟨w.heap.size, 1, none⟩ = some (.slice B0 m0 d0) := b_10.cell 1
  have x_17 := b_11.lt
  have x_18 : w1.cell? ⟨w.heap.size + 1, 0, none⟩ = some (.slice A2 zs2.length c2) := b_11.cell 0
  have x_19 : w1.cell? ⟨w.heap.size + 1, 1, none⟩ = some (.slice B2 ys2.length d2) := b_11.cell 1
  clear hb1
  rcases hleft0 with rfl | ⟨hl0_0, hl1_0⟩
  · go_wp2_with fail
    go_ret
    exact ⟨rfl, bthen hW hB_12 hW.size⟩
  have hn0 : n0 ≤ 1048576 := by omega
  have hm0 : m0 ≤ 1048576 := by omega
  go_wp2_with fail
  refine (szProof_any _ _ _ _ _ _ _ _ (by omega) (by omega) (by omega) (by omega)).mono ?_
  rintro e w2 ⟨left2, rfl, hleft2, hb2⟩
  have b_20 := b_10.belowA hb2
  have b_21 := b_11.belowA hb2
  have hB_22 := bthen hB_12 hb2 hB_12.size
  clear hB_12
  have sz_23 : w1.heap.size ≤ w2.heap.size := hb2.size
  clear b_10
  clear b_11
  clear x_14 x_15 x_16 x_17 x_18 x_19
  have x_24 := b_20.lt
  have x_25 : w2.cell? ⟨w.heap.size, 0, none⟩ = some (.slice A0 n0 c0) := b_20.cell 0
  have x_26 : w2.cell? ⟨w.heap.size, 1, none⟩ = some (.slice B0 m0 d0) := b_20.cell 1
  have x_27 := b_21.lt
  have x_28 : w2.cell? ⟨w.heap.size + 1, 0, none⟩ = some (.slice A2 zs2.length c2) := b_21.cell 0
  have x_29 : w2.cell? ⟨w.heap.size + 1, 1, none⟩ = some (.slice B2 ys2.length d2) := b_21.cell 1
  clear hb2
  rcases hleft2 with rfl | ⟨hl0_2, hl1_2⟩
  · go_wp2_with fail
    go_ret
    exact ⟨rfl, bthen hW hB_22 hW.size⟩
  have hl2 : zs2.length ≤ 1048576 := by omega
  have hk2 : ys2.length ≤ 1048576 := by omega
  have kv_30 : Kept _ := ⟨nV0⟩
  clear nV0
  have kv_31 : Kept _ := ⟨iV1⟩
  clear iV1
  have kv_32 : Kept _ := ⟨pV2⟩
  clear pV2
  have kv_33 : Kept _ := ⟨qV2⟩
  clear qV2
  have kw_34 : Kept _ := ⟨hW⟩
  clear hW
  have kU : Kept (Below w2.heap.size w2 w2.drew) := ⟨(Below.refl _ _).drew⟩
  go_wp2_with fail
  go_region_held3 (fun w' => w.heap.size < w'.heap.size ∧ w.heap.size + 1 < w'.heap.size ∧ w'.cell? ⟨w.heap.size, 0, none⟩ = some (.slice A0 n0 c0) ∧ w'.cell? ⟨w.heap.size, 1, none⟩ = some (.slice B0 m0 d0) ∧ w'.cell? ⟨w.heap.size + 1, 0, none⟩ = some (.slice A2 zs2.length c2) ∧ w'.cell? ⟨w.heap.size + 1, 1, none⟩ = some (.slice B2 ys2.length d2) ∧ Kept (Below w2.heap.size w2 w'))
    (first | (go_split_ands; refine ⟨by have := hbr.size; omega, by have := hbr.size; omega, ?_, ?_, ?_, ?_, ⟨bthen (Kept.out ‹Kept (Below _ _ _)›) hbr (Kept.out ‹Kept (Below _ _ _)›).size⟩⟩ <;> (rw [hbr.cell (by simp; omega)]; assumption)) | go_keep)
    (first | (go_at_call 16; go_split_ands; refine (toNetw_any _ _ _ _ _ _ _ _ _ ((kv_30.out.below hB_22).below (Kept.out ‹Kept (Below w2.heap.size _ _)›)) hn0 hm0).mono ?_; rintro e wr ⟨Ar, cr, Br, dr, rfl, oR0_, hbr⟩) | (go_at_call 17; go_split_ands; refine (toInts_any _ _ _ _ _ ((kv_31.out.below hB_22).below (Kept.out ‹Kept (Below w2.heap.size _ _)›)) hl1).mono ?_; rintro e wt ⟨At, ct, rfl, oZ1_, hbr⟩; have oR0_ := oR0_.below hbr) | (go_at_call 32; go_split_ands; refine (toProofA_any _ _ _ _ _ _ _ ((kv_32.out.below hB_22).below (Kept.out ‹Kept (Below w2.heap.size _ _)›)) ((kv_33.out.below hB_22).below (Kept.out ‹Kept (Below w2.heap.size _ _)›)) hl2 hk2).mono ?_; rintro e ws ⟨As, cs, Bs, ds, rfl, oP2_, oQ2_, hbr⟩; have oR0_ := oR0_.below hbr; have oZ1_ := oZ1_.below hbr) | (go_at_call 31; go_split_ands; refine (sChk_any _ _ _ _ _ _ _ _ _ _ _ _ _ _ _ zs1 zs2 ys2 ns0 ps0 _ oR0_.reads oZ1_.ints oP2_.ints oQ2_.ints hl1 hl2 hk2).mono ?_; rintro e wq3 ⟨rfl, hbr⟩))
  rename_i hh
  obtain ⟨_, _, _, _, _, _, ⟨hb3⟩⟩ := hh
  have nV0 := kv_30.out
  clear kv_30
  have iV1 := kv_31.out
  clear kv_31
  have pV2 := kv_32.out
  clear kv_32
  have qV2 := kv_33.out
  clear kv_33
  have hW := kw_34.out
  clear kw_34
  clear kU
  have b_35 := b_20.belowA hb3
  have b_36 := b_21.belowA hb3
  have hB_37 := bthen hB_22 hb3 hB_22.size
  clear hB_22
  have sz_38 : w2.heap.size ≤ wq3.heap.size := hb3.size
  clear b_20
  clear b_21
  clear x_24 x_25 x_26 x_27 x_28 x_29
  have x_39 := b_35.lt
  have x_40 : wq3.cell? ⟨w.heap.size, 0, none⟩ = some (.slice A0 n0 c0) := b_35.cell 0
  have x_41 : wq3.cell? ⟨w.heap.size, 1, none⟩ = some (.slice B0 m0 d0) := b_35.cell 1
  have x_42 := b_36.lt
  have x_43 : wq3.cell? ⟨w.heap.size + 1, 0, none⟩ = some (.slice A2 zs2.length c2) := b_36.cell 0
  have x_44 : wq3.cell? ⟨w.heap.size + 1, 1, none⟩ = some (.slice B2 ys2.length d2) := b_36.cell 1
  clear hb3
  go_wp2_with fail
  refine (toNetw_any _ _ _ _ _ _ _ _ _ (nV0.below hB_37) hn0 hm0).mono ?_
  rintro e w4 ⟨A4, c4, B4, d4, rfl, oN4, hb4⟩
  have b_45 := b_35.belowA hb4
  have b_46 := b_36.belowA hb4
  have hB_47 := bthen hB_37 hb4 hB_37.size
  clear hB_37
  have sz_48 : wq3.heap.size ≤ w4.heap.size := hb4.size
  clear b_35
  clear b_36
  clear x_39 x_40 x_41 x_42 x_43 x_44
  have x_49 := b_45.lt
  have x_50 : w4.cell? ⟨w.heap.size, 0, none⟩ = some (.slice A0 n0 c0) := b_45.cell 0
  have x_51 : w4.cell? ⟨w.heap.size, 1, none⟩ = some (.slice B0 m0 d0) := b_45.cell 1
  have x_52 := b_46.lt
  have x_53 : w4.cell? ⟨w.heap.size + 1, 0, none⟩ = some (.slice A2 zs2.length c2) := b_46.cell 0
  have x_54 : w4.cell? ⟨w.heap.size + 1, 1, none⟩ = some (.slice B2 ys2.length d2) := b_46.cell 1
  clear hb4
  have rw_55 := oN4.nodes.1.rw_
  have rw_56 := oN4.pipes.1.rw_
  have ap_57 := ap_of oN4.pipes.1.1 oN4.nodes.1.1 (by decide)
  have hb5 : Below w4.heap.size w4 (w4.alloc (.cells #[.slice A4 n0 c4, .slice B4 m0 d4] 33)) := (Below.refl _ _).alloc (Nat.le_refl _) _
  have b_58 := box_new w4 #[.slice A4 n0 c4, .slice B4 m0 d4] 33
  have sz_59 : w4.heap.size + 1 ≤ (w4.alloc (.cells #[.slice A4 n0 c4, .slice B4 m0 d4] 33)).heap.size := by simp
  have x0_60 := oN4.below hb5
  clear oN4
  have b_61 := b_45.belowA hb5
  have b_62 := b_46.belowA hb5
  have hB_63 := bthen hB_47 hb5 hB_47.size
  clear hB_47
  have sz_64 : w4.heap.size ≤ (w4.alloc (.cells #[.slice A4 n0 c4, .slice B4 m0 d4] 33)).heap.size := hb5.size
  clear hb5
  go_wp2_with fail
  generalize (w4.alloc (.cells #[.slice A4 n0 c4, .slice B4 m0 d4] 33)) = w5 at *
  clear b_45
  clear b_46
  clear x_49 x_50 x_51 x_52 x_53 x_54
  have x_65 := b_61.lt
  have x_66 : w5.cell? ⟨w.heap.size, 0, none⟩ = some (.slice A0 n0 c0) := b_61.cell 0
  have x_67 : w5.cell? ⟨w.heap.size, 1, none⟩ = some (.slice B0 m0 d0) := b_61.cell 1
  have x_68 := b_62.lt
  have x_69 : w5.cell? ⟨w.heap.size + 1, 0, none⟩ = some (.slice A2 zs2.length c2) := b_62.cell 0
  have x_70 : w5.cell? ⟨w.heap.size + 1, 1, none⟩ = some (.slice B2 ys2.length d2) := b_62.cell 1
  have x_71 := b_58.lt
  have x_72 : w5.cell? ⟨w4.heap.size, 0, none⟩ = some (.slice A4 n0 c4) := b_58.cell 0
  have x_73 : w5.cell? ⟨w4.heap.size, 1, none⟩ = some (.slice B4 m0 d4) := b_58.cell 1
  refine (toInts_any _ _ _ _ _ (iV1.below hB_63) hl1).mono ?_
  rintro e w6 ⟨Z6, f6, rfl, oI6, hb6⟩
  have x0_74 := x0_60.below hb6
  clear x0_60
  have b_75 := b_61.belowA hb6
  have b_76 := b_62.belowA hb6
  have b_77 := b_58.belowA hb6
  have hB_78 := bthen hB_63 hb6 hB_63.size
  clear hB_63
  have sz_79 : w5.heap.size ≤ w6.heap.size := hb6.size
  clear b_61
  clear b_62
  clear b_58
  clear x_65 x_66 x_67 x_68 x_69 x_70 x_71 x_72 x_73
  have x_80 := b_75.lt
  have x_81 : w6.cell? ⟨w.heap.size, 0, none⟩ = some (.slice A0 n0 c0) := b_75.cell 0
  have x_82 : w6.cell? ⟨w.heap.size, 1, none⟩ = some (.slice B0 m0 d0) := b_75.cell 1
  have x_83 := b_76.lt
  have x_84 : w6.cell? ⟨w.heap.size + 1, 0, none⟩ = some (.slice A2 zs2.length c2) := b_76.cell 0
  have x_85 : w6.cell? ⟨w.heap.size + 1, 1, none⟩ = some (.slice B2 ys2.length d2) := b_76.cell 1
  have x_86 := b_77.lt
  have x_87 : w6.cell? ⟨w4.heap.size, 0, none⟩ = some (.slice A4 n0 c4) := b_77.cell 0
  have x_88 : w6.cell? ⟨w4.heap.size, 1, none⟩ = some (.slice B4 m0 d4) := b_77.cell 1
  clear hb6
  have rw_89 := oI6.rw_
  go_wp2_with fail
  refine (toProofA_any _ _ _ _ _ _ _ (pV2.below hB_78) (qV2.below hB_78) hl2 hk2).mono ?_
  rintro e w7 ⟨A7, c7, B7, d7, rfl, oP7, oQ7, hb7⟩
  have x0_90 := x0_74.below hb7
  clear x0_74
  have x1_91 := oI6.below hb7
  clear oI6
  have b_92 := b_75.belowA hb7
  have b_93 := b_76.belowA hb7
  have b_94 := b_77.belowA hb7
  have hB_95 := bthen hB_78 hb7 hB_78.size
  clear hB_78
  have sz_96 : w6.heap.size ≤ w7.heap.size := hb7.size
  clear b_75
  clear b_76
  clear b_77
  clear x_80 x_81 x_82 x_83 x_84 x_85 x_86 x_87 x_88
  have x_97 := b_92.lt
  have x_98 : w7.cell? ⟨w.heap.size, 0, none⟩ = some (.slice A0 n0 c0) := b_92.cell 0
  have x_99 : w7.cell? ⟨w.heap.size, 1, none⟩ = some (.slice B0 m0 d0) := b_92.cell 1
  have x_100 := b_93.lt
  have x_101 : w7.cell? ⟨w.heap.size + 1, 0, none⟩ = some (.slice A2 zs2.length c2) := b_93.cell 0
  have x_102 : w7.cell? ⟨w.heap.size + 1, 1, none⟩ = some (.slice B2 ys2.length d2) := b_93.cell 1
  have x_103 := b_94.lt
  have x_104 : w7.cell? ⟨w4.heap.size, 0, none⟩ = some (.slice A4 n0 c4) := b_94.cell 0
  have x_105 : w7.cell? ⟨w4.heap.size, 1, none⟩ = some (.slice B4 m0 d4) := b_94.cell 1
  clear hb7
  have rw_106 := oP7.rw_
  have rw_107 := oQ7.rw_
  have hb8 : Below w7.heap.size w7 (w7.alloc (.cells #[.slice A7 zs2.length c7, .slice B7 ys2.length d7] 51)) := (Below.refl _ _).alloc (Nat.le_refl _) _
  have b_108 := box_new w7 #[.slice A7 zs2.length c7, .slice B7 ys2.length d7] 51
  have sz_109 : w7.heap.size + 1 ≤ (w7.alloc (.cells #[.slice A7 zs2.length c7, .slice B7 ys2.length d7] 51)).heap.size := by simp
  have x0_110 := x0_90.below hb8
  clear x0_90
  have x1_111 := x1_91.below hb8
  clear x1_91
  have x2_112 := oP7.below hb8
  clear oP7
  have x2_113 := oQ7.below hb8
  clear oQ7
  have b_114 := b_92.belowA hb8
  have b_115 := b_93.belowA hb8
  have b_116 := b_94.belowA hb8
  have hB_117 := bthen hB_95 hb8 hB_95.size
  clear hB_95
  have sz_118 : w7.heap.size ≤ (w7.alloc (.cells #[.slice A7 zs2.length c7, .slice B7 ys2.length d7] 51)).heap.size := hb8.size
  clear hb8
  go_wp2_with fail
  generalize (w7.alloc (.cells #[.slice A7 zs2.length c7, .slice B7 ys2.length d7] 51)) = w8 at *
  clear b_92
  clear b_93
  clear b_94
  clear x_97 x_98 x_99 x_100 x_101 x_102 x_103 x_104 x_105
  have x_119 := b_114.lt
  have x_120 : w8.cell? ⟨w.heap.size, 0, none⟩ = some (.slice A0 n0 c0) := b_114.cell 0
  have x_121 : w8.cell? ⟨w.heap.size, 1, none⟩ = some (.slice B0 m0 d0) := b_114.cell 1
  have x_122 := b_115.lt
  have x_123 : w8.cell? ⟨w.heap.size + 1, 0, none⟩ = some (.slice A2 zs2.length c2) := b_115.cell 0
  have x_124 : w8.cell? ⟨w.heap.size + 1, 1, none⟩ = some (.slice B2 ys2.length d2) := b_115.cell 1
  have x_125 := b_116.lt
  have x_126 : w8.cell? ⟨w4.heap.size, 0, none⟩ = some (.slice A4 n0 c4) := b_116.cell 0
  have x_127 : w8.cell? ⟨w4.heap.size, 1, none⟩ = some (.slice B4 m0 d4) := b_116.cell 1
  have x_128 := b_108.lt
  have x_129 : w8.cell? ⟨w7.heap.size, 0, none⟩ = some (.slice A7 zs2.length c7) := b_108.cell 0
  have x_130 : w8.cell? ⟨w7.heap.size, 1, none⟩ = some (.slice B7 ys2.length d7) := b_108.cell 1
  refine (chk_any _ _ _ _ _ _ _ _ _ _ _ _ _ _ _ zs1 zs2 ys2 ns0 ps0 _ x0_110.reads x1_111.ints x2_112.ints x2_113.ints hl1 hl2 hk2).mono ?_
  rintro e w9 ⟨rfl, hb9⟩
  have x0_131 := x0_110.below hb9
  clear x0_110
  have x1_132 := x1_111.below hb9
  clear x1_111
  have x2_133 := x2_112.below hb9
  clear x2_112
  have x2_134 := x2_113.below hb9
  clear x2_113
  have b_135 := b_114.belowA hb9
  have b_136 := b_115.belowA hb9
  have b_137 := b_116.belowA hb9
  have b_138 := b_108.belowA hb9
  have hB_139 := bthen hB_117 hb9 hB_117.size
  clear hB_117
  have sz_140 : w8.heap.size ≤ w9.heap.size := hb9.size
  clear b_114
  clear b_115
  clear b_116
  clear b_108
  clear x_119 x_120 x_121 x_122 x_123 x_124 x_125 x_126 x_127 x_128 x_129 x_130
  have x_141 := b_135.lt
  have x_142 : w9.cell? ⟨w.heap.size, 0, none⟩ = some (.slice A0 n0 c0) := b_135.cell 0
  have x_143 : w9.cell? ⟨w.heap.size, 1, none⟩ = some (.slice B0 m0 d0) := b_135.cell 1
  have x_144 := b_136.lt
  have x_145 : w9.cell? ⟨w.heap.size + 1, 0, none⟩ = some (.slice A2 zs2.length c2) := b_136.cell 0
  have x_146 : w9.cell? ⟨w.heap.size + 1, 1, none⟩ = some (.slice B2 ys2.length d2) := b_136.cell 1
  have x_147 := b_137.lt
  have x_148 : w9.cell? ⟨w4.heap.size, 0, none⟩ = some (.slice A4 n0 c4) := b_137.cell 0
  have x_149 : w9.cell? ⟨w4.heap.size, 1, none⟩ = some (.slice B4 m0 d4) := b_137.cell 1
  have x_150 := b_138.lt
  have x_151 : w9.cell? ⟨w7.heap.size, 0, none⟩ = some (.slice A7 zs2.length c7) := b_138.cell 0
  have x_152 : w9.cell? ⟨w7.heap.size, 1, none⟩ = some (.slice B7 ys2.length d7) := b_138.cell 1
  clear hb9
  have kp_153 : Kept _ := ⟨x0_131⟩
  clear x0_131
  have kp_154 : Kept _ := ⟨x1_132⟩
  clear x1_132
  have kp_155 : Kept _ := ⟨x2_133⟩
  clear x2_133
  have kp_156 : Kept _ := ⟨x2_134⟩
  clear x2_134
  have kv_157 : Kept _ := ⟨nV0⟩
  clear nV0
  have kv_158 : Kept _ := ⟨iV1⟩
  clear iV1
  have kv_159 : Kept _ := ⟨pV2⟩
  clear pV2
  have kv_160 : Kept _ := ⟨qV2⟩
  clear qV2
  have kw_161 : Kept _ := ⟨hW⟩
  clear hW
  have kU : Kept (Below w9.heap.size w9 w9.drew) := ⟨(Below.refl _ _).drew⟩
  go_wp2_with fail
  go_region_held3 (fun w' => w.heap.size < w'.heap.size ∧ w4.heap.size < w'.heap.size ∧ w'.cell? ⟨w.heap.size, 0, none⟩ = some (.slice A0 n0 c0) ∧ w'.cell? ⟨w.heap.size, 1, none⟩ = some (.slice B0 m0 d0) ∧ w'.cell? ⟨w4.heap.size, 0, none⟩ = some (.slice A4 n0 c4) ∧ w'.cell? ⟨w4.heap.size, 1, none⟩ = some (.slice B4 m0 d4) ∧ Kept (Below w9.heap.size w9 w'))
    (first | (go_split_ands; refine ⟨by have := hbr.size; omega, by have := hbr.size; omega, ?_, ?_, ?_, ?_, ⟨bthen (Kept.out ‹Kept (Below _ _ _)›) hbr (Kept.out ‹Kept (Below _ _ _)›).size⟩⟩ <;> (rw [hbr.cell (by simp; omega)]; assumption)) | go_keep)
    (first | (go_at_call 16; go_split_ands; refine (toNetw_any _ _ _ _ _ _ _ _ _ ((kv_157.out.below hB_139).below (Kept.out ‹Kept (Below w9.heap.size _ _)›)) hn0 hm0).mono ?_; rintro e wr ⟨Ar, cr, Br, dr, rfl, oR, hbr⟩) | (go_at_call 19; go_split_ands; refine (eqNet_any _ _ _ _ _ _ _ _ _ _ _ _ ns0 ns0 ps0 ps0 _ (kp_153.out.reads.below (Kept.out ‹Kept (Below w9.heap.size _ _)›)).nodes (kp_153.out.reads.below (Kept.out ‹Kept (Below w9.heap.size _ _)›)).pipes oR.reads.nodes oR.reads.pipes hn0 hm0).mono ?_; rintro e wq10 ⟨be, hbe, rfl, hbr⟩; obtain rfl : be = true := hbe.2 ⟨rfl, rfl⟩; clear hbe))
  rename_i hh
  obtain ⟨_, _, _, _, _, _, ⟨hb10⟩⟩ := hh
  have x0_162 := kp_153.out
  clear kp_153
  have x1_163 := kp_154.out
  clear kp_154
  have x2_164 := kp_155.out
  clear kp_155
  have x2_165 := kp_156.out
  clear kp_156
  have nV0 := kv_157.out
  clear kv_157
  have iV1 := kv_158.out
  clear kv_158
  have pV2 := kv_159.out
  clear kv_159
  have qV2 := kv_160.out
  clear kv_160
  have hW := kw_161.out
  clear kw_161
  clear kU
  have x0_166 := x0_162.below hb10
  clear x0_162
  have x1_167 := x1_163.below hb10
  clear x1_163
  have x2_168 := x2_164.below hb10
  clear x2_164
  have x2_169 := x2_165.below hb10
  clear x2_165
  have b_170 := b_135.belowA hb10
  have b_171 := b_136.belowA hb10
  have b_172 := b_137.belowA hb10
  have b_173 := b_138.belowA hb10
  have hB_174 := bthen hB_139 hb10 hB_139.size
  clear hB_139
  have sz_175 : w9.heap.size ≤ wq10.heap.size := hb10.size
  clear b_135
  clear b_136
  clear b_137
  clear b_138
  clear x_141 x_142 x_143 x_144 x_145 x_146 x_147 x_148 x_149 x_150 x_151 x_152
  have x_176 := b_170.lt
  have x_177 : wq10.cell? ⟨w.heap.size, 0, none⟩ = some (.slice A0 n0 c0) := b_170.cell 0
  have x_178 : wq10.cell? ⟨w.heap.size, 1, none⟩ = some (.slice B0 m0 d0) := b_170.cell 1
  have x_179 := b_171.lt
  have x_180 : wq10.cell? ⟨w.heap.size + 1, 0, none⟩ = some (.slice A2 zs2.length c2) := b_171.cell 0
  have x_181 : wq10.cell? ⟨w.heap.size + 1, 1, none⟩ = some (.slice B2 ys2.length d2) := b_171.cell 1
  have x_182 := b_172.lt
  have x_183 : wq10.cell? ⟨w4.heap.size, 0, none⟩ = some (.slice A4 n0 c4) := b_172.cell 0
  have x_184 : wq10.cell? ⟨w4.heap.size, 1, none⟩ = some (.slice B4 m0 d4) := b_172.cell 1
  have x_185 := b_173.lt
  have x_186 : wq10.cell? ⟨w7.heap.size, 0, none⟩ = some (.slice A7 zs2.length c7) := b_173.cell 0
  have x_187 : wq10.cell? ⟨w7.heap.size, 1, none⟩ = some (.slice B7 ys2.length d7) := b_173.cell 1
  clear hb10
  go_wp2_with fail
  refine (toInts_any _ _ _ _ _ (iV1.below hB_174) hl1).mono ?_
  rintro e w11 ⟨Z11, f11, rfl, oI11, hb11⟩
  have x0_188 := x0_166.below hb11
  clear x0_166
  have x1_189 := x1_167.below hb11
  clear x1_167
  have x2_190 := x2_168.below hb11
  clear x2_168
  have x2_191 := x2_169.below hb11
  clear x2_169
  have b_192 := b_170.belowA hb11
  have b_193 := b_171.belowA hb11
  have b_194 := b_172.belowA hb11
  have b_195 := b_173.belowA hb11
  have hB_196 := bthen hB_174 hb11 hB_174.size
  clear hB_174
  have sz_197 : wq10.heap.size ≤ w11.heap.size := hb11.size
  clear b_170
  clear b_171
  clear b_172
  clear b_173
  clear x_176 x_177 x_178 x_179 x_180 x_181 x_182 x_183 x_184 x_185 x_186 x_187
  have x_198 := b_192.lt
  have x_199 : w11.cell? ⟨w.heap.size, 0, none⟩ = some (.slice A0 n0 c0) := b_192.cell 0
  have x_200 : w11.cell? ⟨w.heap.size, 1, none⟩ = some (.slice B0 m0 d0) := b_192.cell 1
  have x_201 := b_193.lt
  have x_202 : w11.cell? ⟨w.heap.size + 1, 0, none⟩ = some (.slice A2 zs2.length c2) := b_193.cell 0
  have x_203 : w11.cell? ⟨w.heap.size + 1, 1, none⟩ = some (.slice B2 ys2.length d2) := b_193.cell 1
  have x_204 := b_194.lt
  have x_205 : w11.cell? ⟨w4.heap.size, 0, none⟩ = some (.slice A4 n0 c4) := b_194.cell 0
  have x_206 : w11.cell? ⟨w4.heap.size, 1, none⟩ = some (.slice B4 m0 d4) := b_194.cell 1
  have x_207 := b_195.lt
  have x_208 : w11.cell? ⟨w7.heap.size, 0, none⟩ = some (.slice A7 zs2.length c7) := b_195.cell 0
  have x_209 : w11.cell? ⟨w7.heap.size, 1, none⟩ = some (.slice B7 ys2.length d7) := b_195.cell 1
  clear hb11
  have rw_210 := oI11.rw_
  go_wp2_with fail
  refine (eqInts_any _ _ _ _ _ _ _ _ _ x1_189.ints oI11.ints hl1).mono ?_
  rintro e w12 ⟨rfl, hq12⟩
  have hb12 := hq12.below w11.heap.size
  have x0_211 := x0_188.below hb12
  clear x0_188
  have x1_212 := x1_189.below hb12
  clear x1_189
  have x2_213 := x2_190.below hb12
  clear x2_190
  have x2_214 := x2_191.below hb12
  clear x2_191
  have z1_215 := oI11.below hb12
  clear oI11
  have b_216 := b_192.belowA hb12
  have b_217 := b_193.belowA hb12
  have b_218 := b_194.belowA hb12
  have b_219 := b_195.belowA hb12
  have hB_220 := bthen hB_196 hb12 hB_196.size
  clear hB_196
  have sz_221 : w11.heap.size ≤ w12.heap.size := hb12.size
  clear b_192
  clear b_193
  clear b_194
  clear b_195
  clear x_198 x_199 x_200 x_201 x_202 x_203 x_204 x_205 x_206 x_207 x_208 x_209
  have x_222 := b_216.lt
  have x_223 : w12.cell? ⟨w.heap.size, 0, none⟩ = some (.slice A0 n0 c0) := b_216.cell 0
  have x_224 : w12.cell? ⟨w.heap.size, 1, none⟩ = some (.slice B0 m0 d0) := b_216.cell 1
  have x_225 := b_217.lt
  have x_226 : w12.cell? ⟨w.heap.size + 1, 0, none⟩ = some (.slice A2 zs2.length c2) := b_217.cell 0
  have x_227 : w12.cell? ⟨w.heap.size + 1, 1, none⟩ = some (.slice B2 ys2.length d2) := b_217.cell 1
  have x_228 := b_218.lt
  have x_229 : w12.cell? ⟨w4.heap.size, 0, none⟩ = some (.slice A4 n0 c4) := b_218.cell 0
  have x_230 : w12.cell? ⟨w4.heap.size, 1, none⟩ = some (.slice B4 m0 d4) := b_218.cell 1
  have x_231 := b_219.lt
  have x_232 : w12.cell? ⟨w7.heap.size, 0, none⟩ = some (.slice A7 zs2.length c7) := b_219.cell 0
  have x_233 : w12.cell? ⟨w7.heap.size, 1, none⟩ = some (.slice B7 ys2.length d7) := b_219.cell 1
  clear hb12 hq12
  clear z1_215
  have kp_234 : Kept _ := ⟨x0_211⟩
  clear x0_211
  have kp_235 : Kept _ := ⟨x1_212⟩
  clear x1_212
  have kp_236 : Kept _ := ⟨x2_213⟩
  clear x2_213
  have kp_237 : Kept _ := ⟨x2_214⟩
  clear x2_214
  have kv_238 : Kept _ := ⟨nV0⟩
  clear nV0
  have kv_239 : Kept _ := ⟨iV1⟩
  clear iV1
  have kv_240 : Kept _ := ⟨pV2⟩
  clear pV2
  have kv_241 : Kept _ := ⟨qV2⟩
  clear qV2
  have kw_242 : Kept _ := ⟨hW⟩
  clear hW
  have kU : Kept (Below w12.heap.size w12 w12.drew) := ⟨(Below.refl _ _).drew⟩
  go_wp2_with fail
  go_region_held3 (fun w' => w.heap.size + 1 < w'.heap.size ∧ w7.heap.size < w'.heap.size ∧ w'.cell? ⟨w.heap.size + 1, 0, none⟩ = some (.slice A2 zs2.length c2) ∧ w'.cell? ⟨w.heap.size + 1, 1, none⟩ = some (.slice B2 ys2.length d2) ∧ w'.cell? ⟨w7.heap.size, 0, none⟩ = some (.slice A7 zs2.length c7) ∧ w'.cell? ⟨w7.heap.size, 1, none⟩ = some (.slice B7 ys2.length d7) ∧ Kept (Below w12.heap.size w12 w'))
    (first | (go_split_ands; refine ⟨by have := hbr.size; omega, by have := hbr.size; omega, ?_, ?_, ?_, ?_, ⟨bthen (Kept.out ‹Kept (Below _ _ _)›) hbr (Kept.out ‹Kept (Below _ _ _)›).size⟩⟩ <;> (rw [hbr.cell (by simp; omega)]; assumption)) | go_keep)
    (first | (go_at_call 32; go_split_ands; refine (toProofA_any _ _ _ _ _ _ _ ((kv_240.out.below hB_220).below (Kept.out ‹Kept (Below w12.heap.size _ _)›)) ((kv_241.out.below hB_220).below (Kept.out ‹Kept (Below w12.heap.size _ _)›)) hl2 hk2).mono ?_; rintro e wr ⟨Ar, cr, Br, dr, rfl, oR, oR2, hbr⟩) | (go_at_call 34; go_split_ands; refine (eqProofA_any _ _ _ _ _ _ _ _ _ _ _ (kp_236.out.ints.below (Kept.out ‹Kept (Below w12.heap.size _ _)›)) (kp_237.out.ints.below (Kept.out ‹Kept (Below w12.heap.size _ _)›)) oR.ints oR2.ints hl2 hk2).mono ?_; rintro e wq13 ⟨rfl, hbr⟩))
  rename_i hh
  obtain ⟨_, _, _, _, _, _, ⟨hb13⟩⟩ := hh
  have x0_243 := kp_234.out
  clear kp_234
  have x1_244 := kp_235.out
  clear kp_235
  have x2_245 := kp_236.out
  clear kp_236
  have x2_246 := kp_237.out
  clear kp_237
  have nV0 := kv_238.out
  clear kv_238
  have iV1 := kv_239.out
  clear kv_239
  have pV2 := kv_240.out
  clear kv_240
  have qV2 := kv_241.out
  clear kv_241
  have hW := kw_242.out
  clear kw_242
  clear kU
  have x0_247 := x0_243.below hb13
  clear x0_243
  have x1_248 := x1_244.below hb13
  clear x1_244
  have x2_249 := x2_245.below hb13
  clear x2_245
  have x2_250 := x2_246.below hb13
  clear x2_246
  have b_251 := b_216.belowA hb13
  have b_252 := b_217.belowA hb13
  have b_253 := b_218.belowA hb13
  have b_254 := b_219.belowA hb13
  have hB_255 := bthen hB_220 hb13 hB_220.size
  clear hB_220
  have sz_256 : w12.heap.size ≤ wq13.heap.size := hb13.size
  clear b_216
  clear b_217
  clear b_218
  clear b_219
  clear x_222 x_223 x_224 x_225 x_226 x_227 x_228 x_229 x_230 x_231 x_232 x_233
  have x_257 := b_251.lt
  have x_258 : wq13.cell? ⟨w.heap.size, 0, none⟩ = some (.slice A0 n0 c0) := b_251.cell 0
  have x_259 : wq13.cell? ⟨w.heap.size, 1, none⟩ = some (.slice B0 m0 d0) := b_251.cell 1
  have x_260 := b_252.lt
  have x_261 : wq13.cell? ⟨w.heap.size + 1, 0, none⟩ = some (.slice A2 zs2.length c2) := b_252.cell 0
  have x_262 : wq13.cell? ⟨w.heap.size + 1, 1, none⟩ = some (.slice B2 ys2.length d2) := b_252.cell 1
  have x_263 := b_253.lt
  have x_264 : wq13.cell? ⟨w4.heap.size, 0, none⟩ = some (.slice A4 n0 c4) := b_253.cell 0
  have x_265 : wq13.cell? ⟨w4.heap.size, 1, none⟩ = some (.slice B4 m0 d4) := b_253.cell 1
  have x_266 := b_254.lt
  have x_267 : wq13.cell? ⟨w7.heap.size, 0, none⟩ = some (.slice A7 zs2.length c7) := b_254.cell 0
  have x_268 : wq13.cell? ⟨w7.heap.size, 1, none⟩ = some (.slice B7 ys2.length d7) := b_254.cell 1
  clear hb13
  go_wp2_with fail
  go_ret
  exact ⟨rfl, bthen hW hB_255 hW.size⟩
end Go.Proofs.YtpgegfnhokhlmaaGreat
