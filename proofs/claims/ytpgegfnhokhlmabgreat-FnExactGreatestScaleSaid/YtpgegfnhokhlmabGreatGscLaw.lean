/- The walk of the law on GreatestScale. No condition. -/
import Derived.Test.YtpgegfnhokhlmabGreatGsc
import Derived.Test.YtpgegfnhokhlmabGreatKA
set_option linter.unusedVariables false
set_option maxRecDepth 100000
namespace Go.Proofs.YtpgegfnhokhlmabGreat
open Go.RowKit Go.Joins Go.Deep
attribute [local go_sem ↓] Go.wp_at_zero Go.wp_at_succ

set_option maxHeartbeats 8000000 in
theorem law_FnExactGreatestScale (A0 : Option Addr) (n0 c0 : Nat) (ns0 : List Nd) (B0 : Option Addr) (m0 d0 : Nat) (ps0 : List Pp) (Z1 : Option Addr) (l1 e1 : Nat) (zs1 : List Int) (w : World) (h0 : IsNet w A0 n0 c0 ns0 B0 m0 d0 ps0) (h1 : Ints w Z1 l1 zs1 ∧ l1 ≤ e1 ∧ e1 ≤ maxLen) :
    Calls Tryz.prog 3 #[.agg #[.slice A0 n0 c0, .slice B0 m0 d0], .slice Z1 l1 e1] w fun e w' => e = .returned (.bool true) ∧ Below w.heap.size w w' := by
  obtain ⟨hz1, he1, hm_1⟩ := h1
  obtain rfl : zs1.length = l1 := hz1.len
  unfold maxLen at hm_1
  have bA_1 := box_new w #[.slice A0 n0 c0, .slice B0 m0 d0] 25
  have hW : Below w.heap.size w (w.alloc (.cells #[.slice A0 n0 c0, .slice B0 m0 d0] 25)) := by
    repeat (first | exact Below.refl _ _ | refine Below.alloc ?_ (by simp <;> omega) _)
  have nV0 := h0.below hW
  have iV1 := hz1.below hW
  by_cases hbig1 : (1048576 : Int) < zs1.length
  case pos =>
    go_enter Tryz.func3, Tryz.ntmps3
    go_wp2_with fail
    go_ret
    exact ⟨rfl, hW⟩
  have hl1 : zs1.length ≤ 1048576 := by omega
  go_enter Tryz.func3, Tryz.ntmps3
  go_wp2_with fail
  have hs0 : w.heap.size + 1 ≤ (w.alloc (.cells #[.slice A0 n0 c0, .slice B0 m0 d0] 25)).heap.size := by simp
  generalize (w.alloc (.cells #[.slice A0 n0 c0, .slice B0 m0 d0] 25)) = V at *
  have hB_0 : Below V.heap.size V V := Below.refl _ _
  have x_2 := bA_1.lt
  have x_3 : V.cell? ⟨w.heap.size, 0, none⟩ = some (.slice A0 n0 c0) := bA_1.cell 0
  have x_4 : V.cell? ⟨w.heap.size, 1, none⟩ = some (.slice B0 m0 d0) := bA_1.cell 1
  refine (szNet_any _ _ _ _ _ _ ns0 _ _ (nV0.below hB_0).nodes (Nat.le_trans h0.capA.1 h0.capA.2) (Nat.le_trans h0.capB.1 h0.capB.2) (by omega) (by omega)).mono ?_
  rintro e w1 ⟨left0, rfl, hleft0, hb1⟩
  have b_5 := bA_1.belowA hb1
  have hB_6 := bthen hB_0 hb1 hB_0.size
  clear hB_0
  have sz_7 : V.heap.size ≤ w1.heap.size := hb1.size
  clear bA_1
  clear x_2 x_3 x_4
  have x_8 := b_5.lt
  have x_9 : w1.cell? ⟨w.heap.size, 0, none⟩ = some (.slice A0 n0 c0) := b_5.cell 0
  have x_10 : w1.cell? ⟨w.heap.size, 1, none⟩ = some (.slice B0 m0 d0) := b_5.cell 1
  clear hb1
  rcases hleft0 with rfl | ⟨hl0_0, hl1_0⟩
  · go_wp2_with fail
    go_ret
    exact ⟨rfl, bthen hW hB_6 hW.size⟩
  have hn0 : n0 ≤ 1048576 := by omega
  have hm0 : m0 ≤ 1048576 := by omega
  go_wp2_with fail
  refine (toNetw_any _ _ _ _ _ _ _ _ _ (nV0.below hB_6) hn0 hm0).mono ?_
  rintro e w2 ⟨A2, c2, B2, d2, rfl, oN2, hb2⟩
  have b_11 := b_5.belowA hb2
  have hB_12 := bthen hB_6 hb2 hB_6.size
  clear hB_6
  have sz_13 : w1.heap.size ≤ w2.heap.size := hb2.size
  clear b_5
  clear x_8 x_9 x_10
  have x_14 := b_11.lt
  have x_15 : w2.cell? ⟨w.heap.size, 0, none⟩ = some (.slice A0 n0 c0) := b_11.cell 0
  have x_16 : w2.cell? ⟨w.heap.size, 1, none⟩ = some (.slice B0 m0 d0) := b_11.cell 1
  clear hb2
  have rw_17 := oN2.nodes.1.rw_
  have rw_18 := oN2.pipes.1.rw_
  have ap_19 := ap_of oN2.pipes.1.1 oN2.nodes.1.1 (by decide)
  go_wp2_with fail
  refine (toInts_any _ _ _ _ _ (iV1.below hB_12) hl1).mono ?_
  rintro e w3 ⟨Z3, f3, rfl, oI3, hb3⟩
  have s0_20 := oN2.below hb3
  clear oN2
  have b_21 := b_11.belowA hb3
  have hB_22 := bthen hB_12 hb3 hB_12.size
  clear hB_12
  have sz_23 : w2.heap.size ≤ w3.heap.size := hb3.size
  clear b_11
  clear x_14 x_15 x_16
  have x_24 := b_21.lt
  have x_25 : w3.cell? ⟨w.heap.size, 0, none⟩ = some (.slice A0 n0 c0) := b_21.cell 0
  have x_26 : w3.cell? ⟨w.heap.size, 1, none⟩ = some (.slice B0 m0 d0) := b_21.cell 1
  clear hb3
  have rw_27 := oI3.rw_
  go_wp2_with fail
  refine (sGsc_any _ _ _ _ _ _ _ _ zs1 ns0 ps0 _ s0_20.reads oI3.ints hl1).mono ?_
  rintro e w4 ⟨rfl, hb4⟩
  have s0_28 := s0_20.below hb4
  clear s0_20
  have s1_29 := oI3.below hb4
  clear oI3
  have b_30 := b_21.belowA hb4
  have hB_31 := bthen hB_22 hb4 hB_22.size
  clear hB_22
  have sz_32 : w3.heap.size ≤ w4.heap.size := hb4.size
  clear b_21
  clear x_24 x_25 x_26
  have x_33 := b_30.lt
  have x_34 : w4.cell? ⟨w.heap.size, 0, none⟩ = some (.slice A0 n0 c0) := b_30.cell 0
  have x_35 : w4.cell? ⟨w.heap.size, 1, none⟩ = some (.slice B0 m0 d0) := b_30.cell 1
  clear hb4
  clear s0_28
  clear s1_29
  go_wp2_with fail
  refine (toNetw_any _ _ _ _ _ _ _ _ _ (nV0.below hB_31) hn0 hm0).mono ?_
  rintro e w5 ⟨A5, c5, B5, d5, rfl, oN5, hb5⟩
  have b_36 := b_30.belowA hb5
  have hB_37 := bthen hB_31 hb5 hB_31.size
  clear hB_31
  have sz_38 : w4.heap.size ≤ w5.heap.size := hb5.size
  clear b_30
  clear x_33 x_34 x_35
  have x_39 := b_36.lt
  have x_40 : w5.cell? ⟨w.heap.size, 0, none⟩ = some (.slice A0 n0 c0) := b_36.cell 0
  have x_41 : w5.cell? ⟨w.heap.size, 1, none⟩ = some (.slice B0 m0 d0) := b_36.cell 1
  clear hb5
  have rw_42 := oN5.nodes.1.rw_
  have rw_43 := oN5.pipes.1.rw_
  have ap_44 := ap_of oN5.pipes.1.1 oN5.nodes.1.1 (by decide)
  have hb6 : Below w5.heap.size w5 (w5.alloc (.cells #[.slice A5 n0 c5, .slice B5 m0 d5] 33)) := (Below.refl _ _).alloc (Nat.le_refl _) _
  have b_45 := box_new w5 #[.slice A5 n0 c5, .slice B5 m0 d5] 33
  have sz_46 : w5.heap.size + 1 ≤ (w5.alloc (.cells #[.slice A5 n0 c5, .slice B5 m0 d5] 33)).heap.size := by simp
  have x0_47 := oN5.below hb6
  clear oN5
  have b_48 := b_36.belowA hb6
  have hB_49 := bthen hB_37 hb6 hB_37.size
  clear hB_37
  have sz_50 : w5.heap.size ≤ (w5.alloc (.cells #[.slice A5 n0 c5, .slice B5 m0 d5] 33)).heap.size := hb6.size
  clear hb6
  go_wp2_with fail
  generalize (w5.alloc (.cells #[.slice A5 n0 c5, .slice B5 m0 d5] 33)) = w6 at *
  clear b_36
  clear x_39 x_40 x_41
  have x_51 := b_48.lt
  have x_52 : w6.cell? ⟨w.heap.size, 0, none⟩ = some (.slice A0 n0 c0) := b_48.cell 0
  have x_53 : w6.cell? ⟨w.heap.size, 1, none⟩ = some (.slice B0 m0 d0) := b_48.cell 1
  have x_54 := b_45.lt
  have x_55 : w6.cell? ⟨w5.heap.size, 0, none⟩ = some (.slice A5 n0 c5) := b_45.cell 0
  have x_56 : w6.cell? ⟨w5.heap.size, 1, none⟩ = some (.slice B5 m0 d5) := b_45.cell 1
  refine (toInts_any _ _ _ _ _ (iV1.below hB_49) hl1).mono ?_
  rintro e w7 ⟨Z7, f7, rfl, oI7, hb7⟩
  have x0_57 := x0_47.below hb7
  clear x0_47
  have b_58 := b_48.belowA hb7
  have b_59 := b_45.belowA hb7
  have hB_60 := bthen hB_49 hb7 hB_49.size
  clear hB_49
  have sz_61 : w6.heap.size ≤ w7.heap.size := hb7.size
  clear b_48
  clear b_45
  clear x_51 x_52 x_53 x_54 x_55 x_56
  have x_62 := b_58.lt
  have x_63 : w7.cell? ⟨w.heap.size, 0, none⟩ = some (.slice A0 n0 c0) := b_58.cell 0
  have x_64 : w7.cell? ⟨w.heap.size, 1, none⟩ = some (.slice B0 m0 d0) := b_58.cell 1
  have x_65 := b_59.lt
  have x_66 : w7.cell? ⟨w5.heap.size, 0, none⟩ = some (.slice A5 n0 c5) := b_59.cell 0
  have x_67 : w7.cell? ⟨w5.heap.size, 1, none⟩ = some (.slice B5 m0 d5) := b_59.cell 1
  clear hb7
  have rw_68 := oI7.rw_
  go_wp2_with fail
  refine (gsc_any _ _ _ _ _ _ _ _ zs1 ns0 ps0 _ x0_57.reads oI7.ints hl1).mono ?_
  rintro e w8 ⟨rfl, hb8⟩
  have x0_69 := x0_57.below hb8
  clear x0_57
  have x1_70 := oI7.below hb8
  clear oI7
  have b_71 := b_58.belowA hb8
  have b_72 := b_59.belowA hb8
  have hB_73 := bthen hB_60 hb8 hB_60.size
  clear hB_60
  have sz_74 : w7.heap.size ≤ w8.heap.size := hb8.size
  clear b_58
  clear b_59
  clear x_62 x_63 x_64 x_65 x_66 x_67
  have x_75 := b_71.lt
  have x_76 : w8.cell? ⟨w.heap.size, 0, none⟩ = some (.slice A0 n0 c0) := b_71.cell 0
  have x_77 : w8.cell? ⟨w.heap.size, 1, none⟩ = some (.slice B0 m0 d0) := b_71.cell 1
  have x_78 := b_72.lt
  have x_79 : w8.cell? ⟨w5.heap.size, 0, none⟩ = some (.slice A5 n0 c5) := b_72.cell 0
  have x_80 : w8.cell? ⟨w5.heap.size, 1, none⟩ = some (.slice B5 m0 d5) := b_72.cell 1
  clear hb8
  have kp_81 : Kept _ := ⟨x0_69⟩
  clear x0_69
  have kp_82 : Kept _ := ⟨x1_70⟩
  clear x1_70
  have kv_83 : Kept _ := ⟨nV0⟩
  clear nV0
  have kv_84 : Kept _ := ⟨iV1⟩
  clear iV1
  have kw_85 : Kept _ := ⟨hW⟩
  clear hW
  have kU : Kept (Below w8.heap.size w8 w8.drew) := ⟨(Below.refl _ _).drew⟩
  go_wp2_with fail
  go_region_held3 (fun w' => w.heap.size < w'.heap.size ∧ w5.heap.size < w'.heap.size ∧ w'.cell? ⟨w.heap.size, 0, none⟩ = some (.slice A0 n0 c0) ∧ w'.cell? ⟨w.heap.size, 1, none⟩ = some (.slice B0 m0 d0) ∧ w'.cell? ⟨w5.heap.size, 0, none⟩ = some (.slice A5 n0 c5) ∧ w'.cell? ⟨w5.heap.size, 1, none⟩ = some (.slice B5 m0 d5) ∧ Kept (Below w8.heap.size w8 w'))
    (first | (go_split_ands; refine ⟨by have := hbr.size; omega, by have := hbr.size; omega, ?_, ?_, ?_, ?_, ⟨bthen (Kept.out ‹Kept (Below _ _ _)›) hbr (Kept.out ‹Kept (Below _ _ _)›).size⟩⟩ <;> (rw [hbr.cell (by simp; omega)]; assumption)) | go_keep)
    (first | (go_at_call 10; go_split_ands; refine (toNetw_any _ _ _ _ _ _ _ _ _ ((kv_83.out.below hB_73).below (Kept.out ‹Kept (Below w8.heap.size _ _)›)) hn0 hm0).mono ?_; rintro e wr ⟨Ar, cr, Br, dr, rfl, oR, hbr⟩) | (go_at_call 13; go_split_ands; refine (eqNet_any _ _ _ _ _ _ _ _ _ _ _ _ ns0 ns0 ps0 ps0 _ (kp_81.out.reads.below (Kept.out ‹Kept (Below w8.heap.size _ _)›)).nodes (kp_81.out.reads.below (Kept.out ‹Kept (Below w8.heap.size _ _)›)).pipes oR.reads.nodes oR.reads.pipes hn0 hm0).mono ?_; rintro e wq9 ⟨be, hbe, rfl, hbr⟩; obtain rfl : be = true := hbe.2 ⟨rfl, rfl⟩; clear hbe))
  rename_i hh
  obtain ⟨_, _, _, _, _, _, ⟨hb9⟩⟩ := hh
  have x0_86 := kp_81.out
  clear kp_81
  have x1_87 := kp_82.out
  clear kp_82
  have nV0 := kv_83.out
  clear kv_83
  have iV1 := kv_84.out
  clear kv_84
  have hW := kw_85.out
  clear kw_85
  clear kU
  have x0_88 := x0_86.below hb9
  clear x0_86
  have x1_89 := x1_87.below hb9
  clear x1_87
  have b_90 := b_71.belowA hb9
  have b_91 := b_72.belowA hb9
  have hB_92 := bthen hB_73 hb9 hB_73.size
  clear hB_73
  have sz_93 : w8.heap.size ≤ wq9.heap.size := hb9.size
  clear b_71
  clear b_72
  clear x_75 x_76 x_77 x_78 x_79 x_80
  have x_94 := b_90.lt
  have x_95 : wq9.cell? ⟨w.heap.size, 0, none⟩ = some (.slice A0 n0 c0) := b_90.cell 0
  have x_96 : wq9.cell? ⟨w.heap.size, 1, none⟩ = some (.slice B0 m0 d0) := b_90.cell 1
  have x_97 := b_91.lt
  have x_98 : wq9.cell? ⟨w5.heap.size, 0, none⟩ = some (.slice A5 n0 c5) := b_91.cell 0
  have x_99 : wq9.cell? ⟨w5.heap.size, 1, none⟩ = some (.slice B5 m0 d5) := b_91.cell 1
  clear hb9
  go_wp2_with fail
  refine (toInts_any _ _ _ _ _ (iV1.below hB_92) hl1).mono ?_
  rintro e w10 ⟨Z10, f10, rfl, oI10, hb10⟩
  have x0_100 := x0_88.below hb10
  clear x0_88
  have x1_101 := x1_89.below hb10
  clear x1_89
  have b_102 := b_90.belowA hb10
  have b_103 := b_91.belowA hb10
  have hB_104 := bthen hB_92 hb10 hB_92.size
  clear hB_92
  have sz_105 : wq9.heap.size ≤ w10.heap.size := hb10.size
  clear b_90
  clear b_91
  clear x_94 x_95 x_96 x_97 x_98 x_99
  have x_106 := b_102.lt
  have x_107 : w10.cell? ⟨w.heap.size, 0, none⟩ = some (.slice A0 n0 c0) := b_102.cell 0
  have x_108 : w10.cell? ⟨w.heap.size, 1, none⟩ = some (.slice B0 m0 d0) := b_102.cell 1
  have x_109 := b_103.lt
  have x_110 : w10.cell? ⟨w5.heap.size, 0, none⟩ = some (.slice A5 n0 c5) := b_103.cell 0
  have x_111 : w10.cell? ⟨w5.heap.size, 1, none⟩ = some (.slice B5 m0 d5) := b_103.cell 1
  clear hb10
  have rw_112 := oI10.rw_
  go_wp2_with fail
  refine (eqInts_any _ _ _ _ _ _ _ _ _ x1_101.ints oI10.ints hl1).mono ?_
  rintro e w11 ⟨rfl, hq11⟩
  have hb11 := hq11.below w10.heap.size
  have x0_113 := x0_100.below hb11
  clear x0_100
  have x1_114 := x1_101.below hb11
  clear x1_101
  have z1_115 := oI10.below hb11
  clear oI10
  have b_116 := b_102.belowA hb11
  have b_117 := b_103.belowA hb11
  have hB_118 := bthen hB_104 hb11 hB_104.size
  clear hB_104
  have sz_119 : w10.heap.size ≤ w11.heap.size := hb11.size
  clear b_102
  clear b_103
  clear x_106 x_107 x_108 x_109 x_110 x_111
  have x_120 := b_116.lt
  have x_121 : w11.cell? ⟨w.heap.size, 0, none⟩ = some (.slice A0 n0 c0) := b_116.cell 0
  have x_122 : w11.cell? ⟨w.heap.size, 1, none⟩ = some (.slice B0 m0 d0) := b_116.cell 1
  have x_123 := b_117.lt
  have x_124 : w11.cell? ⟨w5.heap.size, 0, none⟩ = some (.slice A5 n0 c5) := b_117.cell 0
  have x_125 : w11.cell? ⟨w5.heap.size, 1, none⟩ = some (.slice B5 m0 d5) := b_117.cell 1
  clear hb11 hq11
  clear z1_115
  go_wp2_with fail
  go_ret
  exact ⟨rfl, bthen hW hB_118 hW.size⟩
end Go.Proofs.YtpgegfnhokhlmabGreat
