/- The walks of the laws on ForcedPlan and BestPlan. No condition. -/
import Derived.Test.YtiofjnohdmminaaBestP
set_option linter.unusedVariables false
set_option maxRecDepth 100000
namespace Go.Proofs.Ytiofjnohdmminaa
open Go.RowKit Go.Joins

set_option maxHeartbeats 4000000 in
theorem law_FnExactForcedPlan (s u d : Int) (A : Option Addr) (n c : Nat) (cs : List Int) (C : Option Addr) (m f : Nat) (ms : List Int) (w : World) (_h : I64 s ∧ I64 u ∧ I64 d) (h0 : Ints w A n cs ∧ n ≤ c ∧ c ≤ maxLen) (k0 : Ints w C m ms ∧ m ≤ f ∧ f ≤ maxLen) :
    Calls Try.prog 10 #[.agg #[.int .i64 s, .int .i64 u, .int .i64 d], .slice A n c, .slice C m f] w fun e w' => e = .returned (.bool true) ∧ Below w.heap.size w w' := by
  obtain ⟨h1, hnc, hc⟩ := h0
  obtain ⟨k1, hmf, hf⟩ := k0
  obtain rfl : cs.length = n := h1.len
  obtain rfl : ms.length = m := k1.len
  unfold maxLen at hc hf
  by_cases hbig_p : (1048576 : Int) < cs.length
  case pos =>
    go_enter Try.func10, Try.ntmps10
    go_wp2_with fail
    go_ret
    exact ⟨rfl, by repeat (first | exact Below.refl _ _ | refine Below.alloc ?_ (by simp <;> omega) _)⟩
  have hn_p : cs.length ≤ 1048576 := by omega
  by_cases hbig_q : (1048576 : Int) < ms.length
  case pos =>
    go_enter Try.func10, Try.ntmps10
    go_wp2_with fail
    go_ret
    exact ⟨rfl, by repeat (first | exact Below.refl _ _ | refine Below.alloc ?_ (by simp <;> omega) _)⟩
  have hn_q : ms.length ≤ 1048576 := by omega
  go_enter Try.func10, Try.ntmps10
  go_wp2_with fail
  have hI_p := (h1.alloc (.cells #[.int .i64 s, .int .i64 u, .int .i64 d] 23))
  have hI_q := (k1.alloc (.cells #[.int .i64 s, .int .i64 u, .int .i64 d] 23))
  have hB0 : Below (w.alloc (.cells #[.int .i64 s, .int .i64 u, .int .i64 d] 23)).heap.size (w.alloc (.cells #[.int .i64 s, .int .i64 u, .int .i64 d] 23)) (w.alloc (.cells #[.int .i64 s, .int .i64 u, .int .i64 d] 23)) := Below.refl _ _
  have hW : Below w.heap.size w (w.alloc (.cells #[.int .i64 s, .int .i64 u, .int .i64 d] 23)) := by
    repeat (first | exact Below.refl _ _ | refine Below.alloc ?_ (by simp <;> omega) _)
  have hs : (fpPlan s u d cs ms).length ≤ 1048576 := fpPlan_le hn_p
  refine (toUnit_any _ _ _ _).mono ?_
  rintro e w1 ⟨rfl, hb1⟩
  have hB1 := bthen hB0 hb1 hB0.size
  clear hB0 hb1
  obtain ⟨hcb, hfb⟩ := bcell hB1
  have hzb : w.heap.size < w1.heap.size := by have := hB1.size; simp at this; omega
  go_wp2_with fail
  refine (toInts_any _ _ _ _ _ (hI_p.below hB1) hn_p).mono ?_
  rintro e w2 ⟨A2, c2, rfl, ho_a2, hb2⟩
  have hB2 := bthen hB1 hb2 hB1.size
  clear hB1 hb2
  clear hcb hfb hzb
  obtain ⟨hcb, hfb⟩ := bcell hB2
  have hzb : w.heap.size < w2.heap.size := by have := hB2.size; simp at this; omega
  go_wp2_with fail
  refine (toInts_any _ _ _ _ _ (hI_q.below hB2) hn_q).mono ?_
  rintro e w3 ⟨A3, c3, rfl, ho_b3, hb3⟩
  have ho_a3 := ho_a2.below hb3
  clear ho_a2
  have hB3 := bthen hB2 hb3 hB2.size
  clear hB2 hb3
  clear hcb hfb hzb
  obtain ⟨hcb, hfb⟩ := bcell hB3
  have hzb : w.heap.size < w3.heap.size := by have := hB3.size; simp at this; omega
  go_wp2_with fail
  refine (sForced_any _ _ _ _ _ _ _ _ _ _ ho_a3.ints ho_b3.ints hn_p hn_q).mono ?_
  rintro e w4 ⟨A4, c4, rfl, ho_w4, hb4⟩
  have ho_a4 := ho_a3.below hb4
  clear ho_a3
  have ho_b4 := ho_b3.below hb4
  clear ho_b3
  have hB4 := bthen hB3 hb4 hB3.size
  clear hB3 hb4
  clear hcb hfb hzb
  obtain ⟨hcb, hfb⟩ := bcell hB4
  have hzb : w.heap.size < w4.heap.size := by have := hB4.size; simp at this; omega
  clear ho_a4
  clear ho_b4
  go_wp2_with fail
  refine (toInts_any _ _ _ _ _ (hI_p.below hB4) hn_p).mono ?_
  rintro e w5 ⟨A5, c5, rfl, ho_x5, hb5⟩
  have ap_w_x := own_apart ho_w4 ho_x5 (Nat.le_refl _)
  have ge_x := own_ge ho_x5 hB4.size
  have ho_w5 := ho_w4.below hb5
  clear ho_w4
  have hB5 := bthen hB4 hb5 hB4.size
  clear hB4 hb5
  clear hcb hfb hzb
  obtain ⟨hcb, hfb⟩ := bcell hB5
  have hzb : w.heap.size < w5.heap.size := by have := hB5.size; simp at this; omega
  go_wp2_with fail
  refine (toInts_any _ _ _ _ _ (hI_q.below hB5) hn_q).mono ?_
  rintro e w6 ⟨A6, c6, rfl, ho_y6, hb6⟩
  have ap_w_y := own_apart ho_w5 ho_y6 (Nat.le_refl _)
  have ap_x_y := own_apart ho_x5 ho_y6 (Nat.le_refl _)
  have ge_y := own_ge ho_y6 hB5.size
  have ho_w6 := ho_w5.below hb6
  clear ho_w5
  have ho_x6 := ho_x5.below hb6
  clear ho_x5
  have hB6 := bthen hB5 hb6 hB5.size
  clear hB5 hb6
  clear hcb hfb hzb
  obtain ⟨hcb, hfb⟩ := bcell hB6
  have hzb : w.heap.size < w6.heap.size := by have := hB6.size; simp at this; omega
  go_wp2_with fail
  refine (toUnit_any _ _ _ _).mono ?_
  rintro e w7 ⟨rfl, hb7⟩
  have ho_w7 := ho_w6.below hb7
  clear ho_w6
  have ho_x7 := ho_x6.below hb7
  clear ho_x6
  have ho_y7 := ho_y6.below hb7
  clear ho_y6
  have hB7 := bthen hB6 hb7 hB6.size
  clear hB6 hb7
  clear hcb hfb hzb
  obtain ⟨hcb, hfb⟩ := bcell hB7
  have hzb : w.heap.size < w7.heap.size := by have := hB7.size; simp at this; omega
  go_wp2_with fail
  refine (forced_any _ _ _ _ _ _ _ _ _ _ ho_x7.ints ho_y7.ints hn_p hn_q).mono ?_
  rintro e w8 ⟨A8, c8, rfl, ho_g8, hb8⟩
  have ap_w_g := own_apart ho_w7 ho_g8 (Nat.le_refl _)
  have ap_x_g := own_apart ho_x7 ho_g8 (Nat.le_refl _)
  have ap_y_g := own_apart ho_y7 ho_g8 (Nat.le_refl _)
  have ge_g := own_ge ho_g8 hB7.size
  have ho_w8 := ho_w7.below hb8
  clear ho_w7
  have ho_x8 := ho_x7.below hb8
  clear ho_x7
  have ho_y8 := ho_y7.below hb8
  clear ho_y7
  have hB8 := bthen hB7 hb8 hB7.size
  clear hB7 hb8
  clear hcb hfb hzb
  obtain ⟨hcb, hfb⟩ := bcell hB8
  have hzb : w.heap.size < w8.heap.size := by have := hB8.size; simp at this; omega
  go_wp2_with fail
  refine (eqInts_any _ _ _ _ _ _ _ _ _ ho_g8.ints ho_w8.ints hs).mono ?_
  rintro e w9 ⟨rfl, hq9⟩
  have hb9 := hq9.below w8.heap.size
  have ho_w9 := ho_w8.below hb9
  clear ho_w8
  have ho_x9 := ho_x8.below hb9
  clear ho_x8
  have ho_y9 := ho_y8.below hb9
  clear ho_y8
  have ho_g9 := ho_g8.below hb9
  clear ho_g8
  have hB9 := bthen hB8 hb9 hB8.size
  clear hB8 hb9
  clear hcb hfb hzb
  obtain ⟨hcb, hfb⟩ := bcell hB9
  have hzb : w.heap.size < w9.heap.size := by have := hB9.size; simp at this; omega
  go_wp2_with fail
  refine (toInts_any _ _ _ _ _ (hI_p.below hB9) hn_p).mono ?_
  rintro e w10 ⟨A10, c10, rfl, ho_z10, hb10⟩
  have ap_x_z := own_apart ho_x9 ho_z10 (Nat.le_refl _)
  have ap_y_z := own_apart ho_y9 ho_z10 (Nat.le_refl _)
  have ap_g_z := own_apart ho_g9 ho_z10 (Nat.le_refl _)
  have ho_w10 := ho_w9.below hb10
  clear ho_w9
  have ho_x10 := ho_x9.below hb10
  clear ho_x9
  have ho_y10 := ho_y9.below hb10
  clear ho_y9
  have ho_g10 := ho_g9.below hb10
  clear ho_g9
  have hB10 := bthen hB9 hb10 hB9.size
  clear hB9 hb10
  clear hcb hfb hzb
  obtain ⟨hcb, hfb⟩ := bcell hB10
  have hzb : w.heap.size < w10.heap.size := by have := hB10.size; simp at this; omega
  go_wp2_with fail
  refine (eqInts_any _ _ _ _ _ _ _ _ _ ho_x10.ints ho_z10.ints hn_p).mono ?_
  rintro e w11 ⟨rfl, hq11⟩
  have hb11 := hq11.below w10.heap.size
  have ho_w11 := ho_w10.below hb11
  clear ho_w10
  have ho_x11 := ho_x10.below hb11
  clear ho_x10
  have ho_y11 := ho_y10.below hb11
  clear ho_y10
  have ho_g11 := ho_g10.below hb11
  clear ho_g10
  have ho_z11 := ho_z10.below hb11
  clear ho_z10
  have hB11 := bthen hB10 hb11 hB10.size
  clear hB10 hb11
  clear hcb hfb hzb
  obtain ⟨hcb, hfb⟩ := bcell hB11
  have hzb : w.heap.size < w11.heap.size := by have := hB11.size; simp at this; omega
  clear ho_z11
  go_wp2_with fail
  refine (toInts_any _ _ _ _ _ (hI_q.below hB11) hn_q).mono ?_
  rintro e w12 ⟨A12, c12, rfl, ho_z12, hb12⟩
  have ap_x_z := own_apart ho_x11 ho_z12 (Nat.le_refl _)
  have ap_y_z := own_apart ho_y11 ho_z12 (Nat.le_refl _)
  have ap_g_z := own_apart ho_g11 ho_z12 (Nat.le_refl _)
  have ho_w12 := ho_w11.below hb12
  clear ho_w11
  have ho_x12 := ho_x11.below hb12
  clear ho_x11
  have ho_y12 := ho_y11.below hb12
  clear ho_y11
  have ho_g12 := ho_g11.below hb12
  clear ho_g11
  have hB12 := bthen hB11 hb12 hB11.size
  clear hB11 hb12
  clear hcb hfb hzb
  obtain ⟨hcb, hfb⟩ := bcell hB12
  have hzb : w.heap.size < w12.heap.size := by have := hB12.size; simp at this; omega
  go_wp2_with fail
  refine (eqInts_any _ _ _ _ _ _ _ _ _ ho_y12.ints ho_z12.ints hn_q).mono ?_
  rintro e w13 ⟨rfl, hq13⟩
  have hb13 := hq13.below w12.heap.size
  have ho_w13 := ho_w12.below hb13
  clear ho_w12
  have ho_x13 := ho_x12.below hb13
  clear ho_x12
  have ho_y13 := ho_y12.below hb13
  clear ho_y12
  have ho_g13 := ho_g12.below hb13
  clear ho_g12
  have ho_z13 := ho_z12.below hb13
  clear ho_z12
  have hB13 := bthen hB12 hb13 hB12.size
  clear hB12 hb13
  clear hcb hfb hzb
  obtain ⟨hcb, hfb⟩ := bcell hB13
  have hzb : w.heap.size < w13.heap.size := by have := hB13.size; simp at this; omega
  clear ho_z13
  go_wp2_with fail
  refine (markInts_any _ _ _ _ _ _ _ ho_x13 hn_p (by omega) (by omega)).mono ?_
  rintro e w14 ⟨rfl, ho_x14, hg14⟩
  have ho_w14 := ho_w13.grown hg14 ap_w_x.2
  clear ho_w13
  have ho_y14 := ho_y13.grown hg14 ap_x_y.1
  clear ho_y13
  have ho_g14 := ho_g13.grown hg14 ap_x_g.1
  clear ho_g13
  clear ho_x13
  have hB14 := hB13.grown hg14 hB13.size ge_x
  clear hB13 hg14
  clear hcb hfb hzb
  obtain ⟨hcb, hfb⟩ := bcell hB14
  have hzb : w.heap.size < w14.heap.size := by have := hB14.size; simp at this; omega
  go_wp2_with fail
  refine (markInts_any _ _ _ _ _ _ _ ho_y14 hn_q (by omega) (by omega)).mono ?_
  rintro e w15 ⟨rfl, ho_y15, hg15⟩
  have ho_w15 := ho_w14.grown hg15 ap_w_y.2
  clear ho_w14
  have ho_x15 := ho_x14.grown hg15 ap_x_y.2
  clear ho_x14
  have ho_g15 := ho_g14.grown hg15 ap_y_g.1
  clear ho_g14
  clear ho_y14
  have hB15 := hB14.grown hg15 hB14.size ge_y
  clear hB14 hg15
  clear hcb hfb hzb
  obtain ⟨hcb, hfb⟩ := bcell hB15
  have hzb : w.heap.size < w15.heap.size := by have := hB15.size; simp at this; omega
  go_wp2_with fail
  refine (eqInts_any _ _ _ _ _ _ _ _ _ ho_g15.ints ho_w15.ints hs).mono ?_
  rintro e w16 ⟨rfl, hq16⟩
  have hb16 := hq16.below w15.heap.size
  have ho_w16 := ho_w15.below hb16
  clear ho_w15
  have ho_x16 := ho_x15.below hb16
  clear ho_x15
  have ho_y16 := ho_y15.below hb16
  clear ho_y15
  have ho_g16 := ho_g15.below hb16
  clear ho_g15
  have hB16 := bthen hB15 hb16 hB15.size
  clear hB15 hb16
  clear hcb hfb hzb
  obtain ⟨hcb, hfb⟩ := bcell hB16
  have hzb : w.heap.size < w16.heap.size := by have := hB16.size; simp at this; omega
  go_wp2_with fail
  refine (markInts_any _ _ _ _ _ _ _ ho_g16 hs (by omega) (by omega)).mono ?_
  rintro e w17 ⟨rfl, ho_g17, hg17⟩
  have ho_w17 := ho_w16.grown hg17 ap_w_g.2
  clear ho_w16
  have ho_x17 := ho_x16.grown hg17 ap_x_g.2
  clear ho_x16
  have ho_y17 := ho_y16.grown hg17 ap_y_g.2
  clear ho_y16
  clear ho_g16
  have hB17 := hB16.grown hg17 hB16.size ge_g
  clear hB16 hg17
  clear hcb hfb hzb
  obtain ⟨hcb, hfb⟩ := bcell hB17
  have hzb : w.heap.size < w17.heap.size := by have := hB17.size; simp at this; omega
  go_wp2_with fail
  refine (heldInts_any _ _ _ _ _ ho_g17.ints hs (by omega) (by omega)).mono ?_
  rintro e w' ⟨rfl, rfl⟩
  go_wp2_with fail
  refine (toUnit_any _ _ _ _).mono ?_
  rintro e w18 ⟨rfl, hb18⟩
  have ho_w18 := ho_w17.below hb18
  clear ho_w17
  have ho_x18 := ho_x17.below hb18
  clear ho_x17
  have ho_y18 := ho_y17.below hb18
  clear ho_y17
  have ho_g18 := ho_g17.below hb18
  clear ho_g17
  have hB18 := bthen hB17 hb18 hB17.size
  clear hB17 hb18
  clear hcb hfb hzb
  obtain ⟨hcb, hfb⟩ := bcell hB18
  have hzb : w.heap.size < w18.heap.size := by have := hB18.size; simp at this; omega
  go_wp2_with fail
  refine (toInts_any _ _ _ _ _ (hI_p.below hB18) hn_p).mono ?_
  rintro e w19 ⟨A19, c19, rfl, ho_i19, hb19⟩
  have ap_x_i := own_apart ho_x18 ho_i19 (Nat.le_refl _)
  have ap_y_i := own_apart ho_y18 ho_i19 (Nat.le_refl _)
  have ap_g_i := own_apart ho_g18 ho_i19 (Nat.le_refl _)
  have ho_w19 := ho_w18.below hb19
  clear ho_w18
  have ho_x19 := ho_x18.below hb19
  clear ho_x18
  have ho_y19 := ho_y18.below hb19
  clear ho_y18
  have ho_g19 := ho_g18.below hb19
  clear ho_g18
  have hB19 := bthen hB18 hb19 hB18.size
  clear hB18 hb19
  clear hcb hfb hzb
  obtain ⟨hcb, hfb⟩ := bcell hB19
  have hzb : w.heap.size < w19.heap.size := by have := hB19.size; simp at this; omega
  go_wp2_with fail
  refine (toInts_any _ _ _ _ _ (hI_q.below hB19) hn_q).mono ?_
  rintro e w20 ⟨A20, c20, rfl, ho_j20, hb20⟩
  have ap_x_j := own_apart ho_x19 ho_j20 (Nat.le_refl _)
  have ap_y_j := own_apart ho_y19 ho_j20 (Nat.le_refl _)
  have ap_g_j := own_apart ho_g19 ho_j20 (Nat.le_refl _)
  have ho_w20 := ho_w19.below hb20
  clear ho_w19
  have ho_x20 := ho_x19.below hb20
  clear ho_x19
  have ho_y20 := ho_y19.below hb20
  clear ho_y19
  have ho_g20 := ho_g19.below hb20
  clear ho_g19
  have ho_i20 := ho_i19.below hb20
  clear ho_i19
  have hB20 := bthen hB19 hb20 hB19.size
  clear hB19 hb20
  clear hcb hfb hzb
  obtain ⟨hcb, hfb⟩ := bcell hB20
  have hzb : w.heap.size < w20.heap.size := by have := hB20.size; simp at this; omega
  go_wp2_with fail
  refine (forced_any _ _ _ _ _ _ _ _ _ _ ho_i20.ints ho_j20.ints hn_p hn_q).mono ?_
  rintro e w21 ⟨A21, c21, rfl, ho_h21, hb21⟩
  have ap_x_h := own_apart ho_x20 ho_h21 (Nat.le_refl _)
  have ap_y_h := own_apart ho_y20 ho_h21 (Nat.le_refl _)
  have ap_g_h := own_apart ho_g20 ho_h21 (Nat.le_refl _)
  have ho_w21 := ho_w20.below hb21
  clear ho_w20
  have ho_x21 := ho_x20.below hb21
  clear ho_x20
  have ho_y21 := ho_y20.below hb21
  clear ho_y20
  have ho_g21 := ho_g20.below hb21
  clear ho_g20
  have ho_i21 := ho_i20.below hb21
  clear ho_i20
  have ho_j21 := ho_j20.below hb21
  clear ho_j20
  have hB21 := bthen hB20 hb21 hB20.size
  clear hB20 hb21
  clear hcb hfb hzb
  obtain ⟨hcb, hfb⟩ := bcell hB21
  have hzb : w.heap.size < w21.heap.size := by have := hB21.size; simp at this; omega
  go_wp2_with fail
  refine (eqInts_any _ _ _ _ _ _ _ _ _ ho_h21.ints ho_w21.ints hs).mono ?_
  rintro e w22 ⟨rfl, hq22⟩
  have hb22 := hq22.below w21.heap.size
  have ho_w22 := ho_w21.below hb22
  clear ho_w21
  have ho_x22 := ho_x21.below hb22
  clear ho_x21
  have ho_y22 := ho_y21.below hb22
  clear ho_y21
  have ho_g22 := ho_g21.below hb22
  clear ho_g21
  have ho_i22 := ho_i21.below hb22
  clear ho_i21
  have ho_j22 := ho_j21.below hb22
  clear ho_j21
  have ho_h22 := ho_h21.below hb22
  clear ho_h21
  have hB22 := bthen hB21 hb22 hB21.size
  clear hB21 hb22
  clear hcb hfb hzb
  obtain ⟨hcb, hfb⟩ := bcell hB22
  have hzb : w.heap.size < w22.heap.size := by have := hB22.size; simp at this; omega
  go_wp2_with fail
  refine (heldInts_any _ _ _ _ _ ho_g22.ints hs (by omega) (by omega)).mono ?_
  rintro e w' ⟨rfl, rfl⟩
  go_wp2_with fail
  go_ret
  exact ⟨rfl, bthen hW hB22 hW.size⟩

set_option maxHeartbeats 4000000 in
theorem law_FnExactBestPlan (s u d : Int) (A : Option Addr) (n c : Nat) (cs : List Int) (w : World) (_h : I64 s ∧ I64 u ∧ I64 d) (h0 : Ints w A n cs ∧ n ≤ c ∧ c ≤ maxLen) :
    Calls Try.prog 11 #[.agg #[.int .i64 s, .int .i64 u, .int .i64 d], .slice A n c] w fun e w' => e = .returned (.bool true) ∧ Below w.heap.size w w' := by
  obtain ⟨h1, hnc, hc⟩ := h0
  obtain rfl : cs.length = n := h1.len
  unfold maxLen at hc
  by_cases hbig_p : (1048576 : Int) < cs.length
  case pos =>
    go_enter Try.func11, Try.ntmps11
    go_wp2_with fail
    go_ret
    exact ⟨rfl, by repeat (first | exact Below.refl _ _ | refine Below.alloc ?_ (by simp <;> omega) _)⟩
  have hn_p : cs.length ≤ 1048576 := by omega
  go_enter Try.func11, Try.ntmps11
  go_wp2_with fail
  have hI_p := (h1.alloc (.cells #[.int .i64 s, .int .i64 u, .int .i64 d] 23))
  have hB0 : Below (w.alloc (.cells #[.int .i64 s, .int .i64 u, .int .i64 d] 23)).heap.size (w.alloc (.cells #[.int .i64 s, .int .i64 u, .int .i64 d] 23)) (w.alloc (.cells #[.int .i64 s, .int .i64 u, .int .i64 d] 23)) := Below.refl _ _
  have hW : Below w.heap.size w (w.alloc (.cells #[.int .i64 s, .int .i64 u, .int .i64 d] 23)) := by
    repeat (first | exact Below.refl _ _ | refine Below.alloc ?_ (by simp <;> omega) _)
  have hs : (fpPlan s u d cs (zer cs.length)).length ≤ 1048576 := fpPlan_le hn_p
  refine (toUnit_any _ _ _ _).mono ?_
  rintro e w1 ⟨rfl, hb1⟩
  have hB1 := bthen hB0 hb1 hB0.size
  clear hB0 hb1
  obtain ⟨hcb, hfb⟩ := bcell hB1
  have hzb : w.heap.size < w1.heap.size := by have := hB1.size; simp at this; omega
  go_wp2_with fail
  refine (toInts_any _ _ _ _ _ (hI_p.below hB1) hn_p).mono ?_
  rintro e w2 ⟨A2, c2, rfl, ho_a2, hb2⟩
  have hB2 := bthen hB1 hb2 hB1.size
  clear hB1 hb2
  clear hcb hfb hzb
  obtain ⟨hcb, hfb⟩ := bcell hB2
  have hzb : w.heap.size < w2.heap.size := by have := hB2.size; simp at this; omega
  go_wp2_with fail
  refine (sBestP_any _ _ _ _ _ _ _ ho_a2.ints hn_p).mono ?_
  rintro e w3 ⟨A3, c3, rfl, ho_w3, hb3⟩
  have ho_a3 := ho_a2.below hb3
  clear ho_a2
  have hB3 := bthen hB2 hb3 hB2.size
  clear hB2 hb3
  clear hcb hfb hzb
  obtain ⟨hcb, hfb⟩ := bcell hB3
  have hzb : w.heap.size < w3.heap.size := by have := hB3.size; simp at this; omega
  clear ho_a3
  go_wp2_with fail
  refine (toInts_any _ _ _ _ _ (hI_p.below hB3) hn_p).mono ?_
  rintro e w4 ⟨A4, c4, rfl, ho_x4, hb4⟩
  have ap_w_x := own_apart ho_w3 ho_x4 (Nat.le_refl _)
  have ge_x := own_ge ho_x4 hB3.size
  have ho_w4 := ho_w3.below hb4
  clear ho_w3
  have hB4 := bthen hB3 hb4 hB3.size
  clear hB3 hb4
  clear hcb hfb hzb
  obtain ⟨hcb, hfb⟩ := bcell hB4
  have hzb : w.heap.size < w4.heap.size := by have := hB4.size; simp at this; omega
  go_wp2_with fail
  refine (toUnit_any _ _ _ _).mono ?_
  rintro e w5 ⟨rfl, hb5⟩
  have ho_w5 := ho_w4.below hb5
  clear ho_w4
  have ho_x5 := ho_x4.below hb5
  clear ho_x4
  have hB5 := bthen hB4 hb5 hB4.size
  clear hB4 hb5
  clear hcb hfb hzb
  obtain ⟨hcb, hfb⟩ := bcell hB5
  have hzb : w.heap.size < w5.heap.size := by have := hB5.size; simp at this; omega
  go_wp2_with fail
  refine (bestP_any _ _ _ _ _ _ _ ho_x5.ints hn_p).mono ?_
  rintro e w6 ⟨A6, c6, rfl, ho_g6, hb6⟩
  have ap_w_g := own_apart ho_w5 ho_g6 (Nat.le_refl _)
  have ap_x_g := own_apart ho_x5 ho_g6 (Nat.le_refl _)
  have ge_g := own_ge ho_g6 hB5.size
  have ho_w6 := ho_w5.below hb6
  clear ho_w5
  have ho_x6 := ho_x5.below hb6
  clear ho_x5
  have hB6 := bthen hB5 hb6 hB5.size
  clear hB5 hb6
  clear hcb hfb hzb
  obtain ⟨hcb, hfb⟩ := bcell hB6
  have hzb : w.heap.size < w6.heap.size := by have := hB6.size; simp at this; omega
  go_wp2_with fail
  refine (eqInts_any _ _ _ _ _ _ _ _ _ ho_g6.ints ho_w6.ints hs).mono ?_
  rintro e w7 ⟨rfl, hq7⟩
  have hb7 := hq7.below w6.heap.size
  have ho_w7 := ho_w6.below hb7
  clear ho_w6
  have ho_x7 := ho_x6.below hb7
  clear ho_x6
  have ho_g7 := ho_g6.below hb7
  clear ho_g6
  have hB7 := bthen hB6 hb7 hB6.size
  clear hB6 hb7
  clear hcb hfb hzb
  obtain ⟨hcb, hfb⟩ := bcell hB7
  have hzb : w.heap.size < w7.heap.size := by have := hB7.size; simp at this; omega
  go_wp2_with fail
  refine (toInts_any _ _ _ _ _ (hI_p.below hB7) hn_p).mono ?_
  rintro e w8 ⟨A8, c8, rfl, ho_z8, hb8⟩
  have ap_x_z := own_apart ho_x7 ho_z8 (Nat.le_refl _)
  have ap_g_z := own_apart ho_g7 ho_z8 (Nat.le_refl _)
  have ho_w8 := ho_w7.below hb8
  clear ho_w7
  have ho_x8 := ho_x7.below hb8
  clear ho_x7
  have ho_g8 := ho_g7.below hb8
  clear ho_g7
  have hB8 := bthen hB7 hb8 hB7.size
  clear hB7 hb8
  clear hcb hfb hzb
  obtain ⟨hcb, hfb⟩ := bcell hB8
  have hzb : w.heap.size < w8.heap.size := by have := hB8.size; simp at this; omega
  go_wp2_with fail
  refine (eqInts_any _ _ _ _ _ _ _ _ _ ho_x8.ints ho_z8.ints hn_p).mono ?_
  rintro e w9 ⟨rfl, hq9⟩
  have hb9 := hq9.below w8.heap.size
  have ho_w9 := ho_w8.below hb9
  clear ho_w8
  have ho_x9 := ho_x8.below hb9
  clear ho_x8
  have ho_g9 := ho_g8.below hb9
  clear ho_g8
  have ho_z9 := ho_z8.below hb9
  clear ho_z8
  have hB9 := bthen hB8 hb9 hB8.size
  clear hB8 hb9
  clear hcb hfb hzb
  obtain ⟨hcb, hfb⟩ := bcell hB9
  have hzb : w.heap.size < w9.heap.size := by have := hB9.size; simp at this; omega
  clear ho_z9
  go_wp2_with fail
  refine (markInts_any _ _ _ _ _ _ _ ho_x9 hn_p (by omega) (by omega)).mono ?_
  rintro e w10 ⟨rfl, ho_x10, hg10⟩
  have ho_w10 := ho_w9.grown hg10 ap_w_x.2
  clear ho_w9
  have ho_g10 := ho_g9.grown hg10 ap_x_g.1
  clear ho_g9
  clear ho_x9
  have hB10 := hB9.grown hg10 hB9.size ge_x
  clear hB9 hg10
  clear hcb hfb hzb
  obtain ⟨hcb, hfb⟩ := bcell hB10
  have hzb : w.heap.size < w10.heap.size := by have := hB10.size; simp at this; omega
  go_wp2_with fail
  refine (eqInts_any _ _ _ _ _ _ _ _ _ ho_g10.ints ho_w10.ints hs).mono ?_
  rintro e w11 ⟨rfl, hq11⟩
  have hb11 := hq11.below w10.heap.size
  have ho_w11 := ho_w10.below hb11
  clear ho_w10
  have ho_x11 := ho_x10.below hb11
  clear ho_x10
  have ho_g11 := ho_g10.below hb11
  clear ho_g10
  have hB11 := bthen hB10 hb11 hB10.size
  clear hB10 hb11
  clear hcb hfb hzb
  obtain ⟨hcb, hfb⟩ := bcell hB11
  have hzb : w.heap.size < w11.heap.size := by have := hB11.size; simp at this; omega
  go_wp2_with fail
  refine (markInts_any _ _ _ _ _ _ _ ho_g11 hs (by omega) (by omega)).mono ?_
  rintro e w12 ⟨rfl, ho_g12, hg12⟩
  have ho_w12 := ho_w11.grown hg12 ap_w_g.2
  clear ho_w11
  have ho_x12 := ho_x11.grown hg12 ap_x_g.2
  clear ho_x11
  clear ho_g11
  have hB12 := hB11.grown hg12 hB11.size ge_g
  clear hB11 hg12
  clear hcb hfb hzb
  obtain ⟨hcb, hfb⟩ := bcell hB12
  have hzb : w.heap.size < w12.heap.size := by have := hB12.size; simp at this; omega
  go_wp2_with fail
  refine (heldInts_any _ _ _ _ _ ho_g12.ints hs (by omega) (by omega)).mono ?_
  rintro e w' ⟨rfl, rfl⟩
  go_wp2_with fail
  refine (toUnit_any _ _ _ _).mono ?_
  rintro e w13 ⟨rfl, hb13⟩
  have ho_w13 := ho_w12.below hb13
  clear ho_w12
  have ho_x13 := ho_x12.below hb13
  clear ho_x12
  have ho_g13 := ho_g12.below hb13
  clear ho_g12
  have hB13 := bthen hB12 hb13 hB12.size
  clear hB12 hb13
  clear hcb hfb hzb
  obtain ⟨hcb, hfb⟩ := bcell hB13
  have hzb : w.heap.size < w13.heap.size := by have := hB13.size; simp at this; omega
  go_wp2_with fail
  refine (toInts_any _ _ _ _ _ (hI_p.below hB13) hn_p).mono ?_
  rintro e w14 ⟨A14, c14, rfl, ho_i14, hb14⟩
  have ap_x_i := own_apart ho_x13 ho_i14 (Nat.le_refl _)
  have ap_g_i := own_apart ho_g13 ho_i14 (Nat.le_refl _)
  have ho_w14 := ho_w13.below hb14
  clear ho_w13
  have ho_x14 := ho_x13.below hb14
  clear ho_x13
  have ho_g14 := ho_g13.below hb14
  clear ho_g13
  have hB14 := bthen hB13 hb14 hB13.size
  clear hB13 hb14
  clear hcb hfb hzb
  obtain ⟨hcb, hfb⟩ := bcell hB14
  have hzb : w.heap.size < w14.heap.size := by have := hB14.size; simp at this; omega
  go_wp2_with fail
  refine (bestP_any _ _ _ _ _ _ _ ho_i14.ints hn_p).mono ?_
  rintro e w15 ⟨A15, c15, rfl, ho_h15, hb15⟩
  have ap_x_h := own_apart ho_x14 ho_h15 (Nat.le_refl _)
  have ap_g_h := own_apart ho_g14 ho_h15 (Nat.le_refl _)
  have ho_w15 := ho_w14.below hb15
  clear ho_w14
  have ho_x15 := ho_x14.below hb15
  clear ho_x14
  have ho_g15 := ho_g14.below hb15
  clear ho_g14
  have ho_i15 := ho_i14.below hb15
  clear ho_i14
  have hB15 := bthen hB14 hb15 hB14.size
  clear hB14 hb15
  clear hcb hfb hzb
  obtain ⟨hcb, hfb⟩ := bcell hB15
  have hzb : w.heap.size < w15.heap.size := by have := hB15.size; simp at this; omega
  go_wp2_with fail
  refine (eqInts_any _ _ _ _ _ _ _ _ _ ho_h15.ints ho_w15.ints hs).mono ?_
  rintro e w16 ⟨rfl, hq16⟩
  have hb16 := hq16.below w15.heap.size
  have ho_w16 := ho_w15.below hb16
  clear ho_w15
  have ho_x16 := ho_x15.below hb16
  clear ho_x15
  have ho_g16 := ho_g15.below hb16
  clear ho_g15
  have ho_i16 := ho_i15.below hb16
  clear ho_i15
  have ho_h16 := ho_h15.below hb16
  clear ho_h15
  have hB16 := bthen hB15 hb16 hB15.size
  clear hB15 hb16
  clear hcb hfb hzb
  obtain ⟨hcb, hfb⟩ := bcell hB16
  have hzb : w.heap.size < w16.heap.size := by have := hB16.size; simp at this; omega
  go_wp2_with fail
  refine (heldInts_any _ _ _ _ _ ho_g16.ints hs (by omega) (by omega)).mono ?_
  rintro e w' ⟨rfl, rfl⟩
  go_wp2_with fail
  go_ret
  exact ⟨rfl, bthen hW hB16 hW.size⟩
end Go.Proofs.Ytiofjnohdmminaa
