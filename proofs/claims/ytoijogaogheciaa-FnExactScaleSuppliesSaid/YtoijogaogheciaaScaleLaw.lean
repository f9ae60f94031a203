/- The walk of the law on ScaleSupplies. No condition. -/
import Derived.Test.YtoijogaogheciaaScale
set_option linter.unusedVariables false
set_option maxRecDepth 100000
namespace Go.Proofs.Ytoijogaogheciaa
open Go.RowKit Go.Joins

set_option maxHeartbeats 4000000 in
theorem law_FnExactScaleSupplies (A : Option Addr) (n c : Nat) (zs : List Int) (sc : Int) (w : World) (h0 : Ints w A n zs ∧ n ≤ c ∧ c ≤ maxLen) (_hs : I64 sc) :
    Calls Try.prog 4 #[.slice A n c, .int .i64 sc] w fun e w' => e = .returned (.bool true) ∧ Below w.heap.size w w' := by
  obtain ⟨h1, hnc, hc⟩ := h0
  obtain rfl : zs.length = n := h1.len
  unfold maxLen at hc
  by_cases hbig_p : (1048576 : Int) < zs.length
  case pos =>
    go_enter Try.func4, Try.ntmps4
    go_wp2_with fail
    go_ret
    exact ⟨rfl, by repeat (first | exact Below.refl _ _ | refine Below.alloc ?_ (by simp <;> omega) _)⟩
  have hn_p : zs.length ≤ 1048576 := by omega
  go_enter Try.func4, Try.ntmps4
  go_wp2_with fail
  have hI_p := h1
  have hB0 : Below w.heap.size w w := Below.refl _ _
  have hW : Below w.heap.size w w := by
    exact Below.refl _ _
  have hs : (scaleOf sc zs).length ≤ 1048576 := by unfold scaleOf; split <;> simp [scl_len]; exact hn_p
  refine (toInts_any _ _ _ _ _ (hI_p.below hB0) hn_p).mono ?_
  rintro e w1 ⟨A1, c1, rfl, ho_a1, hb1⟩
  have hB1 := bthen hB0 hb1 hB0.size
  clear hB0 hb1
  go_wp2_with fail
  refine (sScale_any _ _ _ _ _ ho_a1.ints hn_p).mono ?_
  rintro e w2 ⟨A2, c2, rfl, ho_w2, hb2⟩
  have ho_a2 := ho_a1.below hb2
  clear ho_a1
  have hB2 := bthen hB1 hb2 hB1.size
  clear hB1 hb2
  clear ho_a2
  go_wp2_with fail
  refine (toInts_any _ _ _ _ _ (hI_p.below hB2) hn_p).mono ?_
  rintro e w3 ⟨A3, c3, rfl, ho_x3, hb3⟩
  have ap_w_x := own_apart ho_w2 ho_x3 (Nat.le_refl _)
  have ge_x := own_ge ho_x3 hB2.size
  have ho_w3 := ho_w2.below hb3
  clear ho_w2
  have hB3 := bthen hB2 hb3 hB2.size
  clear hB2 hb3
  go_wp2_with fail
  refine (scale_any _ _ _ _ _ ho_x3.ints hn_p).mono ?_
  rintro e w4 ⟨A4, c4, rfl, ho_g4, hb4⟩
  have ap_w_g := own_apart ho_w3 ho_g4 (Nat.le_refl _)
  have ap_x_g := own_apart ho_x3 ho_g4 (Nat.le_refl _)
  have ge_g := own_ge ho_g4 hB3.size
  have ho_w4 := ho_w3.below hb4
  clear ho_w3
  have ho_x4 := ho_x3.below hb4
  clear ho_x3
  have hB4 := bthen hB3 hb4 hB3.size
  clear hB3 hb4
  go_wp2_with fail
  refine (eqInts_any _ _ _ _ _ _ _ _ _ ho_g4.ints ho_w4.ints hs).mono ?_
  rintro e w5 ⟨rfl, hq5⟩
  have hb5 := hq5.below w4.heap.size
  have ho_w5 := ho_w4.below hb5
  clear ho_w4
  have ho_x5 := ho_x4.below hb5
  clear ho_x4
  have ho_g5 := ho_g4.below hb5
  clear ho_g4
  have hB5 := bthen hB4 hb5 hB4.size
  clear hB4 hb5
  go_wp2_with fail
  refine (toInts_any _ _ _ _ _ (hI_p.below hB5) hn_p).mono ?_
  rintro e w6 ⟨A6, c6, rfl, ho_z6, hb6⟩
  have ap_x_z := own_apart ho_x5 ho_z6 (Nat.le_refl _)
  have ap_g_z := own_apart ho_g5 ho_z6 (Nat.le_refl _)
  have ho_w6 := ho_w5.below hb6
  clear ho_w5
  have ho_x6 := ho_x5.below hb6
  clear ho_x5
  have ho_g6 := ho_g5.below hb6
  clear ho_g5
  have hB6 := bthen hB5 hb6 hB5.size
  clear hB5 hb6
  go_wp2_with fail
  refine (eqInts_any _ _ _ _ _ _ _ _ _ ho_x6.ints ho_z6.ints hn_p).mono ?_
  rintro e w7 ⟨rfl, hq7⟩
  have hb7 := hq7.below w6.heap.size
  have ho_w7 := ho_w6.below hb7
  clear ho_w6
  have ho_x7 := ho_x6.below hb7
  clear ho_x6
  have ho_g7 := ho_g6.below hb7
  clear ho_g6
  have ho_z7 := ho_z6.below hb7
  clear ho_z6
  have hB7 := bthen hB6 hb7 hB6.size
  clear hB6 hb7
  clear ho_z7
  go_wp2_with fail
  refine (markInts_any _ _ _ _ _ _ _ ho_x7 hn_p (by omega) (by omega)).mono ?_
  rintro e w8 ⟨rfl, ho_x8, hg8⟩
  have ho_w8 := ho_w7.grown hg8 ap_w_x.2
  clear ho_w7
  have ho_g8 := ho_g7.grown hg8 ap_x_g.1
  clear ho_g7
  clear ho_x7
  have hB8 := hB7.grown hg8 hB7.size ge_x
  clear hB7 hg8
  go_wp2_with fail
  refine (eqInts_any _ _ _ _ _ _ _ _ _ ho_g8.ints ho_w8.ints hs).mono ?_
  rintro e w9 ⟨rfl, hq9⟩
  have hb9 := hq9.below w8.heap.size
  have ho_w9 := ho_w8.below hb9
  clear ho_w8
  have ho_x9 := ho_x8.below hb9
  clear ho_x8
  have ho_g9 := ho_g8.below hb9
  clear ho_g8
  have hB9 := bthen hB8 hb9 hB8.size
  clear hB8 hb9
  go_wp2_with fail
  refine (markInts_any _ _ _ _ _ _ _ ho_g9 hs (by omega) (by omega)).mono ?_
  rintro e w10 ⟨rfl, ho_g10, hg10⟩
  have ho_w10 := ho_w9.grown hg10 ap_w_g.2
  clear ho_w9
  have ho_x10 := ho_x9.grown hg10 ap_x_g.2
  clear ho_x9
  clear ho_g9
  have hB10 := hB9.grown hg10 hB9.size ge_g
  clear hB9 hg10
  go_wp2_with fail
  refine (heldInts_any _ _ _ _ _ ho_g10.ints hs (by omega) (by omega)).mono ?_
  rintro e w' ⟨rfl, rfl⟩
  go_wp2_with fail
  refine (toInts_any _ _ _ _ _ (hI_p.below hB10) hn_p).mono ?_
  rintro e w11 ⟨A11, c11, rfl, ho_y11, hb11⟩
  have ap_x_y := own_apart ho_x10 ho_y11 (Nat.le_refl _)
  have ap_g_y := own_apart ho_g10 ho_y11 (Nat.le_refl _)
  have ho_w11 := ho_w10.below hb11
  clear ho_w10
  have ho_x11 := ho_x10.below hb11
  clear ho_x10
  have ho_g11 := ho_g10.below hb11
  clear ho_g10
  have hB11 := bthen hB10 hb11 hB10.size
  clear hB10 hb11
  go_wp2_with fail
  refine (scale_any _ _ _ _ _ ho_y11.ints hn_p).mono ?_
  rintro e w12 ⟨A12, c12, rfl, ho_h12, hb12⟩
  have ap_x_h := own_apart ho_x11 ho_h12 (Nat.le_refl _)
  have ap_g_h := own_apart ho_g11 ho_h12 (Nat.le_refl _)
  have ho_w12 := ho_w11.below hb12
  clear ho_w11
  have ho_x12 := ho_x11.below hb12
  clear ho_x11
  have ho_g12 := ho_g11.below hb12
  clear ho_g11
  have ho_y12 := ho_y11.below hb12
  clear ho_y11
  have hB12 := bthen hB11 hb12 hB11.size
  clear hB11 hb12
  go_wp2_with fail
  refine (eqInts_any _ _ _ _ _ _ _ _ _ ho_h12.ints ho_w12.ints hs).mono ?_
  rintro e w13 ⟨rfl, hq13⟩
  have hb13 := hq13.below w12.heap.size
  have ho_w13 := ho_w12.below hb13
  clear ho_w12
  have ho_x13 := ho_x12.below hb13
  clear ho_x12
  have ho_g13 := ho_g12.below hb13
  clear ho_g12
  have ho_y13 := ho_y12.below hb13
  clear ho_y12
  have ho_h13 := ho_h12.below hb13
  clear ho_h12
  have hB13 := bthen hB12 hb13 hB12.size
  clear hB12 hb13
  go_wp2_with fail
  refine (heldInts_any _ _ _ _ _ ho_g13.ints hs (by omega) (by omega)).mono ?_
  rintro e w' ⟨rfl, rfl⟩
  go_wp2_with fail
  go_ret
  exact ⟨rfl, bthen hW hB13 hW.size⟩
end Go.Proofs.Ytoijogaogheciaa
