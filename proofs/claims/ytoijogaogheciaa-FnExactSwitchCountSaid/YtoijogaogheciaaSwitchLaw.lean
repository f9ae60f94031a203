/- The walk of the law on SwitchCount. No condition. -/
import Derived.Test.YtoijogaogheciaaSwitch
set_option linter.unusedVariables false
set_option maxRecDepth 100000
namespace Go.Proofs.Ytoijogaogheciaa
open Go.RowKit Go.Joins Go.Deep
attribute [local go_sem ↓] Go.wp_at_zero Go.wp_at_succ

set_option maxHeartbeats 4000000 in
theorem law_FnExactSwitchCount (A0 : Option Addr) (n0 c0 : Nat) (ns0 : List Nd) (B0 : Option Addr) (m0 d0 : Nat) (ps0 : List Pp) (Z1 : Option Addr) (l1 e1 : Nat) (zs1 : List Int) (Z2 : Option Addr) (l2 e2 : Nat) (zs2 : List Int) (w : World) (h0 : IsNet w A0 n0 c0 ns0 B0 m0 d0 ps0) (h1 : Ints w Z1 l1 zs1 ∧ l1 ≤ e1 ∧ e1 ≤ maxLen) (h2 : Ints w Z2 l2 zs2 ∧ l2 ≤ e2 ∧ e2 ≤ maxLen) :
    Calls Try.prog 8 #[.agg #[.slice A0 n0 c0, .slice B0 m0 d0], .slice Z1 l1 e1, .slice Z2 l2 e2] w fun e w' => e = .returned (.bool true) ∧ Below w.heap.size w w' := by
  obtain ⟨hz1, he1, hm1⟩ := h1
  obtain rfl : zs1.length = l1 := hz1.len
  unfold maxLen at hm1
  obtain ⟨hz2, he2, hm2⟩ := h2
  obtain rfl : zs2.length = l2 := hz2.len
  unfold maxLen at hm2
  have hW : Below w.heap.size w (w.alloc (.cells #[.slice A0 n0 c0, .slice B0 m0 d0] 39)) := (Below.refl _ _).alloc (Nat.le_refl _) _
  have xV := boxN_of (w := w) (A := A0) (n := n0) (c := c0) (B := B0) (m := m0) (d := d0) 39
  have nV := h0.below hW
  have iV1 := hz1.below hW
  have iV2 := hz2.below hW
  by_cases hbig1 : (1048576 : Int) < zs1.length
  case pos =>
    go_enter Try.func8, Try.ntmps8
    go_wp2_with fail
    go_ret
    exact ⟨rfl, hW⟩
  have hl1 : zs1.length ≤ 1048576 := by omega
  by_cases hbig2 : (1048576 : Int) < zs2.length
  case pos =>
    go_enter Try.func8, Try.ntmps8
    go_wp2_with fail
    go_ret
    exact ⟨rfl, hW⟩
  have hl2 : zs2.length ≤ 1048576 := by omega
  go_enter Try.func8, Try.ntmps8
  go_wp2_with fail
  refine (szNet_any _ _ _ _ _ _ ns0 _ _ nV.nodes (Nat.le_trans h0.capA.1 h0.capA.2) (Nat.le_trans h0.capB.1 h0.capB.2) (by omega) (by omega)).mono ?_
  rintro e w1 ⟨left, rfl, hleft, hb1⟩
  generalize (w.alloc (.cells #[.slice A0 n0 c0, .slice B0 m0 d0] 39)) = V at *
  rcases hleft with rfl | ⟨hl0, hl⟩
  · go_wp2_with fail
    go_ret
    exact ⟨rfl, bthen hW hb1 hW.size⟩
  have hn0 : n0 ≤ 1048576 := by omega
  have hm0 : m0 ≤ 1048576 := by omega
  obtain ⟨xl, x0, x1⟩ := xV.below hb1
  go_wp2_with fail
  refine (toNetw_any _ _ _ _ _ _ _ _ _ (nV.below hb1) hn0 hm0).mono ?_
  rintro e w2 ⟨A2, c2, B2, d2, rfl, oN2, hb2⟩
  have hB2 := bthen hb1 hb2 hb1.size
  clear hb1 hb2
  go_wp2_with fail
  refine (toInts_any _ _ _ _ _ (iV1.below hB2) hl1).mono ?_
  rintro e w3 ⟨Z3, e3, rfl, oZ3, hb3⟩
  have nn_3 := oN2.below hb3
  clear oN2
  have hB3 := bthen hB2 hb3 hB2.size
  clear hB2 hb3
  go_wp2_with fail
  refine (toInts_any _ _ _ _ _ (iV2.below hB3) hl2).mono ?_
  rintro e w4 ⟨Z4, e4, rfl, oZ4, hb4⟩
  have nn_4 := nn_3.below hb4
  clear nn_3
  have z1_4 := oZ3.below hb4
  clear oZ3
  have hB4 := bthen hB3 hb4 hB3.size
  clear hB3 hb4
  go_wp2_with fail
  refine (sSwitch_any _ _ _ _ _ _ _ _ _ _ ns0 ps0 zs1 zs2 _ nn_4.reads z1_4.ints oZ4.ints hl1 hl2).mono ?_
  rintro e w5 ⟨rfl, hb5⟩
  have nn_5 := nn_4.below hb5
  clear nn_4
  have z1_5 := z1_4.below hb5
  clear z1_4
  have z2_5 := oZ4.below hb5
  clear oZ4
  have hB5 := bthen hB4 hb5 hB4.size
  clear hB4 hb5
  clear nn_5
  clear z1_5
  clear z2_5
  clear xl x0 x1
  obtain ⟨xl, x0, x1⟩ := xV.below hB5
  go_wp2_with fail
  refine (toNetw_any _ _ _ _ _ _ _ _ _ (nV.below hB5) hn0 hm0).mono ?_
  rintro e w6 ⟨A6, c6, B6, d6, rfl, oN6, hb6⟩
  have hB6 := bthen hB5 hb6 hB5.size
  clear hB5 hb6
  clear xl x0 x1
  have hbx : Below w6.heap.size w6 (w6.alloc (.cells #[.slice A6 n0 c6, .slice B6 m0 d6] 45)) := (Below.refl _ _).alloc (Nat.le_refl _) _
  have bx := boxN_of (w := w6) (A := A6) (n := n0) (c := c6) (B := B6) (m := m0) (d := d6) 45
  have nn_7 := oN6.below hbx
  clear oN6
  have hB7 := bthen hB6 hbx hB6.size
  clear hB6 hbx
  go_wp2_with fail
  generalize (w6.alloc (.cells #[.slice A6 n0 c6, .slice B6 m0 d6] 45)) = w7 at *
  refine (toInts_any _ _ _ _ _ (iV1.below hB7) hl1).mono ?_
  rintro e w8 ⟨Z8, e8, rfl, oZ8, hb8⟩
  have nn_8 := nn_7.below hb8
  clear nn_7
  have bx_8 := bx.below hb8
  clear bx
  have hB8 := bthen hB7 hb8 hB7.size
  clear hB7 hb8
  go_wp2_with fail
  refine (toInts_any _ _ _ _ _ (iV2.below hB8) hl2).mono ?_
  rintro e w9 ⟨Z9, e9, rfl, oZ9, hb9⟩
  have nn_9 := nn_8.below hb9
  clear nn_8
  have bx_9 := bx_8.below hb9
  clear bx_8
  have z1_9 := oZ8.below hb9
  clear oZ8
  have hB9 := bthen hB8 hb9 hB8.size
  clear hB8 hb9
  obtain ⟨yl, y0, y1⟩ := id bx_9
  go_wp2_with fail
  refine (switch_any _ _ _ _ _ _ _ _ _ _ ns0 ps0 zs1 zs2 _ nn_9.reads z1_9.ints oZ9.ints hl1 hl2).mono ?_
  rintro e w10 ⟨rfl, hb10⟩
  have nn_10 := nn_9.below hb10
  clear nn_9
  have bx_10 := bx_9.below hb10
  clear bx_9
  have z1_10 := z1_9.below hb10
  clear z1_9
  have z2_10 := oZ9.below hb10
  clear oZ9
  have hB10 := bthen hB9 hb10 hB9.size
  clear hB9 hb10
  clear yl y0 y1
  generalize swOf ns0 ps0 m0 zs1 zs2 = P at *
  have hne1 : (P.1 != P.1) = false := by simp
  have hne2 : (P.2 != P.2) = false := by simp
  obtain ⟨yl, y0, y1⟩ := id bx_10
  obtain ⟨xl, x0, x1⟩ := xV.below hB10
  have kI1 : Kept (Ints V Z1 zs1.length zs1) := ⟨iV1⟩
  have kZ1 : Kept (Ints w10 _ zs1.length zs1) := ⟨z1_10.ints⟩
  clear iV1 hz1 z1_10
  have kI2 : Kept (Ints V Z2 zs2.length zs2) := ⟨iV2⟩
  have kZ2 : Kept (Ints w10 _ zs2.length zs2) := ⟨z2_10.ints⟩
  clear iV2 hz2 z2_10
  have kN : Kept (IsNet V A0 n0 c0 ns0 B0 m0 d0 ps0) := ⟨nV⟩
  have kM : Kept (IsNet w10 A6 n0 c6 ns0 B6 m0 d6 ps0) := ⟨nn_10.reads⟩
  have kW : Kept (Below w.heap.size w V) := ⟨hW⟩
  clear nV nn_10 xV hW h0
  have kU : Kept (Below w10.heap.size w10 w10.drew) := ⟨(Below.refl _ _).drew⟩
  go_wp2_with fail
  go_region_held3 (fun w' => w.heap.size < w'.heap.size ∧ w6.heap.size < w'.heap.size ∧ w'.cell? ⟨w.heap.size, 0, none⟩ = some (.slice A0 n0 c0) ∧ w'.cell? ⟨w.heap.size, 1, none⟩ = some (.slice B0 m0 d0) ∧ w'.cell? ⟨w6.heap.size, 0, none⟩ = some (.slice A6 n0 c6) ∧ w'.cell? ⟨w6.heap.size, 1, none⟩ = some (.slice B6 m0 d6) ∧ Kept (Below w10.heap.size w10 w'))
    (first | (go_split_ands; refine ⟨by have := hbr.size; omega, by have := hbr.size; omega, ?_, ?_, ?_, ?_, ⟨bthen (Kept.out ‹Kept (Below _ _ _)›) hbr (Kept.out ‹Kept (Below _ _ _)›).size⟩⟩ <;> (rw [hbr.cell (by simp; omega)]; assumption)) | go_keep)
    (first | (go_at_call 28; go_split_ands; refine (toNetw_any _ _ _ _ _ _ _ _ _ ((kN.out.below hB10).below (Kept.out ‹Kept (Below w10.heap.size _ _)›)) hn0 hm0).mono ?_; rintro e wr ⟨Ar, cr, Br, dr, rfl, oR, hbr⟩) | (go_at_call 30; go_split_ands; refine (eqNet_any _ _ _ _ _ _ _ _ _ _ _ _ ns0 ns0 ps0 ps0 _ (kM.out.below (Kept.out ‹Kept (Below w10.heap.size _ _)›)).nodes (kM.out.below (Kept.out ‹Kept (Below w10.heap.size _ _)›)).pipes oR.reads.nodes oR.reads.pipes hn0 hm0).mono ?_; rintro e wq ⟨be, hbe, rfl, hbr⟩; obtain rfl : be = true := hbe.2 ⟨rfl, rfl⟩; clear hbe))
  rename_i hh
  obtain ⟨g1, g2, _, _, _, _, ⟨hR⟩⟩ := hh
  have hBr := bthen hB10 hR hB10.size
  go_wp2_with fail
  refine (toInts_any _ _ _ _ _ (kI1.out.below hBr) hl1).mono ?_
  rintro e wa1 ⟨Za1, ea1, rfl, oa1, hba1⟩
  have hUa1 := bthen hR hba1 hR.size
  go_wp2_with fail
  refine (eqInts_any _ _ _ _ _ _ _ _ _ (kZ1.out.below hUa1) oa1.ints hl1).mono ?_
  rintro e wb1 ⟨rfl, hqb1⟩
  have hUb1 := bthen hUa1 (hqb1.below _) hUa1.size
  have hBb1 := bthen hB10 hUb1 hB10.size
  go_wp2_with fail
  refine (toInts_any _ _ _ _ _ (kI2.out.below hBb1) hl2).mono ?_
  rintro e wa2 ⟨Za2, ea2, rfl, oa2, hba2⟩
  have hUa2 := bthen hUb1 hba2 hUb1.size
  go_wp2_with fail
  refine (eqInts_any _ _ _ _ _ _ _ _ _ (kZ2.out.below hUa2) oa2.ints hl2).mono ?_
  rintro e wb2 ⟨rfl, hqb2⟩
  have hUb2 := bthen hUa2 (hqb2.below _) hUa2.size
  have hBb2 := bthen hB10 hUb2 hB10.size
  go_wp2_with fail
  go_ret
  exact ⟨rfl, bthen kW.out hBb2 kW.out.size⟩
end Go.Proofs.Ytoijogaogheciaa
