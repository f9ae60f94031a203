/- The walk of the law on SettingsText. No condition. -/
import Derived.Test.YtoijogaogheciaaText
set_option linter.unusedVariables false
set_option maxRecDepth 100000
namespace Go.Proofs.Ytoijogaogheciaa
open Go.RowKit Go.Joins Go.Deep
attribute [local go_sem ↓] Go.wp_at_zero Go.wp_at_succ

set_option maxHeartbeats 4000000 in
theorem law_FnExactSettingsText (A0 : Option Addr) (n0 c0 : Nat) (ns0 : List Nd) (B0 : Option Addr) (m0 d0 : Nat) (ps0 : List Pp) (Z1 : Option Addr) (l1 e1 : Nat) (zs1 : List Int) (w : World) (h0 : IsNet w A0 n0 c0 ns0 B0 m0 d0 ps0) (h1 : Ints w Z1 l1 zs1 ∧ l1 ≤ e1 ∧ e1 ≤ maxLen) :
    Calls Try.prog 6 #[.agg #[.slice A0 n0 c0, .slice B0 m0 d0], .slice Z1 l1 e1] w fun e w' => e = .returned (.bool true) ∧ Below w.heap.size w w' := by
  obtain ⟨hz1, he1, hm1⟩ := h1
  obtain rfl : zs1.length = l1 := hz1.len
  unfold maxLen at hm1
  have hW : Below w.heap.size w (w.alloc (.cells #[.slice A0 n0 c0, .slice B0 m0 d0] 39)) := (Below.refl _ _).alloc (Nat.le_refl _) _
  have xV := boxN_of (w := w) (A := A0) (n := n0) (c := c0) (B := B0) (m := m0) (d := d0) 39
  have nV := h0.below hW
  have iV1 := hz1.below hW
  by_cases hbig1 : (1048576 : Int) < zs1.length
  case pos =>
    go_enter Try.func6, Try.ntmps6
    go_wp2_with fail
    go_ret
    exact ⟨rfl, hW⟩
  have hl1 : zs1.length ≤ 1048576 := by omega
  go_enter Try.func6, Try.ntmps6
  go_wp2_with fail
  refine (szNet_any _ _ _ _ _ _ ns0 _ _ nV.nodes (Nat.le_trans h0.capA.1 h0.capA.2) (Nat.le_trans h0.capB.1 h0.capB.2) (by omega) (by omega)).mono ?_
  rintro e w1 ⟨left, rfl, hleft, hb1⟩
  generalize (w.alloc (.cells #[.slice A0 n0 c0, .slice B0 m0 d0] 39)) = V at *
  rcases hleft with rfl | ⟨hl0, hl⟩
  · go_wp2_with fail
    go_ret
    exact ⟨rfl, bthen hW hb1 hW.size⟩
  have hn0 : n0 ≤ 1048576 := by omega
  have hm0 : m0 ≤ 1048576 := by omega
  obtain ⟨xl, x0, x1⟩ := xV.below hb1
  go_wp2_with fail
  refine (toNetw_any _ _ _ _ _ _ _ _ _ (nV.below hb1) hn0 hm0).mono ?_
  rintro e w2 ⟨A2, c2, B2, d2, rfl, oN2, hb2⟩
  have hB2 := bthen hb1 hb2 hb1.size
  clear hb1 hb2
  go_wp2_with fail
  refine (toInts_any _ _ _ _ _ (iV1.below hB2) hl1).mono ?_
  rintro e w3 ⟨Z3, e3, rfl, oZ3, hb3⟩
  have nn_3 := oN2.below hb3
  clear oN2
  have hB3 := bthen hB2 hb3 hB2.size
  clear hB2 hb3
  go_wp2_with fail
  refine (sText_any _ _ _ _ _ _ _ _ ns0 ps0 zs1 _ nn_3.reads oZ3.ints hl1).mono ?_
  rintro e w4 ⟨rfl, hb4⟩
  have nn_4 := nn_3.below hb4
  clear nn_3
  have z1_4 := oZ3.below hb4
  clear oZ3
  have hB4 := bthen hB3 hb4 hB3.size
  clear hB3 hb4
  clear nn_4
  clear z1_4
  clear xl x0 x1
  obtain ⟨xl, x0, x1⟩ := xV.below hB4
  go_wp2_with fail
  refine (toNetw_any _ _ _ _ _ _ _ _ _ (nV.below hB4) hn0 hm0).mono ?_
  rintro e w5 ⟨A5, c5, B5, d5, rfl, oN5, hb5⟩
  have hB5 := bthen hB4 hb5 hB4.size
  clear hB4 hb5
  clear xl x0 x1
  have hbx : Below w5.heap.size w5 (w5.alloc (.cells #[.slice A5 n0 c5, .slice B5 m0 d5] 45)) := (Below.refl _ _).alloc (Nat.le_refl _) _
  have bx := boxN_of (w := w5) (A := A5) (n := n0) (c := c5) (B := B5) (m := m0) (d := d5) 45
  have nn_6 := oN5.below hbx
  clear oN5
  have hB6 := bthen hB5 hbx hB5.size
  clear hB5 hbx
  go_wp2_with fail
  generalize (w5.alloc (.cells #[.slice A5 n0 c5, .slice B5 m0 d5] 45)) = w6 at *
  refine (toInts_any _ _ _ _ _ (iV1.below hB6) hl1).mono ?_
  rintro e w7 ⟨Z7, e7, rfl, oZ7, hb7⟩
  have nn_7 := nn_6.below hb7
  clear nn_6
  have bx_7 := bx.below hb7
  clear bx
  have hB7 := bthen hB6 hb7 hB6.size
  clear hB6 hb7
  obtain ⟨yl, y0, y1⟩ := id bx_7
  go_wp2_with fail
  refine (text_any _ _ _ _ _ _ _ _ ns0 ps0 zs1 _ nn_7.reads oZ7.ints hl1).mono ?_
  rintro e w8 ⟨rfl, hb8⟩
  have nn_8 := nn_7.below hb8
  clear nn_7
  have bx_8 := bx_7.below hb8
  clear bx_7
  have z1_8 := oZ7.below hb8
  clear oZ7
  have hB8 := bthen hB7 hb8 hB7.size
  clear hB7 hb8
  clear yl y0 y1
  generalize textS ns0 ps0 m0 zs1 = P at *
  have hne1 : (!(P.toList == P.toList)) = false := by simp
  obtain ⟨yl, y0, y1⟩ := id bx_8
  obtain ⟨xl, x0, x1⟩ := xV.below hB8
  have kI1 : Kept (Ints V Z1 zs1.length zs1) := ⟨iV1⟩
  have kZ1 : Kept (Ints w8 _ zs1.length zs1) := ⟨z1_8.ints⟩
  clear iV1 hz1 z1_8
  have kN : Kept (IsNet V A0 n0 c0 ns0 B0 m0 d0 ps0) := ⟨nV⟩
  have kM : Kept (IsNet w8 A5 n0 c5 ns0 B5 m0 d5 ps0) := ⟨nn_8.reads⟩
  have kW : Kept (Below w.heap.size w V) := ⟨hW⟩
  clear nV nn_8 xV hW h0
  have kU : Kept (Below w8.heap.size w8 w8.drew) := ⟨(Below.refl _ _).drew⟩
  go_wp2_with fail
  go_region_held3 (fun w' => w.heap.size < w'.heap.size ∧ w5.heap.size < w'.heap.size ∧ w'.cell? ⟨w.heap.size, 0, none⟩ = some (.slice A0 n0 c0) ∧ w'.cell? ⟨w.heap.size, 1, none⟩ = some (.slice B0 m0 d0) ∧ w'.cell? ⟨w5.heap.size, 0, none⟩ = some (.slice A5 n0 c5) ∧ w'.cell? ⟨w5.heap.size, 1, none⟩ = some (.slice B5 m0 d5) ∧ Kept (Below w8.heap.size w8 w'))
    (first | (go_split_ands; refine ⟨by have := hbr.size; omega, by have := hbr.size; omega, ?_, ?_, ?_, ?_, ⟨bthen (Kept.out ‹Kept (Below _ _ _)›) hbr (Kept.out ‹Kept (Below _ _ _)›).size⟩⟩ <;> (rw [hbr.cell (by simp; omega)]; assumption)) | go_keep)
    (first | (go_at_call 28; go_split_ands; refine (toNetw_any _ _ _ _ _ _ _ _ _ ((kN.out.below hB8).below (Kept.out ‹Kept (Below w8.heap.size _ _)›)) hn0 hm0).mono ?_; rintro e wr ⟨Ar, cr, Br, dr, rfl, oR, hbr⟩) | (go_at_call 30; go_split_ands; refine (eqNet_any _ _ _ _ _ _ _ _ _ _ _ _ ns0 ns0 ps0 ps0 _ (kM.out.below (Kept.out ‹Kept (Below w8.heap.size _ _)›)).nodes (kM.out.below (Kept.out ‹Kept (Below w8.heap.size _ _)›)).pipes oR.reads.nodes oR.reads.pipes hn0 hm0).mono ?_; rintro e wq ⟨be, hbe, rfl, hbr⟩; obtain rfl : be = true := hbe.2 ⟨rfl, rfl⟩; clear hbe))
  rename_i hh
  obtain ⟨g1, g2, _, _, _, _, ⟨hR⟩⟩ := hh
  have hBr := bthen hB8 hR hB8.size
  go_wp2_with fail
  refine (toInts_any _ _ _ _ _ (kI1.out.below hBr) hl1).mono ?_
  rintro e wa1 ⟨Za1, ea1, rfl, oa1, hba1⟩
  have hUa1 := bthen hR hba1 hR.size
  go_wp2_with fail
  refine (eqInts_any _ _ _ _ _ _ _ _ _ (kZ1.out.below hUa1) oa1.ints hl1).mono ?_
  rintro e wb1 ⟨rfl, hqb1⟩
  have hUb1 := bthen hUa1 (hqb1.below _) hUa1.size
  have hBb1 := bthen hB8 hUb1 hB8.size
  go_wp2_with fail
  go_ret
  exact ⟨rfl, bthen kW.out hBb1 kW.out.size⟩
end Go.Proofs.Ytoijogaogheciaa
