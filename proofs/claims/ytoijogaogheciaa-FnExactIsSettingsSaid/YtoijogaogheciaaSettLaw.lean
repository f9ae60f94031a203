/- The walk of the law on IsSettings. No condition. -/
import Derived.Test.YtoijogaogheciaaSett
set_option linter.unusedVariables false
set_option maxRecDepth 100000
namespace Go.Proofs.Ytoijogaogheciaa
open Go.RowKit Go.Joins Go.Deep
attribute [local go_sem ↓] Go.wp_at_zero Go.wp_at_succ

set_option maxHeartbeats 4000000 in
theorem law_FnExactIsSettings (A0 : Option Addr) (n0 c0 : Nat) (ns0 : List Nd) (B0 : Option Addr) (m0 d0 : Nat) (ps0 : List Pp) (Z1 : Option Addr) (l1 e1 : Nat) (zs1 : List Int) (w : World) (h0 : IsNet w A0 n0 c0 ns0 B0 m0 d0 ps0) (h1 : Ints w Z1 l1 zs1 ∧ l1 ≤ e1 ∧ e1 ≤ maxLen) :
    Calls Try.prog 5 #[.agg #[.slice A0 n0 c0, .slice B0 m0 d0], .slice Z1 l1 e1] w fun e w' => e = .returned (.bool true) ∧ Below w.heap.size w w' := by
  obtain ⟨hz1, he1, hm1⟩ := h1
  obtain rfl : zs1.length = l1 := hz1.len
  unfold maxLen at hm1
  have hW : Below w.heap.size w (w.alloc (.cells #[.slice A0 n0 c0, .slice B0 m0 d0] 39)) := (Below.refl _ _).alloc (Nat.le_refl _) _
  have xV := boxN_of (w := w) (A := A0) (n := n0) (c := c0) (B := B0) (m := m0) (d := d0) 39
  have nV := h0.below hW
  have iV := hz1.below hW
  by_cases hbig : (1048576 : Int) < zs1.length
  case pos =>
    go_enter Try.func5, Try.ntmps5
    go_wp2_with fail
    go_ret
    exact ⟨rfl, hW⟩
  have hl1 : zs1.length ≤ 1048576 := by omega
  go_enter Try.func5, Try.ntmps5
  go_wp2_with fail
  refine (szNet_any _ _ _ _ _ _ ns0 _ _ nV.nodes (Nat.le_trans h0.capA.1 h0.capA.2) (Nat.le_trans h0.capB.1 h0.capB.2) (by omega) (by omega)).mono ?_
  rintro e w1 ⟨left, rfl, hleft, hb1⟩
  generalize (w.alloc (.cells #[.slice A0 n0 c0, .slice B0 m0 d0] 39)) = V at *
  rcases hleft with rfl | ⟨hl0, hl⟩
  · go_wp2_with fail
    go_ret
    exact ⟨rfl, bthen hW hb1 hW.size⟩
  have hn0 : n0 ≤ 1048576 := by omega
  have hm0 : m0 ≤ 1048576 := by omega
  have x1 := xV.below hb1
  have n1 := nV.below hb1
  have i1 := iV.below hb1
  obtain ⟨xl, x10, x11⟩ := x1
  go_wp2_with fail
  refine (toNetw_any _ _ _ _ _ _ _ _ _ n1 hn0 hm0).mono ?_
  rintro e w2 ⟨A2, c2, B2, d2, rfl, o2, hb2⟩
  go_wp2_with fail
  refine (toInts_any _ _ _ _ _ (i1.below hb2) hl1).mono ?_
  rintro e w3 ⟨Z3, e3, rfl, o3, hb3⟩
  have hB3 := bthen (bthen hb1 hb2 hb1.size) hb3 (bthen hb1 hb2 hb1.size).size
  go_wp2_with fail
  refine (sIsSett_any _ _ _ _ _ _ _ _ _ ns0 ps0 zs1 _ (o2.below hb3).reads o3.ints hl1).mono ?_
  rintro e w4 ⟨bs, hbs, rfl, hb4⟩
  have hB4 := bthen hB3 hb4 hB3.size
  have HS := Lib.hid hbs
  clear hbs xl x10 x11 o2 o3 hb1 hb2 hb3 hb4 hB3
  obtain ⟨xl, x0, x1⟩ := xV.below hB4
  go_wp2_with fail
  refine (toNetw_any _ _ _ _ _ _ _ _ _ (nV.below hB4) hn0 hm0).mono ?_
  rintro e w5 ⟨A5, c5, B5, d5, rfl, o5, hb5⟩
  have hB5 := bthen hB4 hb5 hB4.size
  have y5 := boxN_of (w := w5) (A := A5) (n := n0) (c := c5) (B := B5) (m := m0) (d := d5) 45
  have hbx : Below w5.heap.size w5 (w5.alloc (.cells #[.slice A5 n0 c5, .slice B5 m0 d5] 45)) := (Below.refl _ _).alloc (Nat.le_refl _) _
  have o6 := o5.below hbx
  have hB6 := bthen hB5 hbx hB5.size
  clear xl x0 x1 hB4 hb5 hB5 o5 hbx
  go_wp2_with fail
  generalize w5.alloc (.cells #[.slice A5 n0 c5, .slice B5 m0 d5] 45) = w6 at *
  refine (toInts_any _ _ _ _ _ (iV.below hB6) hl1).mono ?_
  rintro e w7 ⟨Z7, e7, rfl, o7, hb7⟩
  have y7 := y5.below hb7
  have m7 := o6.reads.below hb7
  have hB7 := bthen hB6 hb7 hB6.size
  clear o6 hB6 hb7 y5
  obtain ⟨yl, y0, y1⟩ := y7
  go_wp2_with fail
  refine (isSett_any _ _ _ _ _ _ _ _ _ ns0 ps0 zs1 _ m7 o7.ints hl1).mono ?_
  rintro e w8 ⟨bi, hbi, rfl, hb8⟩
  obtain rfl : bi = bs := by
    have := HS.out
    cases bi <;> cases bs <;> simp_all
  have z8 := o7.ints.below hb8
  have m8 := m7.below hb8
  have hB8 := bthen hB7 hb8 hB7.size
  have y8 : BoxN w8 w5.heap.size A5 n0 c5 B5 m0 d5 := BoxN.below ⟨yl, y0, y1⟩ hb8
  clear hbi HS yl y0 y1 m7 o7 hB7 hb8
  obtain ⟨yl, y0, y1⟩ := y8
  obtain ⟨xl, x0, x1⟩ := xV.below hB8
  have hne : (bi != bi) = false := by simp
  have kI : Kept (Ints V Z1 zs1.length zs1) := ⟨iV⟩
  have kZ : Kept (Ints w8 Z7 zs1.length zs1) := ⟨z8⟩
  have kN : Kept (IsNet V A0 n0 c0 ns0 B0 m0 d0 ps0) := ⟨nV⟩
  have kM : Kept (IsNet w8 A5 n0 c5 ns0 B5 m0 d5 ps0) := ⟨m8⟩
  have kW : Kept (Below w.heap.size w V) := ⟨hW⟩
  clear iV z8 i1 hz1 n1 nV m8 xV hW h0
  have kU : Kept (Below w8.heap.size w8 w8.drew) := ⟨(Below.refl _ _).drew⟩
  go_wp2_with fail
  go_region_held3 (fun w' => w.heap.size < w'.heap.size ∧ w5.heap.size < w'.heap.size ∧ w'.cell? ⟨w.heap.size, 0, none⟩ = some (.slice A0 n0 c0) ∧ w'.cell? ⟨w.heap.size, 1, none⟩ = some (.slice B0 m0 d0) ∧ w'.cell? ⟨w5.heap.size, 0, none⟩ = some (.slice A5 n0 c5) ∧ w'.cell? ⟨w5.heap.size, 1, none⟩ = some (.slice B5 m0 d5) ∧ Kept (Below w8.heap.size w8 w'))
    (first | (go_split_ands; refine ⟨by have := hb9.size; omega, by have := hb9.size; omega, ?_, ?_, ?_, ?_, ⟨bthen (Kept.out ‹Kept (Below _ _ _)›) hb9 (Kept.out ‹Kept (Below _ _ _)›).size⟩⟩ <;> (rw [hb9.cell (by simp; omega)]; assumption)) | go_keep)
    (first | (go_at_call 28; go_split_ands; refine (toNetw_any _ _ _ _ _ _ _ _ _ ((kN.out.below hB8).below (Kept.out ‹Kept (Below _ _ _)›)) hn0 hm0).mono ?_; rintro e w9 ⟨A9, c9, B9, d9, rfl, o9, hb9⟩) | (go_at_call 30; go_split_ands; refine (eqNet_any _ _ _ _ _ _ _ _ _ _ _ _ ns0 ns0 ps0 ps0 _ (kM.out.below (Kept.out ‹Kept (Below _ _ _)›)).nodes (kM.out.below (Kept.out ‹Kept (Below _ _ _)›)).pipes o9.reads.nodes o9.reads.pipes hn0 hm0).mono ?_; rintro e w10 ⟨be, hbe, rfl, hb9⟩; obtain rfl : be = true := hbe.2 ⟨rfl, rfl⟩; clear hbe))
  rename_i hh
  obtain ⟨g1, g2, _, _, _, _, ⟨hB10⟩⟩ := hh
  have hB11 := bthen hB8 hB10 hB8.size
  go_wp2_with fail
  refine (toInts_any _ _ _ _ _ (kI.out.below hB11) hl1).mono ?_
  rintro e w11 ⟨Z11, e11, rfl, o11, hb11⟩
  have hB12 := bthen hB11 hb11 hB11.size
  go_wp2_with fail
  refine (eqInts_any _ _ _ _ _ _ _ _ _ ((kZ.out.below hB10).below hb11) o11.ints hl1).mono ?_
  rintro e w12 ⟨rfl, hq12⟩
  go_wp2_with fail
  go_ret
  exact ⟨rfl, bthen kW.out (bthen hB12 (hq12.below _) hB12.size) kW.out.size⟩
end Go.Proofs.Ytoijogaogheciaa
