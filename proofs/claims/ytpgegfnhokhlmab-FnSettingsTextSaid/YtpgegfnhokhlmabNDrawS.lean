/- What DrawIsSettings, DrawSettingsText, DrawSpreadFlows do, by walks over their text. Condition: a source over at most 4096 bytes. -/
import Derived.Test.YtpgegfnhokhlmabNDrawC
import Derived.Test.YtpgegfnhokhlmabNDrawD
import Derived.Test.YtpgegfnhokhlmabOpenN
import Derived.Test.YtpgegfnhokhlmabKS
set_option linter.unusedVariables false
set_option maxRecDepth 100000
namespace Go.Proofs.Ytpgegfnhokhlmab
open Go.ChangeShapes Go.WideShapes Go.ChangeAt Go.RowKit Go.Joins Go.Deep
attribute [local go_sem ↓] Go.wp_at_zero Go.wp_at_succ

set_option maxHeartbeats 4000000 in
theorem drawIS_any (A : Option Addr) (n c : Nat) (zs : List Int) (w : World) (h : Byts w A n zs) (hn : n ≤ 4096) :
    Calls Try.prog 17 #[.slice A n c] w (RetDN2s w) := by
  have bR := box_new w #[.slice none 0 0, .slice none 0 0] 27
  have hw0 : Below w.heap.size w (w.alloc (.cells #[.slice none 0 0, .slice none 0 0] 27)) := (Below.refl _ _).alloc (Nat.le_refl _) _
  have hs0 : w.heap.size + 1 ≤ (w.alloc (.cells #[.slice none 0 0, .slice none 0 0] 27)).heap.size := by simp
  have hy0 := h.below hw0
  go_enter Try.func17, Try.ntmps17
  go_wp2_with fail
  generalize (w.alloc (.cells #[.slice none 0 0, .slice none 0 0] 27)) = V at *
  refine (from_any _ _ _ _ _ hy0 hn).mono ?_
  rintro e w1 ⟨rfl, hs1, hb1⟩
  have HW1 := Lib.hid (bthen hw0 hb1 hw0.size)
  have bR1 := bR.belowA hb1
  have hv1 := hs1.lt
  generalize V.heap.size = B at *
  clear hy0 hb1 bR hw0
  go_wp2_with fail
  refine (chordD_any _ _ _ _ _ _ hs1 hn).mono ?_
  rintro e w2 ⟨A1, c1, B1, d1, ns, ps, x, rfl, oN, hk, hm, hd2⟩
  have bR2 := bR1.grown hd2.2.2 (fun hh => by injection hh with hh; omega)
  have hz2 := hd2.size
  have hD : D9 w1 (w2.alloc (.cells #[.slice A1 ns.length c1, .slice B1 ps.length d1] 27)) B A n c zs w.heap.size w2.heap.size A1 c1 ns B1 d1 ps none 0 [] (w2.heap.size + 1) none 0 0 [] :=
    ⟨hd2.alloc _, bR2.alloc _, box_new _ _ _, oN.below ((Below.refl _ _).alloc (Nat.le_refl _) _), own_nil _ _, (fun g hg => by cases hg), own_nil _ _, by omega, by omega, hz2, by omega⟩
  clear hd2 bR1 hs1 bR2 oN
  go_upto_region 3 with fail
  generalize (w2.alloc (.cells #[.slice A1 ns.length c1, .slice B1 ps.length d1] 27)) = W2 at *
  generalize w2.heap.size = N at *
  have HD4 := Lib.hid hD.drew
  have ⟨hN, hr, n0, n1, r0, r1, q0, q1⟩ := hD.cells
  clear hD
  go_region_with (go_at_call 32; refine (settD_any _ _ _ _ _ _ _ _ _ _ _ W2.drew HD4.out.src.2.1 hn (by omega)).mono ?_; rintro e5 w5 ⟨A5, e5', us, rfl, o5, hl5, hn5⟩; have HD5 := Lib.hid ((HD4.out.then_ hn5).list HD4.out.lowW HD4.out.box.lt o5); have ⟨hN5, hr5, n05, n15, r05, r15, q05, q15⟩ := HD5.out.cells)
  all_goals
    try go_wp2_with fail
    refine bodyPost_ret (v := .tuple #[.agg #[.slice A1 ns.length c1, .slice B1 ps.length d1], .slice A5 us.length e5']) (by simp [results, Try.results17, go_sem, *]) rfl (HD5.out.ret2 HW1.out hk hm (by omega) _ _)
set_option maxHeartbeats 4000000 in
theorem drawST_any (A : Option Addr) (n c : Nat) (zs : List Int) (w : World) (h : Byts w A n zs) (hn : n ≤ 4096) :
    Calls Try.prog 5 #[.slice A n c] w (RetDN2s w) := by
  have bR := box_new w #[.slice none 0 0, .slice none 0 0] 27
  have hw0 : Below w.heap.size w (w.alloc (.cells #[.slice none 0 0, .slice none 0 0] 27)) := (Below.refl _ _).alloc (Nat.le_refl _) _
  have hs0 : w.heap.size + 1 ≤ (w.alloc (.cells #[.slice none 0 0, .slice none 0 0] 27)).heap.size := by simp
  have hy0 := h.below hw0
  go_enter Try.func5, Try.ntmps5
  go_wp2_with fail
  generalize (w.alloc (.cells #[.slice none 0 0, .slice none 0 0] 27)) = V at *
  refine (drawIS_any _ _ _ _ _ hy0 hn).mono ?_
  rintro e w1 ⟨A1, c1, B1, d1, ns, ps, A2, c2, ys, rfl, oN, oY, hk, hm, hl, hb1⟩
  have hw1 := bthen hw0 hb1 hw0.size
  have bR1 := bR.belowA hb1
  have xl := bR1.lt
  have x0 : w1.cell? ⟨w.heap.size, 0, none⟩ = some (.slice none 0 0) := bR1.cell 0
  have x1 : w1.cell? ⟨w.heap.size, 1, none⟩ = some (.slice none 0 0) := bR1.cell 1
  have f0 := bR1.free 0
  have f1 := bR1.free 1
  have HN := Lib.hid oN
  have HY := Lib.hid oY
  have HW := Lib.hid hw1
  clear hw1 bR1 oN oY hw0 hb1 hy0 bR
  go_wp2_with fail
  refine bodyPost_ret (v := .tuple #[.agg #[.slice A1 ns.length c1, .slice B1 ps.length d1], .slice A2 ys.length c2]) (by simp [results, Try.results5, go_sem, x0, x1]) rfl ?_
  exact ⟨A1, c1, B1, d1, ns, ps, A2, c2, ys, rfl, ((HN.out.low (by simp; omega) _).low (by simp; omega) _).mono (by omega), ((HY.out.low (by simp; omega) _).low (by simp; omega) _).mono (by omega), hk, hm, hl, (HW.out.setCell (p := ⟨w.heap.size, 0, none⟩) (Nat.le_refl _) _).setCell (p := ⟨w.heap.size, 1, none⟩) (Nat.le_refl _) _⟩
end Go.Proofs.Ytpgegfnhokhlmab
