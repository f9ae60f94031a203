/- What DrawSettledFlows, DrawSolveStep do, by walks over their text. Condition: a source over at most 4096 bytes. -/
import Derived.Test.YtpgegfnhokhlmabGreatNDraw8
import Derived.Test.YtpgegfnhokhlmabGreatNDrawD
import Derived.Test.YtpgegfnhokhlmabGreatCon
import Derived.Test.YtpgegfnhokhlmabGreatKV
set_option linter.unusedVariables false
set_option maxRecDepth 100000
namespace Go.Proofs.YtpgegfnhokhlmabGreat
open Go.ChangeShapes Go.WideShapes Go.ChangeAt Go.RowKit Go.Joins Go.Deep
attribute [local go_sem ↓] Go.wp_at_zero Go.wp_at_succ

set_option maxHeartbeats 4000000 in
theorem drawSF_any (A : Option Addr) (n c : Nat) (zs : List Int) (w : World) (h : Byts w A n zs) (hn : n ≤ 4096) :
    Calls Tryz.prog 28 #[.slice A n c] w (RetDN3 w) := by
  have bR := box_new w #[.slice none 0 0, .slice none 0 0] 33
  have hw0 : Below w.heap.size w (w.alloc (.cells #[.slice none 0 0, .slice none 0 0] 33)) := (Below.refl _ _).alloc (Nat.le_refl _) _
  have hs0 : w.heap.size + 1 ≤ (w.alloc (.cells #[.slice none 0 0, .slice none 0 0] 33)).heap.size := by simp
  have hy0 := h.below hw0
  go_enter Tryz.func28, Tryz.ntmps28
  go_wp2_with fail
  generalize (w.alloc (.cells #[.slice none 0 0, .slice none 0 0] 33)) = V at *
  refine (from_any _ _ _ _ _ hy0 hn).mono ?_
  rintro e w1 ⟨rfl, hs1, hb1⟩
  have HW1 := Lib.hid (bthen hw0 hb1 hw0.size)
  have bR1 := bR.belowA hb1
  have hv1 := hs1.lt
  generalize V.heap.size = B at *
  clear hy0 hb1 bR hw0
  go_wp2_with fail
  refine (draw6_any _ _ _ _ _ _ hs1 hn).mono ?_
  rintro e w2 ⟨A1, c1, B1, d1, ns, ps, A2, e2, xs, rfl, oN, oY, hSm, hk, hm, hl, hd2⟩
  have bR2 := bR1.grown hd2.2.2 (fun hh => by injection hh with hh; omega)
  have hz2 := hd2.size
  have HSM := Lib.hid hSm
  have hD : D9 w1 (w2.alloc (.cells #[.slice A1 ns.length c1, .slice B1 ps.length d1] 33)) B A n c zs w.heap.size w2.heap.size A1 c1 ns B1 d1 ps A2 e2 xs (w2.heap.size + 1) none 0 0 [] :=
    ⟨hd2.alloc _, bR2.alloc _, box_new _ _ _, oN.below ((Below.refl _ _).alloc (Nat.le_refl _) _), oY.alloc _, fun g hg => by have := (oY.lt g hg).2; omega, own_nil _ _, by omega, by omega, hz2, by omega⟩
  clear hd2 bR1 hs1 bR2 oN oY hSm
  go_upto_region 3 with fail
  generalize (w2.alloc (.cells #[.slice A1 ns.length c1, .slice B1 ps.length d1] 33)) = W2 at *
  generalize w2.heap.size = N at *
  have ⟨hN, hr, n0, n1, r0, r1, q0, q1⟩ := hD.cells
  clear r0 r1 q0 q1 hr
  go_wp2_with fail
  refine (settD_any _ _ _ _ _ _ _ _ _ _ _ _ hD.src.2.1 hn (by omega)).mono ?_
  rintro e w3 ⟨A3, e3, ys, rfl, o3, hl3, hn3⟩
  have hD3 := (hD.then_ hn3).list hD.lowW hN o3
  obtain ⟨L, hL⟩ : ∃ y, ys.length = y := ⟨_, rfl⟩
  rw [hL] at hD3 ⊢ hl3
  clear hD o3 hn3 n0 n1 hL
  generalize W2.heap.size = M at *
  go_wp2_with fail
  go_loopw [9] (fun ii wr => ∃ (j : Nat) (ys : List Int), j ≤ L ∧ ii = .int .i64 (j : Int) ∧ D9 w1 wr B A n c zs w.heap.size N A1 c1 ns B1 d1 ps A2 e2 xs M A3 L e3 ys) (fun ii _ => L - (intOf ii).toNat)
  case atStart => exact ⟨0, _, Nat.zero_le _, rfl, hD3⟩
  case round =>
    obtain ⟨j, ys, hj, rfl, hD⟩ := hrel
    clear hD3
    by_cases hlt : j < L
    · have i1 : (j : Int) < (L : Int) := by omega
      obtain ⟨g, z, rfl, hgM, hgl, hz, hz64, hzc, hzf⟩ := hD.set.at_ hlt
      by_cases hz0 : z = 0
      · subst hz0
        go_wp2_with fail
        refine (next_any _ _ _ _ _ _ _ hD.src.2.1 hn (by omega) (by omega)).mono ?_
        rintro e5 w5 ⟨x, hx0, hx1, rfl, hs5, hg5⟩
        have hD5 := hD.next hs5 hg5
        obtain ⟨g', z', hA', hgM', hgl', hz', hz64', hzc', hzf'⟩ := hD5.set.at_ hlt
        injection hA' with hA'
        injection hA' with hA' _ _
        subst hA'
        have hD6 := hD5.setY (j := j) (z := 1) (WalkArith.wf_i64 (by omega))
        clear hs5 hg5 hD hzc hzf hz hz'
        by_cases hxp : 0 < x
        · clear hD5
          go_wp2_with fail
          go_roundw
          case rel => exact ⟨j + 1, _, by omega, by go_num, hD6⟩
          case measure => simp [intOf]; omega
        · clear hD6
          go_wp2_with fail
          go_roundw
          case rel => exact ⟨j + 1, _, by omega, by go_num, hD5⟩
          case measure => simp [intOf]; omega
      · have e0 : (z == 0) = false := by simpa using hz0
        clear hz
        go_wp2_with fail
        go_roundw
        case rel => exact ⟨j + 1, _, by omega, by go_num, hD⟩
        case measure => simp [intOf]; omega
    · have i1 : ¬ (j : Int) < (L : Int) := by omega
      have ⟨hN, hr, n0, n1, r0, r1, q0, q1⟩ := hD.cells
      have HD := Lib.hid hD
      clear hD
      go_wp2_with fail
      refine bodyPost_ret (v := .tuple #[.agg #[.slice A1 ns.length c1, .slice B1 ps.length d1], .slice A3 L e3, .slice A2 xs.length e2]) (by simp [results, Tryz.results28, go_sem, *]) rfl (HD.out.ret HW1.out hk hm (by omega) (by omega) _ _)
end Go.Proofs.YtpgegfnhokhlmabGreat
