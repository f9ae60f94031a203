/- What IsConnected of the reference and DrawSolveStep do, by walks over their text. Condition: a source over at most 4096 bytes. -/
import Derived.Test.YtpgegfnhokhlmabGreatNDraw9
import Derived.Deep.DeepCutAuto
set_option linter.unusedVariables false
set_option maxRecDepth 100000
namespace Go.Proofs.YtpgegfnhokhlmabGreat
open Go.ChangeShapes Go.WideShapes Go.ChangeAt Go.RowKit Go.Joins Go.Deep
attribute [local go_sem ↓] Go.wp_at_zero Go.wp_at_succ

theorem ret_no9 {w w' : World} {p : Prop} (h : ¬ p) (hb : Below w.heap.size w w') : RetEq w p (.returned (.bool false)) w' := ⟨false, ⟨(fun h => by cases h), fun k => absurd k h⟩, rfl, hb⟩
set_option maxHeartbeats 4000000 in
theorem sConn_any (A B : Option Addr) (n c m d : Nat) (ns : List Nd) (ps : List Pp) (w : World) (h : IsNet w A n c ns B m d ps) :
    Calls Tryz.prog 69 #[.agg #[.slice A n c, .slice B m d]] w (RetEq w (NetOk ns ps ∧ conB (esOf ps) n = true)) := by
  have hV : Below w.heap.size w (w.alloc (.cells #[.slice A n c, .slice B m d] 33)) := (Below.refl _ _).alloc (Nat.le_refl _) _
  have bx := box_new w #[.slice A n c, .slice B m d] 33
  go_enter Tryz.func69, Tryz.ntmps69
  go_upto_region 1 with fail
  generalize (w.alloc (.cells #[.slice A n c, .slice B m d] 33)) = V at *
  have xl := bx.lt
  have x0 : V.cell? ⟨w.heap.size, 0, none⟩ = some (.slice A n c) := bx.cell 0
  have x1 : V.cell? ⟨w.heap.size, 1, none⟩ = some (.slice B m d) := bx.cell 1
  go_wp2_with fail
  refine (sIsNetw_any _ _ _ _ _ _ ns ps _ (h.below hV)).mono ?_
  rintro e1 w1 ⟨b, hb, rfl, hb1⟩
  have hW1 := bthen hV hb1 hV.size
  have bx1 := bx.belowA hb1
  have HB := Lib.hid hb
  clear x0 x1 xl hb1 hb bx
  have xl := bx1.lt
  have x0 : w1.cell? ⟨w.heap.size, 0, none⟩ = some (.slice A n c) := bx1.cell 0
  have x1 : w1.cell? ⟨w.heap.size, 1, none⟩ = some (.slice B m d) := bx1.cell 1
  cases b
  · go_wp2_with fail
    go_ret
    exact ret_no9 (fun hh => absurd (HB.out.2 hh.1) (by simp)) hW1
  · have hok := HB.out.1 rfl
    have HOK := Lib.hid hok
    have hn1 : 0 < n := by have := hok.1; have := h.nodes.len; omega
    have hg : Good (esOf ps) n := by rw [← h.nodes.len]; exact net_good hok
    have HCB := Lib.hid (cnt_conB hg hn1)
    have hcl := cntTo_le (esOf ps) n n
    have hn24 : n ≤ 24 := by have := hok.2.1; have := h.nodes.len; omega
    obtain ⟨K, hK⟩ : ∃ y, cntTo (esOf ps) n n = y := ⟨_, rfl⟩
    have HK := Lib.hid hK
    rw [hK] at hcl
    clear hok hg hK HB
    go_wp2_with fail
    refine (sCount_any _ _ _ _ _ _ ns ps _ (h.below hW1) HOK.out).mono ?_
    rw [HK.out]
    rintro e2 w2 ⟨rfl, hb2⟩
    go_wp2_with fail
    go_ret
    refine ⟨decide ((K : Int) = 1), ?_, rb (by rw [Bool.eq_iff_iff]; simp), bthen hW1 hb2 hW1.size⟩
    rw [HCB.out, HK.out, decide_eq_true_iff, decide_eq_true_iff]
    exact ⟨fun hh => ⟨HOK.out, by omega⟩, fun hh => by omega⟩
set_option maxHeartbeats 8000000 in
theorem drawSS_any (A : Option Addr) (n c : Nat) (zs : List Int) (w : World) (h : Byts w A n zs) (hn : n ≤ 4096) :
    Calls Tryz.prog 25 #[.slice A n c] w (RetDN3 w) := by
  have bR := box_new w #[.slice none 0 0, .slice none 0 0] 33
  have hw0 : Below w.heap.size w (w.alloc (.cells #[.slice none 0 0, .slice none 0 0] 33)) := (Below.refl _ _).alloc (Nat.le_refl _) _
  have hs0 : w.heap.size + 1 ≤ (w.alloc (.cells #[.slice none 0 0, .slice none 0 0] 33)).heap.size := by simp
  have hy0 := h.below hw0
  go_enter Tryz.func25, Tryz.ntmps25
  go_wp2_with fail
  generalize (w.alloc (.cells #[.slice none 0 0, .slice none 0 0] 33)) = V at *
  refine (from_any _ _ _ _ _ hy0 hn).mono ?_
  rintro e w1 ⟨rfl, hs1, hb1⟩
  have HW1 := Lib.hid (bthen hw0 hb1 hw0.size)
  have bR1 := bR.belowA hb1
  have hv1 := hs1.lt
  generalize V.heap.size = B at *
  clear hy0 hb1 bR hw0
  go_wp2_with fail
  refine (draw6_any _ _ _ _ _ _ hs1 hn).mono ?_
  rintro e w2 ⟨A1, c1, B1, d1, ns, ps, A2, e2, xs, rfl, oN, oY, hSm, hk, hm, hl, hd2⟩
  have bR2 := bR1.grown hd2.2.2 (fun hh => by injection hh with hh; omega)
  have hz2 := hd2.size
  have HSM := Lib.hid hSm
  have hD : D9 w1 (w2.alloc (.cells #[.slice A1 ns.length c1, .slice B1 ps.length d1] 33)) B A n c zs w.heap.size w2.heap.size A1 c1 ns B1 d1 ps A2 e2 xs (w2.heap.size + 1) none 0 0 [] :=
    ⟨hd2.alloc _, bR2.alloc _, box_new _ _ _, oN.below ((Below.refl _ _).alloc (Nat.le_refl _) _), oY.alloc _, fun g hg => by have := (oY.lt g hg).2; omega, own_nil _ _, by omega, by omega, hz2, by omega⟩
  clear hd2 bR1 hs1 bR2 oN oY hSm
  go_upto_region 3 with fail
  generalize (w2.alloc (.cells #[.slice A1 ns.length c1, .slice B1 ps.length d1] 33)) = W2 at *
  generalize w2.heap.size = N at *
  have ⟨hN, hr, n0, n1, r0, r1, q0, q1⟩ := hD.cells
  clear r0 r1 q0 q1 hr
  obtain ⟨K, hK⟩ : ∃ y, fofC ns ps ns.length xs = y := ⟨_, rfl⟩
  have HK := Lib.hid hK
  clear hK
  go_wp2_with fail
  refine (sSolveL_any _ _ _ _ _ _ _ _ _ xs ns ps _ hD.net.reads hD.sup.ints hD.sup.nilc (by omega)).mono ?_
  rw [HK.out]
  rintro e3 w3 ⟨A3, e3, rfl, o3, hb3⟩
  have hD3 := (hD.below hb3).list hD.lowW hN o3
  have HSL := Lib.hid (show (slvL ns ps ns.length xs).length ≤ 11 from by
    by_cases hc : fofC ns ps ns.length xs = 0
    · have := (slv_facts hD.net.reads hc).2.2.2.1; omega
    · rw [(slv_bad hc).1]; simp)
  obtain ⟨fl, hfl⟩ : ∃ y, slvL ns ps ns.length xs = y := ⟨_, rfl⟩
  rw [hfl] at hD3 HSL o3 ⊢
  have hfl11 := HSL.out
  clear hD o3 n0 n1 hb3 hfl HSL
  generalize W2.heap.size = M at *
  by_cases hK0 : K = 0
  case neg =>
    have t1 : (K != 0) = true := by simpa using hK0
    clear hK0
    go_upto_region 5 with fail
    have HD4 := Lib.hid hD3.drew
    have ⟨hN, hr, n0, n1, r0, r1, q0, q1⟩ := hD3.cells
    have v0 := n0
    clear hD3
    go_region_with (go_at_call 68; refine (flowsD_any _ _ _ _ _ _ _ _ _ _ _ w3.drew HD4.out.src.2.1 hn (by omega)).mono ?_; rintro e5 w5 ⟨A5, e5', us, rfl, o5, hl5, hn5⟩; have HD5 := Lib.hid ((HD4.out.then_ hn5).list HD4.out.lowW HD4.out.box.lt o5); have ⟨hN5, hr5, n05, n15, r05, r15, q05, q15⟩ := HD5.out.cells)
    all_goals
      try go_wp2_with fail
      refine bodyPost_ret (v := .tuple #[.agg #[.slice A1 ns.length c1, .slice B1 ps.length d1], .slice A5 us.length e5', .slice A2 xs.length e2]) (by simp [results, Tryz.results25, go_sem, *]) rfl (HD5.out.ret HW1.out hk hm (by omega) (by omega) _ _)
  case pos =>
  subst hK0
  have ⟨hN3, hr3, n03, n13, r03, r13, q03, q13⟩ := hD3.cells
  clear r03 r13 q03 q13
  go_wp2_with fail
  refine (next_any _ _ _ _ _ _ _ hD3.src.2.1 hn (by omega) (by omega)).mono ?_
  rintro e4 w4 ⟨x, hx0, hx1, rfl, hs4, hg4⟩
  have hD4 := hD3.next hs4 hg4
  clear hD3 hs4 hg4 n03 n13 hN3 hr3
  by_cases hx : x = 0
  case pos =>
    subst hx
    go_upto_region 5 with fail
    have HD4 := Lib.hid hD4.drew
    have ⟨hN, hr, n0, n1, r0, r1, q0, q1⟩ := hD4.cells
    have v0 := n0
    clear hD4
    go_region_with (go_at_call 68; refine (flowsD_any _ _ _ _ _ _ _ _ _ _ _ w4.drew HD4.out.src.2.1 hn (by omega)).mono ?_; rintro e5 w5 ⟨A5, e5', us, rfl, o5, hl5, hn5⟩; have HD5 := Lib.hid ((HD4.out.then_ hn5).list HD4.out.lowW HD4.out.box.lt o5); have ⟨hN5, hr5, n05, n15, r05, r15, q05, q15⟩ := HD5.out.cells)
    all_goals
      try go_wp2_with fail
      refine bodyPost_ret (v := .tuple #[.agg #[.slice A1 ns.length c1, .slice B1 ps.length d1], .slice A5 us.length e5', .slice A2 xs.length e2]) (by simp [results, Tryz.results25, go_sem, *]) rfl (HD5.out.ret HW1.out hk hm (by omega) (by omega) _ _)
  case neg =>
  have t2 : (x == 0) = false := by simpa using hx
  clear hx
  obtain ⟨L1, hL1⟩ : ∃ y, xs.length = y := ⟨_, rfl⟩
  obtain ⟨L3, hL3⟩ : ∃ y, fl.length = y := ⟨_, rfl⟩
  have HL1 := Lib.hid hL1
  have HL3 := Lib.hid hL3
  clear hL1 hL3
  by_cases hlen : 1 < xs.length
  case neg =>
    have i1 : ¬ (1 : Int) < (xs.length : Int) := by omega
    have HD9 := Lib.hid hD4
    have ⟨hN, hr, n0, n1, r0, r1, q0, q1⟩ := hD4.cells
    clear hD4
    go_wp2_with fail
    refine bodyPost_ret (v := .tuple #[.agg #[.slice A1 ns.length c1, .slice B1 ps.length d1], .slice A3 fl.length e3, .slice A2 xs.length e2]) (by simp [results, Tryz.results25, go_sem, *]) rfl (HD9.out.ret HW1.out hk hm (by omega) (by omega) _ _)
  case pos =>
  have i1 : (1 : Int) < (xs.length : Int) := by omega
  have ⟨hN4, hr4, n04, n14, r04, r14, q04, q14⟩ := hD4.cells
  clear r04 r14 q04 q14
  go_wp2_with fail
  refine (sConn_any _ _ _ _ _ _ ns ps _ hD4.net.reads).mono ?_
  rintro e5 w5 ⟨b, hb, rfl, hb5⟩
  have hD5 := hD4.below hb5
  clear hb hb5 hD4 n04 n14 hN4 hr4
  cases b
  case false =>
    have HD9 := Lib.hid hD5
    have ⟨hN, hr, n0, n1, r0, r1, q0, q1⟩ := hD5.cells
    clear hD5
    go_wp2_with fail
    refine bodyPost_ret (v := .tuple #[.agg #[.slice A1 ns.length c1, .slice B1 ps.length d1], .slice A3 fl.length e3, .slice A2 xs.length e2]) (by simp [results, Tryz.results25, go_sem, *]) rfl (HD9.out.ret HW1.out hk hm (by omega) (by omega) _ _)
  case true =>
  go_wp2_with fail
  refine (next_any _ _ _ _ _ _ _ hD5.src.2.1 hn (by omega) (by omega)).mono ?_
  rintro e6 w6 ⟨q, hq0, hq1, rfl, hs6, hg6⟩
  have hD6 := hD5.next hs6 hg6
  clear hD5 hs6 hg6
  obtain ⟨g, z0, rfl, hgB, hgl, hz0, hz064, hzc0, hzf0⟩ := hD6.sup.at_ (show 0 < xs.length by omega)
  obtain ⟨g1, z1, hA1, _, _, hz1, hz164, hzc1, hzf1⟩ := hD6.sup.at_ (show 1 < xs.length by omega)
  injection hA1 with hA1
  injection hA1 with hA1 _ _
  subst hA1
  have hb0 := HSM.out z0 (List.mem_of_getElem? hz0)
  have hb1 := HSM.out z1 (List.mem_of_getElem? hz1)
  have hgN : g ≠ N := own_box_ne hD6.sup.1 hD6.box (by decide) g rfl
  have hD7 := hD6.setX (j := 0) (z := z0 + (q - 4)) (WalkArith.wf_i64 (by omega)) hgN
  have hD8 := hD7.setX (j := 1) (z := z1 - (q - 4)) (WalkArith.wf_i64 (by omega)) hgN
  have HLS := Lib.hid (show ((xs.set 0 (z0 + (q - 4))).set 1 (z1 - (q - 4))).length = xs.length by simp)
  clear hD6 hD7 hz0 hz1
  go_upto_region 10 with fail
  have ⟨hN8, hr8, n08, n18, r08, r18, q08, q18⟩ := hD8.cells
  have HD9 := Lib.hid hD8
  clear hD8 hzc0 hzf0 hzc1 hzf1
  go_wp2_with fail
  refine bodyPost_ret (v := .tuple #[.agg #[.slice A1 ns.length c1, .slice B1 ps.length d1], .slice A3 fl.length e3, .slice (some ⟨g, 0, none⟩) xs.length e2]) (by simp [results, Tryz.results25, go_sem, *]) rfl ?_
  have hret := HD9.out.ret HW1.out hk hm (by rw [HLS.out]; omega) (by omega) (.slice A1 ns.length c1) (.slice B1 ps.length d1)
  rw [HLS.out] at hret
  exact hret
end Go.Proofs.YtpgegfnhokhlmabGreat
