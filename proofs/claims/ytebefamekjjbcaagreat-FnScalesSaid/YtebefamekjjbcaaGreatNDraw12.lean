/- What DrawGreatestScale, DrawScaleSupplies do, by walks over their text. Condition: a source over at most 4096 bytes. -/
import Derived.Test.YtebefamekjjbcaaGreatNDraw11
set_option linter.unusedVariables false
set_option maxRecDepth 100000
namespace Go.Proofs.YtebefamekjjbcaaGreat
open Go.ChangeShapes Go.WideShapes Go.ChangeAt Go.RowKit Go.Joins Go.Deep
attribute [local go_sem ↓] Go.wp_at_zero Go.wp_at_succ

theorem D9.ret1 {w v W : World} {B : Nat} {A : Option Addr} {n c : Nat} {zs : List Int} {N : Nat} {A1 : Option Addr} {c1 : Nat} {ns : List Nd} {B1 : Option Addr} {d1 : Nat} {ps : List Pp} {A2 : Option Addr} {e2 : Nat} {xs : List Int} {M : Nat} {A3 : Option Addr} {l3 e3 : Nat} {ys : List Int} (h : D9 v W B A n c zs w.heap.size N A1 c1 ns B1 d1 ps A2 e2 xs M A3 l3 e3 ys) (hw : Below w.heap.size w v) (hk : ns.length ≤ 7) (hm : ps.length ≤ 11) {l : Nat} (hL : xs.length = l) (hl : l ≤ 1000) (u0 u1 : Value) :
    RetDN2s w (.returned (.tuple #[.agg #[.slice A1 ns.length c1, .slice B1 ps.length d1], .slice A2 l e2])) ((W.setCell ⟨w.heap.size, 0, none⟩ u0).setCell ⟨w.heap.size, 1, none⟩ u1) := by
  subst hL
  have h1 := h.hR
  have h2 := h.hB
  have h3 := h.hN
  have h4 := h.hM
  have hW := hw.grown h.src.2.2 (by omega) (fun k hk => by injection hk with hk; omega)
  exact ⟨A1, c1, B1, d1, ns, ps, A2, e2, xs, rfl, ((h.net.low (by simp; omega) u0).low (by simp; omega) u1).mono (by omega), ((h.sup.low (a := ⟨w.heap.size, 0, none⟩) (by simp; omega) u0).low (a := ⟨w.heap.size, 1, none⟩) (by simp; omega) u1).mono (by omega), hk, hm, hl, (hW.setCell (p := ⟨w.heap.size, 0, none⟩) (Nat.le_refl _) _).setCell (p := ⟨w.heap.size, 1, none⟩) (Nat.le_refl _) _⟩
set_option maxHeartbeats 8000000 in
theorem drawGS_any (A : Option Addr) (n c : Nat) (zs : List Int) (w : World) (h : Byts w A n zs) (hn : n ≤ 4096) :
    Calls Tryz.prog 6 #[.slice A n c] w (RetDN2s w) := by
  have bR := box_new w #[.slice none 0 0, .slice none 0 0] 27
  have hw0 : Below w.heap.size w (w.alloc (.cells #[.slice none 0 0, .slice none 0 0] 27)) := (Below.refl _ _).alloc (Nat.le_refl _) _
  have hs0 : w.heap.size + 1 ≤ (w.alloc (.cells #[.slice none 0 0, .slice none 0 0] 27)).heap.size := by simp
  have hy0 := h.below hw0
  go_enter Tryz.func6, Tryz.ntmps6
  go_wp2_with fail
  generalize (w.alloc (.cells #[.slice none 0 0, .slice none 0 0] 27)) = V at *
  refine (from_any _ _ _ _ _ hy0 hn).mono ?_
  rintro e w1 ⟨rfl, hs1, hb1⟩
  have HW1 := Lib.hid (bthen hw0 hb1 hw0.size)
  have bR1 := bR.belowA hb1
  have hv1 := hs1.lt
  generalize V.heap.size = B at *
  clear hy0 hb1 bR hw0
  go_wp2_with fail
  refine (draw13_any _ _ _ _ _ _ hs1 hn).mono ?_
  rintro e w2 ⟨A1, c1, B1, d1, ns, ps, A2, e2, xs, rfl, oN, oY, hSm, hk, hm, hl, hd2⟩
  have bR2 := bR1.grown hd2.2.2 (fun hh => by injection hh with hh; omega)
  have hz2 := hd2.size
  have HSM := Lib.hid hSm
  have hD : D9 w1 (w2.alloc (.cells #[.slice A1 ns.length c1, .slice B1 ps.length d1] 27)) B A n c zs w.heap.size w2.heap.size A1 c1 ns B1 d1 ps A2 e2 xs (w2.heap.size + 1) none 0 0 [] :=
    ⟨hd2.alloc _, bR2.alloc _, box_new _ _ _, oN.below ((Below.refl _ _).alloc (Nat.le_refl _) _), oY.alloc _, fun g hg => by have := (oY.lt g hg).2; omega, own_nil _ _, by omega, by omega, hz2, by omega⟩
  clear hd2 bR1 hs1 bR2 oN oY hSm
  obtain ⟨l, hL⟩ : ∃ y, xs.length = y := ⟨_, rfl⟩
  rw [hL] at hl ⊢
  have HL := Lib.hid hL
  clear hL
  go_upto_region 3 with fail
  generalize (w2.alloc (.cells #[.slice A1 ns.length c1, .slice B1 ps.length d1] 27)) = W2 at *
  generalize w2.heap.size = N at *
  generalize N + 1 = M at *
  go_wp2_with fail
  go_loopw [7] (fun ii wr => ∃ (j : Nat) (xs : List Int), j ≤ l ∧ ii = .int .i64 (j : Int) ∧ Hid (xs.length = l) ∧ Hid (Sml xs) ∧ D9 w1 wr B A n c zs w.heap.size N A1 c1 ns B1 d1 ps A2 e2 xs M none 0 0 []) (fun ii _ => l - (intOf ii).toNat)
  case atStart => exact ⟨0, _, Nat.zero_le _, rfl, HL, HSM, hD⟩
  case round =>
    clear hD HL HSM
    obtain ⟨j, xs, hj, rfl, HL, HSM, hD⟩ := hrel
    by_cases hlt : j < l
    case pos =>
      have i0 : (0 : Int) ≤ (j : Int) := by omega
      have i1 : (j : Int) < (l : Int) := by omega
      obtain ⟨g, z, rfl, hgB, hgl, hz, hz64, hzc, hzf⟩ := hD.sup.at_ (show j < xs.length by rw [HL.out]; exact hlt)
      have hzb := HSM.out z (List.mem_of_getElem? hz)
      have hq := ediv_bd (a := z) (b := 4) (X := 2000000) (by omega) hzb.1 hzb.2 (by omega)
      have hgN : g ≠ N := own_box_ne hD.sup.1 hD.box (by decide) g rfl
      have hD2 := hD.setX (j := j) (z := z / 4) (WalkArith.wf_i64 (by omega)) hgN
      have HL2 := Lib.hid (show (xs.set j (z / 4)).length = l by rw [List.length_set]; exact HL.out)
      have HS2 := Lib.hid (HSM.out.set (z := z / 4) (j := j) hq)
      clear hD hz
      go_wp2_with fail
      refine (sFloor_any _ _ _ (by omega) (by omega) (by omega) (by omega)).mono ?_
      rintro e5 w5 ⟨rfl, rfl⟩
      go_wp2_with fail
      go_roundw
      case rel => exact ⟨j + 1, _, by omega, by go_num, HL2, HS2, hD2⟩
      case measure => simp [intOf]; omega
    case neg =>
    have i1 : ¬ (j : Int) < (l : Int) := by omega
    have ⟨hN, hr, n0, n1, r0, r1, q0, q1⟩ := hD.cells
    clear r0 r1 q0 q1 hr
    go_wp2_with fail
    refine (sConn_any _ _ _ _ _ _ ns ps _ hD.net.reads).mono ?_
    rintro e5 w5 ⟨b, hb, rfl, hb5⟩
    have hD5 := hD.below hb5
    have HB := Lib.hid hb
    clear hb hb5 hD n0 n1 hN
    cases b
    case false =>
      have HD9 := Lib.hid hD5
      have ⟨hN, hr, n0, n1, r0, r1, q0, q1⟩ := hD5.cells
      clear hD5
      go_wp2_with fail
      refine bodyPost_ret (v := .tuple #[.agg #[.slice A1 ns.length c1, .slice B1 ps.length d1], .slice A2 l e2]) (by simp [results, Tryz.results6, go_sem, *]) rfl (HD9.out.ret1 HW1.out hk hm HL.out (by omega) _ _)
    case true =>
    by_cases hln : l = ns.length
    case neg =>
      have e1 : ((l : Int) == (ns.length : Int)) = false := by simp; omega
      have HD9 := Lib.hid hD5
      have ⟨hN, hr, n0, n1, r0, r1, q0, q1⟩ := hD5.cells
      clear hD5 hln
      go_wp2_with fail
      refine bodyPost_ret (v := .tuple #[.agg #[.slice A1 ns.length c1, .slice B1 ps.length d1], .slice A2 l e2]) (by simp [results, Tryz.results6, go_sem, *]) rfl (HD9.out.ret1 HW1.out hk hm HL.out (by omega) _ _)
    case pos =>
    have hl1 : 0 < l := by have := (HB.out.1 rfl).1.1; omega
    have e1 : ((l : Int) == (ns.length : Int)) = true := by simp; omega
    have i2 : (0 : Int) < (l : Int) := by omega
    obtain ⟨g, z, rfl, hgB, hgl, hz, hz64, hzc, hzf⟩ := hD5.sup.at_ (show 0 < xs.length by rw [HL.out]; exact hl1)
    have hzb := HSM.out z (List.mem_of_getElem? hz)
    have hsb := take_sum_bdD HSM.out l
    rw [List.take_of_length_le (by rw [HL.out]; exact Nat.le_refl _)] at hsb
    have hgN : g ≠ N := own_box_ne hD5.sup.1 hD5.box (by decide) g rfl
    have HSI := Lib.hid (show Ints w5 (some ⟨g, 0, none⟩) l xs by rw [← HL.out]; exact hD5.sup.ints)
    obtain ⟨S, hS⟩ : ∃ y, xs.sum = y := ⟨_, rfl⟩
    have HS := Lib.hid hS
    rw [hS] at hsb
    have hD6 := (hD5.drew).setX (j := 0) (z := z - S) (WalkArith.wf_i64 (by omega)) hgN
    have HD6 := Lib.hid hD6
    have HL6 := Lib.hid (show (xs.set 0 (z - S)).length = l by rw [List.length_set]; exact HL.out)
    have ⟨hN, hr, n0, n1, r0, r1, q0, q1⟩ := hD5.cells
    have f5 := HSM.out
    have HSM2 := Lib.hid f5
    clear hD5 hz hS hD6 f5 r0 r1 q0 q1 hr hln
    go_upto_region 8 with fail
    go_cut [] (fun wx => wx = w5.drew.setCell ⟨g, 0, none⟩ (.int .i64 (z - S)))
    case first =>
      have HSI2 := Lib.hid (HSI.out.below ((Below.refl _ _).drew))
      have hwr : IntKind.i64.wrap (z - S) = z - S := IntWalk.i64_in _ ⟨by omega, by omega⟩
      go_region_with (go_at_call 24; refine (sSum_any (some ⟨g, 0, none⟩) l e2 xs w5.drew HSI2.out (by omega) HSM2.out).mono ?_; rw [HS.out]; rintro e6 w6 ⟨rfl, rfl⟩)
      all_goals
        try go_wp2_with fail
        go_meet
        rfl
    case rest =>
    subst hcut
    clear n0 n1 hN hzc hzf
    have ⟨hN, hr, n0, n1, r0, r1, q0, q1⟩ := HD6.out.cells
    generalize w5.drew.setCell ⟨g, 0, none⟩ (.int .i64 (z - S)) = W6 at *
    go_wp2_with fail
    refine bodyPost_ret (v := .tuple #[.agg #[.slice A1 ns.length c1, .slice B1 ps.length d1], .slice (some ⟨g, 0, none⟩) l e2]) (by simp [results, Tryz.results6, go_sem, *]) rfl (HD6.out.ret1 HW1.out hk hm HL6.out (by omega) _ _)
/-- A call returns a drawn list and a number. -/
def RetScS (w : World) (e : Ending) (w' : World) : Prop := ∃ A2 c2 ys x, e = .returned (.tuple #[.slice A2 ys.length c2, .int .i64 x]) ∧ Own w' w.heap.size A2 ys.length c2 ys ∧ I64 x ∧ ys.length ≤ 1000 ∧ Below w.heap.size w w'
theorem retScS {w w1 W : World} {A A2 : Option Addr} {n c l e : Nat} {zs ys : List Int} {x : Int} (hb : Below w.heap.size w w1) (hd : NS w1 W w.heap.size A n c zs) (ho : Own W w.heap.size A2 l e ys) (hx : I64 x) (hl : l ≤ 1000) :
    RetScS w (.returned (.tuple #[.slice A2 l e, .int .i64 x])) W := by
  obtain rfl : ys.length = l := ho.len
  exact ⟨A2, e, ys, x, rfl, ho, hx, hl, hb.grown hd.2.2 hb.size (fun k hk => by injection hk with hk; omega)⟩
set_option maxHeartbeats 4000000 in
theorem drawScS_any (A : Option Addr) (n c : Nat) (zs : List Int) (w : World) (h : Byts w A n zs) (hn : n ≤ 4096) :
    Calls Tryz.prog 9 #[.slice A n c] w (RetScS w) := by
  go_enter Tryz.func9, Tryz.ntmps9
  go_wp2_with fail
  refine (from_any _ _ _ _ _ h hn).mono ?_
  rintro e w1 ⟨rfl, hs1, hb1⟩
  have hv1 := hs1.lt
  have HB1 := Lib.hid hb1
  clear hb1 h
  go_wp2_with fail
  refine (draw6_any _ _ _ _ _ _ hs1 hn).mono ?_
  rintro e w2 ⟨A1, c1, B1, d1, ns, ps, A2, e2, xs, rfl, oN, oY, hSm, hk, hm, hl, hd2⟩
  obtain ⟨l, hL⟩ : ∃ y, xs.length = y := ⟨_, rfl⟩
  rw [hL] at hl oY
  rw [hL]
  have hd3 := hd2.alloc (.cells #[.slice A1 ns.length c1, .slice B1 ps.length d1] 27)
  have oY3 := oY.alloc (.cells #[.slice A1 ns.length c1, .slice B1 ps.length d1] 27)
  have hz3 := hd3.size
  clear oN hSm hk hm hs1 hL hd2 oY
  go_upto_region 3 with fail
  generalize (w2.alloc (.cells #[.slice A1 ns.length c1, .slice B1 ps.length d1] 27)) = W2 at *
  go_wp2_with fail
  refine (next_any _ _ _ _ _ _ _ hd3.2.1 hn (by omega) (by omega)).mono ?_
  rintro e w4 ⟨t, ht0, ht1, rfl, hs4, hg4⟩
  have hd4 := hd3.next hs4 hg4
  have hz4 := hd4.size
  have oY4 := oY3.src hv1 hg4
  have hb4 : w.heap.size < w4.heap.size := by omega
  clear hd3 oY3 hs4 hg4 hz3 ht0 ht1
  rcases (orT (orT (orT trivial)) : (t == 0) = true ∨ (t == 0) = false ∧ ((t == 1) = true ∨ (t == 1) = false ∧ ((t == 2) = true ∨ (t == 2) = false ∧ True))) with t0 | ⟨t0, t1 | ⟨t1, t2 | ⟨t2, _⟩⟩⟩
  · have HD := Lib.hid (hd4.belowN ((Below.refl w1.heap.size w4).drew))
    have HO := Lib.hid (oY4.drew)
    have hz : w4.drew.heap.size = w4.heap.size := rfl
    clear hd4 oY4
    go_wp2_with fail
    go_region_with (first | (go_at_call 31; refine (next_any w.heap.size A n c zs 3 w4.drew HD.out.2.1 hn (by omega) (by omega)).mono ?_; rintro e w5 ⟨y, hy0, hy1, rfl, hs5, hg5⟩; obtain ⟨v, hv64, hv⟩ := pick_int (-1) 64 65 hy0 hy1 (WalkArith.wf_i64 (by omega)) (WalkArith.wf_i64 (by omega)) (WalkArith.wf_i64 (by omega)); have hy2 : y < 3 := (by omega); have HD5 := Lib.hid (HD.out.next hs5 hg5); have HO5 := Lib.hid (HO.out.src hv1 hg5); have hpk := pick_new w5 _ 2 y hv; clear hs5 hg5) | (go_at_call 31; refine (next_any w.heap.size A n c zs 3 (w4.drew.alloc (.cells #[.int .i64 (-1), .int .i64 64, .int .i64 65] 2)) (HD.out.alloc (.cells #[.int .i64 (-1), .int .i64 64, .int .i64 65] 2)).2.1 hn (by omega) (by omega)).mono ?_; rintro e w5 ⟨y, hy0, hy1, rfl, hs5, hg5⟩; obtain ⟨v, hv64, hv⟩ := pick_int (-1) 64 65 hy0 hy1 (WalkArith.wf_i64 (by omega)) (WalkArith.wf_i64 (by omega)) (WalkArith.wf_i64 (by omega)); have hy2 : y < 3 := (by omega); have HD5 := Lib.hid ((HD.out.alloc (.cells #[.int .i64 (-1), .int .i64 64, .int .i64 65] 2)).next hs5 hg5); have HO5 := Lib.hid ((HO.out.alloc (.cells #[.int .i64 (-1), .int .i64 64, .int .i64 65] 2)).src hv1 hg5); have hq := (gcell hg5 w4.heap.size y.toNat (by simp) (by omega)).trans (pick_new w4.drew _ 2 y hv); have hql : w4.heap.size < w5.heap.size := (by have := hg5.size; simp at this; omega); clear hs5 hg5))
    all_goals
      try go_wp2_with fail
      first | refine bodyPost_ret (v := .tuple #[.slice A2 l e2, .int .i64 v]) (by simp [results, Tryz.results9, go_sem, *]) rfl (retScS HB1.out HD5.out (HO5.out.mono (Nat.le_of_lt hv1)) hv64 (by omega)) | refine bodyPost_ret (v := .tuple #[.slice A2 l e2, .int .i64 v]) (by simp [results, Tryz.results9, go_sem, *]) rfl (retScS HB1.out (HD5.out.alloc _) ((HO5.out.alloc _).mono (Nat.le_of_lt hv1)) hv64 (by omega))
  · go_wp2_with fail
    refine (next_any _ _ _ _ _ _ _ hd4.2.1 hn (by omega) (by omega)).mono ?_
    rintro e w5 ⟨y, hy0, hy1, rfl, hs5, hg5⟩
    have hd5 := hd4.next hs5 hg5
    have hz5 := hd5.size
    clear hd4 oY4 hs5 hg5
    rcases (show y = 0 ∨ y = 1 by omega) with rfl | rfl
    · have hmk : ∀ W : World, (Instr.makeSlice 28 (.int .i64 24) (.int .i64 24)).run Tryz.prog W = .ok (.slice (some ⟨W.heap.size, 0, none⟩) 24 24) (W.alloc (.cells (madeCells #[.int .i64 0] 24) 2)) := fun W => run_make_row' (P := Tryz.prog) 28 2 (.int .i64 0) 8 Tryz.underlying28 info_i64 rfl .i64 .i64 24 (by omega) (by omega) W
      have o5 := own_zeros w5 24 (by omega)
      have HD := Lib.hid (hd5.alloc (.cells (madeCells #[.int .i64 0] 24) 2))
      have HO := Lib.hid (o5.mono (show w.heap.size ≤ w5.heap.size by omega))
      clear hd5 o5
      go_wp2_with fail
      refine bodyPost_ret (v := .tuple #[.slice (some ⟨w5.heap.size, 0, none⟩) 24 24, .int .i64 2]) (by simp [results, Tryz.results9, go_sem, *]) rfl (retScS HB1.out HD.out HO.out (WalkArith.wf_i64 (by omega)) (by omega))
    · have hmk : ∀ W : World, (Instr.makeSlice 28 (.int .i64 25) (.int .i64 25)).run Tryz.prog W = .ok (.slice (some ⟨W.heap.size, 0, none⟩) 25 25) (W.alloc (.cells (madeCells #[.int .i64 0] 25) 2)) := fun W => run_make_row' (P := Tryz.prog) 28 2 (.int .i64 0) 8 Tryz.underlying28 info_i64 rfl .i64 .i64 25 (by omega) (by omega) W
      have o5 := own_zeros w5 25 (by omega)
      have HD := Lib.hid (hd5.alloc (.cells (madeCells #[.int .i64 0] 25) 2))
      have HO := Lib.hid (o5.mono (show w.heap.size ≤ w5.heap.size by omega))
      clear hd5 o5
      go_wp2_with fail
      refine bodyPost_ret (v := .tuple #[.slice (some ⟨w5.heap.size, 0, none⟩) 25 25, .int .i64 2]) (by simp [results, Tryz.results9, go_sem, *]) rfl (retScS HB1.out HD.out HO.out (WalkArith.wf_i64 (by omega)) (by omega))
  · have o5 := own_two w4 w.heap.size 30000 4 (by omega) (WalkArith.wf_i64 (by omega)) (WalkArith.wf_i64 (by omega))
    have hd5 := hd4.alloc (.cells #[.int .i64 30000, .int .i64 4] 2)
    have hz5 := hd5.size
    clear hd4 oY4
    go_wp2_with fail
    refine (next_any _ _ _ _ _ _ _ hd5.2.1 hn (by omega) (by omega)).mono ?_
    rintro e w6 ⟨y, hy0, hy1, rfl, hs6, hg6⟩
    have HD := Lib.hid (hd5.next hs6 hg6)
    have HO := Lib.hid (((own_two w4 w1.heap.size 30000 4 hz4 (WalkArith.wf_i64 (by omega)) (WalkArith.wf_i64 (by omega))).src hv1 hg6).mono (Nat.le_of_lt hv1))
    clear hd5 o5 hs6 hg6
    go_wp2_with fail
    refine bodyPost_ret (v := .tuple #[.slice (some ⟨w4.heap.size, 0, none⟩) 2 2, .int .i64 (1 + y)]) (by simp [results, Tryz.results9, go_sem, *]) rfl (retScS HB1.out HD.out HO.out (WalkArith.wf_i64 (by omega)) (by omega))
  · go_wp2_with fail
    refine (next_any _ _ _ _ _ _ _ hd4.2.1 hn (by omega) (by omega)).mono ?_
    rintro e w6 ⟨y, hy0, hy1, rfl, hs6, hg6⟩
    have HD := Lib.hid (hd4.next hs6 hg6)
    have HO := Lib.hid ((oY4.src hv1 hg6).mono (Nat.le_of_lt hv1))
    clear hd4 oY4 hs6 hg6
    go_wp2_with fail
    refine bodyPost_ret (v := .tuple #[.slice A2 l e2, .int .i64 y]) (by simp [results, Tryz.results9, go_sem, *]) rfl (retScS HB1.out HD.out HO.out (WalkArith.wf_i64 (by omega)) (by omega))
end Go.Proofs.YtebefamekjjbcaaGreat
