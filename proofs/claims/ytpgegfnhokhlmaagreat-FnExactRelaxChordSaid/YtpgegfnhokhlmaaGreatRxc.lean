/- What RelaxChord (of the program) does, by a walk over its text. Condition: at most 2^20 flows. -/
import Derived.Test.YtpgegfnhokhlmaaGreatRxp
set_option linter.unusedVariables false
set_option maxRecDepth 100000
namespace Go.Proofs.YtpgegfnhokhlmaaGreat
open Go.ChangeShapes Go.WideShapes Go.ChangeAt Go.RowKit Go.Joins Go.Deep
attribute [local go_sem ↓] Go.wp_at_zero Go.wp_at_succ

set_option maxHeartbeats 20000000 in
theorem rxc_any (A B C : Option Addr) (n c m d l e : Nat) (x : Int) (fs : List Int) (ns : List Nd) (ps : List Pp) (w : World) (h : IsNet w A n c ns B m d ps) (hz : Ints w C l fs) (hl : l ≤ 1048576) :
    Calls Tryz.prog 22 #[.agg #[.slice A n c, .slice B m d], .slice C l e, .int .i64 x] w (RetI2 w (rxL ns ps n m fs x) (codeH ns ps n m fs x)) := by
  have bx0 := box_new w #[.slice A n c, .slice B m d] 33
  have hW0 : Below w.heap.size w (w.alloc (.cells #[.slice A n c, .slice B m d] 33)) := (Below.refl _ _).alloc (Nat.le_refl _) _
  by_cases hcc : codeH ns ps n m fs x = 0
  case neg =>
    obtain ⟨K, hK⟩ : ∃ y, codeH ns ps n m fs x = y := ⟨_, rfl⟩
    rw [hK] at hcc
    have HC := Lib.hid hK
    have HL := Lib.hid (rxL_bad hK hcc)
    have t1 : (K != 0) = true := by simpa using hcc
    clear hK hcc
    go_enter Tryz.func22, Tryz.ntmps22
    go_upto_region 1 with fail
    generalize (w.alloc (.cells #[.slice A n c, .slice B m d] 33)) = w0 at *
    have xl := bx0.lt
    have x0 : w0.cell? ⟨w.heap.size, 0, none⟩ = some (.slice A n c) := bx0.cell 0
    have x1 : w0.cell? ⟨w.heap.size, 1, none⟩ = some (.slice B m d) := bx0.cell 1
    go_upto_region 3 with (go_at_call 62; refine (codeH_any _ _ _ _ _ _ _ _ _ x ns ps fs _ (h.below hW0) (hz.below hW0) hl).mono ?_; rw [HC.out]; rintro e1 w1 ⟨rfl, hb1⟩)
    have hW1 := bthen hW0 hb1 hW0.size
    have bx1 := bx0.belowA hb1
    clear x0 x1 xl bx0 hb1
    have xl := bx1.lt
    have x0 : w1.cell? ⟨w.heap.size, 0, none⟩ = some (.slice A n c) := bx1.cell 0
    have x1 : w1.cell? ⟨w.heap.size, 1, none⟩ = some (.slice B m d) := bx1.cell 1
    go_wp2_with fail
    go_ret2
    exact retI2_nil HL.out HC.out hW1
  obtain ⟨hok, hfb, ci, rfl, hci, hct⟩ := codeH_zero hcc
  have hpl := h.pipes.len
  rw [hpl] at hci
  obtain ⟨hcl, hcv, hc1⟩ := cyc_okR hok h.nodes.len hpl hci hct
  have HC := Lib.hid hcc
  have HL := Lib.hid (rxL_ok hcc)
  have hm40 : m ≤ 40 := by have := hok.2.2.1; omega
  obtain rfl : m = l := by rw [← hz.len]; exact (flB_len hfb).symm
  have hg : Good (esOf ps) n := by rw [← h.nodes.len]; exact net_good hok
  have hfr := flB_r hfb
  have hfl := flB_len hfb
  have HFL := Lib.hid hfl
  have HBF := Lib.hid (show ∀ i, i < fs.length → -30000 ≤ fs.getD i 0 ∧ fs.getD i 0 ≤ 30000 from fun i hi => inR_at hfr hi)
  have HKS := Lib.hid (show ∀ i, i < fs.length → 1 ≤ (ksL ps).getD i 0 from fun i hi => (ksL_bd hok (by omega)).1)
  have hel : (esOf ps).length = m := by rw [esOf_len]; exact hpl
  obtain ⟨cs, hcs⟩ : ∃ y, cyc (esOf ps) n ci = y := ⟨_, rfl⟩
  rw [hcs] at hcl hcv HL hc1
  have HCS := Lib.hid hcs
  have HCV := Lib.hid hcv
  have HCL := Lib.hid hcl
  have HOK := Lib.hid hok
  have HFR := Lib.hid hfr
  have HLH := Lib.hid (lohi_in (fs := fs) (cs := cs) (fun i hi => hcv i (by omega)) HBF.out)
  have HIN := Lib.hid (fun a => inR_iff (fs := fs) (cs := cs) (a := a) (j := ci) (fun i hi => hcv i (by omega)) HBF.out (by omega) (by rw [hc1]; decide))
  have HE := Lib.hid (fun a => enA_cvx (ks := ksL ps) (fs := fs) (cs := cs) (j := ci) HKS.out (fun i hi => hcv i (by omega)) (by omega) (by rw [hc1]; decide) a)
  clear hok hfb hpl hcc hg hfr hfl hel hcs hcl hcv hc1 hct
  go_enter Tryz.func22, Tryz.ntmps22
  go_upto_region 1 with fail
  generalize (w.alloc (.cells #[.slice A n c, .slice B m d] 33)) = w0 at *
  have xl := bx0.lt
  have x0 : w0.cell? ⟨w.heap.size, 0, none⟩ = some (.slice A n c) := bx0.cell 0
  have x1 : w0.cell? ⟨w.heap.size, 1, none⟩ = some (.slice B m d) := bx0.cell 1
  go_upto_region 4 with (go_at_call 62; refine (codeH_any _ _ _ _ _ _ _ _ _ _ ns ps fs _ (h.below hW0) (hz.below hW0) hl).mono ?_; rw [HC.out]; rintro e1 w1 ⟨rfl, hb1⟩)
  have hW1 := bthen hW0 hb1 hW0.size
  have bx1 := bx0.belowA hb1
  clear x0 x1 xl bx0 hb1
  have xl := bx1.lt
  have x0 : w1.cell? ⟨w.heap.size, 0, none⟩ = some (.slice A n c) := bx1.cell 0
  have x1 : w1.cell? ⟨w.heap.size, 1, none⟩ = some (.slice B m d) := bx1.cell 1
  go_upto_region 7 with (go_at_call 63; refine (cycleOf_any _ _ _ _ _ _ ci ns ps _ (h.below hW1) HOK.out hci).mono ?_; rw [HCS.out]; rintro e2 w2 ⟨A2, c2, rfl, o2, hb2⟩; rw [HCL.out] at o2 ⊢)
  have hW2 := bthen hW1 hb2 hW1.size
  have bx2 := bx1.belowA hb2
  clear x0 x1 xl bx1 hb2
  have xl := bx2.lt
  have x0 : w2.cell? ⟨w.heap.size, 0, none⟩ = some (.slice A n c) := bx2.cell 0
  have x1 : w2.cell? ⟨w.heap.size, 1, none⟩ = some (.slice B m d) := bx2.cell 1
  go_loopw [10, 11, 30] (fun lo hi ii wr => ∃ (k : Nat), k ≤ m ∧ lo = .int .i64 (loTo fs cs k) ∧ hi = .int .i64 (hiTo fs cs k) ∧ ii = .int .i64 (k : Int) ∧ Below w2.heap.size w2 wr) (fun _ _ ii _ => m - (intOf ii).toNat)
  case atStart => exact ⟨0, Nat.zero_le _, rfl, rfl, rfl, Below.refl _ _⟩
  case round =>
    obtain ⟨k, hk, rfl, rfl, rfl, hb⟩ := hrel
    by_cases hlt : k < m
    · obtain ⟨bc, oc, rfl, hcw, cc⟩ := (o2.below hb).ints.atD hlt
      obtain ⟨bf, of, rfl, hfw, cf0⟩ := hz.atD hlt
      have hB := hW2.trans (hb.mono hW2.size)
      have cf := (hB.cell (p := ⟨bf, of + k, none⟩) hfw).trans cf0
      have hs := hB.size
      have hfl2 : bf < wr.heap.size := by omega
      have i0 : (0 : Int) ≤ (k : Int) := by omega
      have i1 : (k : Int) < (m : Int) := by omega
      have hlh := HLH.out k (by rw [HFL.out]; exact hk)
      have hfk := HBF.out k (by rw [HFL.out]; exact hlt)
      have hcz := HCV.out k hlt
      have HSL := Lib.hid (show loTo fs cs (k + 1) = if cs.getD k 0 = 0 then loTo fs cs k else max (loTo fs cs k) (-30000 - cs.getD k 0 * fs.getD k 0) from rfl)
      have HSH := Lib.hid (show hiTo fs cs (k + 1) = if cs.getD k 0 = 0 then hiTo fs cs k else min (hiTo fs cs k) (30000 - cs.getD k 0 * fs.getD k 0) from rfl)
      obtain ⟨f, hf0⟩ : ∃ y, fs.getD k 0 = y := ⟨_, rfl⟩
      obtain ⟨z, hz0⟩ : ∃ y, cs.getD k 0 = y := ⟨_, rfl⟩
      obtain ⟨a, ha0⟩ : ∃ y, loTo fs cs k = y := ⟨_, rfl⟩
      obtain ⟨b, hb0⟩ : ∃ y, hiTo fs cs k = y := ⟨_, rfl⟩
      rw [hf0] at cf hfk HSL HSH
      rw [hz0] at cc hcz HSL HSH
      rw [ha0] at hlh HSL ⊢
      rw [hb0] at hlh HSH ⊢
      obtain ⟨f1, f2⟩ := hfk
      obtain ⟨g1, g2, g3, g4⟩ := hlh
      clear hf0 hz0 ha0 hb0 cf0 hB
      rcases hcz with rfl | rfl | rfl
      · rw [if_pos rfl] at HSL HSH
        go_wp2_with fail
        go_roundw
        case rel => exact ⟨k + 1, by omega, by rw [HSL.out], by rw [HSH.out], by go_num, hb⟩
        case measure => simp [intOf]; omega
      · rw [if_neg (by decide), Int.one_mul] at HSL HSH
        have s1 : IntKind.i64.wrap (-30000 - f) = -30000 - f := IntWalk.i64_in _ (by omega)
        have s2 : IntKind.i64.wrap (30000 - f) = 30000 - f := IntWalk.i64_in _ (by omega)
        go_upto_region 11 with fail
        go_quiet (fail)
        have hbE := hb.trans ((Qt.below ⟨nq, rfl⟩ w2.heap.size : Below w2.heap.size wr (wr.drewN nq)))
        go_wp2_with fail
        go_roundw
        case rel => exact ⟨k + 1, by omega, by rw [HSL.out], by rw [HSH.out], by go_num, hbE⟩
        case measure => simp [intOf]; omega
      · rw [if_neg (by decide)] at HSL HSH
        rw [show -30000 - -1 * f = f - 30000 by omega] at HSL
        rw [show 30000 - -1 * f = f + 30000 by omega] at HSH
        have s1 : IntKind.i64.wrap (f - 30000) = f - 30000 := IntWalk.i64_in _ (by omega)
        have s2 : IntKind.i64.wrap (f + 30000) = f + 30000 := IntWalk.i64_in _ (by omega)
        go_upto_region 13 with fail
        go_quiet (fail)
        have hbE := hb.trans ((Qt.below ⟨nq, rfl⟩ w2.heap.size : Below w2.heap.size wr (wr.drewN nq)))
        go_wp2_with fail
        go_roundw
        case rel => exact ⟨k + 1, by omega, by rw [HSL.out], by rw [HSH.out], by go_num, hbE⟩
        case measure => simp [intOf]; omega
    · obtain rfl : m = k := by omega
      have hlh := HLH.out m (by rw [HFL.out]; exact Nat.le_refl _)
      have HB := Lib.hid (show rxB (ksL ps) fs cs = pick (enA (ksL ps) fs cs) (hiTo fs cs m) (bstQ (enA (ksL ps) fs cs) (loTo fs cs m) (hiTo fs cs m)) by unfold rxB; rw [HFL.out])
      have HIM := Lib.hid (show ∀ a, inR (addL fs cs a) = true ↔ loTo fs cs m ≤ a ∧ a ≤ hiTo fs cs m from fun a => by have := HIN.out a; rwa [HFL.out] at this)
      obtain ⟨lo, hlo⟩ : ∃ y, loTo fs cs m = y := ⟨_, rfl⟩
      obtain ⟨hi, hhi⟩ : ∃ y, hiTo fs cs m = y := ⟨_, rfl⟩
      rw [hlo] at HB HIM hlh ⊢
      rw [hhi] at HB HIM hlh ⊢
      obtain ⟨g1, g2, g3, g4⟩ := hlh
      have hlh2 : lo ≤ hi := by omega
      have hpk := pick_in (bstQ_least HE.out hlh2)
      rw [← HB.out] at hpk
      obtain ⟨bq, hbq⟩ : ∃ y, rxB (ksL ps) fs cs = y := ⟨_, rfl⟩
      rw [hbq] at hpk
      have HBQ := Lib.hid hbq
      have HLX := Lib.hid (show rxL ns ps n m fs ci = addL fs cs bq by rw [HL.out, hbq])
      obtain ⟨v1, v2⟩ := hpk
      have hW3 := bthen hW2 hb hW2.size
      have bx3 := bx2.belowA hb
      have hN3 := h.below hW3
      have hF3 := hz.below hW3
      have hC3 := (o2.below hb).ints
      clear hlo hhi hbq x0 x1 xl
      have xl := bx3.lt
      have x0 : wr.cell? ⟨w.heap.size, 0, none⟩ = some (.slice A n c) := bx3.cell 0
      have x1 : wr.cell? ⟨w.heap.size, 1, none⟩ = some (.slice B m d) := bx3.cell 1
      go_upto_region 16 with (go_at_call 64; refine (best_any _ _ _ _ _ _ _ _ _ _ lo hi fs cs ns ps _ hN3 HOK.out hF3 HFR.out hC3 HCV.out (by omega) (by omega) hlh2 HIM.out HE.out).mono ?_; rw [← HB.out, HBQ.out]; rintro e4 w4 ⟨rfl, hb4⟩)
      have hW4 := bthen hW3 hb4 hW3.size
      have hF4 := hz.below hW4
      have hC4 := hC3.below hb4
      go_upto_region 18 with (go_at_call 65; refine (clone_any hF4 (by omega)).mono ?_; rintro e5 w5 ⟨A5, c5, rfl, o5, hb5⟩)
      have HXF := Lib.hid (show (addL fs cs bq).length = fs.length from addL_len _ _ _)
      have o6 : Own w5 w4.heap.size A5 m c5 (mixL (addL fs cs bq) fs 0) := by rw [mix_zero]; exact o5
      clear o5 hF4 hF3 hN3 hb
      go_loopw [79] (fun ii wr => ∃ (k : Nat), k ≤ m ∧ ii = .int .i64 (k : Int) ∧ Own wr w4.heap.size A5 m c5 (mixL (addL fs cs bq) fs k) ∧ Below w4.heap.size w5 wr) (fun ii _ => m - (intOf ii).toNat)
      case atStart => exact ⟨0, Nat.zero_le _, rfl, o6, Below.refl _ _⟩
      case round =>
        obtain ⟨k, hk, rfl, hO, hb⟩ := hrel
        have hbw := hb5.trans hb
        by_cases hlt : k < m
        · obtain ⟨bc, oc, rfl, hcw, cc0⟩ := hC4.atD hlt
          obtain ⟨g, z9, rfl, hgB, hgl, q1, q2, q3, q4⟩ := hO.at_ hlt
          clear q1 q2 q3 q4
          obtain ⟨hc1, hf1, _, _⟩ := hO.atD hlt
          rw [mix_at HXF.out (by rw [HFL.out]; exact hlt)] at hc1
          have cc := (hbw.cell (p := ⟨bc, oc + k, none⟩) hcw).trans cc0
          have hsz := hbw.size
          have l3 : bc < wr.heap.size := by omega
          have HXK := Lib.hid (show (addL fs cs bq).getD k 0 = fs.getD k 0 + bq * cs.getD k 0 from addL_at (by rw [HFL.out]; exact hlt))
          have HS := Lib.hid (mix_set (xs := addL fs cs bq) (fs := fs) (k := k) HXF.out (by rw [HFL.out]; exact hlt))
          have hfk := HBF.out k (by rw [HFL.out]; exact hlt)
          have hcz := HCV.out k hlt
          obtain ⟨f, hf0⟩ : ∃ y, fs.getD k 0 = y := ⟨_, rfl⟩
          obtain ⟨z, hz0⟩ : ∃ y, cs.getD k 0 = y := ⟨_, rfl⟩
          rw [hf0] at hc1 hfk HXK
          rw [hz0] at cc hcz HXK
          obtain ⟨f1, f2⟩ := hfk
          have hzb : z * bq = bq * z := Int.mul_comm _ _
          have hzd : z * bq = 0 ∨ z * bq = bq ∨ z * bq = -bq := by rcases hcz with e | e | e <;> rw [e] <;> omega
          rw [← hzb] at HXK
          have s1 : IntKind.i64.wrap (z * bq) = z * bq := IntWalk.i64_in _ (by omega)
          have s2 : IntKind.i64.wrap (f + z * bq) = f + z * bq := IntWalk.i64_in _ (by omega)
          have i0 : (0 : Int) ≤ (k : Int) := by omega
          have i1 : (k : Int) < (m : Int) := by omega
          obtain ⟨hO4, hgr4⟩ := hO.set1 k (z := f + z * bq) (WalkArith.wf_i64 (by omega))
          have hM4 : Own (wr.setCell ⟨g, k, none⟩ (.int .i64 (f + z * bq))) w4.heap.size (some ⟨g, 0, none⟩) m c5 (mixL (addL fs cs bq) fs (k + 1)) := by
            rw [← HS.out, HXK.out]
            exact hO4
          have hb4' := hb.setCell (p := ⟨g, k, none⟩) hgB (.int .i64 (f + z * bq))
          clear hO4 hgr4 hO hf0 hz0 hzb hzd hcz hbw hb
          go_wp2_with fail
          go_roundw
          case rel => exact ⟨k + 1, by omega, by go_num, hM4, hb4'⟩
          case measure => simp [intOf]; omega
        · obtain rfl : m = k := by omega
          have e0 : mixL (addL fs cs bq) fs m = addL fs cs bq := by
            have h1 := mix_all HXF.out
            rwa [HFL.out] at h1
          rw [e0] at hO
          have hs4 := hW4.size
          have HXM := Lib.hid (show (addL fs cs bq).length = m by rw [HXF.out, HFL.out])
          clear e0
          go_wp2_with fail
          go_ret2
          exact retI2_of HXM.out HLX.out HC.out (hO.mono hs4) (bthen hW4 hbw hW4.size)
end Go.Proofs.YtpgegfnhokhlmaaGreat
