/- What bestAmount does, by a walk over its text. Conditions: a valid network, flows in range, a cycle's numbers, the range of its amounts. -/
import Derived.Test.YtpgegfnhokhlmaaGreatFlo
set_option linter.unusedVariables false
set_option maxRecDepth 100000
namespace Go.Proofs.YtpgegfnhokhlmaaGreat
open Go.ChangeShapes Go.WideShapes Go.ChangeAt Go.RowKit Go.Joins Go.Deep
attribute [local go_sem ↓] Go.wp_at_zero Go.wp_at_succ

theorem chg_in {ks fs cs : List Int} {a : Int} (h : inR (addL fs cs a) = true) : chg ks fs cs a = enA ks fs cs a - enL ks fs := by unfold chg enA; rw [if_pos h]
/-- The least multiple with the least energy. -/
noncomputable def bstQ (E : Int → Int) (lo hi : Int) : Int := @dite _ (∃ q, Least E lo hi q) (Classical.propDecidable _) (fun h => Classical.choose h) (fun _ => 0)
theorem bstQ_eq {E : Int → Int} {lo hi q : Int} (h : Least E lo hi q) : bstQ E lo hi = q := by
  have he : ∃ q, Least E lo hi q := ⟨q, h⟩
  unfold bstQ
  rw [dif_pos he]
  exact least_one (Classical.choose_spec he) h
set_option maxHeartbeats 20000000 in
theorem best_any (A B C D : Option Addr) (n c m d e1 e2 : Nat) (lo hi : Int) (fs cs : List Int) (ns : List Nd) (ps : List Pp) (w : World) (h : IsNet w A n c ns B m d ps) (hok : NetOk ns ps) (hf : Ints w C m fs) (hfr : inR fs = true) (hc : Ints w D m cs) (hcv : CyV m cs)
    (hlo : -60000 ≤ lo) (hhi : hi ≤ 60000) (hle : lo ≤ hi) (hin : ∀ a, inR (addL fs cs a) = true ↔ lo ≤ a ∧ a ≤ hi) (hE : ∀ a, enA (ksL ps) fs cs a + enA (ksL ps) fs cs a < enA (ksL ps) fs cs (a + 1) + enA (ksL ps) fs cs (a - 1)) :
    Calls Tryz.prog 64 #[.agg #[.slice A n c, .slice B m d], .slice C m e1, .slice D m e2, .int .i64 lo, .int .i64 hi] w fun e w' => e = .returned (.int .i64 (pick (enA (ksL ps) fs cs) hi (bstQ (enA (ksL ps) fs cs) lo hi))) ∧ Below w.heap.size w w' := by
  have HOK := Lib.hid hok
  have HFR := Lib.hid hfr
  have HCV := Lib.hid hcv
  have HIN := Lib.hid hin
  have HE := Lib.hid hE
  have bA := ((box_new w #[.slice A n c, .slice B m d] 33).alloc (.cells #[.slice C m e1] 26)).alloc (.cells #[.slice D m e2] 26)
  have bC := (box_at (w.alloc (.cells #[.slice A n c, .slice B m d] 33)) #[.slice C m e1] 26 (g := w.heap.size + 1) (by simp)).alloc (.cells #[.slice D m e2] 26)
  have bD := box_at ((w.alloc (.cells #[.slice A n c, .slice B m d] 33)).alloc (.cells #[.slice C m e1] 26)) #[.slice D m e2] 26 (g := w.heap.size + 2) (by simp)
  have hV : Below w.heap.size w (((w.alloc (.cells #[.slice A n c, .slice B m d] 33)).alloc (.cells #[.slice C m e1] 26)).alloc (.cells #[.slice D m e2] 26)) := (((Below.refl _ _).alloc (Nat.le_refl _) _).alloc (by simp) _).alloc (by simp; omega) _
  obtain ⟨E, hEE⟩ : ∃ y, enA (ksL ps) fs cs = y := ⟨_, rfl⟩
  have HEE := Lib.hid hEE
  rw [hEE] at HE ⊢
  have HCH := Lib.hid (show ∀ a, lo ≤ a ∧ a ≤ hi → chg (ksL ps) fs cs a = E a - enL (ksL ps) fs from fun a ha => by rw [← hEE]; exact chg_in ((hin a).2 ha))
  clear hok hfr hcv hin hE hEE
  go_enter Tryz.func64, Tryz.ntmps64
  go_upto_region 2 with fail
  generalize (((w.alloc (.cells #[.slice A n c, .slice B m d] 33)).alloc (.cells #[.slice C m e1] 26)).alloc (.cells #[.slice D m e2] 26)) = V at *
  have hN := h.below hV
  have hF := hf.below hV
  have hC := hc.below hV
  go_loopw [3, 4] (fun s3 s4 wr => ∃ (x y : Int), s3 = .int .i64 x ∧ s4 = .int .i64 y ∧ Hid (Hands E lo hi x y) ∧ lo ≤ x ∧ x ≤ y ∧ y ≤ hi ∧ Below V.heap.size V wr) (fun s3 s4 _ => (intOf s4 - intOf s3).toNat)
  case atStart => exact ⟨lo, hi, rfl, rfl, hands_start hle, Int.le_refl _, hle, Int.le_refl _, Below.refl _ _⟩
  case round =>
    obtain ⟨x, y, rfl, rfl, HH, h1, h2, h3, hb⟩ := hrel
    by_cases hlt : x < y
    · obtain ⟨q, hq⟩ : ∃ z, (x + y) / 2 = z := ⟨_, rfl⟩
      have q1 : x ≤ q := by omega
      have q2 : q < y := by omega
      have HQ := Lib.hid hq
      have hC1 := HCH.out (q + 1) ⟨by omega, by omega⟩
      have hC2 := HCH.out q ⟨by omega, by omega⟩
      obtain ⟨c1, hc1⟩ : ∃ z, chg (ksL ps) fs cs (q + 1) = z := ⟨_, rfl⟩
      obtain ⟨c2, hc2⟩ : ∃ z, chg (ksL ps) fs cs q = z := ⟨_, rfl⟩
      rw [hc1] at hC1
      rw [hc2] at hC2
      have HC1 := Lib.hid hc1
      have HC2 := Lib.hid hc2
      have HV1 := Lib.hid hC1
      have HV2 := Lib.hid hC2
      clear hq hC1 hC2 hc1 hc2
      go_upto_region 4 with (go_at_call 127; refine (floorDiv_any _ _ _ (by omega) (by omega) (by omega) (by omega)).mono ?_; rw [HQ.out]; rintro e4 w4 ⟨rfl, rfl⟩)
      have bA1 := bA.belowA hb
      have bC1 := bC.belowA hb
      have bD1 := bD.belowA hb
      have a01 : wr.cell? ⟨w.heap.size, 0, none⟩ = some (.slice A n c) := bA1.cell 0
      have a11 : wr.cell? ⟨w.heap.size, 1, none⟩ = some (.slice B m d) := bA1.cell 1
      have a21 : wr.cell? ⟨w.heap.size + 1, 0, none⟩ = some (.slice C m e1) := bC1.cell 0
      have a31 : wr.cell? ⟨w.heap.size + 2, 0, none⟩ = some (.slice D m e2) := bD1.cell 0
      have b11 := bA1.lt
      have b21 := bC1.lt
      have b31 := bD1.lt
      by_cases hge : c2 ≤ c1
      · have HN := Lib.hid (hands_left HH.out q1 q2 (by rw [HV1.out, HV2.out] at hge; omega))
        go_wp2_with (first | (go_at_call 125; have hq_ := hB5; refine (clo_any _ _ _ _ n c m d e1 e2 _ _ _ q fs cs ns ps _ (hN.below hB5) HOK.out (hF.below hB5) HFR.out (hC.below hB5) HCV.out (by omega) b12 b22 b32 a02 a12 a22 a32).mono ?_; rw [HC2.out]; rintro e6 w6 ⟨rfl, hb6⟩; have hB6 := bthen hB5 hb6 hB5.size) | (go_at_call 125; refine (clo_any _ _ _ _ n c m d e1 e2 _ _ _ (q + 1) fs cs ns ps _ (hN.below hb) HOK.out (hF.below hb) HFR.out (hC.below hb) HCV.out (by omega) b11 b21 b31 a01 a11 a21 a31).mono ?_; rw [HC1.out]; rintro e5 w5 ⟨rfl, hb5⟩; have hB5 := bthen hb hb5 hb.size; have bA2 := bA.belowA hB5; have bC2 := bC.belowA hB5; have bD2 := bD.belowA hB5; have a02 : w5.cell? ⟨w.heap.size, 0, none⟩ = some (.slice A n c) := bA2.cell 0; have a12 : w5.cell? ⟨w.heap.size, 1, none⟩ = some (.slice B m d) := bA2.cell 1; have a22 : w5.cell? ⟨w.heap.size + 1, 0, none⟩ = some (.slice C m e1) := bC2.cell 0; have a32 : w5.cell? ⟨w.heap.size + 2, 0, none⟩ = some (.slice D m e2) := bD2.cell 0; have b12 := bA2.lt; have b22 := bC2.lt; have b32 := bD2.lt))
        go_roundw
        case rel => exact ⟨x, q, rfl, rfl, HN.out, by omega, by omega, by omega, hB6⟩
        case measure => simp [intOf]; omega
      · have HN := Lib.hid (hands_right HE.out HH.out q1 q2 (by rw [HV1.out, HV2.out] at hge; omega))
        go_wp2_with (first | (go_at_call 125; have hq_ := hB5; refine (clo_any _ _ _ _ n c m d e1 e2 _ _ _ q fs cs ns ps _ (hN.below hB5) HOK.out (hF.below hB5) HFR.out (hC.below hB5) HCV.out (by omega) b12 b22 b32 a02 a12 a22 a32).mono ?_; rw [HC2.out]; rintro e6 w6 ⟨rfl, hb6⟩; have hB6 := bthen hB5 hb6 hB5.size) | (go_at_call 125; refine (clo_any _ _ _ _ n c m d e1 e2 _ _ _ (q + 1) fs cs ns ps _ (hN.below hb) HOK.out (hF.below hb) HFR.out (hC.below hb) HCV.out (by omega) b11 b21 b31 a01 a11 a21 a31).mono ?_; rw [HC1.out]; rintro e5 w5 ⟨rfl, hb5⟩; have hB5 := bthen hb hb5 hb.size; have bA2 := bA.belowA hB5; have bC2 := bC.belowA hB5; have bD2 := bD.belowA hB5; have a02 : w5.cell? ⟨w.heap.size, 0, none⟩ = some (.slice A n c) := bA2.cell 0; have a12 : w5.cell? ⟨w.heap.size, 1, none⟩ = some (.slice B m d) := bA2.cell 1; have a22 : w5.cell? ⟨w.heap.size + 1, 0, none⟩ = some (.slice C m e1) := bC2.cell 0; have a32 : w5.cell? ⟨w.heap.size + 2, 0, none⟩ = some (.slice D m e2) := bD2.cell 0; have b12 := bA2.lt; have b22 := bC2.lt; have b32 := bD2.lt))
        go_roundw
        case rel => exact ⟨q + 1, y, by go_num, rfl, HN.out, by omega, by omega, by omega, hB6⟩
        case measure => simp [intOf]; omega
    · obtain rfl : x = y := by omega
      have HL := Lib.hid (hands_end HH.out)
      have HBQ := Lib.hid (bstQ_eq HL.out)
      have HPK := Lib.hid (show pick E hi (bstQ E lo hi) = pick E hi x by rw [HBQ.out])
      obtain ⟨P, hP⟩ : ∃ z, pick E hi x = z := ⟨_, rfl⟩
      rw [hP] at HPK
      have HPD := Lib.hid (show (if x + 1 ≤ hi ∧ E (x + 1) = E x ∧ ((x + 1).natAbs : Int) < (x.natAbs : Int) then x + 1 else x) = P from hP)
      have hCx := HCH.out x ⟨by omega, by omega⟩
      obtain ⟨c0, hc0⟩ : ∃ z, chg (ksL ps) fs cs x = z := ⟨_, rfl⟩
      rw [hc0] at hCx
      have HC0 := Lib.hid hc0
      have HV0 := Lib.hid hCx
      clear hP hCx hc0
      go_upto_region 9 with fail
      go_loopw [13, 43] (fun bb ii wq => ∃ (k : Nat) (z : Int), k ≤ 2 ∧ ii = .int .i64 (k : Int) ∧ bb = .int .i64 z ∧ (k ≤ 1 → z = x) ∧ (k = 2 → z = P) ∧ Below V.heap.size V wq) (fun _ ii _ => 2 - (intOf ii).toNat)
      case atStart => exact ⟨0, x, by omega, rfl, rfl, fun _ => rfl, fun h => absurd h (by omega), hb⟩
      case round =>
        obtain ⟨k, z, hk, rfl, rfl, hz1, hz2, hbq⟩ := hrel
        by_cases hk2 : k = 2
        · subst hk2
          have hzP := hz2 rfl
          subst hzP
          clear hz1 hz2
          go_wp2_with fail
          go_ret
          exact ⟨ri HPK.out.symm, bthen hV hbq hV.size⟩
        have hzx := hz1 (by omega)
        subst hzx
        clear hz1 hz2 hb
        have ix0 : ∀ (a b : Int) (W : World), (Instr.index 107 (.agg #[.int .i64 a, .int .i64 b]) (.int .i64 0)).run Tryz.prog W = .ok (.int .i64 a) W := fun _ _ _ => by kernel_rfl
        have ix1 : ∀ (a b : Int) (W : World), (Instr.index 107 (.agg #[.int .i64 a, .int .i64 b]) (.int .i64 1)).run Tryz.prog W = .ok (.int .i64 b) W := fun _ _ _ => by kernel_rfl
        have bA1 := bA.belowA hbq
        have bC1 := bC.belowA hbq
        have bD1 := bD.belowA hbq
        have a01 : wr.cell? ⟨w.heap.size, 0, none⟩ = some (.slice A n c) := bA1.cell 0
        have a11 : wr.cell? ⟨w.heap.size, 1, none⟩ = some (.slice B m d) := bA1.cell 1
        have a21 : wr.cell? ⟨w.heap.size + 1, 0, none⟩ = some (.slice C m e1) := bC1.cell 0
        have a31 : wr.cell? ⟨w.heap.size + 2, 0, none⟩ = some (.slice D m e2) := bD1.cell 0
        have b11 := bA1.lt
        have b21 := bC1.lt
        have b31 := bD1.lt
        by_cases hk0 : k = 0
        · subst hk0
          by_cases hr : lo ≤ z - 1
          · have hI := (HIN.out (z - 1)).2 ⟨hr, by omega⟩
            have hv := HCH.out (z - 1) ⟨hr, by omega⟩
            have hd := HL.out.dn (z - 1) hr (by omega)
            rw [show z - 1 + 1 = z by omega] at hd
            obtain ⟨c1, hc1⟩ : ∃ y, chg (ksL ps) fs cs (z - 1) = y := ⟨_, rfl⟩
            rw [hc1] at hv
            have HI := Lib.hid hI
            have HC1 := Lib.hid hc1
            have hne : ¬ c1 = c0 := by rw [hv, HV0.out]; omega
            clear hI hv hd hc1
            go_wp2_with (first | (go_at_call 125; have hq_ := hB5; refine (clo_any _ _ _ _ n c m d e1 e2 _ _ _ z fs cs ns ps _ (hN.below hB5) HOK.out (hF.below hB5) HFR.out (hC.below hB5) HCV.out (by omega) b12 b22 b32 a02 a12 a22 a32).mono ?_; rw [HC0.out]; rintro e6 w6 ⟨rfl, hb6⟩; have hB6 := bthen hB5 hb6 hB5.size) | (go_at_call 126; refine (change_any _ _ _ _ _ _ _ _ _ _ (z - 1) fs cs ns ps _ (hN.below hbq) HOK.out (hF.below hbq) HFR.out (hC.below hbq) HCV.out (by omega)).mono ?_; rw [HC1.out, HI.out]; rintro e5 w5 ⟨rfl, hb5⟩; have hB5 := bthen hbq hb5 hbq.size; have bA2 := bA.belowA hB5; have bC2 := bC.belowA hB5; have bD2 := bD.belowA hB5; have a02 : w5.cell? ⟨w.heap.size, 0, none⟩ = some (.slice A n c) := bA2.cell 0; have a12 : w5.cell? ⟨w.heap.size, 1, none⟩ = some (.slice B m d) := bA2.cell 1; have a22 : w5.cell? ⟨w.heap.size + 1, 0, none⟩ = some (.slice C m e1) := bC2.cell 0; have a32 : w5.cell? ⟨w.heap.size + 2, 0, none⟩ = some (.slice D m e2) := bD2.cell 0; have b12 := bA2.lt; have b22 := bC2.lt; have b32 := bD2.lt))
            go_roundw
            case rel => exact ⟨1, z, by omega, by go_num, rfl, fun _ => rfl, fun h => absurd h (by omega), hB6⟩
            case measure => simp [intOf]
          · have hI : inR (addL fs cs (z - 1)) = false := by
              cases hv : inR (addL fs cs (z - 1))
              · rfl
              · exact absurd ((HIN.out (z - 1)).1 hv).1 hr
            have HI := Lib.hid hI
            have HC1 := Lib.hid (chg_no (ks := ksL ps) hI)
            clear hI
            go_wp2_with (go_at_call 126; refine (change_any _ _ _ _ _ _ _ _ _ _ (z - 1) fs cs ns ps _ (hN.below hbq) HOK.out (hF.below hbq) HFR.out (hC.below hbq) HCV.out (by omega)).mono ?_; rw [HC1.out, HI.out]; rintro e5 w5 ⟨rfl, hb5⟩; have hB5 := bthen hbq hb5 hbq.size; have bA2 := bA.belowA hB5; have bC2 := bC.belowA hB5; have bD2 := bD.belowA hB5; have a02 : w5.cell? ⟨w.heap.size, 0, none⟩ = some (.slice A n c) := bA2.cell 0; have a12 : w5.cell? ⟨w.heap.size, 1, none⟩ = some (.slice B m d) := bA2.cell 1; have a22 : w5.cell? ⟨w.heap.size + 1, 0, none⟩ = some (.slice C m e1) := bC2.cell 0; have a32 : w5.cell? ⟨w.heap.size + 2, 0, none⟩ = some (.slice D m e2) := bD2.cell 0; have b12 := bA2.lt; have b22 := bC2.lt; have b32 := bD2.lt)
            go_roundw
            case rel => exact ⟨1, z, by omega, by go_num, rfl, fun _ => rfl, fun h => absurd h (by omega), hB5⟩
            case measure => simp [intOf]
        · obtain rfl : k = 1 := by omega
          by_cases hr : z + 1 ≤ hi
          · have hI := (HIN.out (z + 1)).2 ⟨by omega, hr⟩
            have hv := HCH.out (z + 1) ⟨by omega, hr⟩
            obtain ⟨c1, hc1⟩ : ∃ y, chg (ksL ps) fs cs (z + 1) = y := ⟨_, rfl⟩
            rw [hc1] at hv
            have HI := Lib.hid hI
            have HC1 := Lib.hid hc1
            by_cases he : c1 = c0
            · have HEQ := Lib.hid (show E (z + 1) = E z by have h1 := HV0.out; omega)
              by_cases ha : ab (z + 1) < ab z
              · have HP := Lib.hid (show z + 1 = P by rw [← HPD.out, if_pos ⟨hr, HEQ.out, ha⟩])
                clear hI hv hc1
                subst he
                go_wp2_with (first | (go_at_call 92; have hq_ := hq7_; refine (absOf_any z _ (by omega) (by omega)).mono ?_; rintro e8 w8 ⟨rfl, rfl⟩) | (go_at_call 92; have hq_ := hB6; refine (absOf_any (z + 1) _ (by omega) (by omega)).mono ?_; rintro e7 w7 ⟨rfl, rfl⟩; have hq7_ := hB6) | (go_at_call 125; have hq_ := hB5; refine (clo_any _ _ _ _ n c m d e1 e2 _ _ _ z fs cs ns ps _ (hN.below hB5) HOK.out (hF.below hB5) HFR.out (hC.below hB5) HCV.out (by omega) b12 b22 b32 a02 a12 a22 a32).mono ?_; rw [HC0.out]; rintro e6 w6 ⟨rfl, hb6⟩; have hB6 := bthen hB5 hb6 hB5.size) | (go_at_call 126; refine (change_any _ _ _ _ _ _ _ _ _ _ (z + 1) fs cs ns ps _ (hN.below hbq) HOK.out (hF.below hbq) HFR.out (hC.below hbq) HCV.out (by omega)).mono ?_; rw [HC1.out, HI.out]; rintro e5 w5 ⟨rfl, hb5⟩; have hB5 := bthen hbq hb5 hbq.size; have bA2 := bA.belowA hB5; have bC2 := bC.belowA hB5; have bD2 := bD.belowA hB5; have a02 : w5.cell? ⟨w.heap.size, 0, none⟩ = some (.slice A n c) := bA2.cell 0; have a12 : w5.cell? ⟨w.heap.size, 1, none⟩ = some (.slice B m d) := bA2.cell 1; have a22 : w5.cell? ⟨w.heap.size + 1, 0, none⟩ = some (.slice C m e1) := bC2.cell 0; have a32 : w5.cell? ⟨w.heap.size + 2, 0, none⟩ = some (.slice D m e2) := bD2.cell 0; have b12 := bA2.lt; have b22 := bC2.lt; have b32 := bD2.lt))
                go_roundw
                case rel => exact ⟨2, z + 1, by omega, by go_num, by go_num, fun h => absurd h (by omega), fun _ => HP.out, hB6⟩
                case measure => simp [intOf]
              · have HP := Lib.hid (show z = P by rw [← HPD.out, if_neg (fun hh => ha hh.2.2)])
                clear hI hv hc1
                subst he
                go_wp2_with (first | (go_at_call 92; have hq_ := hq7_; refine (absOf_any z _ (by omega) (by omega)).mono ?_; rintro e8 w8 ⟨rfl, rfl⟩) | (go_at_call 92; have hq_ := hB6; refine (absOf_any (z + 1) _ (by omega) (by omega)).mono ?_; rintro e7 w7 ⟨rfl, rfl⟩; have hq7_ := hB6) | (go_at_call 125; have hq_ := hB5; refine (clo_any _ _ _ _ n c m d e1 e2 _ _ _ z fs cs ns ps _ (hN.below hB5) HOK.out (hF.below hB5) HFR.out (hC.below hB5) HCV.out (by omega) b12 b22 b32 a02 a12 a22 a32).mono ?_; rw [HC0.out]; rintro e6 w6 ⟨rfl, hb6⟩; have hB6 := bthen hB5 hb6 hB5.size) | (go_at_call 126; refine (change_any _ _ _ _ _ _ _ _ _ _ (z + 1) fs cs ns ps _ (hN.below hbq) HOK.out (hF.below hbq) HFR.out (hC.below hbq) HCV.out (by omega)).mono ?_; rw [HC1.out, HI.out]; rintro e5 w5 ⟨rfl, hb5⟩; have hB5 := bthen hbq hb5 hbq.size; have bA2 := bA.belowA hB5; have bC2 := bC.belowA hB5; have bD2 := bD.belowA hB5; have a02 : w5.cell? ⟨w.heap.size, 0, none⟩ = some (.slice A n c) := bA2.cell 0; have a12 : w5.cell? ⟨w.heap.size, 1, none⟩ = some (.slice B m d) := bA2.cell 1; have a22 : w5.cell? ⟨w.heap.size + 1, 0, none⟩ = some (.slice C m e1) := bC2.cell 0; have a32 : w5.cell? ⟨w.heap.size + 2, 0, none⟩ = some (.slice D m e2) := bD2.cell 0; have b12 := bA2.lt; have b22 := bC2.lt; have b32 := bD2.lt))
                go_roundw
                case rel => exact ⟨2, z, by omega, by go_num, rfl, fun h => absurd h (by omega), fun _ => HP.out, hB6⟩
                case measure => simp [intOf]
            · have HP := Lib.hid (show z = P by rw [← HPD.out, if_neg (fun hh => he (by have h1 := HV0.out; have h2 := hh.2.1; omega))])
              clear hI hv hc1
              go_wp2_with (first | (go_at_call 125; have hq_ := hB5; refine (clo_any _ _ _ _ n c m d e1 e2 _ _ _ z fs cs ns ps _ (hN.below hB5) HOK.out (hF.below hB5) HFR.out (hC.below hB5) HCV.out (by omega) b12 b22 b32 a02 a12 a22 a32).mono ?_; rw [HC0.out]; rintro e6 w6 ⟨rfl, hb6⟩; have hB6 := bthen hB5 hb6 hB5.size) | (go_at_call 126; refine (change_any _ _ _ _ _ _ _ _ _ _ (z + 1) fs cs ns ps _ (hN.below hbq) HOK.out (hF.below hbq) HFR.out (hC.below hbq) HCV.out (by omega)).mono ?_; rw [HC1.out, HI.out]; rintro e5 w5 ⟨rfl, hb5⟩; have hB5 := bthen hbq hb5 hbq.size; have bA2 := bA.belowA hB5; have bC2 := bC.belowA hB5; have bD2 := bD.belowA hB5; have a02 : w5.cell? ⟨w.heap.size, 0, none⟩ = some (.slice A n c) := bA2.cell 0; have a12 : w5.cell? ⟨w.heap.size, 1, none⟩ = some (.slice B m d) := bA2.cell 1; have a22 : w5.cell? ⟨w.heap.size + 1, 0, none⟩ = some (.slice C m e1) := bC2.cell 0; have a32 : w5.cell? ⟨w.heap.size + 2, 0, none⟩ = some (.slice D m e2) := bD2.cell 0; have b12 := bA2.lt; have b22 := bC2.lt; have b32 := bD2.lt))
              go_roundw
              case rel => exact ⟨2, z, by omega, by go_num, rfl, fun h => absurd h (by omega), fun _ => HP.out, hB6⟩
              case measure => simp [intOf]
          · have HP := Lib.hid (show z = P by rw [← HPD.out, if_neg (fun hh => hr hh.1)])
            have hI : inR (addL fs cs (z + 1)) = false := by
              cases hv : inR (addL fs cs (z + 1))
              · rfl
              · exact absurd ((HIN.out (z + 1)).1 hv).2 hr
            have HI := Lib.hid hI
            have HC1 := Lib.hid (chg_no (ks := ksL ps) hI)
            clear hI
            go_wp2_with (go_at_call 126; refine (change_any _ _ _ _ _ _ _ _ _ _ (z + 1) fs cs ns ps _ (hN.below hbq) HOK.out (hF.below hbq) HFR.out (hC.below hbq) HCV.out (by omega)).mono ?_; rw [HC1.out, HI.out]; rintro e5 w5 ⟨rfl, hb5⟩; have hB5 := bthen hbq hb5 hbq.size; have bA2 := bA.belowA hB5; have bC2 := bC.belowA hB5; have bD2 := bD.belowA hB5; have a02 : w5.cell? ⟨w.heap.size, 0, none⟩ = some (.slice A n c) := bA2.cell 0; have a12 : w5.cell? ⟨w.heap.size, 1, none⟩ = some (.slice B m d) := bA2.cell 1; have a22 : w5.cell? ⟨w.heap.size + 1, 0, none⟩ = some (.slice C m e1) := bC2.cell 0; have a32 : w5.cell? ⟨w.heap.size + 2, 0, none⟩ = some (.slice D m e2) := bD2.cell 0; have b12 := bA2.lt; have b22 := bC2.lt; have b32 := bD2.lt)
            go_roundw
            case rel => exact ⟨2, z, by omega, by go_num, rfl, fun h => absurd h (by omega), fun _ => HP.out, hB5⟩
            case measure => simp [intOf]
end Go.Proofs.YtpgegfnhokhlmaaGreat
