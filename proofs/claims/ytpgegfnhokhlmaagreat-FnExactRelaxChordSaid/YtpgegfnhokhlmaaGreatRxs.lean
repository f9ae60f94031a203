/- What l11Best and RelaxChord (of the reference) do, by walks over their text. Conditions: a valid network, flows in range, a cycle's numbers; at most 2^20 flows. -/
import Derived.Test.YtpgegfnhokhlmaaGreatRxp
set_option linter.unusedVariables false
set_option maxRecDepth 100000
namespace Go.Proofs.YtpgegfnhokhlmaaGreat
open Go.ChangeShapes Go.WideShapes Go.ChangeAt Go.RowKit Go.Joins Go.Deep
attribute [local go_sem ↓] Go.wp_at_zero Go.wp_at_succ

theorem pick_abs {E : Int → Int} {hi q : Int} (h1 : q + 1 ≤ hi) (h2 : E (q + 1) = E q) : pick E hi q = if ab (q + 1) ≤ ab q then q + 1 else q := by
  unfold pick ab
  by_cases h : ((q + 1).natAbs : Int) < (q.natAbs : Int)
  · rw [if_pos ⟨h1, h2, h⟩, if_pos (by omega)]
  · rw [if_neg (fun hh => h hh.2.2), if_neg (by omega)]
theorem pick_no {E : Int → Int} {hi q : Int} (h : ¬ (q + 1 ≤ hi ∧ E (q + 1) = E q)) : pick E hi q = q := by
  unfold pick
  rw [if_neg (fun hh => h ⟨hh.1, hh.2.1⟩)]
set_option maxHeartbeats 20000000 in
theorem sBest_any (A B C D : Option Addr) (n c m d e1 e2 : Nat) (fs cs : List Int) (ns : List Nd) (ps : List Pp) (w : World) (h : IsNet w A n c ns B m d ps) (hok : NetOk ns ps) (hf : Ints w C m fs) (hfr : inR fs = true) (hc : Ints w D m cs) (hcv : CyV m cs)
    (hin : ∀ a, inR (addL fs cs a) = true ↔ loTo fs cs m ≤ a ∧ a ≤ hiTo fs cs m) (hE : ∀ a, enA (ksL ps) fs cs a + enA (ksL ps) fs cs a < enA (ksL ps) fs cs (a + 1) + enA (ksL ps) fs cs (a - 1)) :
    Calls Tryz.prog 61 #[.agg #[.slice A n c, .slice B m d], .slice C m e1, .slice D m e2] w fun e w' => e = .returned (.int .i64 (rxB (ksL ps) fs cs)) ∧ Below w.heap.size w w' := by
  have hm40 : m ≤ 40 := by have := hok.2.2.1; have := h.pipes.len; omega
  have HFL := Lib.hid hf.len
  have HBF := Lib.hid (show ∀ i, i < m → -30000 ≤ fs.getD i 0 ∧ fs.getD i 0 ≤ 30000 from fun i hi => inR_at hfr (by rw [hf.len]; exact hi))
  have HAL := Lib.hid (show ∀ a, (addL fs cs a).length = m from fun a => by rw [addL_len]; exact hf.len)
  have HBD := Lib.hid (show ∀ a : Int, -900000 ≤ a → a ≤ 900000 → ∀ i, i < m → (-1000000 ≤ fs.getD i 0 ∧ fs.getD i 0 ≤ 1000000) ∧ -1000000 ≤ a * cs.getD i 0 ∧ a * cs.getD i 0 ≤ 1000000 by
    intro a ha1 ha2 i hi
    have h1 := HBF.out i hi
    refine ⟨by omega, ?_⟩
    rcases hcv i hi with e | e | e <;> rw [e] <;> omega)
  have HLH := Lib.hid (lohi_in (fs := fs) (cs := cs) (fun i hi => hcv i (by rw [← hf.len]; exact hi)) (fun i hi => HBF.out i (by rw [← hf.len]; exact hi)))
  have HOK := Lib.hid hok
  have HFR := Lib.hid hfr
  have HCV := Lib.hid hcv
  have HIN := Lib.hid hin
  have HE := Lib.hid hE
  have bx := box_new w #[.slice A n c, .slice B m d] 33
  have hV : Below w.heap.size w (w.alloc (.cells #[.slice A n c, .slice B m d] 33)) := (Below.refl _ _).alloc (Nat.le_refl _) _
  clear hok hfr hcv hin hE
  go_enter Tryz.func61, Tryz.ntmps61
  go_upto_region 3 with fail
  generalize (w.alloc (.cells #[.slice A n c, .slice B m d] 33)) = V at *
  have hN := h.below hV
  have hF := hf.below hV
  have hC := hc.below hV
  go_loopw [7, 8, 9] (fun lo hi ii wr => ∃ (k : Nat), k ≤ m ∧ lo = .int .i64 (loTo fs cs k) ∧ hi = .int .i64 (hiTo fs cs k) ∧ ii = .int .i64 (k : Int) ∧ Below V.heap.size V wr) (fun _ _ ii _ => m - (intOf ii).toNat)
  case atStart => exact ⟨0, Nat.zero_le _, rfl, rfl, rfl, Below.refl _ _⟩
  case round =>
    obtain ⟨k, hk, rfl, rfl, rfl, hb⟩ := hrel
    by_cases hlt : k < m
    · obtain ⟨bc, oc, rfl, hcw, cc⟩ := (hC.below hb).atD hlt
      obtain ⟨bf, of, rfl, hfw, cf⟩ := (hF.below hb).atD hlt
      have i0 : (0 : Int) ≤ (k : Int) := by omega
      have i1 : (k : Int) < (m : Int) := by omega
      have hlh := HLH.out k (by rw [HFL.out]; exact hk)
      have hfk := HBF.out k hlt
      have hcz := HCV.out k hlt
      have HSL := Lib.hid (show loTo fs cs (k + 1) = if cs.getD k 0 = 0 then loTo fs cs k else max (loTo fs cs k) (-30000 - cs.getD k 0 * fs.getD k 0) from rfl)
      have HSH := Lib.hid (show hiTo fs cs (k + 1) = if cs.getD k 0 = 0 then hiTo fs cs k else min (hiTo fs cs k) (30000 - cs.getD k 0 * fs.getD k 0) from rfl)
      obtain ⟨f, hf0⟩ : ∃ y, fs.getD k 0 = y := ⟨_, rfl⟩
      obtain ⟨z, hz0⟩ : ∃ y, cs.getD k 0 = y := ⟨_, rfl⟩
      obtain ⟨a, ha0⟩ : ∃ y, loTo fs cs k = y := ⟨_, rfl⟩
      obtain ⟨b, hb0⟩ : ∃ y, hiTo fs cs k = y := ⟨_, rfl⟩
      rw [hf0] at cf hfk HSL HSH
      rw [hz0] at cc hcz HSL HSH
      rw [ha0] at hlh HSL ⊢
      rw [hb0] at hlh HSH ⊢
      obtain ⟨f1, f2⟩ := hfk
      obtain ⟨g1, g2, g3, g4⟩ := hlh
      clear hf0 hz0 ha0 hb0
      by_cases hzz : z = 0
      · subst hzz
        rw [if_pos rfl] at HSL HSH
        go_wp2_with fail
        go_roundw
        case rel => exact ⟨k + 1, by omega, by rw [HSL.out], by rw [HSH.out], by go_num, hb⟩
        case measure => simp [intOf]; omega
      · have hzf : z * f = f ∨ z * f = -f := by rcases hcz with e | e | e <;> rw [e] <;> omega
        rw [if_neg hzz] at HSL HSH
        have t1 : (z != 0) = true := by simpa using hzz
        have s0 : IntKind.i64.wrap (z * f) = z * f := IntWalk.i64_in _ (by omega)
        have s1 : IntKind.i64.wrap (-30000 - z * f) = -30000 - z * f := IntWalk.i64_in _ (by omega)
        have s2 : IntKind.i64.wrap (30000 - z * f) = 30000 - z * f := IntWalk.i64_in _ (by omega)
        clear hzz hcz hzf
        go_upto_region 6 with fail
        go_quiet (fail)
        go_upto_region 7 with fail
        go_quiet (fail)
        go_wp2_with fail
        go_roundw
        case rel => exact ⟨k + 1, by omega, by rw [HSL.out], by rw [HSH.out], by go_num, hb.trans (Qt.below (w := wr) ⟨_, rfl⟩ V.heap.size)⟩
        case measure => simp [intOf]; omega
    · obtain rfl : m = k := by omega
      have hlh := HLH.out m (by rw [HFL.out]; exact Nat.le_refl _)
      have HB := Lib.hid (show rxB (ksL ps) fs cs = pick (enA (ksL ps) fs cs) (hiTo fs cs m) (bstQ (enA (ksL ps) fs cs) (loTo fs cs m) (hiTo fs cs m)) by unfold rxB; rw [HFL.out])
      obtain ⟨lo, hlo⟩ : ∃ y, loTo fs cs m = y := ⟨_, rfl⟩
      obtain ⟨hi, hhi⟩ : ∃ y, hiTo fs cs m = y := ⟨_, rfl⟩
      rw [hlo] at HB HIN hlh ⊢
      rw [hhi] at HB HIN hlh ⊢
      obtain ⟨g1, g2, g3, g4⟩ := hlh
      have hlh2 : lo ≤ hi := by omega
      obtain ⟨E, hEE⟩ : ∃ y, enA (ksL ps) fs cs = y := ⟨_, rfl⟩
      have HEN := Lib.hid (show ∀ a, enL (ksL ps) (addL fs cs a) = E a from fun a => by rw [← hEE]; rfl)
      rw [hEE] at HE HB
      clear hlo hhi hEE
      go_upto_region 9 with fail
      go_loopw [10, 11] (fun s3 s4 wq => ∃ (x y : Int), s3 = .int .i64 x ∧ s4 = .int .i64 y ∧ Hid (Hands E lo hi x y) ∧ lo ≤ x ∧ x ≤ y ∧ y ≤ hi ∧ Below V.heap.size V wq) (fun s3 s4 _ => (intOf s4 - intOf s3).toNat)
      case atStart => exact ⟨lo, hi, rfl, rfl, hands_start hlh2, Int.le_refl _, hlh2, Int.le_refl _, hb⟩
      case round =>
        obtain ⟨x, y, rfl, rfl, HH, h1, h2, h3, hbq⟩ := hrel
        clear hb
        by_cases hlt : x < y
        · obtain ⟨q, hq⟩ : ∃ z, (x + y) / 2 = z := ⟨_, rfl⟩
          have q1 : x ≤ q := by omega
          have q2 : q < y := by omega
          have HQ := Lib.hid hq
          have HI1 := Lib.hid ((HIN.out q).2 ⟨by omega, by omega⟩)
          have HI2 := Lib.hid ((HIN.out (q + 1)).2 ⟨by omega, by omega⟩)
          obtain ⟨v1, hv1⟩ : ∃ z, E q = z := ⟨_, rfl⟩
          obtain ⟨v2, hv2⟩ : ∃ z, E (q + 1) = z := ⟨_, rfl⟩
          have HC1 := Lib.hid ((HEN.out q).trans hv1)
          have HC2 := Lib.hid ((HEN.out (q + 1)).trans hv2)
          have HV1 := Lib.hid hv1
          have HV2 := Lib.hid hv2
          have s1 : IntKind.i64.wrap (q + 1) = q + 1 := IntWalk.i64_in _ (by omega)
          clear hq hv1 hv2
          go_upto_region 11 with (go_at_call 121; refine (sFloor_any _ _ _ (by omega) (by omega) (by omega) (by omega)).mono ?_; rw [HQ.out]; rintro e4 w4 ⟨rfl, rfl⟩)
          have bx1 := bx.belowA hbq
          have xl := bx1.lt
          have x0 : wr.cell? ⟨w.heap.size, 0, none⟩ = some (.slice A n c) := bx1.cell 0
          have x1 : wr.cell? ⟨w.heap.size, 1, none⟩ = some (.slice B m d) := bx1.cell 1
          have kN : Kept (IsNet wr A n c ns B m d ps) := ⟨hN.below hbq⟩
          have kF : Kept (Ints wr C m fs) := ⟨hF.below hbq⟩
          have kC : Kept (Ints wr D m cs) := ⟨hC.below hbq⟩
          have kB : Kept (Below V.heap.size V wr) := ⟨hbq⟩
          have kU : Kept (Below wr.heap.size wr wr.drew) := ⟨(Below.refl _ _).drew⟩
          obtain ⟨wi, rfl⟩ : ∃ wi : World, wi = wr := ⟨_, rfl⟩
          clear bx1 hbq
          by_cases hge : v1 ≤ v2
          · have HN := Lib.hid (hands_left HH.out q1 q2 (by rw [HV1.out, HV2.out]; exact hge))
            go_region_held3 (fun w' => w.heap.size < w'.heap.size ∧ w'.cell? ⟨w.heap.size, 0, none⟩ = some (.slice A n c) ∧ w'.cell? ⟨w.heap.size, 1, none⟩ = some (.slice B m d) ∧ Kept (Below wi.heap.size wi w'))
              (first | (go_split_ands; refine ⟨by have := hbb.size; omega, ?_, ?_, ⟨bthen (Kept.out ‹Kept (Below wi.heap.size _ _)›) hbb (Kept.out ‹Kept (Below wi.heap.size _ _)›).size⟩⟩ <;> (rw [hbb.cell (by simp; omega)]; assumption)) | go_keep)
              (first | (go_at_call 60; go_split_ands; refine (sAdd_any _ _ _ _ _ _ fs cs _ (kF.out.below (Kept.out ‹Kept (Below wi.heap.size _ _)›)) (kC.out.below (Kept.out ‹Kept (Below wi.heap.size _ _)›)) (by omega) (HBD.out _ (by omega) (by omega))).mono ?_; rintro e5 wb ⟨A5, c5, rfl, o5, hbb⟩; rw [HAL.out] at o5 ⊢; (try have kA1 := Kept.mk (kA1.out.below hbb)); (first | (have hq_ := kA1; have kA2 := Kept.mk o5.ints) | have kA1 := Kept.mk o5.ints); clear o5) | (go_at_call 122; go_split_ands; refine (sEnergy_any _ _ _ _ _ _ _ _ _ ns ps _ (kN.out.below (Kept.out ‹Kept (Below wi.heap.size _ _)›)) HOK.out (by first | exact kA2.out | exact kA1.out) (by first | exact HI1.out | exact HI2.out)).mono ?_; (first | rw [HC1.out] | rw [HC2.out]); rintro e5 wb ⟨rfl, hbb⟩; (try have kA1 := Kept.mk (kA1.out.below hbb)); (try have kA2 := Kept.mk (kA2.out.below hbb))))
            all_goals
              rename_i hh
              obtain ⟨_, _, _, ⟨hbB⟩⟩ := hh
              go_wp2_with fail
              go_roundw
              case rel => exact ⟨x, q, rfl, rfl, HN.out, by omega, by omega, by omega, bthen kB.out hbB kB.out.size⟩
              case measure => simp [intOf]; omega
          · have HN := Lib.hid (hands_right HE.out HH.out q1 q2 (by rw [HV1.out, HV2.out]; omega))
            go_region_held3 (fun w' => w.heap.size < w'.heap.size ∧ w'.cell? ⟨w.heap.size, 0, none⟩ = some (.slice A n c) ∧ w'.cell? ⟨w.heap.size, 1, none⟩ = some (.slice B m d) ∧ Kept (Below wi.heap.size wi w'))
              (first | (go_split_ands; refine ⟨by have := hbb.size; omega, ?_, ?_, ⟨bthen (Kept.out ‹Kept (Below wi.heap.size _ _)›) hbb (Kept.out ‹Kept (Below wi.heap.size _ _)›).size⟩⟩ <;> (rw [hbb.cell (by simp; omega)]; assumption)) | go_keep)
              (first | (go_at_call 60; go_split_ands; refine (sAdd_any _ _ _ _ _ _ fs cs _ (kF.out.below (Kept.out ‹Kept (Below wi.heap.size _ _)›)) (kC.out.below (Kept.out ‹Kept (Below wi.heap.size _ _)›)) (by omega) (HBD.out _ (by omega) (by omega))).mono ?_; rintro e5 wb ⟨A5, c5, rfl, o5, hbb⟩; rw [HAL.out] at o5 ⊢; (try have kA1 := Kept.mk (kA1.out.below hbb)); (first | (have hq_ := kA1; have kA2 := Kept.mk o5.ints) | have kA1 := Kept.mk o5.ints); clear o5) | (go_at_call 122; go_split_ands; refine (sEnergy_any _ _ _ _ _ _ _ _ _ ns ps _ (kN.out.below (Kept.out ‹Kept (Below wi.heap.size _ _)›)) HOK.out (by first | exact kA2.out | exact kA1.out) (by first | exact HI1.out | exact HI2.out)).mono ?_; (first | rw [HC1.out] | rw [HC2.out]); rintro e5 wb ⟨rfl, hbb⟩; (try have kA1 := Kept.mk (kA1.out.below hbb)); (try have kA2 := Kept.mk (kA2.out.below hbb))))
            all_goals
              rename_i hh
              obtain ⟨_, _, _, ⟨hbB⟩⟩ := hh
              go_wp2_with fail
              go_roundw
              case rel => exact ⟨q + 1, y, by go_num, rfl, HN.out, by omega, by omega, by omega, bthen kB.out hbB kB.out.size⟩
              case measure => simp [intOf]; omega
        · obtain rfl : x = y := by omega
          have HL := Lib.hid (hands_end HH.out)
          have HBQ := Lib.hid (bstQ_eq HL.out)
          have HPK := Lib.hid (show rxB (ksL ps) fs cs = pick E hi x by rw [HB.out, HBQ.out])
          have HI1 := Lib.hid ((HIN.out x).2 ⟨by omega, by omega⟩)
          have HI2 := HI1
          obtain ⟨v0, hv0⟩ : ∃ z, E x = z := ⟨_, rfl⟩
          have HC1 := Lib.hid ((HEN.out x).trans hv0)
          have HC2 := HC1
          have HV0 := Lib.hid hv0
          clear hv0
          go_upto_region 15 with fail
          have bx1 := bx.belowA hbq
          have xl := bx1.lt
          have x0 : wr.cell? ⟨w.heap.size, 0, none⟩ = some (.slice A n c) := bx1.cell 0
          have x1 : wr.cell? ⟨w.heap.size, 1, none⟩ = some (.slice B m d) := bx1.cell 1
          have kN : Kept (IsNet wr A n c ns B m d ps) := ⟨hN.below hbq⟩
          have kF : Kept (Ints wr C m fs) := ⟨hF.below hbq⟩
          have kC : Kept (Ints wr D m cs) := ⟨hC.below hbq⟩
          have kB : Kept (Below V.heap.size V wr) := ⟨hbq⟩
          have kU : Kept (Below wr.heap.size wr wr.drew) := ⟨(Below.refl _ _).drew⟩
          obtain ⟨wi, rfl⟩ : ∃ wi : World, wi = wr := ⟨_, rfl⟩
          clear bx1 hbq
          go_region_held3 (fun w' => w.heap.size < w'.heap.size ∧ w'.cell? ⟨w.heap.size, 0, none⟩ = some (.slice A n c) ∧ w'.cell? ⟨w.heap.size, 1, none⟩ = some (.slice B m d) ∧ Kept (Below wi.heap.size wi w'))
            (first | (go_split_ands; refine ⟨by have := hbb.size; omega, ?_, ?_, ⟨bthen (Kept.out ‹Kept (Below wi.heap.size _ _)›) hbb (Kept.out ‹Kept (Below wi.heap.size _ _)›).size⟩⟩ <;> (rw [hbb.cell (by simp; omega)]; assumption)) | go_keep)
            (first | (go_at_call 60; go_split_ands; refine (sAdd_any _ _ _ _ _ _ fs cs _ (kF.out.below (Kept.out ‹Kept (Below wi.heap.size _ _)›)) (kC.out.below (Kept.out ‹Kept (Below wi.heap.size _ _)›)) (by omega) (HBD.out _ (by omega) (by omega))).mono ?_; rintro e5 wb ⟨A5, c5, rfl, o5, hbb⟩; rw [HAL.out] at o5 ⊢; (try have kA1 := Kept.mk (kA1.out.below hbb)); (first | (have hq_ := kA1; have kA2 := Kept.mk o5.ints) | have kA1 := Kept.mk o5.ints); clear o5) | (go_at_call 122; go_split_ands; refine (sEnergy_any _ _ _ _ _ _ _ _ _ ns ps _ (kN.out.below (Kept.out ‹Kept (Below wi.heap.size _ _)›)) HOK.out (by first | exact kA2.out | exact kA1.out) (by first | exact HI1.out | exact HI2.out)).mono ?_; (first | rw [HC1.out] | rw [HC2.out]); rintro e5 wb ⟨rfl, hbb⟩; (try have kA1 := Kept.mk (kA1.out.below hbb)); (try have kA2 := Kept.mk (kA2.out.below hbb))))
          rename_i hh
          obtain ⟨_, _, _, ⟨hbB⟩⟩ := hh
          have hb3 := bthen kB.out hbB kB.out.size
          clear kN kF kC kU xl x0 x1 hbB HI1 HI2 HC1 HC2
          go_upto_region 17 with fail
          go_loopw [13, 15] (fun bb kk wq => ∃ (b k : Int), bb = .int .i64 b ∧ kk = .int .i64 k ∧ x + 1 ≤ k ∧ k ≤ x + 2 ∧ (k = x + 1 → b = x) ∧ Hid (k = x + 2 → x + 1 ≤ hi ∧ E (x + 1) = v0 ∧ b = rxB (ksL ps) fs cs) ∧ Below V.heap.size V wq) (fun _ kk _ => (x + 2 - intOf kk).toNat)
          case atStart => exact ⟨x, x + 1, rfl, by go_num, by omega, by omega, fun _ => rfl, (fun hh => absurd hh (by omega)), hb3⟩
          case round =>
            obtain ⟨b, k, rfl, rfl, hk1, hk2, hx1, HX2, hbq⟩ := hrel
            clear hb3 kB
            by_cases hkh : k ≤ hi
            · by_cases hk : k = x + 1
              · subst hk
                obtain rfl := hx1 rfl
                clear hx1 HX2
                obtain ⟨v1, hv1⟩ : ∃ z, E (b + 1) = z := ⟨_, rfl⟩
                have HI1 := Lib.hid ((HIN.out (b + 1)).2 ⟨by omega, by omega⟩)
                have HI2 := HI1
                have HC1 := Lib.hid ((HEN.out (b + 1)).trans hv1)
                have HC2 := HC1
                by_cases hvv : v1 = v0
                · subst hvv
                  have HQ := Lib.hid (pick_abs (E := E) hkh (hv1.trans HV0.out.symm))
                  have HE1 := Lib.hid hv1
                  clear hv1
                  have bx1 := bx.belowA hbq
                  have xl := bx1.lt
                  have x0 : wr.cell? ⟨w.heap.size, 0, none⟩ = some (.slice A n c) := bx1.cell 0
                  have x1 : wr.cell? ⟨w.heap.size, 1, none⟩ = some (.slice B m d) := bx1.cell 1
                  have kN : Kept (IsNet wr A n c ns B m d ps) := ⟨hN.below hbq⟩
                  have kF : Kept (Ints wr C m fs) := ⟨hF.below hbq⟩
                  have kC : Kept (Ints wr D m cs) := ⟨hC.below hbq⟩
                  have kB : Kept (Below V.heap.size V wr) := ⟨hbq⟩
                  have kU : Kept (Below wr.heap.size wr wr.drew) := ⟨(Below.refl _ _).drew⟩
                  obtain ⟨wi, rfl⟩ : ∃ wi : World, wi = wr := ⟨_, rfl⟩
                  clear bx1 hbq
                  go_upto_region 17 with fail
                  go_region_held3 (fun w' => w.heap.size < w'.heap.size ∧ w'.cell? ⟨w.heap.size, 0, none⟩ = some (.slice A n c) ∧ w'.cell? ⟨w.heap.size, 1, none⟩ = some (.slice B m d) ∧ Kept (Below wi.heap.size wi w'))
                    (first | (go_split_ands; refine ⟨by have := hbb.size; omega, ?_, ?_, ⟨bthen (Kept.out ‹Kept (Below wi.heap.size _ _)›) hbb (Kept.out ‹Kept (Below wi.heap.size _ _)›).size⟩⟩ <;> (rw [hbb.cell (by simp; omega)]; assumption)) | go_keep)
                    (first | (go_at_call 60; go_split_ands; refine (sAdd_any _ _ _ _ _ _ fs cs _ (kF.out.below (Kept.out ‹Kept (Below wi.heap.size _ _)›)) (kC.out.below (Kept.out ‹Kept (Below wi.heap.size _ _)›)) (by omega) (HBD.out _ (by omega) (by omega))).mono ?_; rintro e5 wb ⟨A5, c5, rfl, o5, hbb⟩; rw [HAL.out] at o5 ⊢; (try have kA1 := Kept.mk (kA1.out.below hbb)); (first | (have hq_ := kA1; have kA2 := Kept.mk o5.ints) | have kA1 := Kept.mk o5.ints); clear o5) | (go_at_call 122; go_split_ands; refine (sEnergy_any _ _ _ _ _ _ _ _ _ ns ps _ (kN.out.below (Kept.out ‹Kept (Below wi.heap.size _ _)›)) HOK.out (by first | exact kA2.out | exact kA1.out) (by first | exact HI1.out | exact HI2.out)).mono ?_; (first | rw [HC1.out] | rw [HC2.out]); rintro e5 wb ⟨rfl, hbb⟩; (try have kA1 := Kept.mk (kA1.out.below hbb)); (try have kA2 := Kept.mk (kA2.out.below hbb))))
                  rename_i hh
                  obtain ⟨_, _, _, ⟨hbB⟩⟩ := hh
                  have hb4 := bthen kB.out hbB kB.out.size
                  clear kN kF kC kU xl x0 x1 hbB
                  by_cases hab : ab (b + 1) ≤ ab b
                  · rw [if_pos hab] at HQ
                    go_wp2_with (go_at_call 123; refine (sAbs_any _ _ (by omega) (by omega)).mono ?_; rintro e w' ⟨rfl, rfl⟩)
                    go_roundw
                    case rel => exact ⟨b + 1, b + 2, by go_num, by go_num, by omega, by omega, (fun hh => absurd hh (by omega)), (fun _ => ⟨hkh, HE1.out, by rw [HPK.out, HQ.out]⟩), hb4⟩
                    case measure => simp [intOf]; omega
                  · rw [if_neg hab] at HQ
                    go_wp2_with (go_at_call 123; refine (sAbs_any _ _ (by omega) (by omega)).mono ?_; rintro e w' ⟨rfl, rfl⟩)
                    go_roundw
                    case rel => exact ⟨b, b + 2, by go_num, by go_num, by omega, by omega, (fun hh => absurd hh (by omega)), (fun _ => ⟨hkh, HE1.out, by rw [HPK.out, HQ.out]⟩), hb4⟩
                    case measure => simp [intOf]; omega
                · have HQ := Lib.hid (pick_no (E := E) (hi := hi) (q := b) (fun hh => hvv (hv1.symm.trans (hh.2.trans HV0.out))))
                  clear hv1
                  have bx1 := bx.belowA hbq
                  have xl := bx1.lt
                  have x0 : wr.cell? ⟨w.heap.size, 0, none⟩ = some (.slice A n c) := bx1.cell 0
                  have x1 : wr.cell? ⟨w.heap.size, 1, none⟩ = some (.slice B m d) := bx1.cell 1
                  have kN : Kept (IsNet wr A n c ns B m d ps) := ⟨hN.below hbq⟩
                  have kF : Kept (Ints wr C m fs) := ⟨hF.below hbq⟩
                  have kC : Kept (Ints wr D m cs) := ⟨hC.below hbq⟩
                  have kB : Kept (Below V.heap.size V wr) := ⟨hbq⟩
                  have kU : Kept (Below wr.heap.size wr wr.drew) := ⟨(Below.refl _ _).drew⟩
                  obtain ⟨wi, rfl⟩ : ∃ wi : World, wi = wr := ⟨_, rfl⟩
                  clear bx1 hbq
                  go_upto_region 17 with fail
                  go_region_held3 (fun w' => w.heap.size < w'.heap.size ∧ w'.cell? ⟨w.heap.size, 0, none⟩ = some (.slice A n c) ∧ w'.cell? ⟨w.heap.size, 1, none⟩ = some (.slice B m d) ∧ Kept (Below wi.heap.size wi w'))
                    (first | (go_split_ands; refine ⟨by have := hbb.size; omega, ?_, ?_, ⟨bthen (Kept.out ‹Kept (Below wi.heap.size _ _)›) hbb (Kept.out ‹Kept (Below wi.heap.size _ _)›).size⟩⟩ <;> (rw [hbb.cell (by simp; omega)]; assumption)) | go_keep)
                    (first | (go_at_call 60; go_split_ands; refine (sAdd_any _ _ _ _ _ _ fs cs _ (kF.out.below (Kept.out ‹Kept (Below wi.heap.size _ _)›)) (kC.out.below (Kept.out ‹Kept (Below wi.heap.size _ _)›)) (by omega) (HBD.out _ (by omega) (by omega))).mono ?_; rintro e5 wb ⟨A5, c5, rfl, o5, hbb⟩; rw [HAL.out] at o5 ⊢; (try have kA1 := Kept.mk (kA1.out.below hbb)); (first | (have hq_ := kA1; have kA2 := Kept.mk o5.ints) | have kA1 := Kept.mk o5.ints); clear o5) | (go_at_call 122; go_split_ands; refine (sEnergy_any _ _ _ _ _ _ _ _ _ ns ps _ (kN.out.below (Kept.out ‹Kept (Below wi.heap.size _ _)›)) HOK.out (by first | exact kA2.out | exact kA1.out) (by first | exact HI1.out | exact HI2.out)).mono ?_; (first | rw [HC1.out] | rw [HC2.out]); rintro e5 wb ⟨rfl, hbb⟩; (try have kA1 := Kept.mk (kA1.out.below hbb)); (try have kA2 := Kept.mk (kA2.out.below hbb))))
                  rename_i hh
                  obtain ⟨_, _, _, ⟨hbB⟩⟩ := hh
                  have hb4 := bthen kB.out hbB kB.out.size
                  go_wp2_with fail
                  go_ret
                  exact ⟨ri (by rw [HPK.out, HQ.out]), bthen hV hb4 hV.size⟩
              · obtain rfl : k = x + 2 := by omega
                obtain ⟨y1, y2, rfl⟩ := HX2.out rfl
                have hst := least_two (E := E) HE.out (q := x) (y2.trans HV0.out.symm)
                have HY2 := Lib.hid y2
                clear hx1 HX2 y2
                obtain ⟨v1, hv1⟩ : ∃ z, E (x + 2) = z := ⟨_, rfl⟩
                have HI1 := Lib.hid ((HIN.out (x + 2)).2 ⟨by omega, by omega⟩)
                have HI2 := HI1
                have HC1 := Lib.hid ((HEN.out (x + 2)).trans hv1)
                have HC2 := HC1
                have hvv : ¬ v1 = v0 := by rw [← hv1, ← HV0.out]; omega
                clear hv1 hst
                have bx1 := bx.belowA hbq
                have xl := bx1.lt
                have x0 : wr.cell? ⟨w.heap.size, 0, none⟩ = some (.slice A n c) := bx1.cell 0
                have x1 : wr.cell? ⟨w.heap.size, 1, none⟩ = some (.slice B m d) := bx1.cell 1
                have kN : Kept (IsNet wr A n c ns B m d ps) := ⟨hN.below hbq⟩
                have kF : Kept (Ints wr C m fs) := ⟨hF.below hbq⟩
                have kC : Kept (Ints wr D m cs) := ⟨hC.below hbq⟩
                have kB : Kept (Below V.heap.size V wr) := ⟨hbq⟩
                have kU : Kept (Below wr.heap.size wr wr.drew) := ⟨(Below.refl _ _).drew⟩
                obtain ⟨wi, rfl⟩ : ∃ wi : World, wi = wr := ⟨_, rfl⟩
                clear bx1 hbq
                go_upto_region 17 with fail
                go_region_held3 (fun w' => w.heap.size < w'.heap.size ∧ w'.cell? ⟨w.heap.size, 0, none⟩ = some (.slice A n c) ∧ w'.cell? ⟨w.heap.size, 1, none⟩ = some (.slice B m d) ∧ Kept (Below wi.heap.size wi w'))
                  (first | (go_split_ands; refine ⟨by have := hbb.size; omega, ?_, ?_, ⟨bthen (Kept.out ‹Kept (Below wi.heap.size _ _)›) hbb (Kept.out ‹Kept (Below wi.heap.size _ _)›).size⟩⟩ <;> (rw [hbb.cell (by simp; omega)]; assumption)) | go_keep)
                  (first | (go_at_call 60; go_split_ands; refine (sAdd_any _ _ _ _ _ _ fs cs _ (kF.out.below (Kept.out ‹Kept (Below wi.heap.size _ _)›)) (kC.out.below (Kept.out ‹Kept (Below wi.heap.size _ _)›)) (by omega) (HBD.out _ (by omega) (by omega))).mono ?_; rintro e5 wb ⟨A5, c5, rfl, o5, hbb⟩; rw [HAL.out] at o5 ⊢; (try have kA1 := Kept.mk (kA1.out.below hbb)); (first | (have hq_ := kA1; have kA2 := Kept.mk o5.ints) | have kA1 := Kept.mk o5.ints); clear o5) | (go_at_call 122; go_split_ands; refine (sEnergy_any _ _ _ _ _ _ _ _ _ ns ps _ (kN.out.below (Kept.out ‹Kept (Below wi.heap.size _ _)›)) HOK.out (by first | exact kA2.out | exact kA1.out) (by first | exact HI1.out | exact HI2.out)).mono ?_; (first | rw [HC1.out] | rw [HC2.out]); rintro e5 wb ⟨rfl, hbb⟩; (try have kA1 := Kept.mk (kA1.out.below hbb)); (try have kA2 := Kept.mk (kA2.out.below hbb))))
                rename_i hh
                obtain ⟨_, _, _, ⟨hbB⟩⟩ := hh
                have hb4 := bthen kB.out hbB kB.out.size
                go_wp2_with fail
                go_ret
                exact ⟨rfl, bthen hV hb4 hV.size⟩
            · have HR : Hid (b = rxB (ksL ps) fs cs) := Lib.hid (by
                by_cases hk : k = x + 1
                · rw [hx1 hk, HPK.out, pick_no (fun hh => hkh (by omega))]
                · exact (HX2.out (by omega)).2.2)
              have hd : decide (k ≤ hi) = false := by simp; omega
              clear hx1 HX2
              go_upto_region 17 with fail
              go_quiet (fail)
              go_wp2_with fail
              go_ret
              exact ⟨ri HR.out, bthen hV (hbq.trans (Qt.below (w := wr) ⟨_, rfl⟩ V.heap.size)) hV.size⟩
set_option maxHeartbeats 20000000 in
theorem sRxc_any (A B C : Option Addr) (n c m d l e : Nat) (x : Int) (fs : List Int) (ns : List Nd) (ps : List Pp) (w : World) (h : IsNet w A n c ns B m d ps) (hz : Ints w C l fs) (hl : l ≤ 1048576) :
    Calls Tryz.prog 21 #[.agg #[.slice A n c, .slice B m d], .slice C l e, .int .i64 x] w (RetI2 w (rxL ns ps n m fs x) (codeH ns ps n m fs x)) := by
  have bx0 := box_new w #[.slice A n c, .slice B m d] 33
  have hW0 : Below w.heap.size w (w.alloc (.cells #[.slice A n c, .slice B m d] 33)) := (Below.refl _ _).alloc (Nat.le_refl _) _
  by_cases hcc : codeH ns ps n m fs x = 0
  case neg =>
    obtain ⟨K, hK⟩ : ∃ y, codeH ns ps n m fs x = y := ⟨_, rfl⟩
    rw [hK] at hcc
    have HC := Lib.hid hK
    have HL := Lib.hid (rxL_bad hK hcc)
    have t1 : (K != 0) = true := by simpa using hcc
    clear hK hcc
    go_enter Tryz.func21, Tryz.ntmps21
    go_upto_region 1 with fail
    generalize (w.alloc (.cells #[.slice A n c, .slice B m d] 33)) = w0 at *
    have xl := bx0.lt
    have x0 : w0.cell? ⟨w.heap.size, 0, none⟩ = some (.slice A n c) := bx0.cell 0
    have x1 : w0.cell? ⟨w.heap.size, 1, none⟩ = some (.slice B m d) := bx0.cell 1
    go_wp2_with (go_at_call 58; refine (sCodeH_any _ _ _ _ _ _ _ _ _ x ns ps fs _ (h.below hW0) (hz.below hW0) hl).mono ?_; rw [HC.out]; rintro e1 w1 ⟨rfl, hb1⟩)
    go_ret2
    exact retI2_nil HL.out HC.out (bthen hW0 hb1 hW0.size)
  obtain ⟨hok, hfb, ci, rfl, hci, hct⟩ := codeH_zero hcc
  have hpl := h.pipes.len
  rw [hpl] at hci
  obtain ⟨hcl, hcv, hc1⟩ := cyc_okR hok h.nodes.len hpl hci hct
  have HC := Lib.hid hcc
  have HL := Lib.hid (rxL_ok hcc)
  have hm40 : m ≤ 40 := by have := hok.2.2.1; omega
  obtain rfl : m = l := by rw [← hz.len]; exact (flB_len hfb).symm
  have hfr := flB_r hfb
  have hfl := flB_len hfb
  have HFL := Lib.hid hfl
  have HBF := Lib.hid (show ∀ i, i < fs.length → -30000 ≤ fs.getD i 0 ∧ fs.getD i 0 ≤ 30000 from fun i hi => inR_at hfr hi)
  have HKS := Lib.hid (show ∀ i, i < fs.length → 1 ≤ (ksL ps).getD i 0 from fun i hi => (ksL_bd hok (by omega)).1)
  have HCT := Lib.hid hct
  obtain ⟨cs, hcs⟩ : ∃ y, cyc (esOf ps) n ci = y := ⟨_, rfl⟩
  rw [hcs] at hcl hcv HL hc1
  have HCS := Lib.hid hcs
  have HCV := Lib.hid hcv
  have HCL := Lib.hid hcl
  have HOK := Lib.hid hok
  have HFR := Lib.hid hfr
  have hlh := lohi_in (fs := fs) (cs := cs) (fun i hi => hcv i (by omega)) HBF.out
  have HIN := Lib.hid (show ∀ a, inR (addL fs cs a) = true ↔ loTo fs cs m ≤ a ∧ a ≤ hiTo fs cs m from fun a => by have := inR_iff (fs := fs) (cs := cs) (a := a) (j := ci) (fun i hi => hcv i (by omega)) HBF.out (by omega) (by rw [hc1]; decide); rwa [hfl] at this)
  have HE := Lib.hid (fun a => enA_cvx (ks := ksL ps) (fs := fs) (cs := cs) (j := ci) HKS.out (fun i hi => hcv i (by omega)) (by omega) (by rw [hc1]; decide) a)
  have hpk := pick_in (bstQ_least HE.out (show loTo fs cs fs.length ≤ hiTo fs cs fs.length by have := hlh fs.length (Nat.le_refl _); omega))
  obtain ⟨bq, hbq⟩ : ∃ y, rxB (ksL ps) fs cs = y := ⟨_, rfl⟩
  have hbd : -60000 ≤ bq ∧ bq ≤ 60000 := by
    have h1 := hlh fs.length (Nat.le_refl _)
    have h2 : bq = pick (enA (ksL ps) fs cs) (hiTo fs cs fs.length) (bstQ (enA (ksL ps) fs cs) (loTo fs cs fs.length) (hiTo fs cs fs.length)) := hbq.symm
    omega
  have HBQ := Lib.hid hbq
  have HLX := Lib.hid (show rxL ns ps n m fs ci = addL fs cs bq by rw [HL.out, hbq])
  have HXF := Lib.hid (show (addL fs cs bq).length = m by rw [addL_len]; exact hfl)
  have HBD := Lib.hid (show ∀ i, i < m → (-1000000 ≤ fs.getD i 0 ∧ fs.getD i 0 ≤ 1000000) ∧ -1000000 ≤ bq * cs.getD i 0 ∧ bq * cs.getD i 0 ≤ 1000000 by
    intro i hi
    have h1 := HBF.out i (by omega)
    refine ⟨by omega, ?_⟩
    rcases hcv i hi with e | e | e <;> rw [e] <;> omega)
  clear hok hfb hpl hcc hfr hfl hcs hcl hcv hc1 hct hlh hpk hbq hbd
  go_enter Tryz.func21, Tryz.ntmps21
  go_upto_region 1 with fail
  generalize (w.alloc (.cells #[.slice A n c, .slice B m d] 33)) = w0 at *
  have xl := bx0.lt
  have x0 : w0.cell? ⟨w.heap.size, 0, none⟩ = some (.slice A n c) := bx0.cell 0
  have x1 : w0.cell? ⟨w.heap.size, 1, none⟩ = some (.slice B m d) := bx0.cell 1
  go_upto_region 4 with (go_at_call 58; refine (sCodeH_any _ _ _ _ _ _ _ _ _ _ ns ps fs _ (h.below hW0) (hz.below hW0) hl).mono ?_; rw [HC.out]; rintro e1 w1 ⟨rfl, hb1⟩)
  have hW1 := bthen hW0 hb1 hW0.size
  have bx1 := bx0.belowA hb1
  clear x0 x1 xl bx0 hb1
  have xl := bx1.lt
  have x0 : w1.cell? ⟨w.heap.size, 0, none⟩ = some (.slice A n c) := bx1.cell 0
  have x1 : w1.cell? ⟨w.heap.size, 1, none⟩ = some (.slice B m d) := bx1.cell 1
  go_upto_region 5 with (go_at_call 59; refine (sCycle_any _ _ _ _ _ _ ci ns ps _ (h.below hW1) HOK.out hci HCT.out).mono ?_; rw [HCS.out]; rintro e2 w2 ⟨A2, c2, rfl, o2, hb2⟩; rw [HCL.out] at o2 ⊢)
  have hW2 := bthen hW1 hb2 hW1.size
  have bx2 := bx1.belowA hb2
  clear x0 x1 xl bx1 hb2
  have xl := bx2.lt
  have x0 : w2.cell? ⟨w.heap.size, 0, none⟩ = some (.slice A n c) := bx2.cell 0
  have x1 : w2.cell? ⟨w.heap.size, 1, none⟩ = some (.slice B m d) := bx2.cell 1
  go_wp2_with (first | (go_at_call 61; refine (sBest_any _ _ _ _ _ _ _ _ _ _ fs cs ns ps _ (h.below hW2) HOK.out (hz.below hW2) HFR.out o2.ints HCV.out HIN.out HE.out).mono ?_; rw [HBQ.out]; rintro e3 w3 ⟨rfl, hb3⟩) | (go_at_call 60; have hW3 := bthen hW2 hb3 hW2.size; refine (sAdd_any _ _ _ _ _ _ fs cs _ (hz.below hW3) (o2.ints.below hb3) (by omega) HBD.out).mono ?_; rintro e4 w4 ⟨A4, c4, rfl, o4, hb4⟩; rw [HXF.out] at o4 ⊢))
  go_ret2
  exact retI2_of HXF.out HLX.out HC.out (o4.mono hW3.size) (bthen hW3 hb4 hW3.size)
end Go.Proofs.YtpgegfnhokhlmaaGreat
