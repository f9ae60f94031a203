/- What forestOf, l04Forest, chordsOf, l05Chords, l02Has do, by walks over their text. Condition: a valid network. -/
import Derived.Test.YtoijogaogheciaaComp
import Derived.Test.YtoijogaogheciaaGat
import Derived.Test.YtoijogaogheciaaSlx
set_option linter.unusedVariables false
set_option maxRecDepth 100000
namespace Go.Proofs.Ytoijogaogheciaa
open Go.ChangeShapes Go.WideShapes Go.ChangeAt Go.RowKit Go.Joins Go.Deep
attribute [local go_sem ↓] Go.wp_at_zero Go.wp_at_succ

theorem comps_some {es : Es} {n r : Nat} (hg : Good es n) (hr : r < n) : ∃ x : Nat, (comps es n)[r]? = some (some x) ∧ x < n := by
  obtain ⟨x, h1, h2, _⟩ := comps_at hg hr
  exact ⟨x, h1, h2⟩
theorem root_eq {es : Es} {n r x : Nat} (h : (comps es n)[r]? = some (some x)) : isRoot es n r = decide (x = r) := by
  unfold isRoot
  rw [h]
  by_cases e : x = r
  · subst e; simp
  · simp [e]
theorem fst_len (es : Es) (n : Nat) : (fst es n).length ≤ es.length := fstTo_len es n es.length
theorem cN_app (l : List Nat) (i : Nat) : cN (l ++ [i]) = cN l ++ [(i : Int)] := by unfold cN; rw [List.map_append]; rfl
set_option maxHeartbeats 4000000 in
theorem forest_any (A B : Option Addr) (n c m d : Nat) (ns : List Nd) (ps : List Pp) (w : World) (h : IsNet w A n c ns B m d ps) (hok : NetOk ns ps) :
    Calls Try.prog 93 #[.agg #[.slice A n c, .slice B m d]] w (RetInts w (cN (fst (esOf ps) n))) := by
  have hln : ns.length = n := h.nodes.len
  have hn24 : n ≤ 24 := by have := hok.2.1; omega
  have hg : Good (esOf ps) n := by rw [← hln]; exact net_good hok
  have HG := Lib.hid hg
  have HOK := Lib.hid hok
  clear hln hok hg
  have bx := box_new w #[.slice A n c, .slice B m d] 45
  have hV : Below w.heap.size w (w.alloc (.cells #[.slice A n c, .slice B m d] 45)) := (Below.refl _ _).alloc (Nat.le_refl _) _
  have hsV : w.heap.size + 1 ≤ (w.alloc (.cells #[.slice A n c, .slice B m d] 45)).heap.size := by simp
  go_enter Try.func93, Try.ntmps93
  go_wp2_with (go_at_call 96; refine (comps_any _ _ _ _ _ _ ns ps _ (h.below hV) HOK.out).mono ?_; rintro e1 w1 ⟨A1, c1, rfl, o1, hb1⟩)
  have hW := bthen hV hb1 (by omega)
  have bx1 := bx.belowA hb1
  have hs1 := hb1.size
  have HCL := Lib.hid (show (encE (comps (esOf ps) n)).length = n by rw [encE_len, comps_len])
  rw [HCL.out] at o1 ⊢
  have hsw : w.heap.size + 1 ≤ w1.heap.size := by omega
  have o1' : Own w1 w.heap.size A1 n c1 (encE (comps (esOf ps) n)) := o1.mono (by omega)
  have HA1 := Lib.hid (fun g hg => (o1.lt g hg).2)
  clear hb1 bx hV o1
  go_loopw [3, 11] (fun ss ii wr => ∃ (r : Nat) (A2 : Option Addr) (m2 c2 : Nat), r ≤ n ∧ ii = .int .i64 r ∧ ss = .slice A2 m2 c2 ∧ m2 ≤ 24 * r ∧ Own wr w1.heap.size A2 m2 c2 (cN (gatTo (esOf ps) n r)) ∧ Own wr w.heap.size A1 n c1 (encE (comps (esOf ps) n)) ∧ Below w1.heap.size w1 wr) (fun _ ii _ => n - (intOf ii).toNat)
  case atStart => exact ⟨0, none, 0, 0, Nat.zero_le _, rfl, rfl, Nat.le_refl _, own_nil _ _, o1', Below.refl _ _⟩
  case round =>
    obtain ⟨r, A2, m2, c2, hr, rfl, rfl, hm2, hG, hC, hb⟩ := hrel
    have b1 := bx1.belowA hb
    have xl := b1.lt
    have x0 : wr.cell? ⟨w.heap.size, 0, none⟩ = some (.slice A n c) := b1.cell 0
    have x1 : wr.cell? ⟨w.heap.size, 1, none⟩ = some (.slice B m d) := b1.cell 1
    by_cases hlt : r < n
    · obtain ⟨x, hx, hxn⟩ := comps_some HG.out hlt
      obtain ⟨gc, z, rfl, _, hgc, hz, _, hcc, _⟩ := hC.at_ hlt
      rw [encE_at hx] at hz
      obtain rfl : z = (x : Int) := (Option.some.inj hz).symm
      have hroot := root_eq hx
      have i0 : (0 : Int) ≤ (r : Int) := by omega
      have i1 : (r : Int) < (n : Int) := by omega
      have hgc1 : gc < w1.heap.size := HA1.out gc rfl
      clear hz hx
      by_cases e : x = r
      · subst e
        have HR := Lib.hid (show isRoot (esOf ps) n x = true by rw [hroot]; simp)
        have t1 : ((x : Int) != (x : Int)) = false := by simp
        have kN : Kept (IsNet wr A n c ns B m d ps) := ⟨h.below (hW.trans (hb.mono (by omega)))⟩
        have kG : Kept (Own wr w1.heap.size A2 m2 c2 (cN (gatTo (esOf ps) n x))) := ⟨hG⟩
        have kC : Kept (Own wr w.heap.size (some ⟨gc, 0, none⟩) n c1 (encE (comps (esOf ps) n))) := ⟨hC⟩
        have kB : Kept (Below w1.heap.size w1 wr) := ⟨hb⟩
        have hsb := hb.size
        have hfl := fun (x y z : Value) W => run_fld2 x y z W
        obtain ⟨wo, rfl⟩ : ∃ wo : World, wo = wr := ⟨_, rfl⟩
        clear hroot hG hC hb b1
        go_wp2_with (go_at_call 117; refine (search_any _ _ _ _ _ _ x ns ps _ kN.out HOK.out hlt).mono ?_; rintro e4 wa ⟨A4, c4, b4, e5, ds4, rfl, _, _, _, o5, hba⟩)
        have HI := Lib.hid (bfs_done HG.out hlt).inv
        have hG2 := kG.out.below hba
        have hC2 := kC.out.below hba
        have hb2 := bthen kB.out hba (by omega)
        have hsa := hba.size
        rw [HI.out.len] at o5 ⊢
        have hap5 : ∀ g, A2.map (·.block) = some g → g ≠ e5 := fun g hg hh => by
          have h1 := (o5.lt e5 rfl).1
          have h2 := (kG.out.lt g hg).2
          omega
        clear kG kC kB kN hba xl x0 x1 hcc hfl t1
        go_loopw [3, 24] (fun ss ii wr => ∃ (j : Nat) (A2 : Option Addr) (m2 c2 : Nat), j ≤ n ∧ ii = .int .i64 j ∧ ss = .slice A2 m2 c2 ∧ m2 ≤ 24 * x + j ∧ Own wr w1.heap.size A2 m2 c2 (cN (gatTo (esOf ps) n x ++ gatP (esOf ps) n x j)) ∧ Own wr w.heap.size (some ⟨gc, 0, none⟩) n c1 (encE (comps (esOf ps) n)) ∧ Own wr wo.heap.size (some ⟨e5, 0, none⟩) n n (encE (bfs (esOf ps) n x).ent) ∧ Hid (∀ g, A2.map (·.block) = some g → g ≠ e5) ∧ Below w1.heap.size w1 wr) (fun _ ii _ => n - (intOf ii).toNat)
        case atStart => exact ⟨0, A2, m2, c2, Nat.zero_le _, rfl, rfl, by omega, by rw [gatP_zero, List.append_nil]; exact hG2, hC2, o5, hap5, hb2⟩
        case round =>
          clear hG2 hC2 o5 hb2 hap5
          obtain ⟨j, A2, m2, c2, hj, rfl, rfl, hm2, hG, hC, hE, HAP, hb⟩ := hrel
          by_cases hlj : j < n
          · obtain ⟨ge, z, hAe, _, hge, hz, _, hce, _⟩ := hE.at_ hlj
            obtain rfl := (by injection hAe with hAe; injection hAe : e5 = _)
            have hent : (bfs (esOf ps) n x).ent[j]? = some ((bfs (esOf ps) n x).ent.getD j none) := by
              rw [List.getD_eq_getElem?_getD, List.getElem?_eq_getElem (by rw [HI.out.len]; exact hlj)]; rfl
            rw [encE_at hent] at hz
            cases ho : (bfs (esOf ps) n x).ent.getD j none with
            | none =>
              rw [ho] at hz hent
              obtain rfl : z = -1 := (Option.some.inj hz).symm
              have HP := Lib.hid (gatP_none hent)
              clear hz ho hent hAe
              go_wp2_with fail
              go_roundw
              case rel => exact ⟨j + 1, A2, m2, c2, by omega, by go_num, rfl, by omega, by rw [HP.out]; exact hG, hC, hE, HAP, hb⟩
              case measure => simp [intOf]; omega
            | some i =>
              rw [ho] at hz hent
              obtain rfl : z = (i : Int) := (Option.some.inj hz).symm
              have HP := Lib.hid (gatP_some hent)
              have hil : i < 1000 := by
                have h1 := (inc_mem.1 (HI.out.ent1 _ _ hent).1).1
                rw [esOf_len] at h1
                have := HOK.out.2.2.1
                omega
              have hzi : (0 : Int) ≤ (i : Int) := by omega
              clear hz ho hent hAe
              go_wp2_with (at_builtin; refine wpList_pushA wr rfl _ _ rfl w1.heap.size _ _ _ _ (i : Int) wr.heap.size rfl rfl rfl hG (WalkArith.wf_i64 (by omega)) (by omega) hb.size ?_; intro gn cn wn hon hbn hgn hCn hat)
              have hszn := hgn.size
              go_roundw
              case rel =>
                refine ⟨j + 1, some ⟨gn, 0, none⟩, m2 + 1, cn, by omega, by go_num, rfl, by omega, ?_, ?_, ?_, ?_, hb.trans hbn⟩
                · rw [HP.out, ← List.append_assoc, cN_app]; exact hon
                · exact hC.grown hgn (fun g hg hh => by
                    have h1 := (hG.lt g hh).1
                    injection hg with hg; injection hg with hg
                    omega)
                · exact hE.grown hgn (fun g hg hh => by
                    have h1 := HAP.out g hh
                    injection hg with hg; injection hg with hg
                    exact h1 hg.symm)
                · intro g hg hh
                  have h2 : gn = g := by injection hg
                  rcases hat with hat | hat
                  · exact HAP.out gn hat (h2.trans hh)
                  · omega
              case measure => simp [intOf]; omega
          · obtain rfl : j = n := by omega
            have HR2 := Lib.hid (gat_root HR.out)
            go_wp2_with fail
            go_roundw
            case rel => exact ⟨x + 1, A2, m2, c2, by omega, by go_num, rfl, by omega, by rw [HR2.out]; exact hG, hC, hb⟩
            case measure => simp [intOf]; omega
      · have t1 : ((x : Int) != (r : Int)) = true := by simp; omega
        have HR := Lib.hid (gat_not (show isRoot (esOf ps) n r = false by rw [hroot]; simp [e]))
        clear hroot
        go_wp2_with fail
        go_roundw
        case rel => exact ⟨r + 1, A2, m2, c2, by omega, by go_num, rfl, by omega, by rw [HR.out]; exact hG, hC, hb⟩
        case measure => simp [intOf]; omega
    · obtain rfl : r = n := by omega
      have hlen := hG.len
      have HGL := Lib.hid hlen
      have HS := Lib.hid (gat_sort HG.out)
      clear hlen
      go_wp2_with (go_at_call 118; refine (sort_own hG (by omega)).mono ?_; rintro e4 wa ⟨rfl, hSo, hgs⟩)
      go_ret
      have e1 : (cN (gatTo (esOf ps) r r)).mergeSort (fun x y => decide (x ≤ y)) = cN (fst (esOf ps) r) := HS.out
      rw [e1] at hSo
      exact retInts_of hSo.len (hSo.mono (by omega)) (hW.trans ((hb.grown hgs (by have := hb.size; omega) (fun g hg => (hG.lt g hg).1)).mono (by omega)))
set_option maxHeartbeats 4000000 in
theorem sForest_any (A B : Option Addr) (n c m d : Nat) (ns : List Nd) (ps : List Pp) (w : World) (h : IsNet w A n c ns B m d ps) (hok : NetOk ns ps) :
    Calls Try.prog 116 #[.agg #[.slice A n c, .slice B m d]] w (RetInts w (cN (fst (esOf ps) n))) := by
  have hln : ns.length = n := h.nodes.len
  have hm : ps.length = m := h.pipes.len
  have hn24 : n ≤ 24 := by have := hok.2.1; omega
  have hm40 : m ≤ 40 := by have := hok.2.2.1; omega
  have hg : Good (esOf ps) n := by rw [← hln]; exact net_good hok
  have HG := Lib.hid hg
  have HM := Lib.hid hm
  have HOK := Lib.hid hok
  clear hln hok hg hm
  have hmk2 := fun W => run_mk (P := Try.prog) 125 4 (.bool false) 1 1 Try.underlying125 info_bool m (by omega) (by omega) W
  have bx := (box_new w #[.slice A n c, .slice B m d] 45).alloc (.cells (madeCells #[.bool false] m) 4)
  have hV : Below w.heap.size w ((w.alloc (.cells #[.slice A n c, .slice B m d] 45)).alloc (.cells (madeCells #[.bool false] m) 4)) := ((Below.refl _ _).alloc (Nat.le_refl _) _).alloc (by simp) _
  have hsV : w.heap.size + 2 ≤ ((w.alloc (.cells #[.slice A n c, .slice B m d] 45)).alloc (.cells (madeCells #[.bool false] m) 4)).heap.size := by simp
  have oS0 : OwnL ((w.alloc (.cells #[.slice A n c, .slice B m d] 45)).alloc (.cells (madeCells #[.bool false] m) 4)) (w.heap.size + 1) (w.heap.size + 1) m m (List.replicate m false) := by
    have h1 := own_made (enc := encBl) (k := 1) (e := 4) (z := #[.bool false]) (B := w.heap.size + 1) false rfl (by omega) rfl (w.alloc (.cells #[.slice A n c, .slice B m d] 45)) m (by unfold maxLen; omega) (by simp)
    rw [Nat.mul_one] at h1
    have e : (w.alloc (.cells #[.slice A n c, .slice B m d] 45)).heap.size = w.heap.size + 1 := by simp
    rw [e] at h1
    exact h1
  have e0 : List.replicate m false = seenL m (gatTo (esOf ps) n 0) := by
    apply List.ext_getElem?
    intro i
    by_cases hi : i < m <;> simp [seenL, gatTo, hi]
  rw [e0] at oS0
  clear e0
  go_enter Try.func116, Try.ntmps116
  go_wp2_with (go_at_call 127; refine (sComps_any _ _ _ _ _ _ ns ps _ (h.below hV) HOK.out).mono ?_; rintro e1 w1 ⟨A1, c1, rfl, o1, hb1⟩)
  have hW := bthen hV hb1 (by omega)
  have bx1 := bx.belowA hb1
  have oS1 := oS0.below hb1
  have hs1 := hb1.size
  have HCL := Lib.hid (show (encE (comps (esOf ps) n)).length = n by rw [encE_len, comps_len])
  rw [HCL.out] at o1 ⊢
  have hsw : w.heap.size + 2 ≤ w1.heap.size := by omega
  have o1' : Own w1 (w.heap.size + 2) A1 n c1 (encE (comps (esOf ps) n)) := o1.mono (by omega)
  clear hb1 bx hV o1 hmk2 oS0
  go_loopw [5] (fun ii wr => ∃ r : Nat, r ≤ n ∧ ii = .int .i64 r ∧ OwnL wr (w.heap.size + 1) (w.heap.size + 1) m m (seenL m (gatTo (esOf ps) n r)) ∧ Own wr (w.heap.size + 2) A1 n c1 (encE (comps (esOf ps) n)) ∧ Below (w.heap.size + 1) w1 wr) (fun ii _ => n - (intOf ii).toNat)
  case atStart => exact ⟨0, Nat.zero_le _, rfl, oS1, o1', Below.refl _ _⟩
  case round =>
    clear oS1 o1'
    obtain ⟨r, hr, rfl, hS, hC, hb⟩ := hrel
    have b1 := bx1.below hb (by omega)
    have xl := b1.lt
    have x0 : wr.cell? ⟨w.heap.size, 0, none⟩ = some (.slice A n c) := b1.cell 0
    have x1 : wr.cell? ⟨w.heap.size, 1, none⟩ = some (.slice B m d) := b1.cell 1
    by_cases hlt : r < n
    · obtain ⟨x, hx, hxn⟩ := comps_some HG.out hlt
      obtain ⟨gc, z, rfl, _, hgc, hz, _, hcc, _⟩ := hC.at_ hlt
      rw [encE_at hx] at hz
      obtain rfl : z = (x : Int) := (Option.some.inj hz).symm
      have hroot := root_eq hx
      have i0 : (0 : Int) ≤ (r : Int) := by omega
      have i1 : (r : Int) < (n : Int) := by omega
      clear hz hx
      by_cases e : x = r
      · subst e
        have HR := Lib.hid (show isRoot (esOf ps) n x = true by rw [hroot]; simp)
        have t1 : ((x : Int) != (x : Int)) = false := by simp
        have kN : Kept (IsNet wr A n c ns B m d ps) := ⟨h.below (hW.trans (hb.mono (by omega)))⟩
        have kS : Kept (OwnL wr (w.heap.size + 1) (w.heap.size + 1) m m (seenL m (gatTo (esOf ps) n x))) := ⟨hS⟩
        have kC : Kept (Own wr (w.heap.size + 2) (some ⟨gc, 0, none⟩) n c1 (encE (comps (esOf ps) n))) := ⟨hC⟩
        have kB : Kept (Below (w.heap.size + 1) w1 wr) := ⟨hb⟩
        have hsb := hb.size
        obtain ⟨wo, rfl⟩ : ∃ wo : World, wo = wr := ⟨_, rfl⟩
        clear hroot hS hC hb b1
        go_wp2_with (go_at_call 128; refine (sSearch_any _ _ _ _ _ _ x ns ps _ kN.out HOK.out hlt).mono ?_; rintro e4 wa ⟨A5, c5, A6, c6, rfl, o5, _, hba⟩)
        have HI := Lib.hid (bfs_done HG.out hlt).inv
        have hS2 := kS.out.below hba
        have hC2 := kC.out.below hba
        have hb2 := bthen kB.out hba (by omega)
        have hsa := hba.size
        rw [HI.out.len] at o5 ⊢
        have o5' : Own wa (w.heap.size + 2) A5 n c5 (encE (bfs (esOf ps) n x).ent) := o5.mono (by omega)
        clear kS kC kB kN hba xl x0 x1 hcc t1 o5
        go_loopw [8] (fun ii wr => ∃ j : Nat, j ≤ n ∧ ii = .int .i64 j ∧ OwnL wr (w.heap.size + 1) (w.heap.size + 1) m m (seenL m (gatTo (esOf ps) n x ++ gatP (esOf ps) n x j)) ∧ Own wr (w.heap.size + 2) (some ⟨gc, 0, none⟩) n c1 (encE (comps (esOf ps) n)) ∧ Own wr (w.heap.size + 2) A5 n c5 (encE (bfs (esOf ps) n x).ent) ∧ Below (w.heap.size + 1) w1 wr) (fun ii _ => n - (intOf ii).toNat)
        case atStart => exact ⟨0, Nat.zero_le _, rfl, by rw [gatP_zero, List.append_nil]; exact hS2, hC2, o5', hb2⟩
        case round =>
          clear hS2 hC2 o5' hb2
          obtain ⟨j, hj, rfl, hS, hC, hE, hb⟩ := hrel
          by_cases hlj : j < n
          · obtain ⟨ge, z, rfl, _, hge, hz, _, hce, _⟩ := hE.at_ hlj
            have hent : (bfs (esOf ps) n x).ent[j]? = some ((bfs (esOf ps) n x).ent.getD j none) := by
              rw [List.getD_eq_getElem?_getD, List.getElem?_eq_getElem (by rw [HI.out.len]; exact hlj)]; rfl
            rw [encE_at hent] at hz
            cases ho : (bfs (esOf ps) n x).ent.getD j none with
            | none =>
              rw [ho] at hz hent
              obtain rfl : z = -1 := (Option.some.inj hz).symm
              have HP := Lib.hid (gatP_none hent)
              clear hz ho hent
              go_wp2_with fail
              go_roundw
              case rel => exact ⟨j + 1, by omega, by go_num, by rw [HP.out]; exact hS, hC, hE, hb⟩
              case measure => simp [intOf]; omega
            | some i =>
              rw [ho] at hz hent
              obtain rfl : z = (i : Int) := (Option.some.inj hz).symm
              have HP := Lib.hid (gatP_some hent)
              have him : i < m := by
                have h1 := (inc_mem.1 (HI.out.ent1 _ _ hent).1).1
                rw [esOf_len, HM.out] at h1
                exact h1
              have hzi : (0 : Int) ≤ (i : Int) := by omega
              have hzm : (i : Int) < (m : Int) := by omega
              obtain ⟨bo, _, hcs, hfs, hgs⟩ := hS.at_ him
              obtain ⟨hS2, hgr⟩ := hS.set_ him true
              have hC2 := hC.grown2 hgr (by omega)
              have hE2 := hE.grown2 hgr (by omega)
              have hb2 := hb.setCell (p := ⟨w.heap.size + 1, i, none⟩) (Nat.le_refl _) (.bool true)
              clear hz ho hent hS hC hE hb hgr
              go_wp2_with fail
              go_roundw
              case rel => exact ⟨j + 1, by omega, by go_num, by rw [HP.out, ← List.append_assoc, seenL_add]; exact hS2, hC2, hE2, hb2⟩
              case measure => simp [intOf]; omega
          · obtain rfl : j = n := by omega
            have HR2 := Lib.hid (gat_root HR.out)
            go_wp2_with fail
            go_roundw
            case rel => exact ⟨x + 1, by omega, by go_num, by rw [HR2.out]; exact hS, hC, hb⟩
            case measure => simp [intOf]; omega
      · have t1 : ((x : Int) != (r : Int)) = true := by simp; omega
        have HR := Lib.hid (gat_not (show isRoot (esOf ps) n r = false by rw [hroot]; simp [e]))
        clear hroot
        go_wp2_with fail
        go_roundw
        case rel => exact ⟨r + 1, by omega, by go_num, by rw [HR.out]; exact hS, hC, hb⟩
        case measure => simp [intOf]; omega
    · obtain rfl : r = n := by omega
      have hbW := hW.trans (hb.mono (by omega))
      have hw1 := hb.size
      clear hb hC b1 x0 x1 xl
      go_wp2_with fail
      obtain ⟨wo, rfl⟩ : ∃ wo : World, wo = wr := ⟨_, rfl⟩
      have hS1 := hS.alloc (.cells #[] 2)
      go_loopw [9, 10] (fun ss ii wr => ∃ (k : Nat) (A2 : Option Addr) (m2 c2 : Nat), k ≤ m ∧ ii = .int .i64 k ∧ ss = .slice A2 m2 c2 ∧ m2 ≤ k ∧ Own wr wo.heap.size A2 m2 c2 (cN (fstTo (esOf ps) r k)) ∧ OwnL wr (w.heap.size + 1) (w.heap.size + 1) m m (seenL m (gatTo (esOf ps) r r)) ∧ Below wo.heap.size wo wr) (fun _ ii _ => m - (intOf ii).toNat)
      case atStart => exact ⟨0, _, 0, 0, Nat.zero_le _, rfl, rfl, Nat.le_refl _, own_empty _ _ (Nat.le_refl _), hS1, (Below.refl _ _).alloc (Nat.le_refl _) _⟩
      case round =>
        clear hS hS1
        obtain ⟨k, A2, m2, c2, hk, rfl, rfl, hm2, hO, hS, hb⟩ := hrel
        by_cases hlk : k < m
        · obtain ⟨bo, hbo, hcs, hfs, hgs⟩ := hS.at_ hlk
          rw [seenL_at _ hlk] at hbo
          have htr : decide (k ∈ gatTo (esOf ps) r r) = treeB (esOf ps) r k := by
            rw [Bool.eq_iff_iff, decide_eq_true_eq, gat_mem HG.out, treeB_iff]
          rw [htr] at hbo
          cases hB : treeB (esOf ps) r k with
          | false =>
            rw [hB] at hbo
            obtain rfl : bo = false := (Option.some.inj hbo).symm
            have HF := Lib.hid (fstTo_out hB)
            clear hbo htr hB
            go_wp2_with fail
            go_roundw
            case rel => exact ⟨k + 1, A2, m2, c2, by omega, by go_num, rfl, by omega, by rw [HF.out]; exact hO, hS, hb⟩
            case measure => simp [intOf]; omega
          | true =>
            rw [hB] at hbo
            obtain rfl : bo = true := (Option.some.inj hbo).symm
            have HF := Lib.hid (fstTo_in hB)
            clear hbo htr hB
            go_wp2_with (at_builtin; refine wpList_pushA wr rfl _ _ rfl wo.heap.size _ _ _ _ (k : Int) wr.heap.size rfl rfl rfl hO (WalkArith.wf_i64 (by omega)) (by omega) hb.size ?_; intro gn cn wn hon hbn hgn hCn hat)
            go_roundw
            case rel => exact ⟨k + 1, some ⟨gn, 0, none⟩, m2 + 1, cn, by omega, by go_num, rfl, by omega, by rw [HF.out, cN_app]; exact hon, hS.grown hgn (hO.ne (by omega)), hb.trans hbn⟩
            case measure => simp [intOf]; omega
        · obtain rfl : k = m := by omega
          have HE := Lib.hid (show fst (esOf ps) r = fstTo (esOf ps) r k by unfold fst fstTo; rw [esOf_len, HM.out])
          go_wp2_with fail
          go_ret
          rw [← HE.out] at hO
          exact retInts_of hO.len (hO.mono (by omega)) (hbW.trans (hb.mono (by omega)))
end Go.Proofs.Ytoijogaogheciaa
