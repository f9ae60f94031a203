/- What l12Small does; the verdict on a proof, by walks over its text. Condition: lists of at most 2^20 numbers. -/
import Derived.Test.YtpgegfnhokhlmabGreatSlEq
set_option linter.unusedVariables false
set_option maxRecDepth 100000
namespace Go.Proofs.YtpgegfnhokhlmabGreat
open Go.ChangeShapes Go.WideShapes Go.ChangeAt Go.RowKit Go.Joins Go.Deep
attribute [local go_sem ↓] Go.wp_at_zero Go.wp_at_succ

theorem slEqB_any (A B : Option Addr) (n m c d : Nat) (xs ys : List Int) (w : World) (ha : Ints w A n xs) (hb : Ints w B m ys) (hn : n ≤ 1048576) :
    Calls Tryz.prog 65 #[.slice A n c, .slice B m d] w fun e w' => e = .returned (.bool (decide (xs = ys))) ∧ Below w.heap.size w w' := by
  refine (slEq_any A B n m c d xs ys w ha hb hn).mono ?_
  rintro e w' ⟨rfl, hq⟩
  exact ⟨rfl, hq.below w.heap.size⟩
theorem l06SameB_any (A B : Option Addr) (n m c d : Nat) (xs ys : List Int) (w : World) (ha : Ints w A n xs) (hb : Ints w B m ys) (hn : n ≤ 1048576) :
    Calls Tryz.prog 98 #[.slice A n c, .slice B m d] w fun e w' => e = .returned (.bool (decide (xs = ys))) ∧ Below w.heap.size w w' := by
  refine (l06Same_any A B n m c d xs ys w ha hb hn).mono ?_
  rintro e w' ⟨rfl, hq⟩
  exact ⟨rfl, hq.below w.heap.size⟩
/-- The residual of a cycle is within its bound. -/
def smB (ks fs cs : List Int) : Bool := decide (3 * ab (resL ks fs cs) ≤ bndL ks fs cs)
def smAll (ks fs : List Int) (css : List (List Int)) : Bool := css.all (smB ks fs)
theorem all_no2 {α : Type} {p : α → Bool} {l : List α} {k : Nat} {x : α} (h : l[k]? = some x) (hp : p x = false) : l.all p = false := by
  rw [List.all_eq_false]
  obtain ⟨hk, rfl⟩ := List.getElem?_eq_some_iff.1 h
  exact ⟨_, List.getElem_mem hk, by rw [hp]; decide⟩
theorem all_next {α : Type} {p : α → Bool} {l : List α} {k : Nat} {x : α} (h : l[k]? = some x) (ha : (l.take k).all p = true) (hp : p x = true) : (l.take (k + 1)).all p = true := by
  rw [List.take_add_one, h, List.all_append, ha]
  simp [hp]
section
variable (ns : List Nd) (ps : List Pp) (n m : Nat) (zs fs ls : List Int)
/-- What is wrong with a proof: 1 the flows, 2 the levels, 3 a cycle, 0 nothing. -/
noncomputable def ckV : Int :=
  if codeC ns ps n zs = 0 then
    if flB m fs = true then
      if outF (esOf ps) n fs = zs then
        if lvB n ls = true then
          if lvR (esOf ps) (ksL ps) n fs (ls.getD 0 0) = ls then
            if smAll (ksL ps) fs (cssL (esOf ps) n) = true then 0 else 3
          else 2
        else 2
      else 1
    else 1
  else 0
end
section
variable {ns : List Nd} {ps : List Pp} {n m : Nat} {zs fs ls : List Int}
theorem ck_code (h : codeC ns ps n zs ≠ 0) : ckV ns ps n m zs fs ls = 0 := by unfold ckV; rw [if_neg h]
theorem ck_1 (h : codeC ns ps n zs = 0) (h1 : flB m fs = false) : ckV ns ps n m zs fs ls = 1 := by unfold ckV; rw [if_pos h, if_neg (by rw [h1]; decide)]
theorem ck_2 (h : codeC ns ps n zs = 0) (h1 : flB m fs = true) (h2 : ¬ outF (esOf ps) n fs = zs) : ckV ns ps n m zs fs ls = 1 := by unfold ckV; rw [if_pos h, if_pos h1, if_neg h2]
theorem ck_3 (h : codeC ns ps n zs = 0) (h1 : flB m fs = true) (h2 : outF (esOf ps) n fs = zs) (h3 : lvB n ls = false) : ckV ns ps n m zs fs ls = 2 := by unfold ckV; rw [if_pos h, if_pos h1, if_pos h2, if_neg (by rw [h3]; decide)]
theorem ck_4 (h : codeC ns ps n zs = 0) (h1 : flB m fs = true) (h2 : outF (esOf ps) n fs = zs) (h3 : lvB n ls = true) (h4 : ¬ lvR (esOf ps) (ksL ps) n fs (ls.getD 0 0) = ls) : ckV ns ps n m zs fs ls = 2 := by unfold ckV; rw [if_pos h, if_pos h1, if_pos h2, if_pos h3, if_neg h4]
theorem ck_5 (h : codeC ns ps n zs = 0) (h1 : flB m fs = true) (h2 : outF (esOf ps) n fs = zs) (h3 : lvB n ls = true) (h4 : lvR (esOf ps) (ksL ps) n fs (ls.getD 0 0) = ls) : ckV ns ps n m zs fs ls = if smAll (ksL ps) fs (cssL (esOf ps) n) = true then 0 else 3 := by unfold ckV; rw [if_pos h, if_pos h1, if_pos h2, if_pos h3, if_pos h4]
theorem lvB_at {i : Nat} (h : lvB n ls = true) (hi : i < n) : -1000000000000000000 ≤ ls.getD i 0 ∧ ls.getD i 0 ≤ 1000000000000000000 := all_at (lvB_all h) (getD_some (lvB_len h) hi)
theorem flB_inR2 (h : flB m fs = true) : inR fs = true := flB_all h
end
set_option maxHeartbeats 8000000 in
theorem sSmall_any (A B C : Option Addr) (n c m d e1 : Nat) (fs : List Int) (ns : List Nd) (ps : List Pp) (w : World) (h : IsNet w A n c ns B m d ps) (hok : NetOk ns ps) (hf : Ints w C m fs) (hfr : inR fs = true) :
    Calls Tryz.prog 100 #[.agg #[.slice A n c, .slice B m d], .slice C m e1] w fun e w' => e = .returned (.bool (smAll (ksL ps) fs (cssL (esOf ps) n))) ∧ Below w.heap.size w w' := by
  have hln : ns.length = n := h.nodes.len
  have hpl : ps.length = m := h.pipes.len
  have hm40 : m ≤ 40 := by have := hok.2.2.1; omega
  have hgd : Good (esOf ps) n := by rw [← hln]; exact net_good hok
  have HCV := Lib.hid (cssL_v hgd (show (esOf ps).length = m by rw [esOf_len]; exact hpl))
  have HCL := Lib.hid (show (chd (esOf ps) n).length ≤ 40 by have := chd_len (esOf ps) n; rw [esOf_len] at this; omega)
  have HOK := Lib.hid hok
  have HFR := Lib.hid hfr
  have bx := box_new w #[.slice A n c, .slice B m d] 33
  have hV : Below w.heap.size w (w.alloc (.cells #[.slice A n c, .slice B m d] 33)) := (Below.refl _ _).alloc (Nat.le_refl _) _
  obtain ⟨css, hcss⟩ : ∃ y, cssL (esOf ps) n = y := ⟨_, rfl⟩
  rw [hcss] at HCV ⊢
  have HCSS := Lib.hid hcss
  clear hok hfr hgd hcss
  go_enter Tryz.func100, Tryz.ntmps100
  go_upto_region 1 with fail
  generalize (w.alloc (.cells #[.slice A n c, .slice B m d] 33)) = V at *
  have xl := bx.lt
  have x0 : V.cell? ⟨w.heap.size, 0, none⟩ = some (.slice A n c) := bx.cell 0
  have x1 : V.cell? ⟨w.heap.size, 1, none⟩ = some (.slice B m d) := bx.cell 1
  go_upto_region 2 with (go_at_call 116; refine (sBasis_any _ _ _ _ _ _ ns ps _ (h.below hV) HOK.out).mono ?_; rintro e1 w1 ⟨A1, c1, rfl, hC, hb1⟩)
  have hW1 := bthen hV hb1 hV.size
  have bx1 := bx.belowA hb1
  have hN1 := h.below hW1
  have hF1 := hf.below hW1
  rw [HCSS.out] at hC
  generalize hL : (chd (esOf ps) n).length = L at *
  have hL40 : L ≤ 40 := HCL.out
  have HLL := Lib.hid hC.len
  clear hL x0 x1 xl bx hb1 hV
  go_upto_region 3 with fail
  go_loopw [6] (fun ii wr => ∃ (k : Nat), k ≤ L ∧ ii = .int .i64 (k : Int) ∧ Hid ((css.take k).all (smB (ksL ps) fs) = true) ∧ Below w1.heap.size w1 wr) (fun ii _ => L - (intOf ii).toNat)
  case atStart => exact ⟨0, Nat.zero_le _, rfl, rfl, Below.refl _ _⟩
  case round =>
    obtain ⟨k, hk, rfl, HP, hb⟩ := hrel
    by_cases hlt : k < L
    · obtain ⟨g, Ac, cc, cs, rfl, _, hgl, hcs, hcell, hown⟩ := (hC.below hb).at_ hlt
      have hcv := HCV.out cs (List.mem_of_getElem? hcs)
      have HCSV := Lib.hid hcv
      have HCK := Lib.hid hcs
      obtain ⟨r, hr⟩ : ∃ y, resL (ksL ps) fs cs = y := ⟨_, rfl⟩
      obtain ⟨q, hq⟩ : ∃ y, bndL (ksL ps) fs cs = y := ⟨_, rfl⟩
      have HR := Lib.hid hr
      have HQ := Lib.hid hq
      have hrb : -36000000000000 ≤ r ∧ r ≤ 36000000000000 := by
        have h3 := resTo_bd (ks := ksL ps) (fs := fs) (cs := cs) (m := m) (fun i hi => ksL_bd HOK.out (by omega)) (fun i hi => inR_at HFR.out (by rw [hf.len]; exact hi)) hcv m (Nat.le_refl _)
        have h4 : resTo (ksL ps) fs cs m = r := by rw [← hr, ← res_all, hf.len]
        rw [h4] at h3
        omega
      have hr1 := hrb.1
      have hr2 := hrb.2
      have HA := Lib.hid (show smB (ksL ps) fs cs = decide (3 * ab r ≤ q) by unfold smB; rw [hr, hq])
      have hab : 0 ≤ ab r ∧ ab r ≤ 36000000000000 := by unfold ab; omega
      have s1 : IntKind.i64.wrap (3 * ab r) = 3 * ab r := IntWalk.i64_in _ (by omega)
      have bw := bx1.belowA hb
      have xl := bw.lt
      have x0 : wr.cell? ⟨w.heap.size, 0, none⟩ = some (.slice A n c) := bw.cell 0
      have x1 : wr.cell? ⟨w.heap.size, 1, none⟩ = some (.slice B m d) := bw.cell 1
      have kN : Kept (IsNet wr A n c ns B m d ps) := ⟨hN1.below hb⟩
      have kF : Kept (Ints wr C m fs) := ⟨hF1.below hb⟩
      have kC : Kept (Ints wr Ac m cs) := ⟨hown.ints⟩
      have kh : Kept (Below w1.heap.size w1 wr) := ⟨hb⟩
      have kU : Kept (Below wr.heap.size wr wr.drew) := ⟨(Below.refl _ _).drew⟩
      have k0 : (0 : Int) ≤ (k : Int) := by omega
      have k1 : (k : Int) < (L : Int) := by omega
      obtain ⟨wi, rfl⟩ : ∃ wi : World, wi = wr := ⟨_, rfl⟩
      clear hb bw hr hq hrb hcs hcv hown
      by_cases hgt : q < 3 * ab r
      · have HSM := Lib.hid (show smB (ksL ps) fs cs = false by rw [HA.out]; exact decide_eq_false (by omega))
        have HK3 := Lib.hid (show smAll (ksL ps) fs css = false from all_no2 HCK.out HSM.out)
        clear hab
        go_upto_region 5 with fail
        go_region_held3 (fun w' => w.heap.size < w'.heap.size ∧ g < w'.heap.size ∧ w'.cell? ⟨w.heap.size, 0, none⟩ = some (.slice A n c) ∧ w'.cell? ⟨w.heap.size, 1, none⟩ = some (.slice B m d) ∧ w'.cell? ⟨g, k, none⟩ = some (.slice Ac m cc) ∧ Kept (Below wi.heap.size wi w'))
          (first | (go_split_ands; refine ⟨by have := hbb.size; omega, by have := hbb.size; omega, ?_, ?_, ?_, ⟨bthen (Kept.out ‹Kept (Below wi.heap.size _ _)›) hbb (Kept.out ‹Kept (Below wi.heap.size _ _)›).size⟩⟩ <;> (rw [hbb.cell (by simp; omega)]; assumption)) | go_keep)
          (first | (go_at_call 142; go_split_ands; refine (sRes_any _ _ _ _ _ _ _ _ _ _ fs cs ns ps _ (kN.out.below (Kept.out ‹Kept (Below wi.heap.size _ _)›)) HOK.out (kF.out.below (Kept.out ‹Kept (Below wi.heap.size _ _)›)) HFR.out (kC.out.below (Kept.out ‹Kept (Below wi.heap.size _ _)›)) HCSV.out).mono ?_; rw [HR.out]; rintro e5 wb ⟨rfl, hbb⟩) | (go_at_call 141; refine (sAbs_any _ _ (by omega) (by omega)).mono ?_; rintro e5 wb ⟨rfl, rfl⟩) | (go_at_call 143; go_split_ands; refine (sBnd_any _ _ _ _ _ _ _ _ _ _ fs cs ns ps _ (kN.out.below (Kept.out ‹Kept (Below wi.heap.size _ _)›)) HOK.out (kF.out.below (Kept.out ‹Kept (Below wi.heap.size _ _)›)) HFR.out (kC.out.below (Kept.out ‹Kept (Below wi.heap.size _ _)›)) HCSV.out).mono ?_; rw [HQ.out]; rintro e6 wb ⟨rfl, hbb⟩))
        rename_i hh
        obtain ⟨_, _, _, _, _, ⟨hbB⟩⟩ := hh
        have hbN := bthen kh.out hbB kh.out.size
        clear kh kU kN kF kC
        go_wp2_with fail
        go_ret
        exact ⟨rb HK3.out.symm, hW1.trans (hbN.mono hW1.size)⟩
      · have HSM := Lib.hid (show smB (ksL ps) fs cs = true by rw [HA.out]; exact decide_eq_true (by omega))
        have HN := Lib.hid (all_next HCK.out HP.out HSM.out)
        clear hab
        go_upto_region 5 with fail
        go_region_held3 (fun w' => w.heap.size < w'.heap.size ∧ g < w'.heap.size ∧ w'.cell? ⟨w.heap.size, 0, none⟩ = some (.slice A n c) ∧ w'.cell? ⟨w.heap.size, 1, none⟩ = some (.slice B m d) ∧ w'.cell? ⟨g, k, none⟩ = some (.slice Ac m cc) ∧ Kept (Below wi.heap.size wi w'))
          (first | (go_split_ands; refine ⟨by have := hbb.size; omega, by have := hbb.size; omega, ?_, ?_, ?_, ⟨bthen (Kept.out ‹Kept (Below wi.heap.size _ _)›) hbb (Kept.out ‹Kept (Below wi.heap.size _ _)›).size⟩⟩ <;> (rw [hbb.cell (by simp; omega)]; assumption)) | go_keep)
          (first | (go_at_call 142; go_split_ands; refine (sRes_any _ _ _ _ _ _ _ _ _ _ fs cs ns ps _ (kN.out.below (Kept.out ‹Kept (Below wi.heap.size _ _)›)) HOK.out (kF.out.below (Kept.out ‹Kept (Below wi.heap.size _ _)›)) HFR.out (kC.out.below (Kept.out ‹Kept (Below wi.heap.size _ _)›)) HCSV.out).mono ?_; rw [HR.out]; rintro e5 wb ⟨rfl, hbb⟩) | (go_at_call 141; refine (sAbs_any _ _ (by omega) (by omega)).mono ?_; rintro e5 wb ⟨rfl, rfl⟩) | (go_at_call 143; go_split_ands; refine (sBnd_any _ _ _ _ _ _ _ _ _ _ fs cs ns ps _ (kN.out.below (Kept.out ‹Kept (Below wi.heap.size _ _)›)) HOK.out (kF.out.below (Kept.out ‹Kept (Below wi.heap.size _ _)›)) HFR.out (kC.out.below (Kept.out ‹Kept (Below wi.heap.size _ _)›)) HCSV.out).mono ?_; rw [HQ.out]; rintro e6 wb ⟨rfl, hbb⟩))
        rename_i hh
        obtain ⟨_, _, _, _, _, ⟨hbB⟩⟩ := hh
        have hbN := bthen kh.out hbB kh.out.size
        clear kh kU kN kF kC
        go_wp2_with fail
        go_roundw
        case rel => exact ⟨k + 1, by omega, by go_num, HN, hbN⟩
        case measure => simp [intOf]; omega
    · obtain rfl : k = L := by omega
      have HSA := Lib.hid (show smAll (ksL ps) fs css = true by
        have h1 := HP.out
        rwa [List.take_of_length_le (by rw [HLL.out]; exact Nat.le_refl _)] at h1)
      go_wp2_with fail
      go_ret
      exact ⟨rb HSA.out.symm, hW1.trans (hb.mono hW1.size)⟩
end Go.Proofs.YtpgegfnhokhlmabGreat
