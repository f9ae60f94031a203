/- What l07Levels does at the root 0, by a walk over its text. Conditions: a valid and connected network, flows in range, a level of at most 4 * 10^18. -/
import Derived.Test.YtpgegfnhokhlmaaGreatLvI
set_option linter.unusedVariables false
set_option maxRecDepth 100000
namespace Go.Proofs.YtpgegfnhokhlmaaGreat
open Go.ChangeShapes Go.WideShapes Go.ChangeAt Go.RowKit Go.Joins Go.Deep
attribute [local go_sem ↓] Go.wp_at_zero Go.wp_at_succ

set_option maxHeartbeats 20000000 in
theorem sLvs_any (A B C : Option Addr) (n c m d e1 : Nat) (x : Int) (fs : List Int) (ns : List Nd) (ps : List Pp) (w : World) (h : IsNet w A n c ns B m d ps) (hok : NetOk ns ps) (hcn : Conn (esOf ps) n) (hf : Ints w C m fs) (hfr : inR fs = true) (hx : -4000000000000000000 ≤ x ∧ x ≤ 4000000000000000000) :
    Calls Tryz.prog 85 #[.agg #[.slice A n c, .slice B m d], .slice C m e1, .int .i64 0, .int .i64 x] w (RetInts w (lvR (esOf ps) (ksL ps) n fs x)) := by
  have hln : ns.length = n := h.nodes.len
  have hm : ps.length = m := h.pipes.len
  have hn24 : n ≤ 24 := by have := hok.2.1; omega
  have hn1 : 0 < n := by have := hok.1; omega
  have hm40 : m ≤ 40 := by have := hok.2.2.1; omega
  have hg : Good (esOf ps) n := by rw [← hln]; exact net_good hok
  have hg' := tes_good hg
  have hfl0 := hf.len
  have HDB0 := dF_bd hok (show fs.length = ps.length by omega) hfr
  have HDB : ∀ i, i < (tes (esOf ps) n).length → ((fun j => dF (ksL ps) fs ((fst (esOf ps) n).getD j 0)) i).natAbs ≤ 900000000000 := by
    intro i hi
    obtain ⟨j, hj⟩ := fst_get hi
    have hjt := (fst_mem hg).1 (List.mem_of_getElem? hj)
    have e : (fst (esOf ps) n).getD i 0 = j := by simp [List.getD, hj]
    show (dF (ksL ps) fs ((fst (esOf ps) n).getD i 0)).natAbs ≤ _
    rw [e]
    exact HDB0 j (tree_lt hg hjt)
  have HI := Lib.hid (bfs_done (s := 0) hg' hn1).inv
  have hLn : (bfs (tes (esOf ps) n) n 0).ord.length ≤ n := nodup_len HI.out.nd HI.out.lt
  have hL1 : 1 ≤ (bfs (tes (esOf ps) n) n 0).ord.length := by have := (List.getElem?_eq_some_iff.1 HI.out.hd).1; omega
  have HBD := Lib.hid (show ∀ k, k + 1 ≤ (bfs (tes (esOf ps) n) n 0).ord.length → ∀ v, v < n → ((lvTo (tes (esOf ps) n) (bfs (tes (esOf ps) n) n 0) (fun j => dF (ksL ps) fs ((fst (esOf ps) n).getD j 0)) ((List.replicate n 0).set 0 x) (k)).getD v 0).natAbs ≤ 4000000000000000000 + 24 * 900000000000 by
    intro k hk v hv
    have h1 := lvTo_bd (d := (fun j => dF (ksL ps) fs ((fst (esOf ps) n).getD j 0))) (lv := ((List.replicate n 0).set 0 x)) (M := 4000000000000000000) hg' HI.out (by simp) HDB (fun v hv => by
      rw [getD_set (by simpa using hn1)]
      split
      · omega
      · simp [List.getD, hv]) k hk v hv
    have h2 : k * 900000000000 ≤ 24 * 900000000000 := Nat.mul_le_mul_right _ (by omega)
    exact Nat.le_trans h1 (Nat.add_le_add_left h2 _))
  have HRES := Lib.hid (lvR_tes (ks := ksL ps) (fs := fs) (x := x) hg hcn hn1)
  have HM := Lib.hid hm
  have HOK := Lib.hid hok
  have HFR := Lib.hid hfr
  have HFL := Lib.hid hfl0
  have HG := Lib.hid hg
  have HTE := Lib.hid (tree_es ps n)
  have HTOK := Lib.hid (trP_ok (l := fst (esOf ps) n) hok fst_lt' fst_len')
  have x1 := hx.1
  have x2 := hx.2
  clear hln hok hfr hfl0 HDB HDB0 hx hm hg hg' hcn
  have bx := box_new w #[.slice A n c, .slice B m d] 33
  have hV : Below w.heap.size w (w.alloc (.cells #[.slice A n c, .slice B m d] 33)) := (Below.refl _ _).alloc (Nat.le_refl _) _
  go_enter Tryz.func85, Tryz.ntmps85
  go_upto_region 1 with fail
  generalize (w.alloc (.cells #[.slice A n c, .slice B m d] 33)) = V at *
  have xl := bx.lt
  have x0' : V.cell? ⟨w.heap.size, 0, none⟩ = some (.slice A n c) := bx.cell 0
  have x1' : V.cell? ⟨w.heap.size, 1, none⟩ = some (.slice B m d) := bx.cell 1
  go_upto_region 2 with (go_at_call 118; refine (sTree_any _ _ _ _ _ _ ns ps _ (h.below hV) HOK.out).mono ?_; rintro e3 w3 ⟨B', d', A5, c5, rfl, hT, o5, oP, hb3⟩)
  have HFL2 := Lib.hid (show (fst (esOf ps) n).length ≤ 40 by have := fst_len' (ps := ps) (n := n); rw [HM.out] at this; omega)
  have HFT := Lib.hid (show ∀ i ∈ fst (esOf ps) n, i < m by intro i hi; have := fst_lt' i hi; rw [HM.out] at this; exact this)
  generalize hT0 : (fst (esOf ps) n).length = T at *
  have HT0 := Lib.hid hT0
  have hT40 : T ≤ 40 := HFL2.out
  have hW3 := (bthen hV hb3 hV.size).alloc (by have := hV.size; have := hb3.size; omega) (.cells #[.slice A n c, .slice B' T d'] 33)
  have bx3 := (bx.belowA hb3).alloc (.cells #[.slice A n c, .slice B' T d'] 33)
  have bT3 := box_new w3 #[.slice A n c, .slice B' T d'] 33
  have hT3 := hT.alloc (.cells #[.slice A n c, .slice B' T d'] 33)
  have o53 := o5.alloc (.cells #[.slice A n c, .slice B' T d'] 33)
  have hs3 := hb3.size
  obtain ⟨GT, hGT⟩ : ∃ y, w3.heap.size = y := ⟨_, rfl⟩
  have hsA : GT < (w3.alloc (.cells #[.slice A n c, .slice B' T d'] 33)).heap.size := by simp; omega
  rw [hGT] at bT3
  generalize (w3.alloc (.cells #[.slice A n c, .slice B' T d'] 33)) = W3 at *
  clear hT0 hT o5 oP bx hb3 x0' x1' xl hV
  rw [hGT]
  have y0 : W3.cell? ⟨GT, 0, none⟩ = some (.slice A n c) := bT3.cell 0
  have y1 : W3.cell? ⟨GT, 1, none⟩ = some (.slice B' T d') := bT3.cell 1
  go_upto_region 3 with (go_at_call 133; refine (sSearch_any _ _ _ _ _ _ 0 ns (trP ps (fst (esOf ps) n)) _ hT3 HTOK.out hn1).mono ?_; rw [HTE.out]; rintro e4 wa ⟨AE, cE, AO, cO, rfl, oE, oO, hba⟩)
  rw [HI.out.len] at oE ⊢
  obtain ⟨L, hLL⟩ : ∃ y, (bfs (tes (esOf ps) n) n 0).ord.length = y := ⟨_, rfl⟩
  have HLL := Lib.hid hLL
  rw [hLL] at oO hLn hL1 ⊢
  have hWa := bthen hW3 hba hW3.size
  have bxa := bx3.belowA hba
  have bTa := bT3.belowA hba
  have hTa := hT3.below hba
  have o5a := o53.below hba
  have hsa := hba.size
  clear hLL hba bx3 bT3 hT3 o53 y0 y1 hW3
  have hmk := fun W => run_make_row' (P := Tryz.prog) 26 2 (.int .i64 0) 8 Tryz.underlying26 info_i64 rfl .i64 .i64 n (by omega) (by omega) W
  have xl := bxa.lt
  have x0' : wa.cell? ⟨w.heap.size, 0, none⟩ = some (.slice A n c) := bxa.cell 0
  have x1' : wa.cell? ⟨w.heap.size, 1, none⟩ = some (.slice B m d) := bxa.cell 1
  have oZ := own_zeros wa n (by omega)
  obtain ⟨GO, hGO⟩ : ∃ y, wa.heap.size = y := ⟨_, rfl⟩
  have hBz : Below wa.heap.size wa (wa.alloc (.cells (madeCells #[.int .i64 0] n) 2)) := (Below.refl _ _).alloc (Nat.le_refl _) _
  rw [hGO] at oZ hBz
  go_upto_region 4 with fail
  try rw [hGO]
  generalize (wa.alloc (.cells (madeCells #[.int .i64 0] n) 2)) = Wz at *
  clear hmk
  have hz9 := oZ.atD hn1
  have z1 := hz9.1
  have z2 := hz9.2.1
  have z3 := hz9.2.2.2
  have hn0 : (0 : Int) < (n : Int) := by omega
  have hO0 := (oZ.set1 0 (z := x) (WalkArith.wf_i64 (by omega))).1
  have hB0 := hBz.setCell (p := ⟨GO, 0, none⟩) (by simp) (.int .i64 x)
  have HLV0 := Lib.hid (show (lvTo (tes (esOf ps) n) (bfs (tes (esOf ps) n) n 0) (fun j => dF (ksL ps) fs ((fst (esOf ps) n).getD j 0)) ((List.replicate n 0).set 0 x) (1 - 1)) = ((List.replicate n 0).set 0 x) from rfl)
  clear hz9 oZ hBz
  go_wp2_with fail
  go_loopw [14] (fun kk wr => ∃ (k : Nat), 1 ≤ k ∧ k ≤ L ∧ kk = .int .i64 (k : Int) ∧ Own wr GO (some ⟨GO, 0, none⟩) n n (lvTo (tes (esOf ps) n) (bfs (tes (esOf ps) n) n 0) (fun j => dF (ksL ps) fs ((fst (esOf ps) n).getD j 0)) ((List.replicate n 0).set 0 x) (k - 1)) ∧ Below GO wa wr) (fun kk _ => L - (intOf kk).toNat)
  case atStart => exact ⟨1, Nat.le_refl _, hL1, rfl, by rw [HLV0.out]; exact hO0, hB0⟩
  case round =>
    clear hO0 hB0 z1 z2 z3 x0' x1' xl
    obtain ⟨k, hk1, hk, rfl, hO, hB⟩ := hrel
    have hBA : Below wa.heap.size wa wr := by rw [hGO]; exact hB
    by_cases hkl : k < L
    · obtain ⟨v, hv⟩ : ∃ v, (bfs (tes (esOf ps) n) n 0).ord[k - 1 + 1]? = some v := ⟨_, List.getElem?_eq_getElem (by rw [HLL.out]; omega)⟩
      have hvO := List.mem_of_getElem? hv
      have hvn := HI.out.lt v hvO
      have hv0 : v ≠ 0 := by
        intro e
        rw [e] at hv
        have := pos_inj HI.out.nd hv HI.out.hd
        omega
      obtain ⟨q, hq⟩ := HI.out.ent2 v hvO hv0
      obtain ⟨hinc, p', q', hp', hq', hpq'⟩ := HI.out.ent1 v q hq
      have hun := HI.out.lt _ (List.mem_of_getElem? hp')
      have hqT : q < T := by have := (inc_mem.1 hinc).1; rw [tes_len, HT0.out] at this; exact this
      obtain ⟨i, hi⟩ : ∃ i, (fst (esOf ps) n)[q]? = some i := ⟨_, List.getElem?_eq_getElem (by rw [HT0.out]; exact hqT)⟩
      have him := HFT.out i (List.mem_of_getElem? hi)
      have hEr := oE.below hBA
      have hOr := oO.below hBA
      have h5r := o5a.below hBA
      have hTr := hTa.below hBA
      obtain ⟨gE, rfl, _, _⟩ := hEr.form (by omega)
      obtain ⟨gO, rfl, _, _⟩ := hOr.form (by omega)
      obtain ⟨g5, rfl, _, _⟩ := h5r.form (by omega)
      have ce := (hEr.atD hvn).1
      rw [show (encE (bfs (tes (esOf ps) n) n 0).ent).getD v 0 = (q : Int) by rw [List.getD_eq_getElem?_getD, encE_at hq]; rfl] at ce
      have co := (hOr.atD hkl).1
      rw [show (cN (bfs (tes (esOf ps) n) n 0).ord).getD k 0 = (v : Int) by rw [List.getD_eq_getElem?_getD, cN_at (by rw [← hv]; congr 1; omega)]; rfl] at co
      have c5' := (h5r.atD hqT).1
      rw [show (cN (fst (esOf ps) n)).getD q 0 = (i : Int) by rw [List.getD_eq_getElem?_getD, cN_at hi]; rfl] at c5'
      have hEl := (hEr.lt gE rfl).2
      have hOl := (hOr.lt gO rfl).2
      have h5l := (h5r.lt g5 rfl).2
      obtain ⟨bp, op, p, rfl, hpw, hpp, _, q0, q1, q2, q3, q4⟩ := h.pipes.at_ him
      have hpk2 := (pipe_ok HOK.out hpp).2.2.2.2.2.1
      have HDR := Lib.hid (show (fun j => dF (ksL ps) fs ((fst (esOf ps) n).getD j 0)) q = drp p.k (fs.getD i 0) by
        show dF (ksL ps) fs ((fst (esOf ps) n).getD q 0) = _
        rw [show (fst (esOf ps) n).getD q 0 = i by simp [List.getD, hi]]
        unfold dF
        rw [ksL_at hpp])
      obtain ⟨bf, of, rfl, hfw, cf0⟩ := hf.atD him
      have hfk := inR_at HFR.out (i := i) (by rw [HFL.out]; exact him)
      obtain ⟨bt, ot, x9, rfl, htw, htp, _, t0, _, _, _, _⟩ := hTr.pipes.at_ hqT
      have hte := (pipe_ok HTOK.out htp).1
      rw [HTE.out] at hte
      rw [hte] at t0
      have HST := Lib.hid (show (lvTo (tes (esOf ps) n) (bfs (tes (esOf ps) n) n 0) (fun j => dF (ksL ps) fs ((fst (esOf ps) n).getD j 0)) ((List.replicate n 0).set 0 x) (k - 1 + 1)) = (lvTo (tes (esOf ps) n) (bfs (tes (esOf ps) n) n 0) (fun j => dF (ksL ps) fs ((fst (esOf ps) n).getD j 0)) ((List.replicate n 0).set 0 x) (k - 1)).set v ((lvTo (tes (esOf ps) n) (bfs (tes (esOf ps) n) n 0) (fun j => dF (ksL ps) fs ((fst (esOf ps) n).getD j 0)) ((List.replicate n 0).set 0 x) (k - 1)).getD (oth (tes (esOf ps) n) q v) 0 + (if efr (tes (esOf ps) n) q = v then (fun j => dF (ksL ps) fs ((fst (esOf ps) n).getD j 0)) q else -((fun j => dF (ksL ps) fs ((fst (esOf ps) n).getD j 0)) q))) by
        rw [lvTo_succ hv]
        unfold lvStep
        rw [hq])
      have HIN := Lib.hid (show q ∈ inc (esOf (trP ps (fst (esOf ps) n))) v by rw [HTE.out]; exact hinc)
      obtain ⟨f, hfv⟩ : ∃ y, fs.getD i 0 = y := ⟨_, rfl⟩
      rw [hfv] at cf0 hfk HDR
      have hdb := drp_bd hpk2 hfk
      obtain ⟨dr, hdr⟩ : ∃ y, drp p.k f = y := ⟨_, rfl⟩
      have HDP := Lib.hid hdr
      have HDR2 := Lib.hid (HDR.out.trans hdr)
      rw [hdr] at hdb
      have HPK := Lib.hid hpk2
      have HPP := Lib.hid hpp
      have fk1 := hfk.1
      have fk2 := hfk.2
      have hWr := hWa.trans (hB.mono (by have := hWa.size; omega))
      have hbw := hWr.size
      have cf := (hWr.cell (p := ⟨bf, of + i, none⟩) hfw).trans cf0
      have hfl : bf < wr.heap.size := by omega
      have bxr := bxa.belowA hBA
      have bTr := bTa.belowA hBA
      have xl := bxr.lt
      have x0 : wr.cell? ⟨w.heap.size, 0, none⟩ = some (.slice A n c) := bxr.cell 0
      have x1 : wr.cell? ⟨w.heap.size, 1, none⟩ = some (.slice (some ⟨bp, op, none⟩) m d) := bxr.cell 1
      have i0 : (0 : Int) ≤ (k : Int) := by omega
      have i1 : (k : Int) < (L : Int) := by omega
      have i2 : (0 : Int) ≤ (v : Int) := by omega
      have i3 : (v : Int) < (n : Int) := by omega
      have i4 : (0 : Int) ≤ (i : Int) := by omega
      have i5 : (i : Int) < (m : Int) := by omega
      have i6 : (0 : Int) ≤ (q : Int) := by omega
      have i7 : (q : Int) < (T : Int) := by omega
      have i8 : (0 : Int) ≤ (oth (tes (esOf ps) n) q v : Int) := by omega
      have i9 : (oth (tes (esOf ps) n) q v : Int) < (n : Int) := by omega
      have kN : Kept (IsNet wr A n c ns (some ⟨bp, op, none⟩) m d ps) := ⟨h.below hWr⟩
      have kT : Kept (IsNet wr A n c ns (some ⟨bt, ot, none⟩) T d' (trP ps (fst (esOf ps) n))) := ⟨hTr⟩
      have kO : Kept (Own wr GO (some ⟨GO, 0, none⟩) n n (lvTo (tes (esOf ps) n) (bfs (tes (esOf ps) n) n 0) (fun j => dF (ksL ps) fs ((fst (esOf ps) n).getD j 0)) ((List.replicate n 0).set 0 x) (k - 1))) := ⟨hO⟩
      have kB : Kept (Below GO wa wr) := ⟨hB⟩
      have kX : Kept (Box wr GT #[.slice A n c, .slice (some ⟨bt, ot, none⟩) T d'] 33) := ⟨bTr⟩
      have kU : Kept (Below wr.heap.size wr wr.drew) := ⟨(Below.refl _ _).drew⟩
      clear hv hvO hq hinc hp' hq' hi hpp hdr hfk hpk2 hte htp cf0 hfv hWr bxr bTr hBA hO hB hTr q0 q1 q2 q3 q4 hEr hOr h5r
      go_upto_region 10 with fail
      obtain ⟨wi, rfl⟩ : ∃ y : World, y = wr := ⟨_, rfl⟩
      go_region_held3 (fun w' => w.heap.size < w'.heap.size ∧ g5 < w'.heap.size ∧ bf < w'.heap.size ∧ bt < w'.heap.size ∧ w'.cell? ⟨w.heap.size, 0, none⟩ = some (.slice A n c) ∧ w'.cell? ⟨w.heap.size, 1, none⟩ = some (.slice (some ⟨bp, op, none⟩) m d) ∧ w'.cell? ⟨g5, q, none⟩ = some (.int .i64 (i : Int)) ∧ w'.cell? ⟨bf, of + i, none⟩ = some (.int .i64 f) ∧ w'.cell? ⟨bt, ot + q * 5, none⟩ = some (.int .i64 (efr (tes (esOf ps) n) q : Int)) ∧ Kept (Below wi.heap.size wi w'))
        (first | (go_split_ands; refine ⟨by have := hbb.size; omega, by have := hbb.size; omega, by have := hbb.size; omega, by have := hbb.size; omega, ?_, ?_, ?_, ?_, ?_, ⟨bthen (Kept.out ‹Kept (Below wi.heap.size _ _)›) hbb (Kept.out ‹Kept (Below wi.heap.size _ _)›).size⟩⟩ <;> (rw [hbb.cell (by simp; omega)]; assumption)) | go_keep)
        (first | (go_at_call 143; go_split_ands; refine (sDrop_any _ _ _ _ _ _ i _ p ns ps _ (kN.out.below (Kept.out ‹Kept (Below wi.heap.size _ _)›)) him HPP.out HPK.out ⟨fk1, fk2⟩).mono ?_; rw [HDP.out]; rintro e5 wb ⟨rfl, hbb⟩))
      rename_i hh
      obtain ⟨_, _, _, htl, _, _, _, _, tc0, ⟨hbB⟩⟩ := hh
      have hTb := kT.out.below hbB
      have kO2 := kO.out.below hbB
      have kB2 := (kB.out.trans (hbB.mono (by have := kB.out.size; omega)))
      have kX2 := kX.out.belowA hbB
      clear kN kT kO kB kX kU hbb hbB x0 x1 c5' cf ce co
      have y0 : wb.cell? ⟨GT, 0, none⟩ = some (.slice A n c) := kX2.cell 0
      have y1 : wb.cell? ⟨GT, 1, none⟩ = some (.slice (some ⟨bt, ot, none⟩) T d') := kX2.cell 1
      have yl := kX2.lt
      go_upto_region 12 with (go_at_call 120; refine (sOther_any _ _ _ _ _ _ q v ns (trP ps (fst (esOf ps) n)) _ hTb HTOK.out HIN.out).mono ?_; rw [HTE.out]; rintro e6 wc ⟨rfl, hbc⟩)
      have hO := kO2.below hbc
      have hB := kB2.trans (hbc.mono (by have := kB2.size; omega))
      have hXc := kX2.belowA hbc
      have tc := (hbc.cell (p := ⟨bt, ot + q * 5, none⟩) htl).trans tc0
      have htl2 : bt < wc.heap.size := by have := hbc.size; omega
      clear kO2 kB2 kX2 hTb hbc y0 y1 yl tc0
      have y0 : wc.cell? ⟨GT, 0, none⟩ = some (.slice A n c) := hXc.cell 0
      have y1 : wc.cell? ⟨GT, 1, none⟩ = some (.slice (some ⟨bt, ot, none⟩) T d') := hXc.cell 1
      have yl := hXc.lt
      by_cases hfe : efr (tes (esOf ps) n) q = v
      · have t1 : (((efr (tes (esOf ps) n) q : Nat) : Int) == (v : Int)) = true := by simp; omega
        have hc9 := hO.atD hun
        have hv9 := hO.atD hvn
        have c91 := hc9.1
        have c92 := hv9.1
        have c93 := hv9.2.1
        have c94 := hv9.2.2.2
        have hb9 := HBD.out (k - 1) (by rw [HLL.out]; omega) _ hun
        obtain ⟨zu, hzu⟩ : ∃ y, (lvTo (tes (esOf ps) n) (bfs (tes (esOf ps) n) n 0) (fun j => dF (ksL ps) fs ((fst (esOf ps) n).getD j 0)) ((List.replicate n 0).set 0 x) (k - 1)).getD (oth (tes (esOf ps) n) q v) 0 = y := ⟨_, rfl⟩
        rw [hzu] at c91 hb9
        have HZU := Lib.hid hzu
        have s9 : IntKind.i64.wrap (zu + dr) = zu + dr := IntWalk.i64_in _ (by omega)
        have hO2 := (hO.set1 v (z := zu + dr) (WalkArith.wf_i64 (by omega))).1
        have HST2 := Lib.hid (show (lvTo (tes (esOf ps) n) (bfs (tes (esOf ps) n) n 0) (fun j => dF (ksL ps) fs ((fst (esOf ps) n).getD j 0)) ((List.replicate n 0).set 0 x) (k - 1 + 1)) = (lvTo (tes (esOf ps) n) (bfs (tes (esOf ps) n) n 0) (fun j => dF (ksL ps) fs ((fst (esOf ps) n).getD j 0)) ((List.replicate n 0).set 0 x) (k - 1)).set v (zu + dr) by
          rw [HST.out, HZU.out, HDR2.out]
          rw [if_pos hfe])
        have hB2 := hB.setCell (p := ⟨GO, v, none⟩) (by simp) (.int .i64 (zu + dr))
        clear hzu hc9 hv9 hb9
        go_wp2_with fail
        go_roundw
        case rel => exact ⟨k + 1, by omega, by omega, by go_num, by rw [show k + 1 - 1 = k - 1 + 1 by omega, HST2.out]; exact hO2, hB2⟩
        case measure => simp [intOf]; omega
      · have t1 : (((efr (tes (esOf ps) n) q : Nat) : Int) == (v : Int)) = false := by simp; omega
        have hc9 := hO.atD hun
        have hv9 := hO.atD hvn
        have c91 := hc9.1
        have c92 := hv9.1
        have c93 := hv9.2.1
        have c94 := hv9.2.2.2
        have hb9 := HBD.out (k - 1) (by rw [HLL.out]; omega) _ hun
        obtain ⟨zu, hzu⟩ : ∃ y, (lvTo (tes (esOf ps) n) (bfs (tes (esOf ps) n) n 0) (fun j => dF (ksL ps) fs ((fst (esOf ps) n).getD j 0)) ((List.replicate n 0).set 0 x) (k - 1)).getD (oth (tes (esOf ps) n) q v) 0 = y := ⟨_, rfl⟩
        rw [hzu] at c91 hb9
        have HZU := Lib.hid hzu
        have s9 : IntKind.i64.wrap (zu - dr) = zu - dr := IntWalk.i64_in _ (by omega)
        have hO2 := (hO.set1 v (z := zu - dr) (WalkArith.wf_i64 (by omega))).1
        have HST2 := Lib.hid (show (lvTo (tes (esOf ps) n) (bfs (tes (esOf ps) n) n 0) (fun j => dF (ksL ps) fs ((fst (esOf ps) n).getD j 0)) ((List.replicate n 0).set 0 x) (k - 1 + 1)) = (lvTo (tes (esOf ps) n) (bfs (tes (esOf ps) n) n 0) (fun j => dF (ksL ps) fs ((fst (esOf ps) n).getD j 0)) ((List.replicate n 0).set 0 x) (k - 1)).set v (zu - dr) by
          rw [HST.out, HZU.out, HDR2.out]
          rw [if_neg hfe]; rfl)
        have hB2 := hB.setCell (p := ⟨GO, v, none⟩) (by simp) (.int .i64 (zu - dr))
        clear hzu hc9 hv9 hb9
        go_wp2_with fail
        go_roundw
        case rel => exact ⟨k + 1, by omega, by omega, by go_num, by rw [show k + 1 - 1 = k - 1 + 1 by omega, HST2.out]; exact hO2, hB2⟩
        case measure => simp [intOf]; omega
    · obtain rfl : k = L := by omega
      have HEND := Lib.hid (show (lvTo (tes (esOf ps) n) (bfs (tes (esOf ps) n) n 0) (fun j => dF (ksL ps) fs ((fst (esOf ps) n).getD j 0)) ((List.replicate n 0).set 0 x) (k - 1)) = lvR (esOf ps) (ksL ps) n fs x by
        rw [← HRES.out]
        unfold lvs
        rw [HLL.out])
      rw [HEND.out] at hO
      have HLN := Lib.hid hO.len
      go_wp2_with fail
      go_ret
      exact retInts_of HLN.out (hO.mono (by have := hWa.size; omega)) (hWa.trans (hB.mono (by have := hWa.size; omega)))
end Go.Proofs.YtpgegfnhokhlmaaGreat
