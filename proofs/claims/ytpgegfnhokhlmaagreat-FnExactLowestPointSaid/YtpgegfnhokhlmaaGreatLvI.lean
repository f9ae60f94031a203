/- What forestLevels does at the root 0, by a walk over its text. Conditions: a valid network, flows in range, a level of at most 4 * 10^18. -/
import Derived.Test.YtpgegfnhokhlmaaGreatLvp
import Derived.Test.YtpgegfnhokhlmaaGreatKV
set_option linter.unusedVariables false
set_option maxRecDepth 100000
namespace Go.Proofs.YtpgegfnhokhlmaaGreat
open Go.ChangeShapes Go.WideShapes Go.ChangeAt Go.RowKit Go.Joins Go.Deep
attribute [local go_sem ↓] Go.wp_at_zero Go.wp_at_succ

theorem dF_bd {ns : List Nd} {ps : List Pp} {fs : List Int} (hok : NetOk ns ps) (hl : fs.length = ps.length) (hr : inR fs = true) : ∀ i, i < (esOf ps).length → (dF (ksL ps) fs i).natAbs ≤ 900000000000 := by
  intro i hi
  rw [esOf_len] at hi
  have := drp_bd (ksL_bd hok hi) (inR_at hr (i := i) (by omega))
  unfold dF
  omega
/-- What stands in memory while levels are reckoned. -/
structure LI (w wb wr : World) (A : Option Addr) (n c : Nat) (B : Option Addr) (m d : Nat) (go cg : Nat) (st : St) (b5 e5 GS : Nat) (lv : List Int) : Prop where
  lev : Own wr (w.heap.size + 1) (some ⟨w.heap.size + 1, 0, none⟩) n n lv
  ord : Own wr (w.heap.size + 2) (some ⟨go, 0, none⟩) st.ord.length cg (cN st.ord)
  ent : Own wr (w.heap.size + 2) (some ⟨e5, 0, none⟩) n n (encE st.ent)
  net : Box wr w.heap.size #[.slice A n c, .slice B m d] 33
  sea : Box wr GS #[.slice (some ⟨go, 0, none⟩) st.ord.length cg, .slice (some ⟨b5, 0, none⟩) n n, .slice (some ⟨e5, 0, none⟩) n n] 115
  bel : Below w.heap.size w wr
  sz : wb.heap.size ≤ wr.heap.size
section
variable {w wb wr w' : World} {A : Option Addr} {n c : Nat} {B : Option Addr} {m d : Nat} {go cg : Nat} {st : St} {b5 e5 GS : Nat} {lv : List Int}
theorem LI.below (h : LI w wb wr A n c B m d go cg st b5 e5 GS lv) (hb : Below wr.heap.size wr w') : LI w wb w' A n c B m d go cg st b5 e5 GS lv :=
  ⟨h.lev.below hb, h.ord.below hb, h.ent.below hb, h.net.belowA hb, h.sea.belowA hb, bthen h.bel hb h.bel.size, Nat.le_trans h.sz hb.size⟩
theorem LI.set (h : LI w wb wr A n c B m d go cg st b5 e5 GS lv) (hG : w.heap.size + 1 < GS) {i : Nat} (hi : i < n) {z : Int} (hz : I64 z) : LI w wb (wr.setCell ⟨w.heap.size + 1, i, none⟩ (.int .i64 z)) A n c B m d go cg st b5 e5 GS (lv.set i z) := by
  obtain ⟨h1, h2⟩ := h.lev.set1 i hz
  exact ⟨h1, h.ord.low1 (a := ⟨w.heap.size + 1, i, none⟩) (by simp) _, h.ent.low1 (a := ⟨w.heap.size + 1, i, none⟩) (by simp) _, h.net.other (a := ⟨w.heap.size + 1, i, none⟩) (by simp) _, h.sea.other (a := ⟨w.heap.size + 1, i, none⟩) (by simp; omega) _, h.bel.setCell (p := ⟨w.heap.size + 1, i, none⟩) (by simp) _, by have := h2.size; have := h.sz; omega⟩
end
set_option maxHeartbeats 20000000 in
theorem lev_any (A B C : Option Addr) (n c m d e1 : Nat) (x : Int) (fs : List Int) (ns : List Nd) (ps : List Pp) (w : World) (h : IsNet w A n c ns B m d ps) (hok : NetOk ns ps) (hf : Ints w C m fs) (hfr : inR fs = true) (hx : -4000000000000000000 ≤ x ∧ x ≤ 4000000000000000000) :
    Calls Tryz.prog 90 #[.agg #[.slice A n c, .slice B m d], .slice C m e1, .int .i64 0, .int .i64 x] w (RetInts w (lvR (esOf ps) (ksL ps) n fs x)) := by
  have hln : ns.length = n := h.nodes.len
  have hm : ps.length = m := h.pipes.len
  have hn24 : n ≤ 24 := by have := hok.2.1; omega
  have hn1 : 0 < n := by have := hok.1; omega
  have hm40 : m ≤ 40 := by have := hok.2.2.1; omega
  have hg : Good (esOf ps) n := by rw [← hln]; exact net_good hok
  have hfl0 := hf.len
  have HDB := dF_bd hok (show fs.length = ps.length by omega) hfr
  have HI := Lib.hid (bfs_done (s := 0) hg hn1).inv
  have hLn : (bfs (esOf ps) n 0).ord.length ≤ n := nodup_len HI.out.nd HI.out.lt
  have hL1 : 1 ≤ (bfs (esOf ps) n 0).ord.length := by have := (List.getElem?_eq_some_iff.1 HI.out.hd).1; omega
  have HBD := Lib.hid (show ∀ k, k + 1 ≤ (bfs (esOf ps) n 0).ord.length → ∀ v, v < n → ((lvTo (esOf ps) (bfs (esOf ps) n 0) (dF (ksL ps) fs) (List.replicate n 0) k).getD v 0).natAbs ≤ 24 * 900000000000 by
    intro k hk v hv
    have h1 := lvTo_bd (d := dF (ksL ps) fs) (lv := List.replicate n 0) (M := 0) hg HI.out (by simp) HDB (fun v hv => by simp [List.getD, hv]) k hk v hv
    have h2 : k * 900000000000 ≤ 24 * 900000000000 := Nat.mul_le_mul_right _ (by omega)
    omega)
  have HBL := Lib.hid (show ∀ v, v < n → ((lvs (esOf ps) n 0 (dF (ksL ps) fs) (List.replicate n 0)).getD v 0).natAbs ≤ 24 * 900000000000 from fun v hv => Nat.le_trans (lvs_bd hg hn1 HDB hv) (Nat.mul_le_mul_right _ hn24))
  have HR0 := Lib.hid (show (lvs (esOf ps) n 0 (dF (ksL ps) fs) (List.replicate n 0)).getD 0 0 = 0 by rw [lvs_root hg hn1 (by simp)]; simp [List.getD, hn1])
  have HM := Lib.hid hm
  have HOK := Lib.hid hok
  have HFR := Lib.hid hfr
  have HFL := Lib.hid hfl0
  have x1 := hx.1
  have x2 := hx.2
  clear hln hok hfr hfl0 HDB hx hm hg
  have hmk := fun W => run_make_row' (P := Tryz.prog) 26 2 (.int .i64 0) 8 Tryz.underlying26 info_i64 rfl .i64 .i64 n (by omega) (by omega) W
  have bx := (box_new w #[.slice A n c, .slice B m d] 33).alloc (.cells (madeCells #[.int .i64 0] n) 2)
  have hV : Below w.heap.size w (w.alloc (.cells #[.slice A n c, .slice B m d] 33)) := (Below.refl _ _).alloc (Nat.le_refl _) _
  have hsz : (w.alloc (.cells #[.slice A n c, .slice B m d] 33)).heap.size = w.heap.size + 1 := by simp
  have oC := own_zeros (w.alloc (.cells #[.slice A n c, .slice B m d] 33)) n (by omega)
  rw [hsz] at oC
  have hW : Below w.heap.size w ((w.alloc (.cells #[.slice A n c, .slice B m d] 33)).alloc (.cells (madeCells #[.int .i64 0] n) 2)) := hV.alloc (by simp) _
  have hsW : ((w.alloc (.cells #[.slice A n c, .slice B m d] 33)).alloc (.cells (madeCells #[.int .i64 0] n) 2)).heap.size = w.heap.size + 2 := by simp
  clear hV hsz
  go_enter Tryz.func90, Tryz.ntmps90
  go_upto_region 2 with fail
  generalize ((w.alloc (.cells #[.slice A n c, .slice B m d] 33)).alloc (.cells (madeCells #[.int .i64 0] n) 2)) = W at *
  clear hmk
  have xl := bx.lt
  have x0' : W.cell? ⟨w.heap.size, 0, none⟩ = some (.slice A n c) := bx.cell 0
  have x1' : W.cell? ⟨w.heap.size, 1, none⟩ = some (.slice B m d) := bx.cell 1
  go_upto_region 3 with (go_at_call 138; refine (search_any _ _ _ _ _ _ 0 ns ps _ (h.below hW) HOK.out hn1).mono ?_; rintro e4 wa ⟨A6, c6, b5, e5, dl, rfl, o6, _, _, o5, hba⟩)
  rw [HI.out.len] at o5 ⊢
  obtain ⟨go, rfl, hgo1, hgo2⟩ := o6.form (by omega)
  have hcap : (bfs (esOf ps) n 0).ord.length ≤ c6 ∧ c6 ≤ maxLen := by
    rcases o6.1.2 with ⟨e, h0⟩ | ⟨g, cap, cur, e, _, _, q1, q2, _⟩
    · injection e with e1 e2 e3
      cases e1
    · injection e with e1 e2 e3
      subst e3
      exact ⟨q1, q2⟩
  obtain ⟨hc1, hc2⟩ := hcap
  unfold maxLen at hc2
  have hsa := hba.size
  have hWa := bthen hW hba hW.size
  have hI0 : LI w wa (wa.alloc (.cells #[.slice (some ⟨go, 0, none⟩) (bfs (esOf ps) n 0).ord.length c6, .slice (some ⟨b5, 0, none⟩) n n, .slice (some ⟨e5, 0, none⟩) n n] 115)) A n c B m d go c6 (bfs (esOf ps) n 0) b5 e5 wa.heap.size (lvTo (esOf ps) (bfs (esOf ps) n 0) (dF (ksL ps) fs) (List.replicate n 0) 0) :=
    ⟨(oC.below hba).alloc _, (o6.mono (by omega)).alloc _, (o5.mono (by omega)).alloc _, (bx.belowA hba).alloc _, box_new _ _ _, hWa.alloc hWa.size _, by simp⟩
  have hGS : w.heap.size + 1 < wa.heap.size := by omega
  obtain ⟨W6, rfl⟩ : ∃ y : World, y = wa := ⟨_, rfl⟩
  have y0 := hI0.sea.cell 0
  have yl := hI0.sea.lt
  generalize (W6.alloc (.cells #[.slice (some ⟨go, 0, none⟩) (bfs (esOf ps) n 0).ord.length c6, .slice (some ⟨b5, 0, none⟩) n n, .slice (some ⟨e5, 0, none⟩) n n] 115)) = Wb at *
  obtain ⟨L, hLL⟩ : ∃ y, (bfs (esOf ps) n 0).ord.length = y := ⟨_, rfl⟩
  have HLL := Lib.hid hLL
  obtain ⟨GS, hGS0⟩ : ∃ y, W6.heap.size = y := ⟨_, rfl⟩
  have HGS := Lib.hid hGS0
  rw [hGS0] at hGS hI0 yl y0 ⊢
  rw [hLL] at hc1 hLn hL1
  have y0' : Wb.cell? ⟨GS, 0, none⟩ = some (.slice (some ⟨go, 0, none⟩) L c6) := by rw [← hLL]; exact y0
  have l0 : (1 : Int) ≤ (L : Int) := by omega
  have l1 : (L : Int) ≤ (c6 : Int) := by omega
  rw [hLL]
  clear y0 hLL hGS0 oC o6 o5 bx hba hW hWa x0' x1' xl hgo1 hgo2 hsa
  by_cases hcc6 : c6 = 1
  · go_wp2_with fail
    go_loopw [28] (fun ii wr => ∃ (j : Nat), j ≤ L - 1 ∧ ii = .int .i64 (j : Int) ∧ LI w W6 wr A n c B m d go c6 (bfs (esOf ps) n 0) b5 e5 GS (lvTo (esOf ps) (bfs (esOf ps) n 0) (dF (ksL ps) fs) (List.replicate n 0) j)) (fun ii _ => L - 1 - (intOf ii).toNat)
    case atStart => exact ⟨0, Nat.zero_le _, rfl, hI0⟩
    case round =>
      clear hI0
      obtain ⟨j, hj, rfl, hI⟩ := hrel
      by_cases hjl : j < L - 1
      · exact absurd hjl (by omega)
      · obtain rfl : j = L - 1 := by omega
        have hnl : ¬ ((L - 1 : Nat) : Int) < (L : Int) - 1 := by omega
        have HLV := Lib.hid (show lvTo (esOf ps) (bfs (esOf ps) n 0) (dF (ksL ps) fs) (List.replicate n 0) (L - 1) = lvs (esOf ps) n 0 (dF (ksL ps) fs) (List.replicate n 0) by unfold lvs; rw [HLL.out])
        rw [HLV.out] at hI
        have hc0 := hI.lev.atD hn1
        rw [HR0.out] at hc0
        have c01 := hc0.1
        have c04 := hc0.2.2.2
        have hn0 : (0 : Int) < (n : Int) := by omega
        have sx : IntKind.i64.wrap (x - 0) = x - 0 := IntWalk.i64_in _ (by omega)
        obtain ⟨R0, hR0⟩ : ∃ y, lvs (esOf ps) n 0 (dF (ksL ps) fs) (List.replicate n 0) = y := ⟨_, rfl⟩
        rw [hR0] at hI
        have HRR := Lib.hid (show lvR (esOf ps) (ksL ps) n fs x = shTo R0 x n by unfold lvR; rw [hR0])
        have HBR := Lib.hid (show ∀ v, v < n → (R0.getD v 0).natAbs ≤ 24 * 900000000000 by
          intro v hv
          rw [← hR0]
          exact HBL.out v hv)
        have HRL := Lib.hid (show R0.length = n by rw [← hR0, lvs_len]; simp)
        have HS0 := Lib.hid (shTo_zero R0 x)
        clear hc0 hR0
        go_wp2_with fail
        go_loopw [81] (fun ii wr => ∃ (j : Nat), j ≤ n ∧ ii = .int .i64 (j : Int) ∧ LI w W6 wr A n c B m d go c6 (bfs (esOf ps) n 0) b5 e5 GS (shTo R0 x j)) (fun ii _ => n - (intOf ii).toNat)
        case atStart => exact ⟨0, Nat.zero_le _, rfl, by rw [HS0.out]; exact hI⟩
        case round =>
          clear hI c01
          obtain ⟨j, hj, rfl, hI⟩ := hrel
          by_cases hjn : j < n
          · obtain ⟨h1, h2⟩ := shTo_next (lv := R0) (x := x) (j := j) (by rw [HRL.out]; exact hjn)
            have hc1 := hI.lev.atD hjn
            rw [h1] at hc1
            have HN2 := Lib.hid h2
            have co1 := hc1.1
            have co2 := hc1.2.1
            have co3 := hc1.2.2.2
            have hbr := HBR.out j hjn
            obtain ⟨f, hf⟩ : ∃ y, R0.getD j 0 = y := ⟨_, rfl⟩
            rw [hf] at co1 hbr HN2
            have w2 : IntKind.i64.wrap (f + x) = f + x := IntWalk.i64_in _ (by omega)
            have hI2 := hI.set hGS hjn (z := f + x) (WalkArith.wf_i64 (by omega))
            rw [HN2.out] at hI2
            have HI2 := Lib.hid hI2
            have i0 : (0 : Int) ≤ (j : Int) := by omega
            have i1 : (j : Int) < (n : Int) := by omega
            clear hI hI2 hc1 h1 h2 hf
            go_wp2_with fail
            go_roundw
            case rel => exact ⟨j + 1, by omega, by go_num, HI2.out⟩
            case measure => simp [intOf]; omega
          · obtain rfl : j = n := by omega
            rw [← HRR.out] at hI
            have HLN := Lib.hid hI.lev.len
            go_wp2_with fail
            go_ret
            exact retInts_of HLN.out (hI.lev.mono (by omega)) hI.bel
  · go_wp2_with fail
    go_loopw [28] (fun ii wr => ∃ (j : Nat), j ≤ L - 1 ∧ ii = .int .i64 (j : Int) ∧ LI w W6 wr A n c B m d go c6 (bfs (esOf ps) n 0) b5 e5 GS (lvTo (esOf ps) (bfs (esOf ps) n 0) (dF (ksL ps) fs) (List.replicate n 0) j)) (fun ii _ => L - 1 - (intOf ii).toNat)
    case atStart => exact ⟨0, Nat.zero_le _, rfl, hI0⟩
    case round =>
      clear hI0
      obtain ⟨j, hj, rfl, hI⟩ := hrel
      by_cases hjl : j < L - 1
      · obtain ⟨v, hv⟩ : ∃ v, (bfs (esOf ps) n 0).ord[j + 1]? = some v := ⟨_, List.getElem?_eq_getElem (by rw [HLL.out]; omega)⟩
        have hvO := List.mem_of_getElem? hv
        have hvn := HI.out.lt v hvO
        have hv0 : v ≠ 0 := by
          intro e
          rw [e] at hv
          have := pos_inj HI.out.nd hv HI.out.hd
          omega
        obtain ⟨i, hi⟩ := HI.out.ent2 v hvO hv0
        obtain ⟨hinc, p', q', hp', hq', hpq'⟩ := HI.out.ent1 v i hi
        have him : i < m := by have := (inc_mem.1 hinc).1; rw [esOf_len, HM.out] at this; exact this
        have hce := (hI.ent.atD hvn).1
        rw [show (encE (bfs (esOf ps) n 0).ent).getD v 0 = (i : Int) by rw [List.getD_eq_getElem?_getD, encE_at hi]; rfl] at hce
        have hco := (hI.ord.atD (k := j + 1) (by rw [HLL.out]; omega)).1
        rw [show (cN (bfs (esOf ps) n 0).ord).getD (j + 1) 0 = (v : Int) by rw [List.getD_eq_getElem?_getD, cN_at hv]; rfl, Nat.add_comm] at hco
        have hol := (hI.ord.lt go rfl).2
        have hel := (hI.ent.lt e5 rfl).2
        obtain ⟨bp, op, p, rfl, hpw, hpp, hpk, q0, q1, q2, q3, q4⟩ := h.pipes.at_ him
        obtain ⟨e1, e2, l1, l2, l3, hpk2, _⟩ := pipe_ok HOK.out hpp
        rw [h.nodes.len] at l1 l2
        rw [e1] at q0
        rw [e2] at q1
        have HDR := Lib.hid (show dF (ksL ps) fs i = drp p.k (fs.getD i 0) by unfold dF; rw [ksL_at hpp])
        obtain ⟨bf, of, rfl, hfw, cf0⟩ := hf.atD him
        have hfk := inR_at HFR.out (i := i) (by rw [HFL.out]; exact him)
        have HST := Lib.hid (show lvTo (esOf ps) (bfs (esOf ps) n 0) (dF (ksL ps) fs) (List.replicate n 0) (j + 1) = (lvTo (esOf ps) (bfs (esOf ps) n 0) (dF (ksL ps) fs) (List.replicate n 0) j).set v ((lvTo (esOf ps) (bfs (esOf ps) n 0) (dF (ksL ps) fs) (List.replicate n 0) j).getD (oth (esOf ps) i v) 0 + (if efr (esOf ps) i = v then dF (ksL ps) fs i else -(dF (ksL ps) fs i))) by
          rw [lvTo_succ hv]
          unfold lvStep
          rw [hi])
        have hends : eto (esOf ps) i = v ∨ efr (esOf ps) i = v := (inc_mem.1 hinc).2.symm
        obtain ⟨f, hfv⟩ : ∃ y, fs.getD i 0 = y := ⟨_, rfl⟩
        rw [hfv] at cf0 hfk HDR
        have hdb := drp_bd hpk2 hfk
        obtain ⟨dr, hdr⟩ : ∃ y, drp p.k f = y := ⟨_, rfl⟩
        have HDP := Lib.hid hdr
        have HDR2 := Lib.hid (HDR.out.trans hdr)
        rw [hdr] at hdb
        have HPK := Lib.hid hpk2
        have fk1 := hfk.1
        have fk2 := hfk.2
        have hbw := hI.bel.size
        have cf := (hI.bel.cell (p := ⟨bf, of + i, none⟩) hfw).trans cf0
        have r0 := (hI.bel.cell (p := ⟨bp, op + i * 5, none⟩) hpw).trans q0
        have r1 := (hI.bel.cell (p := ⟨bp, op + i * 5 + 1, none⟩) hpw).trans q1
        have r2 := (hI.bel.cell (p := ⟨bp, op + i * 5 + 2, none⟩) hpw).trans q2
        have r3 := (hI.bel.cell (p := ⟨bp, op + i * 5 + 3, none⟩) hpw).trans q3
        have r4 := (hI.bel.cell (p := ⟨bp, op + i * 5 + 4, none⟩) hpw).trans q4
        have hfl : bf < wr.heap.size := by omega
        have hpl : bp < wr.heap.size := by omega
        obtain ⟨pk, hpk9⟩ : ∃ y, p.k = y := ⟨_, rfl⟩
        obtain ⟨pv, hpv9⟩ : ∃ y, p.v = y := ⟨_, rfl⟩
        obtain ⟨pl, hpl9⟩ : ∃ y, p.l = y := ⟨_, rfl⟩
        rw [hpk9] at r2 HPK HDP
        rw [hpv9] at r3
        rw [hpl9] at r4
        have xl := hI.net.lt
        have x0 : wr.cell? ⟨w.heap.size, 0, none⟩ = some (.slice A n c) := hI.net.cell 0
        have x1 : wr.cell? ⟨w.heap.size, 1, none⟩ = some (.slice (some ⟨bp, op, none⟩) m d) := hI.net.cell 1
        have gl := hI.sea.lt
        have g2 : wr.cell? ⟨GS, 2, none⟩ = some (.slice (some ⟨e5, 0, none⟩) n n) := hI.sea.cell 2
        have i0 : (0 : Int) ≤ (j : Int) := by omega
        have i1 : (j : Int) < (L : Int) - 1 := by omega
        have i1' : (j : Int) < ((L - 1 : Nat) : Int) := by omega
        have i1'' : j < L - 1 := hjl
        have i2 : (0 : Int) ≤ (v : Int) := by omega
        have i3 : (v : Int) < (n : Int) := by omega
        have i4 : (0 : Int) ≤ (i : Int) := by omega
        have i5 : (i : Int) < (m : Int) := by omega
        have hV1 : Below wr.heap.size wr (wr.alloc (.cells #[.int .i64 (efr (esOf ps) i : Int), .int .i64 (eto (esOf ps) i : Int), .int .i64 pk, .int .i64 pv, .int .i64 pl] 95)) := (Below.refl _ _).alloc (Nat.le_refl _) _
        have bP := box_new wr #[.int .i64 (efr (esOf ps) i : Int), .int .i64 (eto (esOf ps) i : Int), .int .i64 pk, .int .i64 pv, .int .i64 pl] 95
        have HI1 := Lib.hid (hI.below hV1)
        clear hv hvO hi hinc hp' hq' hpp e1 e2 q0 q1 q2 q3 q4 cf0 hfv hdr hpk2 hfk hpk9 hpv9 hpl9 hI hpk hbw
        go_upto_region 8 with fail
        obtain ⟨PB, hPB⟩ : ∃ y, wr.heap.size = y := ⟨_, rfl⟩
        rw [hPB] at bP
        have cf8 := (hV1.cell (p := ⟨bf, of + i, none⟩) hfl).trans cf
        clear cf r0 r1 r2 r3 r4 x0 x1 g2 hce hco
        have hs1 := hV1.size
        generalize (wr.alloc (.cells #[.int .i64 (efr (esOf ps) i : Int), .int .i64 (eto (esOf ps) i : Int), .int .i64 pk, .int .i64 pv, .int .i64 pl] 95)) = V1 at *
        have yl := bP.lt
        have y0 : V1.cell? ⟨PB, 0, none⟩ = some (.int .i64 (efr (esOf ps) i : Int)) := bP.cell 0
        have y1 : V1.cell? ⟨PB, 1, none⟩ = some (.int .i64 (eto (esOf ps) i : Int)) := bP.cell 1
        have y2 : V1.cell? ⟨PB, 2, none⟩ = some (.int .i64 pk) := bP.cell 2
        have y3 : V1.cell? ⟨PB, 3, none⟩ = some (.int .i64 pv) := bP.cell 3
        have y4 : V1.cell? ⟨PB, 4, none⟩ = some (.int .i64 pl) := bP.cell 4
        have hfl8 : bf < V1.heap.size := by omega
        have kU : Kept (Below V1.heap.size V1 V1.drew) := ⟨(Below.refl _ _).drew⟩
        obtain ⟨wi, rfl⟩ : ∃ y : World, y = V1 := ⟨_, rfl⟩
        clear hV1
        rw [hPB]
        go_region_held3 (fun w' => PB < w'.heap.size ∧ bf < w'.heap.size ∧ w'.cell? ⟨PB, 0, none⟩ = some (.int .i64 (efr (esOf ps) i : Int)) ∧ w'.cell? ⟨PB, 1, none⟩ = some (.int .i64 (eto (esOf ps) i : Int)) ∧ w'.cell? ⟨PB, 2, none⟩ = some (.int .i64 pk) ∧ w'.cell? ⟨PB, 3, none⟩ = some (.int .i64 pv) ∧ w'.cell? ⟨PB, 4, none⟩ = some (.int .i64 pl) ∧ w'.cell? ⟨bf, of + i, none⟩ = some (.int .i64 f) ∧ Kept (Below wi.heap.size wi w'))
          (first | (go_split_ands; refine ⟨by have := hbb.size; omega, by have := hbb.size; omega, ?_, ?_, ?_, ?_, ?_, ?_, ⟨bthen (Kept.out ‹Kept (Below wi.heap.size _ _)›) hbb (Kept.out ‹Kept (Below wi.heap.size _ _)›).size⟩⟩ <;> (rw [hbb.cell (by simp; omega)]; assumption)) | go_keep)
          (first | (go_at_call 148; go_split_ands; refine (dropOf_any _ _ _ _ _ _ _ HPK.out ⟨fk1, fk2⟩).mono ?_; rw [HDP.out]; rintro e5 wb ⟨rfl, hbb⟩))
        rename_i hh
        obtain ⟨yl2, _, z0, z1, _, _, _, _, ⟨hbB⟩⟩ := hh
        have hI := HI1.out.below hbB
        clear hbb hbB y0 y1 y2 y3 y4 cf8 kU
        by_cases hto : eto (esOf ps) i = v
        · have t1 : (((eto (esOf ps) i : Nat) : Int) == (v : Int)) = true := by simp; omega
          have HOT := Lib.hid (show oth (esOf ps) i v = efr (esOf ps) i by unfold oth; rw [if_neg (fun e => l3 (e.trans hto.symm))])
          have hun : efr (esOf ps) i < n := l1
          have hc9 := hI.lev.atD hun
          have hv9 := hI.lev.atD hvn
          have c91 := hc9.1
          have c92 := hv9.1
          have c93 := hv9.2.1
          have c94 := hv9.2.2.2
          have hb9 := HBD.out j (by rw [HLL.out]; omega) _ hun
          obtain ⟨zu, hzu⟩ : ∃ y, (lvTo (esOf ps) (bfs (esOf ps) n 0) (dF (ksL ps) fs) (List.replicate n 0) j).getD (efr (esOf ps) i) 0 = y := ⟨_, rfl⟩
          rw [hzu] at c91 hb9
          have HZU := Lib.hid hzu
          have s9 : IntKind.i64.wrap (zu - dr) = zu - dr := IntWalk.i64_in _ (by omega)
          have hI2 := hI.set hGS hvn (z := zu - dr) (WalkArith.wf_i64 (by omega))
          have HST2 := Lib.hid (show lvTo (esOf ps) (bfs (esOf ps) n 0) (dF (ksL ps) fs) (List.replicate n 0) (j + 1) = (lvTo (esOf ps) (bfs (esOf ps) n 0) (dF (ksL ps) fs) (List.replicate n 0) j).set v (zu - dr) by
            rw [HST.out, HOT.out, HZU.out]
            rw [if_neg (fun e => l3 (e.trans hto.symm)), HDR2.out]; rfl)
          clear hzu hc9 hv9 hb9
          go_wp2_with fail
          go_roundw
          case rel => exact ⟨j + 1, by omega, by go_num, by rw [HST2.out]; exact hI2⟩
          case measure => simp [intOf]; omega
        · have t1 : (((eto (esOf ps) i : Nat) : Int) == (v : Int)) = false := by simp; omega
          have hfr : efr (esOf ps) i = v := hends.resolve_left hto
          have HOT := Lib.hid (show oth (esOf ps) i v = eto (esOf ps) i by unfold oth; rw [if_pos hfr])
          have hun : eto (esOf ps) i < n := l2
          have hc9 := hI.lev.atD hun
          have hv9 := hI.lev.atD hvn
          have c91 := hc9.1
          have c92 := hv9.1
          have c93 := hv9.2.1
          have c94 := hv9.2.2.2
          have hb9 := HBD.out j (by rw [HLL.out]; omega) _ hun
          obtain ⟨zu, hzu⟩ : ∃ y, (lvTo (esOf ps) (bfs (esOf ps) n 0) (dF (ksL ps) fs) (List.replicate n 0) j).getD (eto (esOf ps) i) 0 = y := ⟨_, rfl⟩
          rw [hzu] at c91 hb9
          have HZU := Lib.hid hzu
          have s9 : IntKind.i64.wrap (zu + dr) = zu + dr := IntWalk.i64_in _ (by omega)
          have hI2 := hI.set hGS hvn (z := zu + dr) (WalkArith.wf_i64 (by omega))
          have HST2 := Lib.hid (show lvTo (esOf ps) (bfs (esOf ps) n 0) (dF (ksL ps) fs) (List.replicate n 0) (j + 1) = (lvTo (esOf ps) (bfs (esOf ps) n 0) (dF (ksL ps) fs) (List.replicate n 0) j).set v (zu + dr) by
            rw [HST.out, HOT.out, HZU.out]
            rw [if_pos hfr, HDR2.out])
          clear hzu hc9 hv9 hb9
          go_wp2_with fail
          go_roundw
          case rel => exact ⟨j + 1, by omega, by go_num, by rw [HST2.out]; exact hI2⟩
          case measure => simp [intOf]; omega
      · obtain rfl : j = L - 1 := by omega
        have hnl : ¬ ((L - 1 : Nat) : Int) < (L : Int) - 1 := by omega
        have HLV := Lib.hid (show lvTo (esOf ps) (bfs (esOf ps) n 0) (dF (ksL ps) fs) (List.replicate n 0) (L - 1) = lvs (esOf ps) n 0 (dF (ksL ps) fs) (List.replicate n 0) by unfold lvs; rw [HLL.out])
        rw [HLV.out] at hI
        have hc0 := hI.lev.atD hn1
        rw [HR0.out] at hc0
        have c01 := hc0.1
        have c04 := hc0.2.2.2
        have hn0 : (0 : Int) < (n : Int) := by omega
        have sx : IntKind.i64.wrap (x - 0) = x - 0 := IntWalk.i64_in _ (by omega)
        obtain ⟨R0, hR0⟩ : ∃ y, lvs (esOf ps) n 0 (dF (ksL ps) fs) (List.replicate n 0) = y := ⟨_, rfl⟩
        rw [hR0] at hI
        have HRR := Lib.hid (show lvR (esOf ps) (ksL ps) n fs x = shTo R0 x n by unfold lvR; rw [hR0])
        have HBR := Lib.hid (show ∀ v, v < n → (R0.getD v 0).natAbs ≤ 24 * 900000000000 by
          intro v hv
          rw [← hR0]
          exact HBL.out v hv)
        have HRL := Lib.hid (show R0.length = n by rw [← hR0, lvs_len]; simp)
        have HS0 := Lib.hid (shTo_zero R0 x)
        clear hc0 hR0
        go_wp2_with fail
        go_loopw [81] (fun ii wr => ∃ (j : Nat), j ≤ n ∧ ii = .int .i64 (j : Int) ∧ LI w W6 wr A n c B m d go c6 (bfs (esOf ps) n 0) b5 e5 GS (shTo R0 x j)) (fun ii _ => n - (intOf ii).toNat)
        case atStart => exact ⟨0, Nat.zero_le _, rfl, by rw [HS0.out]; exact hI⟩
        case round =>
          clear hI c01
          obtain ⟨j, hj, rfl, hI⟩ := hrel
          by_cases hjn : j < n
          · obtain ⟨h1, h2⟩ := shTo_next (lv := R0) (x := x) (j := j) (by rw [HRL.out]; exact hjn)
            have hc1 := hI.lev.atD hjn
            rw [h1] at hc1
            have HN2 := Lib.hid h2
            have co1 := hc1.1
            have co2 := hc1.2.1
            have co3 := hc1.2.2.2
            have hbr := HBR.out j hjn
            obtain ⟨f, hf⟩ : ∃ y, R0.getD j 0 = y := ⟨_, rfl⟩
            rw [hf] at co1 hbr HN2
            have w2 : IntKind.i64.wrap (f + x) = f + x := IntWalk.i64_in _ (by omega)
            have hI2 := hI.set hGS hjn (z := f + x) (WalkArith.wf_i64 (by omega))
            rw [HN2.out] at hI2
            have HI2 := Lib.hid hI2
            have i0 : (0 : Int) ≤ (j : Int) := by omega
            have i1 : (j : Int) < (n : Int) := by omega
            clear hI hI2 hc1 h1 h2 hf
            go_wp2_with fail
            go_roundw
            case rel => exact ⟨j + 1, by omega, by go_num, HI2.out⟩
            case measure => simp [intOf]; omega
          · obtain rfl : j = n := by omega
            rw [← HRR.out] at hI
            have HLN := Lib.hid hI.lev.len
            go_wp2_with fail
            go_ret
            exact retInts_of HLN.out (hI.lev.mono (by omega)) hI.bel
end Go.Proofs.YtpgegfnhokhlmaaGreat
