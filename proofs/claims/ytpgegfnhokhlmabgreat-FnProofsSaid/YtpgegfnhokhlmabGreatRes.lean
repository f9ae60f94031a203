/- What residualOf, residualBound, l10Residual, l10Bound do, by walks over their text. Conditions: a valid network, flows in range, a pipe of it (the program's), a cycle's numbers (the reference's). -/
import Derived.Test.YtpgegfnhokhlmabGreatMkp
set_option linter.unusedVariables false
set_option maxRecDepth 100000
namespace Go.Proofs.YtpgegfnhokhlmabGreat
open Go.ChangeShapes Go.WideShapes Go.ChangeAt Go.RowKit Go.Joins Go.Deep
attribute [local go_sem ↓] Go.wp_at_zero Go.wp_at_succ

def resT (ks fs cs : List Int) (i : Nat) : Int := cs.getD i 0 * drp (ks.getD i 0) (fs.getD i 0)
def resTo (ks fs cs : List Int) (k : Nat) : Int := sumN k fun i => resT ks fs cs i
def bndT (ks fs cs : List Int) (i : Nat) : Int := if cs.getD i 0 = 0 then 0 else ks.getD i 0 * (3 * ab (fs.getD i 0) + 1)
def bndTo (ks fs cs : List Int) (k : Nat) : Int := sumN k fun i => bndT ks fs cs i
theorem ab_bd {f : Int} (hf : -30000 ≤ f ∧ f ≤ 30000) : 0 ≤ ab f ∧ ab f ≤ 30000 := by unfold ab; omega
theorem kb_bd {k a : Int} (hk : 1 ≤ k ∧ k ≤ 1000) (ha : 0 ≤ a ∧ a ≤ 30000) : 0 ≤ k * (3 * a + 1) ∧ k * (3 * a + 1) ≤ 90001000 := by
  have h1 : 0 ≤ k * (3 * a + 1) := Int.mul_nonneg (by omega) (by omega)
  have h2 : k * (3 * a + 1) ≤ 1000 * 90001 := Int.mul_le_mul hk.2 (by omega) (by omega) (by decide)
  omega
theorem resT_bd {ks fs cs : List Int} {i : Nat} (hk : 1 ≤ ks.getD i 0 ∧ ks.getD i 0 ≤ 1000) (hf : -30000 ≤ fs.getD i 0 ∧ fs.getD i 0 ≤ 30000) (hc : cs.getD i 0 = 0 ∨ cs.getD i 0 = 1 ∨ cs.getD i 0 = -1) : -900000000000 ≤ resT ks fs cs i ∧ resT ks fs cs i ≤ 900000000000 := by
  have := drp_bd hk hf
  unfold resT
  rcases hc with e | e | e <;> rw [e] <;> omega
theorem bndT_bd {ks fs cs : List Int} {i : Nat} (hk : 1 ≤ ks.getD i 0 ∧ ks.getD i 0 ≤ 1000) (hf : -30000 ≤ fs.getD i 0 ∧ fs.getD i 0 ≤ 30000) : 0 ≤ bndT ks fs cs i ∧ bndT ks fs cs i ≤ 90001000 := by
  have := kb_bd hk (ab_bd hf)
  unfold bndT
  split <;> omega
theorem resTo_bd {ks fs cs : List Int} {m : Nat} (hk : ∀ i, i < m → 1 ≤ ks.getD i 0 ∧ ks.getD i 0 ≤ 1000) (hf : ∀ i, i < m → -30000 ≤ fs.getD i 0 ∧ fs.getD i 0 ≤ 30000) (hc : CyV m cs) : ∀ k, k ≤ m → -(900000000000 * (k : Int)) ≤ resTo ks fs cs k ∧ resTo ks fs cs k ≤ 900000000000 * (k : Int) := by
  intro k
  induction k with
  | zero => intro _; exact ⟨by show _ ≤ (0 : Int); omega, by show (0 : Int) ≤ _; omega⟩
  | succ k ih =>
    intro h1
    have h2 := ih (by omega)
    have h3 := resT_bd (ks := ks) (fs := fs) (cs := cs) (hk k (by omega)) (hf k (by omega)) (hc k (by omega))
    show _ ≤ resTo ks fs cs k + resT ks fs cs k ∧ resTo ks fs cs k + resT ks fs cs k ≤ _
    omega
theorem bndTo_bd {ks fs cs : List Int} {m : Nat} (hk : ∀ i, i < m → 1 ≤ ks.getD i 0 ∧ ks.getD i 0 ≤ 1000) (hf : ∀ i, i < m → -30000 ≤ fs.getD i 0 ∧ fs.getD i 0 ≤ 30000) : ∀ k, k ≤ m → 0 ≤ bndTo ks fs cs k ∧ bndTo ks fs cs k ≤ 90001000 * (k : Int) := by
  intro k
  induction k with
  | zero => intro _; exact ⟨Int.le_refl _, by show (0 : Int) ≤ _; omega⟩
  | succ k ih =>
    intro h1
    have h2 := ih (by omega)
    have h3 := bndT_bd (ks := ks) (fs := fs) (cs := cs) (hk k (by omega)) (hf k (by omega))
    show 0 ≤ bndTo ks fs cs k + bndT ks fs cs k ∧ bndTo ks fs cs k + bndT ks fs cs k ≤ _
    omega
theorem res_all (ks fs cs : List Int) : resTo ks fs cs fs.length = resL ks fs cs := rfl
theorem bnd_all (ks fs cs : List Int) : bndTo ks fs cs fs.length = bndL ks fs cs := rfl
/-- What holds of a chord's cycle. -/
theorem cyc_ok {ns : List Nd} {ps : List Pp} {n m ci : Nat} (hok : NetOk ns ps) (hn : ns.length = n) (hm : ps.length = m) (hc : ci < m) (hct : ¬ Tree (esOf ps) n ci) : (cyc (esOf ps) n ci).length = m ∧ CyV m (cyc (esOf ps) n ci) := by
  have hg : Good (esOf ps) n := by rw [← hn]; exact net_good hok
  exact ⟨by rw [cyc_len hg, esOf_len, hm], fun i hi => cyc_vals hg (by rw [esOf_len]; omega) hct (by rw [esOf_len]; omega)⟩
set_option maxHeartbeats 8000000 in
theorem res_any (A B C : Option Addr) (n c m d e1 ci : Nat) (fs : List Int) (ns : List Nd) (ps : List Pp) (w : World) (h : IsNet w A n c ns B m d ps) (hok : NetOk ns ps) (hf : Ints w C m fs) (hfr : inR fs = true) (hci : ci < m) (hct : ¬ Tree (esOf ps) n ci) :
    Calls Tryz.prog 96 #[.agg #[.slice A n c, .slice B m d], .slice C m e1, .int .i64 ci] w fun e w' => e = .returned (.int .i64 (resL (ksL ps) fs (cyc (esOf ps) n ci))) ∧ Below w.heap.size w w' := by
  obtain ⟨hcl, hcv⟩ := cyc_ok hok h.nodes.len h.pipes.len hci hct
  obtain ⟨cs, hcs⟩ : ∃ y, cyc (esOf ps) n ci = y := ⟨_, rfl⟩
  rw [hcs] at hcl hcv
  have hm : ps.length = m := h.pipes.len
  have hm40 : m ≤ 40 := by have := hok.2.2.1; omega
  have HK := Lib.hid (show ∀ i, i < m → 1 ≤ (ksL ps).getD i 0 ∧ (ksL ps).getD i 0 ≤ 1000 from fun i hi => ksL_bd hok (by omega))
  have HF := Lib.hid (show ∀ i, i < m → -30000 ≤ fs.getD i 0 ∧ fs.getD i 0 ≤ 30000 from fun i hi => inR_at hfr (by rw [hf.len]; exact hi))
  have HOK := Lib.hid hok
  have HFL := Lib.hid hf.len
  have HCL := Lib.hid hcl
  have HCV := Lib.hid hcv
  have HCS := Lib.hid hcs
  have bx := box_new w #[.slice A n c, .slice B m d] 33
  have hV : Below w.heap.size w (w.alloc (.cells #[.slice A n c, .slice B m d] 33)) := (Below.refl _ _).alloc (Nat.le_refl _) _
  clear hcl hcv hcs hok hfr hm hct
  go_enter Tryz.func96, Tryz.ntmps96
  go_upto_region 2 with fail
  generalize (w.alloc (.cells #[.slice A n c, .slice B m d] 33)) = V at *
  have xl := bx.lt
  have x0 : V.cell? ⟨w.heap.size, 0, none⟩ = some (.slice A n c) := bx.cell 0
  have x1 : V.cell? ⟨w.heap.size, 1, none⟩ = some (.slice B m d) := bx.cell 1
  go_wp2_with (go_at_call 123; refine (cycleOf_any _ _ _ _ _ _ ci ns ps _ (h.below hV) HOK.out hci).mono ?_; rw [HCS.out]; rintro e1 W ⟨A1, c1, rfl, o1, hb1⟩; rw [HCL.out] at o1 ⊢)
  have hW := bthen hV hb1 hV.size
  have bx1 := bx.belowA hb1
  clear bx x0 x1 xl hb1 hV
  go_loopw [7, 14] (fun cc ii wr => ∃ (k : Nat), k ≤ m ∧ cc = .int .i64 (resTo (ksL ps) fs cs k) ∧ ii = .int .i64 k ∧ Below W.heap.size W wr) (fun _ ii _ => m - (intOf ii).toNat)
  case atStart => exact ⟨0, Nat.zero_le _, rfl, rfl, Below.refl _ _⟩
  case round =>
    obtain ⟨k, hk, rfl, rfl, hb⟩ := hrel
    by_cases hlt : k < m
    · have hB := hW.trans (hb.mono hW.size)
      obtain ⟨bf, of, rfl, hfw, cf0⟩ := hf.atD hlt
      have cc := ((o1.below hb).ints.atD hlt)
      obtain ⟨bc, oc, rfl, hcw, cc⟩ := cc
      obtain ⟨bp, op, p, rfl, hpw, hpp, _, q0, q1, q2, q3, q4⟩ := h.pipes.at_ hlt
      have hpk := (pipe_ok HOK.out hpp).2.2.2.2.2.1
      have hfk := HF.out k hlt
      have hcz := HCV.out k hlt
      have HKP := Lib.hid (ksL_at hpp)
      have cf := (hB.cell (p := ⟨bf, of + k, none⟩) hfw).trans cf0
      have hs := hB.size
      have hfl : bf < wr.heap.size := by omega
      have hpl : bp < wr.heap.size := by omega
      have i0 : (0 : Int) ≤ (k : Int) := by omega
      have i1 : (k : Int) < (m : Int) := by omega
      have hbd := resTo_bd (ks := ksL ps) (fs := fs) (cs := cs) HK.out HF.out HCV.out k (by omega)
      have HST := Lib.hid (show resTo (ksL ps) fs cs (k + 1) = resTo (ksL ps) fs cs k + cs.getD k 0 * drp ((ksL ps).getD k 0) (fs.getD k 0) from rfl)
      rw [HKP.out] at HST
      obtain ⟨C0, hC0⟩ : ∃ y, resTo (ksL ps) fs cs k = y := ⟨_, rfl⟩
      rw [hC0] at hbd HST ⊢
      obtain ⟨f, hf1⟩ : ∃ y, fs.getD k 0 = y := ⟨_, rfl⟩
      obtain ⟨z, hz1⟩ : ∃ y, cs.getD k 0 = y := ⟨_, rfl⟩
      rw [hf1] at cf hfk HST
      rw [hz1] at cc hcz HST
      have r0 := (hB.cell (p := ⟨bp, op + k * 5, none⟩) hpw).trans q0
      have r1 := (hB.cell (p := ⟨bp, op + k * 5 + 1, none⟩) hpw).trans q1
      have r2 := (hB.cell (p := ⟨bp, op + k * 5 + 2, none⟩) hpw).trans q2
      have r3 := (hB.cell (p := ⟨bp, op + k * 5 + 3, none⟩) hpw).trans q3
      have r4 := (hB.cell (p := ⟨bp, op + k * 5 + 4, none⟩) hpw).trans q4
      obtain ⟨pf, hp0⟩ : ∃ y, p.fr = y := ⟨_, rfl⟩
      obtain ⟨pt, hp1⟩ : ∃ y, p.to = y := ⟨_, rfl⟩
      obtain ⟨pk, hp2⟩ : ∃ y, p.k = y := ⟨_, rfl⟩
      obtain ⟨pv, hp3⟩ : ∃ y, p.v = y := ⟨_, rfl⟩
      obtain ⟨pl, hp4⟩ : ∃ y, p.l = y := ⟨_, rfl⟩
      have bw := bx1.belowA hb
      have xl := bw.lt
      have x0 : wr.cell? ⟨w.heap.size, 0, none⟩ = some (.slice A n c) := bw.cell 0
      have x1 : wr.cell? ⟨w.heap.size, 1, none⟩ = some (.slice (some ⟨bp, op, none⟩) m d) := bw.cell 1
      have hdb := drp_bd hpk hfk
      obtain ⟨dr, hdr⟩ : ∃ y, drp p.k f = y := ⟨_, rfl⟩
      rw [hdr] at hdb HST
      have HDP := Lib.hid hdr
      have HPK := Lib.hid hpk
      have HPP := Lib.hid hpp
      have fk1 := hfk.1
      have fk2 := hfk.2
      have hzd : z * dr = 0 ∨ z * dr = dr ∨ z * dr = -dr := by rcases hcz with e | e | e <;> rw [e] <;> omega
      have s1 : IntKind.i64.wrap (z * dr) = z * dr := IntWalk.i64_in _ (by omega)
      have s2 : IntKind.i64.wrap (C0 + z * dr) = C0 + z * dr := IntWalk.i64_in _ (by omega)
      rw [hp0] at r0
      rw [hp1] at r1
      rw [hp2] at r2
      rw [hp3] at r3
      rw [hp4] at r4
      have kN : Kept (IsNet wr A n c ns (some ⟨bp, op, none⟩) m d ps) := ⟨h.below hB⟩
      have kh : Kept (Below W.heap.size W wr) := ⟨hb⟩
      have kU : Kept (Below wr.heap.size wr wr.drew) := ⟨(Below.refl _ _).drew⟩
      obtain ⟨wi, rfl⟩ : ∃ wi : World, wi = wr := ⟨_, rfl⟩
      clear hb hB q0 q1 q2 q3 q4 hp0 hp1 hp3 hp4 hC0 hf1 hz1 bw hdr hzd hbd cf0 hpp
      rw [hp2] at HDP HPK
      go_upto_region 5 with fail
      go_region_held3 (fun w' => w.heap.size < w'.heap.size ∧ bp < w'.heap.size ∧ bf < w'.heap.size ∧ w'.cell? ⟨w.heap.size, 0, none⟩ = some (.slice A n c) ∧ w'.cell? ⟨w.heap.size, 1, none⟩ = some (.slice (some ⟨bp, op, none⟩) m d) ∧ w'.cell? ⟨bp, op + k * 5, none⟩ = some (.int .i64 pf) ∧ w'.cell? ⟨bp, op + k * 5 + 1, none⟩ = some (.int .i64 pt) ∧ w'.cell? ⟨bp, op + k * 5 + 2, none⟩ = some (.int .i64 pk) ∧ w'.cell? ⟨bp, op + k * 5 + 3, none⟩ = some (.int .i64 pv) ∧ w'.cell? ⟨bp, op + k * 5 + 4, none⟩ = some (.int .i64 pl) ∧ w'.cell? ⟨bf, of + k, none⟩ = some (.int .i64 f) ∧ Kept (Below wi.heap.size wi w'))
        (first | (go_split_ands; refine ⟨by have := hbb.size; omega, by have := hbb.size; omega, by have := hbb.size; omega, ?_, ?_, ?_, ?_, ?_, ?_, ?_, ?_, ⟨bthen (Kept.out ‹Kept (Below wi.heap.size _ _)›) hbb (Kept.out ‹Kept (Below wi.heap.size _ _)›).size⟩⟩ <;> (rw [hbb.cell (by simp; omega)]; assumption)) | go_keep)
        (first | (go_at_call 135; go_split_ands; refine (dropOf_any _ _ _ _ _ _ _ HPK.out ⟨fk1, fk2⟩).mono ?_; rw [HDP.out]; rintro e5 wb ⟨rfl, hbb⟩))
      rename_i hh
      obtain ⟨_, _, _, _, _, _, _, _, _, _, _, ⟨hbB⟩⟩ := hh
      have hbN := bthen kh.out hbB kh.out.size
      clear kh kU kN hp2
      go_wp2_with fail
      go_roundw
      case rel => exact ⟨k + 1, by omega, by rw [HST.out], by go_num, hbN⟩
      case measure => simp [intOf]; omega
    · obtain rfl : k = m := by omega
      have HC := Lib.hid (show resTo (ksL ps) fs cs k = resL (ksL ps) fs cs by rw [← HFL.out]; rfl)
      go_wp2_with fail
      go_ret
      exact ⟨ri (by rw [HC.out, HCS.out]), hW.trans (hb.mono hW.size)⟩
set_option maxHeartbeats 8000000 in
theorem bnd_any (A B C : Option Addr) (n c m d e1 ci : Nat) (fs : List Int) (ns : List Nd) (ps : List Pp) (w : World) (h : IsNet w A n c ns B m d ps) (hok : NetOk ns ps) (hf : Ints w C m fs) (hfr : inR fs = true) (hci : ci < m) (hct : ¬ Tree (esOf ps) n ci) :
    Calls Tryz.prog 97 #[.agg #[.slice A n c, .slice B m d], .slice C m e1, .int .i64 ci] w fun e w' => e = .returned (.int .i64 (bndL (ksL ps) fs (cyc (esOf ps) n ci))) ∧ Below w.heap.size w w' := by
  obtain ⟨hcl, hcv⟩ := cyc_ok hok h.nodes.len h.pipes.len hci hct
  obtain ⟨cs, hcs⟩ : ∃ y, cyc (esOf ps) n ci = y := ⟨_, rfl⟩
  rw [hcs] at hcl hcv
  have hm : ps.length = m := h.pipes.len
  have hm40 : m ≤ 40 := by have := hok.2.2.1; omega
  have HK := Lib.hid (show ∀ i, i < m → 1 ≤ (ksL ps).getD i 0 ∧ (ksL ps).getD i 0 ≤ 1000 from fun i hi => ksL_bd hok (by omega))
  have HF := Lib.hid (show ∀ i, i < m → -30000 ≤ fs.getD i 0 ∧ fs.getD i 0 ≤ 30000 from fun i hi => inR_at hfr (by rw [hf.len]; exact hi))
  have HOK := Lib.hid hok
  have HFL := Lib.hid hf.len
  have HCL := Lib.hid hcl
  have HCV := Lib.hid hcv
  have HCS := Lib.hid hcs
  have bx := box_new w #[.slice A n c, .slice B m d] 33
  have hV : Below w.heap.size w (w.alloc (.cells #[.slice A n c, .slice B m d] 33)) := (Below.refl _ _).alloc (Nat.le_refl _) _
  clear hcl hcv hcs hok hfr hm hct
  go_enter Tryz.func97, Tryz.ntmps97
  go_upto_region 2 with fail
  generalize (w.alloc (.cells #[.slice A n c, .slice B m d] 33)) = V at *
  have xl := bx.lt
  have x0 : V.cell? ⟨w.heap.size, 0, none⟩ = some (.slice A n c) := bx.cell 0
  have x1 : V.cell? ⟨w.heap.size, 1, none⟩ = some (.slice B m d) := bx.cell 1
  go_wp2_with (go_at_call 123; refine (cycleOf_any _ _ _ _ _ _ ci ns ps _ (h.below hV) HOK.out hci).mono ?_; rw [HCS.out]; rintro e1 W ⟨A1, c1, rfl, o1, hb1⟩; rw [HCL.out] at o1 ⊢)
  have hW := bthen hV hb1 hV.size
  have bx1 := bx.belowA hb1
  clear bx x0 x1 xl hb1 hV
  go_loopw [7, 14] (fun cc ii wr => ∃ (k : Nat), k ≤ m ∧ cc = .int .i64 (bndTo (ksL ps) fs cs k) ∧ ii = .int .i64 k ∧ Below W.heap.size W wr) (fun _ ii _ => m - (intOf ii).toNat)
  case atStart => exact ⟨0, Nat.zero_le _, rfl, rfl, Below.refl _ _⟩
  case round =>
    obtain ⟨k, hk, rfl, rfl, hb⟩ := hrel
    by_cases hlt : k < m
    · have hB := hW.trans (hb.mono hW.size)
      obtain ⟨bf, of, rfl, hfw, cf0⟩ := hf.atD hlt
      have cc := ((o1.below hb).ints.atD hlt)
      obtain ⟨bc, oc, rfl, hcw, cc⟩ := cc
      obtain ⟨bp, op, p, rfl, hpw, hpp, _, q0, q1, q2, q3, q4⟩ := h.pipes.at_ hlt
      have hpk := (pipe_ok HOK.out hpp).2.2.2.2.2.1
      have hfk := HF.out k hlt
      have hcz := HCV.out k hlt
      have HKP := Lib.hid (ksL_at hpp)
      have cf := (hB.cell (p := ⟨bf, of + k, none⟩) hfw).trans cf0
      have hs := hB.size
      have hfl : bf < wr.heap.size := by omega
      have hpl : bp < wr.heap.size := by omega
      have i0 : (0 : Int) ≤ (k : Int) := by omega
      have i1 : (k : Int) < (m : Int) := by omega
      have hbd := bndTo_bd (ks := ksL ps) (fs := fs) (cs := cs) HK.out HF.out k (by omega)
      have HST := Lib.hid (show bndTo (ksL ps) fs cs (k + 1) = bndTo (ksL ps) fs cs k + (if cs.getD k 0 = 0 then 0 else (ksL ps).getD k 0 * (3 * ab (fs.getD k 0) + 1)) from rfl)
      rw [HKP.out] at HST
      obtain ⟨C0, hC0⟩ : ∃ y, bndTo (ksL ps) fs cs k = y := ⟨_, rfl⟩
      rw [hC0] at hbd HST ⊢
      obtain ⟨f, hf1⟩ : ∃ y, fs.getD k 0 = y := ⟨_, rfl⟩
      obtain ⟨z, hz1⟩ : ∃ y, cs.getD k 0 = y := ⟨_, rfl⟩
      rw [hf1] at cf hfk HST
      rw [hz1] at cc hcz HST
      have r0 := (hB.cell (p := ⟨bp, op + k * 5, none⟩) hpw).trans q0
      have r1 := (hB.cell (p := ⟨bp, op + k * 5 + 1, none⟩) hpw).trans q1
      have r2 := (hB.cell (p := ⟨bp, op + k * 5 + 2, none⟩) hpw).trans q2
      have r3 := (hB.cell (p := ⟨bp, op + k * 5 + 3, none⟩) hpw).trans q3
      have r4 := (hB.cell (p := ⟨bp, op + k * 5 + 4, none⟩) hpw).trans q4
      obtain ⟨pf, hp0⟩ : ∃ y, p.fr = y := ⟨_, rfl⟩
      obtain ⟨pt, hp1⟩ : ∃ y, p.to = y := ⟨_, rfl⟩
      obtain ⟨pk, hp2⟩ : ∃ y, p.k = y := ⟨_, rfl⟩
      obtain ⟨pv, hp3⟩ : ∃ y, p.v = y := ⟨_, rfl⟩
      obtain ⟨pl, hp4⟩ : ∃ y, p.l = y := ⟨_, rfl⟩
      have bw := bx1.belowA hb
      have xl := bw.lt
      have x0 : wr.cell? ⟨w.heap.size, 0, none⟩ = some (.slice A n c) := bw.cell 0
      have x1 : wr.cell? ⟨w.heap.size, 1, none⟩ = some (.slice (some ⟨bp, op, none⟩) m d) := bw.cell 1
      have hab := ab_bd hfk
      have hkb := kb_bd hpk hab
      have fk1 := hfk.1
      have fk2 := hfk.2
      rw [hp2] at r2 hkb HST
      have s1 : IntKind.i64.wrap (3 * ab f) = 3 * ab f := IntWalk.i64_in _ (by omega)
      have s2 : IntKind.i64.wrap (3 * ab f + 1) = 3 * ab f + 1 := IntWalk.i64_in _ (by omega)
      have s3 : IntKind.i64.wrap (pk * (3 * ab f + 1)) = pk * (3 * ab f + 1) := IntWalk.i64_in _ (by omega)
      have s4 : IntKind.i64.wrap (C0 + pk * (3 * ab f + 1)) = C0 + pk * (3 * ab f + 1) := IntWalk.i64_in _ (by omega)
      clear q0 q1 q2 q3 q4 hp0 hp1 hp3 hp4 hC0 hf1 hz1 bw cf0 hpp hkb hab hbd
      by_cases hz : z = 0
      · have t1 : (z != (0 : Int)) = false := by simp [hz]
        rw [if_pos hz] at HST
        clear hz hcz
        go_wp2_with fail
        go_roundw
        case rel => exact ⟨k + 1, by omega, by rw [HST.out, Int.add_zero], by go_num, hb⟩
        case measure => simp [intOf]; omega
      · have t1 : (z != (0 : Int)) = true := by simp [hz]
        rw [if_neg hz] at HST
        clear hz hcz
        go_upto_region 6 with fail
        go_quiet ((go_at_call 95; exact Calls.quiet_of_same (absOf_any _ _ (by omega) (by omega))))
        have hbE := hb.trans ((Qt.below ⟨nq, rfl⟩ W.heap.size : Below W.heap.size wr (wr.drewN nq)))
        go_wp2_with fail
        go_roundw
        case rel => exact ⟨k + 1, by omega, by rw [HST.out], by go_num, hbE⟩
        case measure => simp [intOf]; omega
    · obtain rfl : k = m := by omega
      have HC := Lib.hid (show bndTo (ksL ps) fs cs k = bndL (ksL ps) fs cs by rw [← HFL.out]; rfl)
      go_wp2_with fail
      go_ret
      exact ⟨ri (by rw [HC.out, HCS.out]), hW.trans (hb.mono hW.size)⟩
set_option maxHeartbeats 8000000 in
theorem sRes_any (A B C E : Option Addr) (n c m d e1 e2 : Nat) (fs cs : List Int) (ns : List Nd) (ps : List Pp) (w : World) (h : IsNet w A n c ns B m d ps) (hok : NetOk ns ps) (hf : Ints w C m fs) (hfr : inR fs = true) (hcc : Ints w E m cs) (hcv : CyV m cs) :
    Calls Tryz.prog 142 #[.agg #[.slice A n c, .slice B m d], .slice C m e1, .slice E m e2] w fun e w' => e = .returned (.int .i64 (resL (ksL ps) fs cs)) ∧ Below w.heap.size w w' := by
  have hm : ps.length = m := h.pipes.len
  have hm40 : m ≤ 40 := by have := hok.2.2.1; omega
  have HK := Lib.hid (show ∀ i, i < m → 1 ≤ (ksL ps).getD i 0 ∧ (ksL ps).getD i 0 ≤ 1000 from fun i hi => ksL_bd hok (by omega))
  have HF := Lib.hid (show ∀ i, i < m → -30000 ≤ fs.getD i 0 ∧ fs.getD i 0 ≤ 30000 from fun i hi => inR_at hfr (by rw [hf.len]; exact hi))
  have HOK := Lib.hid hok
  have HFL := Lib.hid hf.len
  have HCV := Lib.hid hcv
  have bx := box_new w #[.slice A n c, .slice B m d] 33
  have hV : Below w.heap.size w (w.alloc (.cells #[.slice A n c, .slice B m d] 33)) := (Below.refl _ _).alloc (Nat.le_refl _) _
  clear hcv hok hfr hm
  have hW := hV
  go_enter Tryz.func142, Tryz.ntmps142
  go_wp2_with fail
  generalize (w.alloc (.cells #[.slice A n c, .slice B m d] 33)) = W at *
  have bx1 := bx
  clear bx hV
  go_loopw [7, 8] (fun cc ii wr => ∃ (k : Nat), k ≤ m ∧ cc = .int .i64 (resTo (ksL ps) fs cs k) ∧ ii = .int .i64 k ∧ Below W.heap.size W wr) (fun _ ii _ => m - (intOf ii).toNat)
  case atStart => exact ⟨0, Nat.zero_le _, rfl, rfl, Below.refl _ _⟩
  case round =>
    obtain ⟨k, hk, rfl, rfl, hb⟩ := hrel
    by_cases hlt : k < m
    · have hB := hW.trans (hb.mono hW.size)
      obtain ⟨bf, of, rfl, hfw, cf0⟩ := hf.atD hlt
      obtain ⟨bc, oc, rfl, hcw, cc0⟩ := hcc.atD hlt
      have cc := (hB.cell (p := ⟨bc, oc + k, none⟩) hcw).trans cc0
      obtain ⟨bp, op, p, rfl, hpw, hpp, _, q0, q1, q2, q3, q4⟩ := h.pipes.at_ hlt
      have hpk := (pipe_ok HOK.out hpp).2.2.2.2.2.1
      have hfk := HF.out k hlt
      have hcz := HCV.out k hlt
      have HKP := Lib.hid (ksL_at hpp)
      have cf := (hB.cell (p := ⟨bf, of + k, none⟩) hfw).trans cf0
      have hs := hB.size
      have hfl : bf < wr.heap.size := by omega
      have hpl : bp < wr.heap.size := by omega
      have i0 : (0 : Int) ≤ (k : Int) := by omega
      have i1 : (k : Int) < (m : Int) := by omega
      have hbd := resTo_bd (ks := ksL ps) (fs := fs) (cs := cs) HK.out HF.out HCV.out k (by omega)
      have HST := Lib.hid (show resTo (ksL ps) fs cs (k + 1) = resTo (ksL ps) fs cs k + cs.getD k 0 * drp ((ksL ps).getD k 0) (fs.getD k 0) from rfl)
      rw [HKP.out] at HST
      obtain ⟨C0, hC0⟩ : ∃ y, resTo (ksL ps) fs cs k = y := ⟨_, rfl⟩
      rw [hC0] at hbd HST ⊢
      obtain ⟨f, hf1⟩ : ∃ y, fs.getD k 0 = y := ⟨_, rfl⟩
      obtain ⟨z, hz1⟩ : ∃ y, cs.getD k 0 = y := ⟨_, rfl⟩
      rw [hf1] at cf hfk HST
      rw [hz1] at cc hcz HST
      have r0 := (hB.cell (p := ⟨bp, op + k * 5, none⟩) hpw).trans q0
      have r1 := (hB.cell (p := ⟨bp, op + k * 5 + 1, none⟩) hpw).trans q1
      have r2 := (hB.cell (p := ⟨bp, op + k * 5 + 2, none⟩) hpw).trans q2
      have r3 := (hB.cell (p := ⟨bp, op + k * 5 + 3, none⟩) hpw).trans q3
      have r4 := (hB.cell (p := ⟨bp, op + k * 5 + 4, none⟩) hpw).trans q4
      obtain ⟨pf, hp0⟩ : ∃ y, p.fr = y := ⟨_, rfl⟩
      obtain ⟨pt, hp1⟩ : ∃ y, p.to = y := ⟨_, rfl⟩
      obtain ⟨pk, hp2⟩ : ∃ y, p.k = y := ⟨_, rfl⟩
      obtain ⟨pv, hp3⟩ : ∃ y, p.v = y := ⟨_, rfl⟩
      obtain ⟨pl, hp4⟩ : ∃ y, p.l = y := ⟨_, rfl⟩
      have bw := bx1.belowA hb
      have xl := bw.lt
      have x0 : wr.cell? ⟨w.heap.size, 0, none⟩ = some (.slice A n c) := bw.cell 0
      have x1 : wr.cell? ⟨w.heap.size, 1, none⟩ = some (.slice (some ⟨bp, op, none⟩) m d) := bw.cell 1
      have hdb := drp_bd hpk hfk
      obtain ⟨dr, hdr⟩ : ∃ y, drp p.k f = y := ⟨_, rfl⟩
      rw [hdr] at hdb HST
      have HDP := Lib.hid hdr
      have HPK := Lib.hid hpk
      have HPP := Lib.hid hpp
      have fk1 := hfk.1
      have fk2 := hfk.2
      have hzd : z * dr = 0 ∨ z * dr = dr ∨ z * dr = -dr := by rcases hcz with e | e | e <;> rw [e] <;> omega
      have s1 : IntKind.i64.wrap (z * dr) = z * dr := IntWalk.i64_in _ (by omega)
      have s2 : IntKind.i64.wrap (C0 + z * dr) = C0 + z * dr := IntWalk.i64_in _ (by omega)
      have hcl : bc < wr.heap.size := by omega
      rw [hp0] at r0
      rw [hp1] at r1
      rw [hp2] at r2
      rw [hp3] at r3
      rw [hp4] at r4
      have kN : Kept (IsNet wr A n c ns (some ⟨bp, op, none⟩) m d ps) := ⟨h.below hB⟩
      have kh : Kept (Below W.heap.size W wr) := ⟨hb⟩
      have kU : Kept (Below wr.heap.size wr wr.drew) := ⟨(Below.refl _ _).drew⟩
      obtain ⟨wi, rfl⟩ : ∃ wi : World, wi = wr := ⟨_, rfl⟩
      clear cc0 hb hB q0 q1 q2 q3 q4 hp0 hp1 hp3 hp4 hC0 hf1 hz1 bw hdr hzd hbd cf0 hpp
      go_upto_region 5 with fail
      go_region_held3 (fun w' => w.heap.size < w'.heap.size ∧ bp < w'.heap.size ∧ bf < w'.heap.size ∧ bc < w'.heap.size ∧ w'.cell? ⟨w.heap.size, 0, none⟩ = some (.slice A n c) ∧ w'.cell? ⟨w.heap.size, 1, none⟩ = some (.slice (some ⟨bp, op, none⟩) m d) ∧ w'.cell? ⟨bp, op + k * 5, none⟩ = some (.int .i64 pf) ∧ w'.cell? ⟨bp, op + k * 5 + 1, none⟩ = some (.int .i64 pt) ∧ w'.cell? ⟨bp, op + k * 5 + 2, none⟩ = some (.int .i64 pk) ∧ w'.cell? ⟨bp, op + k * 5 + 3, none⟩ = some (.int .i64 pv) ∧ w'.cell? ⟨bp, op + k * 5 + 4, none⟩ = some (.int .i64 pl) ∧ w'.cell? ⟨bf, of + k, none⟩ = some (.int .i64 f) ∧ w'.cell? ⟨bc, oc + k, none⟩ = some (.int .i64 z) ∧ Kept (Below wi.heap.size wi w'))
        (first | (go_split_ands; refine ⟨by have := hbb.size; omega, by have := hbb.size; omega, by have := hbb.size; omega, by have := hbb.size; omega, ?_, ?_, ?_, ?_, ?_, ?_, ?_, ?_, ?_, ⟨bthen (Kept.out ‹Kept (Below wi.heap.size _ _)›) hbb (Kept.out ‹Kept (Below wi.heap.size _ _)›).size⟩⟩ <;> (rw [hbb.cell (by simp; omega)]; assumption)) | go_keep)
        (first | (go_at_call 137; go_split_ands; refine (sDrop_any _ _ _ _ _ _ k _ p ns ps _ (kN.out.below (Kept.out ‹Kept (Below wi.heap.size _ _)›)) hlt HPP.out HPK.out ⟨fk1, fk2⟩).mono ?_; rw [HDP.out]; rintro e5 wb ⟨rfl, hbb⟩))
      rename_i hh
      obtain ⟨_, _, _, _, _, _, _, _, _, _, _, _, _, ⟨hbB⟩⟩ := hh
      have hbN := bthen kh.out hbB kh.out.size
      clear kh kU kN hp2
      go_wp2_with fail
      go_roundw
      case rel => exact ⟨k + 1, by omega, by rw [HST.out], by go_num, hbN⟩
      case measure => simp [intOf]; omega
    · obtain rfl : k = m := by omega
      have HC := Lib.hid (show resTo (ksL ps) fs cs k = resL (ksL ps) fs cs by rw [← HFL.out]; rfl)
      go_wp2_with fail
      go_ret
      exact ⟨ri (by rw [HC.out]), hW.trans (hb.mono hW.size)⟩
set_option maxHeartbeats 8000000 in
theorem sBnd_any (A B C E : Option Addr) (n c m d e1 e2 : Nat) (fs cs : List Int) (ns : List Nd) (ps : List Pp) (w : World) (h : IsNet w A n c ns B m d ps) (hok : NetOk ns ps) (hf : Ints w C m fs) (hfr : inR fs = true) (hcc : Ints w E m cs) (hcv : CyV m cs) :
    Calls Tryz.prog 143 #[.agg #[.slice A n c, .slice B m d], .slice C m e1, .slice E m e2] w fun e w' => e = .returned (.int .i64 (bndL (ksL ps) fs cs)) ∧ Below w.heap.size w w' := by
  have hm : ps.length = m := h.pipes.len
  have hm40 : m ≤ 40 := by have := hok.2.2.1; omega
  have HK := Lib.hid (show ∀ i, i < m → 1 ≤ (ksL ps).getD i 0 ∧ (ksL ps).getD i 0 ≤ 1000 from fun i hi => ksL_bd hok (by omega))
  have HF := Lib.hid (show ∀ i, i < m → -30000 ≤ fs.getD i 0 ∧ fs.getD i 0 ≤ 30000 from fun i hi => inR_at hfr (by rw [hf.len]; exact hi))
  have HOK := Lib.hid hok
  have HFL := Lib.hid hf.len
  have HCV := Lib.hid hcv
  have bx := box_new w #[.slice A n c, .slice B m d] 33
  have hV : Below w.heap.size w (w.alloc (.cells #[.slice A n c, .slice B m d] 33)) := (Below.refl _ _).alloc (Nat.le_refl _) _
  clear hcv hok hfr hm
  have hW := hV
  go_enter Tryz.func143, Tryz.ntmps143
  go_wp2_with fail
  generalize (w.alloc (.cells #[.slice A n c, .slice B m d] 33)) = W at *
  have bx1 := bx
  clear bx hV
  go_loopw [7, 8] (fun cc ii wr => ∃ (k : Nat), k ≤ m ∧ cc = .int .i64 (bndTo (ksL ps) fs cs k) ∧ ii = .int .i64 k ∧ Below W.heap.size W wr) (fun _ ii _ => m - (intOf ii).toNat)
  case atStart => exact ⟨0, Nat.zero_le _, rfl, rfl, Below.refl _ _⟩
  case round =>
    obtain ⟨k, hk, rfl, rfl, hb⟩ := hrel
    by_cases hlt : k < m
    · have hB := hW.trans (hb.mono hW.size)
      obtain ⟨bf, of, rfl, hfw, cf0⟩ := hf.atD hlt
      obtain ⟨bc, oc, rfl, hcw, cc0⟩ := hcc.atD hlt
      have cc := (hB.cell (p := ⟨bc, oc + k, none⟩) hcw).trans cc0
      obtain ⟨bp, op, p, rfl, hpw, hpp, _, q0, q1, q2, q3, q4⟩ := h.pipes.at_ hlt
      have hpk := (pipe_ok HOK.out hpp).2.2.2.2.2.1
      have hfk := HF.out k hlt
      have hcz := HCV.out k hlt
      have HKP := Lib.hid (ksL_at hpp)
      have cf := (hB.cell (p := ⟨bf, of + k, none⟩) hfw).trans cf0
      have hs := hB.size
      have hfl : bf < wr.heap.size := by omega
      have hpl : bp < wr.heap.size := by omega
      have i0 : (0 : Int) ≤ (k : Int) := by omega
      have i1 : (k : Int) < (m : Int) := by omega
      have hbd := bndTo_bd (ks := ksL ps) (fs := fs) (cs := cs) HK.out HF.out k (by omega)
      have HST := Lib.hid (show bndTo (ksL ps) fs cs (k + 1) = bndTo (ksL ps) fs cs k + (if cs.getD k 0 = 0 then 0 else (ksL ps).getD k 0 * (3 * ab (fs.getD k 0) + 1)) from rfl)
      rw [HKP.out] at HST
      obtain ⟨C0, hC0⟩ : ∃ y, bndTo (ksL ps) fs cs k = y := ⟨_, rfl⟩
      rw [hC0] at hbd HST ⊢
      obtain ⟨f, hf1⟩ : ∃ y, fs.getD k 0 = y := ⟨_, rfl⟩
      obtain ⟨z, hz1⟩ : ∃ y, cs.getD k 0 = y := ⟨_, rfl⟩
      rw [hf1] at cf hfk HST
      rw [hz1] at cc hcz HST
      have r0 := (hB.cell (p := ⟨bp, op + k * 5, none⟩) hpw).trans q0
      have r1 := (hB.cell (p := ⟨bp, op + k * 5 + 1, none⟩) hpw).trans q1
      have r2 := (hB.cell (p := ⟨bp, op + k * 5 + 2, none⟩) hpw).trans q2
      have r3 := (hB.cell (p := ⟨bp, op + k * 5 + 3, none⟩) hpw).trans q3
      have r4 := (hB.cell (p := ⟨bp, op + k * 5 + 4, none⟩) hpw).trans q4
      obtain ⟨pf, hp0⟩ : ∃ y, p.fr = y := ⟨_, rfl⟩
      obtain ⟨pt, hp1⟩ : ∃ y, p.to = y := ⟨_, rfl⟩
      obtain ⟨pk, hp2⟩ : ∃ y, p.k = y := ⟨_, rfl⟩
      obtain ⟨pv, hp3⟩ : ∃ y, p.v = y := ⟨_, rfl⟩
      obtain ⟨pl, hp4⟩ : ∃ y, p.l = y := ⟨_, rfl⟩
      have bw := bx1.belowA hb
      have xl := bw.lt
      have x0 : wr.cell? ⟨w.heap.size, 0, none⟩ = some (.slice A n c) := bw.cell 0
      have x1 : wr.cell? ⟨w.heap.size, 1, none⟩ = some (.slice (some ⟨bp, op, none⟩) m d) := bw.cell 1
      have hab := ab_bd hfk
      have hkb := kb_bd hpk hab
      have fk1 := hfk.1
      have fk2 := hfk.2
      rw [hp2] at r2 hkb HST
      have hcl : bc < wr.heap.size := by omega
      have HZ : (if z = 0 then (0 : Int) else pk * (3 * ab f + 1)) = ab z * pk * (3 * ab f + 1) := by
        rcases hcz with e | e | e
        · rw [e, if_pos rfl]; simp [ab]
        · rw [e, if_neg (by decide), show ab 1 = 1 from rfl, Int.one_mul]
        · rw [e, if_neg (by decide), show ab (-1) = 1 from rfl, Int.one_mul]
      rw [HZ] at HST
      have hz1' : ab z = 0 ∨ ab z = 1 := by
        rcases hcz with e | e | e
        · left; rw [e]; rfl
        · right; rw [e]; rfl
        · right; rw [e]; rfl
      have hzk : ab z * pk = 0 ∨ ab z * pk = pk := by rcases hz1' with e | e <;> rw [e] <;> simp
      have hzb : ab z * pk * (3 * ab f + 1) = 0 ∨ ab z * pk * (3 * ab f + 1) = pk * (3 * ab f + 1) := by rcases hzk with e | e <;> rw [e] <;> simp
      have z1' : -1 ≤ z := by rcases hcz with e | e | e <;> omega
      have z2' : z ≤ 1 := by rcases hcz with e | e | e <;> omega
      rw [hp2] at hpk
      have s0 : IntKind.i64.wrap (ab z * pk) = ab z * pk := IntWalk.i64_in _ (by omega)
      have s1 : IntKind.i64.wrap (3 * ab f) = 3 * ab f := IntWalk.i64_in _ (by omega)
      have s2 : IntKind.i64.wrap (3 * ab f + 1) = 3 * ab f + 1 := IntWalk.i64_in _ (by omega)
      have s3 : IntKind.i64.wrap (ab z * pk * (3 * ab f + 1)) = ab z * pk * (3 * ab f + 1) := IntWalk.i64_in _ (by omega)
      have s4 : IntKind.i64.wrap (C0 + ab z * pk * (3 * ab f + 1)) = C0 + ab z * pk * (3 * ab f + 1) := IntWalk.i64_in _ (by omega)
      clear cc0 q0 q1 q2 q3 q4 hp0 hp1 hp3 hp4 hC0 hf1 hz1 bw cf0 hpp hkb hab hbd HZ hz1' hzk hzb hcz
      go_upto_region 5 with fail
      go_quiet ((go_at_call 141; exact Calls.quiet_of_same (sAbs_any _ _ (by omega) (by omega))))
      have hbE := hb.trans ((Qt.below ⟨nq, rfl⟩ W.heap.size : Below W.heap.size wr (wr.drewN nq)))
      go_wp2_with fail
      go_roundw
      case rel => exact ⟨k + 1, by omega, by rw [HST.out], by go_num, hbE⟩
      case measure => simp [intOf]; omega
    · obtain rfl : k = m := by omega
      have HC := Lib.hid (show bndTo (ksL ps) fs cs k = bndL (ksL ps) fs cs by rw [← HFL.out]; rfl)
      go_wp2_with fail
      go_ret
      exact ⟨ri (by rw [HC.out]), hW.trans (hb.mono hW.size)⟩
end Go.Proofs.YtpgegfnhokhlmabGreat
