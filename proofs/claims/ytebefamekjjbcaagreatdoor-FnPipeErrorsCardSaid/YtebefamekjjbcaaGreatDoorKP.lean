/- The plain law of the errors of pipes: 0 in the forest of an accepted proof, and minus the residual for a chord. No program in sight. What IsBalanced (where all stands), SuppliesOf, RelaxFlows (from the greatest step) of the program do, by walks over their text. Conditions: lengths of at most 1048576. What ResidualOf does, by a walk over its text. Condition: at most 2^20 flows. The plain law of FnPipeErrors: what the answers of the functions say of each other. No program in sight. -/
import Derived.Test.YtebefamekjjbcaaGreatDoorChk0
import Derived.Test.YtebefamekjjbcaaGreatDoorChd
import Derived.Test.YtebefamekjjbcaaGreatDoorRes
import Derived.Test.YtebefamekjjbcaaGreatDoorPErr2
import Derived.Test.YtebefamekjjbcaaGreatDoorKV
set_option linter.unusedVariables false
namespace Go.Proofs.YtebefamekjjbcaaGreatDoor

section
variable {ns : List Nd} {ps : List Pp} {n m : Nat} {zs fs ls : List Int}
theorem ck_parts (hc : codeC ns ps n zs = 0) (h : ckV ns ps n m zs fs ls = 0) : flB m fs = true ∧ outF (esOf ps) n fs = zs ∧ lvB n ls = true ∧ lvR (esOf ps) (ksL ps) n fs (ls.getD 0 0) = ls := by
  cases h1 : flB m fs
  · rw [ck_1 hc h1] at h; exact absurd h (by decide)
  · by_cases h2 : outF (esOf ps) n fs = zs
    · cases h3 : lvB n ls
      · rw [ck_3 hc h1 h2 h3] at h; exact absurd h (by decide)
      · by_cases h4 : lvR (esOf ps) (ksL ps) n fs (ls.getD 0 0) = ls
        · exact ⟨rfl, h2, rfl, h4⟩
        · rw [ck_4 hc h1 h2 h3 h4] at h; exact absurd h (by decide)
    · rw [ck_2 hc h1 h2] at h; exact absurd h (by decide)
/-- A proof that is not of the first fault bears flows that balance the supplies. -/
theorem ck_bal (hc : codeC ns ps n zs = 0) (h : ckV ns ps n m zs fs ls ≠ 1) : flB m fs = true ∧ outF (esOf ps) n fs = zs := by
  cases h1 : flB m fs
  · exact absurd (ck_1 hc h1) h
  · by_cases h2 : outF (esOf ps) n fs = zs
    · exact ⟨rfl, h2⟩
    · exact absurd (ck_2 hc h1 h2) h
theorem lv_gap {x : Int} (hn : ns.length = n) (hok : NetOk ns ps) (hcon : conB (esOf ps) n = true) (hl : lvR (esOf ps) (ksL ps) n fs x = ls) {i : Nat} (hi : Tree (esOf ps) n i) : ls.getD (efr (esOf ps) i) 0 - ls.getD (eto (esOf ps) i) 0 = dF (ksL ps) fs i := by
  have hg : Good (esOf ps) n := by rw [← hn]; exact net_good hok
  have hn1 : 0 < n := by have := hok.1; omega
  have hcn := (conB_iff hg hn1).1 hcon
  have hie := tree_lt hg hi
  obtain ⟨h1, h2, _⟩ := hg i hie
  rw [← hl, lvR_at h1, lvR_at h2]
  have := lvs_tree (d := dF (ksL ps) fs) (lv := List.replicate n 0) hg hcn (by simp) hi
  omega
theorem pe_dF (i : Nat) : peV ps fs ls i = ls.getD (efr (esOf ps) i) 0 - ls.getD (eto (esOf ps) i) 0 - dF (ksL ps) fs i := rfl
theorem pe_tree {x : Int} (hn : ns.length = n) (hok : NetOk ns ps) (hcon : conB (esOf ps) n = true) (hl : lvR (esOf ps) (ksL ps) n fs x = ls) {i : Nat} (hi : Tree (esOf ps) n i) : peV ps fs ls i = 0 := by
  rw [pe_dF, lv_gap hn hok hcon hl hi]
  omega
theorem pe_chord {x : Int} (hn : ns.length = n) (hok : NetOk ns ps) (hfl : fs.length = ps.length) (hcon : conB (esOf ps) n = true) (hl : lvR (esOf ps) (ksL ps) n fs x = ls) {c : Nat} (hc : c < ps.length) (hct : ¬ Tree (esOf ps) n c) : peV ps fs ls c = -resL (ksL ps) fs (cyc (esOf ps) n c) := by
  have hg : Good (esOf ps) n := by rw [← hn]; exact net_good hok
  have h1 := chord_gap hg (show c < (esOf ps).length by rw [esOf_len]; exact hc) hct (dF (ksL ps) fs) (fun v => ls.getD v 0) (fun i hi => lv_gap hn hok hcon hl hi)
  have h2 : resL (ksL ps) fs (cyc (esOf ps) n c) = sumN (esOf ps).length (fun i => (cyc (esOf ps) n c).getD i 0 * dF (ksL ps) fs i) := by
    unfold resL
    rw [hfl, esOf_len]
    rfl
  rw [h2, h1, pe_dF]
  omega
/-- A greatest error bounds every one. -/
theorem mxE_ge : ∀ k i, i < k → ab (peV ps fs ls i) ≤ mxE ps fs ls k := by
  intro k
  induction k with
  | zero => intro i hi; omega
  | succ k ih =>
    intro i hi
    rw [mxE]
    by_cases e : i = k
    · subst e; omega
    · have := ih i (by omega); omega
end
end Go.Proofs.YtebefamekjjbcaaGreatDoor
set_option linter.unusedVariables false
set_option maxRecDepth 100000
namespace Go.Proofs.YtebefamekjjbcaaGreatDoor
open Go.ChangeShapes Go.WideShapes Go.ChangeAt Go.RowKit Go.Joins Go.Deep
attribute [local go_sem ↓] Go.wp_at_zero Go.wp_at_succ


/-- What SuppliesOf returns. -/
noncomputable def supC (ns : List Nd) (ps : List Pp) (n m : Nat) (fs : List Int) : Int := if codeF ns ps m fs = 0 then (if flB n (outF (esOf ps) n fs) = true then 0 else 2) else codeF ns ps m fs
noncomputable def supL (ns : List Nd) (ps : List Pp) (n m : Nat) (fs : List Int) : List Int := if supC ns ps n m fs = 0 then outF (esOf ps) n fs else []
set_option maxHeartbeats 4000000 in
theorem supOf_any (A B C : Option Addr) (n c m d l e : Nat) (ns : List Nd) (ps : List Pp) (fs : List Int) (w : World) (h : IsNet w A n c ns B m d ps) (hf : Ints w C l fs) (hl : l ≤ 1048576) :
    Calls Tryz.prog 13 #[.agg #[.slice A n c, .slice B m d], .slice C l e] w (RetI2 w (supL ns ps n m fs) (supC ns ps n m fs)) := by
  have bx := box_new w #[.slice A n c, .slice B m d] 27
  have hV : Below w.heap.size w (w.alloc (.cells #[.slice A n c, .slice B m d] 27)) := (Below.refl _ _).alloc (Nat.le_refl _) _
  rcases codeF_in ns ps m fs with ⟨hc, hok, hfb⟩ | hc | hc
  rotate_left
  all_goals try
    have k1 : supC ns ps n m fs = codeF ns ps m fs := by unfold supC; rw [if_neg (by omega)]
    have H1 := Lib.hid (k1.trans hc)
    have H2 := Lib.hid (show supL ns ps n m fs = [] by unfold supL; rw [if_neg (by omega)])
    have HC := Lib.hid hc
    clear k1 hc
    go_enter Tryz.func13, Tryz.ntmps13
    go_upto_region 1 with fail
    generalize (w.alloc (.cells #[.slice A n c, .slice B m d] 27)) = V at *
    have xl := bx.lt
    have x0 : V.cell? ⟨w.heap.size, 0, none⟩ = some (.slice A n c) := bx.cell 0
    have x1 : V.cell? ⟨w.heap.size, 1, none⟩ = some (.slice B m d) := bx.cell 1
    go_wp2_with (go_at_call 32; refine (codeF_any _ _ _ _ _ _ _ _ _ ns ps fs _ (h.below hV) (hf.below hV) hl).mono ?_; rw [HC.out]; rintro e1 w1 ⟨rfl, hb1⟩)
    go_ret2
    exact retI2_nil H2.out H1.out (bthen hV hb1 hV.size)
  have HC := Lib.hid hc
  have HOK := Lib.hid hok
  have HFB := Lib.hid hfb
  have hnm : ns.length = n := h.nodes.len
  have hn20 : n ≤ 1048576 := by have := hok.2.1; omega
  have HOL := Lib.hid (outF_len (esOf ps) n fs)
  have HE := Lib.hid (show flB n (outF (esOf ps) n fs) = allB (outF (esOf ps) n fs) (-30000) 30000 by unfold flB; rw [outF_len, decide_eq_true rfl, Bool.true_and])
  clear hok hfb hnm
  cases hb : flB n (outF (esOf ps) n fs)
  · have HB := Lib.hid (HE.out.symm.trans hb)
    have k1 : supC ns ps n m fs = 2 := by unfold supC; rw [if_pos hc, if_neg (by rw [hb]; simp)]
    have H1 := Lib.hid k1
    have H2 := Lib.hid (show supL ns ps n m fs = [] by unfold supL; rw [if_neg (by omega)])
    clear k1 hc hb
    go_enter Tryz.func13, Tryz.ntmps13
    go_upto_region 1 with fail
    generalize (w.alloc (.cells #[.slice A n c, .slice B m d] 27)) = V at *
    have xl := bx.lt
    have x0 : V.cell? ⟨w.heap.size, 0, none⟩ = some (.slice A n c) := bx.cell 0
    have x1 : V.cell? ⟨w.heap.size, 1, none⟩ = some (.slice B m d) := bx.cell 1
    go_wp2_with fail
    refine (codeF_any _ _ _ _ _ _ _ _ _ ns ps fs _ (h.below hV) (hf.below hV) hl).mono ?_
    rw [HC.out]
    rintro e1 w1 ⟨rfl, hb1⟩
    have hW1 := bthen hV hb1 hV.size
    have bx1 := bx.belowA hb1
    clear xl x0 x1
    have xl := bx1.lt
    have x0 : w1.cell? ⟨w.heap.size, 0, none⟩ = some (.slice A n c) := bx1.cell 0
    have x1 : w1.cell? ⟨w.heap.size, 1, none⟩ = some (.slice B m d) := bx1.cell 1
    go_wp2_with fail
    refine (outflows_any _ _ _ _ _ _ _ _ _ ns ps fs _ (h.below hW1) HOK.out (hf.below hW1) HFB.out).mono ?_
    skip
    rintro e4 w4 ⟨A4, c4, rfl, o4, hb4⟩
    rw [HOL.out] at o4 ⊢
    have hW4 := bthen hW1 hb4 hW1.size
    have hs1 := hW1.size
    go_wp2_with (go_at_call 34; refine (allWithin_any _ _ _ _ _ _ _ o4.ints hn20).mono ?_; rw [HB.out]; rintro e5 w5 ⟨rfl, rfl⟩)
    go_ret2
    exact retI2_nil H2.out H1.out hW4
  · have HB := Lib.hid (HE.out.symm.trans hb)
    have k1 : supC ns ps n m fs = 0 := by unfold supC; rw [if_pos hc, if_pos hb]
    have H1 := Lib.hid k1
    have H2 := Lib.hid (show supL ns ps n m fs = outF (esOf ps) n fs by unfold supL; rw [if_pos k1])
    clear k1 hc hb
    go_enter Tryz.func13, Tryz.ntmps13
    go_upto_region 1 with fail
    generalize (w.alloc (.cells #[.slice A n c, .slice B m d] 27)) = V at *
    have xl := bx.lt
    have x0 : V.cell? ⟨w.heap.size, 0, none⟩ = some (.slice A n c) := bx.cell 0
    have x1 : V.cell? ⟨w.heap.size, 1, none⟩ = some (.slice B m d) := bx.cell 1
    go_wp2_with fail
    refine (codeF_any _ _ _ _ _ _ _ _ _ ns ps fs _ (h.below hV) (hf.below hV) hl).mono ?_
    rw [HC.out]
    rintro e1 w1 ⟨rfl, hb1⟩
    have hW1 := bthen hV hb1 hV.size
    have bx1 := bx.belowA hb1
    clear xl x0 x1
    have xl := bx1.lt
    have x0 : w1.cell? ⟨w.heap.size, 0, none⟩ = some (.slice A n c) := bx1.cell 0
    have x1 : w1.cell? ⟨w.heap.size, 1, none⟩ = some (.slice B m d) := bx1.cell 1
    go_wp2_with fail
    refine (outflows_any _ _ _ _ _ _ _ _ _ ns ps fs _ (h.below hW1) HOK.out (hf.below hW1) HFB.out).mono ?_
    skip
    rintro e4 w4 ⟨A4, c4, rfl, o4, hb4⟩
    rw [HOL.out] at o4 ⊢
    have hW4 := bthen hW1 hb4 hW1.size
    have hs1 := hW1.size
    go_wp2_with (go_at_call 34; refine (allWithin_any _ _ _ _ _ _ _ o4.ints hn20).mono ?_; rw [HB.out]; rintro e5 w5 ⟨rfl, rfl⟩)
    go_ret2
    exact retI2_of HOL.out H2.out H1.out (o4.mono hs1) hW4
end Go.Proofs.YtebefamekjjbcaaGreatDoor
set_option linter.unusedVariables false
set_option maxRecDepth 100000
namespace Go.Proofs.YtebefamekjjbcaaGreatDoor
open Go.ChangeShapes Go.WideShapes Go.ChangeAt Go.RowKit Go.Joins Go.Deep
attribute [local go_sem ↓] Go.wp_at_zero Go.wp_at_succ

/-- The residual that ResidualOf returns. -/
noncomputable def rsoV (ns : List Nd) (ps : List Pp) (n m : Nat) (fs : List Int) (x : Int) : Int := if codeH ns ps n m fs x = 0 then resL (ksL ps) fs (cyc (esOf ps) n x.toNat) else 0
theorem rsoV_no {ns : List Nd} {ps : List Pp} {n m : Nat} {fs : List Int} {x : Int} (h : codeH ns ps n m fs x ≠ 0) : rsoV ns ps n m fs x = 0 := by unfold rsoV; rw [if_neg h]
theorem rsoV_ok {ns : List Nd} {ps : List Pp} {n m ci : Nat} {fs : List Int} (h : codeH ns ps n m fs (ci : Int) = 0) : rsoV ns ps n m fs (ci : Int) = resL (ksL ps) fs (cyc (esOf ps) n ci) := by
  unfold rsoV
  rw [if_pos h]
  rfl
set_option maxHeartbeats 4000000 in
theorem resOf_any (A B C : Option Addr) (n c m d l e : Nat) (x : Int) (ns : List Nd) (ps : List Pp) (fs : List Int) (w : World) (h : IsNet w A n c ns B m d ps) (hz : Ints w C l fs) (hl : l ≤ 1048576) :
    Calls Tryz.prog 16 #[.agg #[.slice A n c, .slice B m d], .slice C l e, .int .i64 x] w fun e w' => e = .returned (.tuple #[.int .i64 (rsoV ns ps n m fs x), .int .i64 (codeH ns ps n m fs x)]) ∧ Below w.heap.size w w' := by
  have bx0 := box_new w #[.slice A n c, .slice B m d] 27
  have hW0 : Below w.heap.size w (w.alloc (.cells #[.slice A n c, .slice B m d] 27)) := (Below.refl _ _).alloc (Nat.le_refl _) _
  obtain ⟨K, hK⟩ : ∃ y, codeH ns ps n m fs x = y := ⟨_, rfl⟩
  obtain ⟨V, hV⟩ : ∃ y, rsoV ns ps n m fs x = y := ⟨_, rfl⟩
  have HK := Lib.hid hK
  have HV := Lib.hid hV
  rw [hK, hV]
  go_enter Tryz.func16, Tryz.ntmps16
  go_wp2_with fail
  generalize (w.alloc (.cells #[.slice A n c, .slice B m d] 27)) = w0 at *
  refine (codeH_any _ _ _ _ _ _ _ _ _ x ns ps fs _ (h.below hW0) (hz.below hW0) hl).mono ?_
  rw [HK.out]
  rintro e1 w1 ⟨rfl, hb1⟩
  have hW1 := bthen hW0 hb1 hW0.size
  have bx1 := bx0.belowA hb1
  have xl := bx1.lt
  have x0 : w1.cell? ⟨w.heap.size, 0, none⟩ = some (.slice A n c) := bx1.cell 0
  have x1 : w1.cell? ⟨w.heap.size, 1, none⟩ = some (.slice B m d) := bx1.cell 1
  clear bx0 hb1 bx1
  by_cases hK0 : K = 0
  case neg =>
    have t1 : (K != 0) = true := by simpa using hK0
    obtain rfl : V = 0 := by rw [← hV]; exact rsoV_no (by rw [hK]; exact hK0)
    clear hK0 hK hV HK HV
    go_wp2_with fail
    go_ret2
    exact ⟨rfl, hW1⟩
  case pos =>
  subst hK0
  obtain ⟨hok, hfb, ci, rfl, hci, hct⟩ := codeH_zero hK
  rw [h.pipes.len] at hci
  obtain rfl : m = l := by rw [← hz.len]; exact (flB_len hfb).symm
  have HVV := Lib.hid ((rsoV_ok hK).symm.trans hV)
  have HOK := Lib.hid hok
  have HFR := Lib.hid (show inR fs = true from flB_all hfb)
  have HN := Lib.hid (h.below hW1)
  have HF := Lib.hid (hz.below hW1)
  have HCT := Lib.hid hct
  clear hK hV HK HV hok hfb hct h hz hW0
  go_wp2_with fail
  refine (res_any _ _ _ _ _ _ _ _ ci fs ns ps _ HN.out HOK.out HF.out HFR.out hci HCT.out).mono ?_
  rw [HVV.out]
  rintro e2 w2 ⟨rfl, hb2⟩
  go_wp2_with fail
  go_ret2
  exact ⟨rfl, bthen hW1 hb2 hW1.size⟩
end Go.Proofs.YtebefamekjjbcaaGreatDoor
set_option linter.unusedVariables false
namespace Go.Proofs.YtebefamekjjbcaaGreatDoor

section
variable {ns : List Nd} {ps : List Pp} {n m : Nat} {zs fs ls : List Int} {q : Int}
theorem not_chord {es : Es} {i : Nat} (hi : i < es.length) (h : chB es n (i : Int) = false) : Tree es n i := by
  by_cases ht : treeB es n i = true
  · exact treeB_iff.1 ht
  · have hm : i ∈ chd es n := chd_mem.2 ⟨hi, by simpa using ht⟩
    have hc : chB es n (i : Int) = true := by
      unfold chB
      rw [List.contains_iff_mem]
      unfold cN
      exact List.mem_map.2 ⟨i, hm, rfl⟩
    rw [hc] at h
    cases h
/-- The errors are what the law compares: where the code is 0. -/
theorem pp_ok (h : (perR ns ps m n fs ls q).2 = 0) : codeQ ns ps m n fs ls = 0 ∧ ∃ i : Nat, q = (i : Int) ∧ i < m ∧ (perR ns ps m n fs ls q).1 = peV ps fs ls i := by
  by_cases hq : codeQ ns ps m n fs ls = 0
  · cases hi : inB q 0 ((m : Int) - 1)
    · rw [perR_no hq hi] at h; exact absurd h (by decide)
    · have h2 := (inB_iff _ _ _).1 hi
      obtain ⟨i, rfl⟩ := Int.eq_ofNat_of_zero_le h2.1
      exact ⟨hq, i, rfl, by omega, by rw [perR_ok hq hi]; rfl⟩
  · rw [perR_code rfl hq] at h
    exact absurd h hq
theorem pp_worst (hq : codeQ ns ps m n fs ls = 0) {i : Nat} (hi : i < m) : ab (peV ps fs ls i) ≤ (prfR ns ps m n fs ls).1 := by
  rw [prfR_ok hq]
  exact mxE_ge m i hi
theorem supC_fl (h : supC ns ps n m fs = 0) : flB n (supL ns ps n m fs) = true := by
  unfold supL
  rw [if_pos h]
  unfold supC at h
  by_cases h1 : codeF ns ps m fs = 0
  · rw [if_pos h1] at h
    cases h2 : flB n (outF (esOf ps) n fs)
    · rw [h2, if_neg (by decide)] at h; exact absurd h (by decide)
    · rfl
  · rw [if_neg h1] at h
    exact absurd h h1
theorem pp_code (hok : NetOk ns ps) (hs : supC ns ps n m fs = 0) (hc : conB (esOf ps) n = true) : codeC ns ps n (supL ns ps n m fs) = 0 := codeC_ok (codeF_ok hok (supC_fl hs)) hc
/-- The error of a pipe of an accepted proof: 0 in the forest, minus the residual for a chord. -/
theorem pp_end (hn : ns.length = n) (hm : ps.length = m) (hq : codeQ ns ps m n fs ls = 0) (hcc : codeC ns ps n zs = 0) (hk : ckV ns ps n m zs fs ls = 0) {i : Nat} (hi : i < m) :
    (codeH ns ps n m fs (i : Int) ≠ 0 → codeH ns ps n m fs (i : Int) = 4 ∧ peV ps fs ls i = 0) ∧ (codeH ns ps n m fs (i : Int) = 0 → peV ps fs ls i = -rsoV ns ps n m fs (i : Int)) := by
  obtain ⟨hfb, _, hlb, hlv⟩ := ck_parts hcc hk
  obtain ⟨_, hok, _, hcon⟩ := codeC_zero hcc
  have hcf := codeF_ok hok hfb
  have hil : i < (esOf ps).length := by rw [esOf_len]; omega
  refine ⟨fun h => ?_, fun h => ?_⟩
  · cases hx : chB (esOf ps) n (i : Int)
    · exact ⟨codeH_4 hcf hx, pe_tree hn hok hcon hlv (not_chord hil hx)⟩
    · exact absurd (codeH_0 hcf hx) h
  · obtain ⟨_, _, ci, hci, hcl, hct⟩ := codeH_zero h
    obtain rfl : i = ci := by omega
    rw [rsoV_ok h]
    exact pe_chord hn hok (by rw [flB_len hfb, hm]) hcon hlv (by omega) hct
end
end Go.Proofs.YtebefamekjjbcaaGreatDoor
