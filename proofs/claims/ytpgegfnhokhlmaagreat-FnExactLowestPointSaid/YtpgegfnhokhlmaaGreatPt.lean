/- What operatingPoint and l13Point do, by walks over their text. Conditions: at most 2^20 supplies (and, for the reference, a valid and connected network and supplies in range). -/
import Derived.Test.YtpgegfnhokhlmaaGreatRng
set_option linter.unusedVariables false
set_option maxRecDepth 100000
namespace Go.Proofs.YtpgegfnhokhlmaaGreat
open Go.ChangeShapes Go.WideShapes Go.ChangeAt Go.RowKit Go.Joins Go.Deep
attribute [local go_sem ↓] Go.wp_at_zero Go.wp_at_succ

/-- A flow above its pipe's limit, among the first k. -/
def limL (ps : List Pp) (i : Nat) : Int := (ps.map Pp.l).getD i 0
theorem limL_at {ps : List Pp} {i : Nat} {p : Pp} (h : ps[i]? = some p) : limL ps i = p.l := by simp [limL, List.getD, h]
def ovTo (ps : List Pp) (fs : List Int) (k : Nat) : Bool := (List.range k).any fun i => decide (limL ps i < ab (fs.getD i 0))
theorem ovTo_step (ps : List Pp) (fs : List Int) (k : Nat) : ovTo ps fs (k + 1) = (ovTo ps fs k || decide (limL ps k < ab (fs.getD k 0))) := by
  unfold ovTo
  rw [List.range_succ, List.any_append]
  simp
theorem ovTo_yes {ps : List Pp} {fs : List Int} {i k : Nat} (hi : i < k) (h : limL ps i < ab (fs.getD i 0)) : ovTo ps fs k = true := by
  unfold ovTo
  rw [List.any_eq_true]
  exact ⟨i, List.mem_range.2 hi, by simpa using h⟩
section
variable (ns : List Nd) (ps : List Pp) (n : Nat) (zs : List Int)
/-- The point behind the checks: the code, the step that fails, the flows, the levels. -/
noncomputable def ptC : Int := if fofC ns ps n zs = 0 then (if ovTo ps (slvL ns ps n zs) ps.length = true then 7 else rngC ns ps n (slvL ns ps n zs)) else fofC ns ps n zs
noncomputable def ptS : Int := if fofC ns ps n zs = 0 then (if ovTo ps (slvL ns ps n zs) ps.length = true then 2 else if rngC ns ps n (slvL ns ps n zs) = 0 then 0 else 3) else 1
noncomputable def ptF : List Int := if ptC ns ps n zs = 0 then slvL ns ps n zs else []
noncomputable def ptL (hi : Bool) : List Int := if ptC ns ps n zs = 0 then lvR (esOf ps) (ksL ps) n (slvL ns ps n zs) (if hi = true then rngH ns ps n (slvL ns ps n zs) else rngL ns ps n (slvL ns ps n zs)) else []
noncomputable def opC : Int := if codeC ns ps n zs = 0 then ptC ns ps n zs else codeC ns ps n zs
noncomputable def opS : Int := if codeC ns ps n zs = 0 then ptS ns ps n zs else 0
noncomputable def opF : List Int := if codeC ns ps n zs = 0 then ptF ns ps n zs else []
noncomputable def opL (hi : Bool) : List Int := if codeC ns ps n zs = 0 then ptL ns ps n zs hi else []
end
section
variable {ns : List Nd} {ps : List Pp} {n : Nat} {zs : List Int}
theorem pt_1 (h : fofC ns ps n zs ≠ 0) : ptC ns ps n zs = fofC ns ps n zs ∧ ptS ns ps n zs = 1 ∧ ptF ns ps n zs = [] ∧ ∀ hi, ptL ns ps n zs hi = [] := by
  have e : ptC ns ps n zs = fofC ns ps n zs := by unfold ptC; rw [if_neg h]
  refine ⟨e, by unfold ptS; rw [if_neg h], ?_, fun hi => ?_⟩
  · unfold ptF; rw [e, if_neg h]
  · unfold ptL; rw [e, if_neg h]
theorem pt_2 (h : fofC ns ps n zs = 0) (ho : ovTo ps (slvL ns ps n zs) ps.length = true) : ptC ns ps n zs = 7 ∧ ptS ns ps n zs = 2 ∧ ptF ns ps n zs = [] ∧ ∀ hi, ptL ns ps n zs hi = [] := by
  have e : ptC ns ps n zs = 7 := by unfold ptC; rw [if_pos h, if_pos ho]
  refine ⟨e, by unfold ptS; rw [if_pos h, if_pos ho], ?_, fun hi => ?_⟩
  · unfold ptF; rw [e, if_neg (by decide)]
  · unfold ptL; rw [e, if_neg (by decide)]
theorem pt_3 (h : fofC ns ps n zs = 0) (ho : ovTo ps (slvL ns ps n zs) ps.length = false) (hr : rngH ns ps n (slvL ns ps n zs) < rngL ns ps n (slvL ns ps n zs)) : ptC ns ps n zs = 7 ∧ ptS ns ps n zs = 3 ∧ ptF ns ps n zs = [] ∧ ∀ hi, ptL ns ps n zs hi = [] := by
  have e : ptC ns ps n zs = 7 := by unfold ptC; rw [if_pos h, if_neg (by rw [ho]; decide), (rng_no hr).1]
  refine ⟨e, by unfold ptS; rw [if_pos h, if_neg (by rw [ho]; decide), (rng_no hr).1]; rfl, ?_, fun hi => ?_⟩
  · unfold ptF; rw [e, if_neg (by decide)]
  · unfold ptL; rw [e, if_neg (by decide)]
theorem pt_0 (h : fofC ns ps n zs = 0) (ho : ovTo ps (slvL ns ps n zs) ps.length = false) (hr : ¬ rngH ns ps n (slvL ns ps n zs) < rngL ns ps n (slvL ns ps n zs)) : ptC ns ps n zs = 0 ∧ ptS ns ps n zs = 0 ∧ ptF ns ps n zs = slvL ns ps n zs ∧ ∀ hi, ptL ns ps n zs hi = lvR (esOf ps) (ksL ps) n (slvL ns ps n zs) (if hi = true then rngH ns ps n (slvL ns ps n zs) else rngL ns ps n (slvL ns ps n zs)) := by
  have e : ptC ns ps n zs = 0 := by unfold ptC; rw [if_pos h, if_neg (by rw [ho]; decide), (rng_ok hr).1]
  refine ⟨e, by unfold ptS; rw [if_pos h, if_neg (by rw [ho]; decide), (rng_ok hr).1]; rfl, ?_, fun hi => ?_⟩
  · unfold ptF; rw [if_pos e]
  · unfold ptL; rw [if_pos e]
theorem op_no (h : codeC ns ps n zs ≠ 0) : opC ns ps n zs = codeC ns ps n zs ∧ opS ns ps n zs = 0 ∧ opF ns ps n zs = [] ∧ ∀ hi, opL ns ps n zs hi = [] := by
  refine ⟨by unfold opC; rw [if_neg h], by unfold opS; rw [if_neg h], by unfold opF; rw [if_neg h], fun hi => by unfold opL; rw [if_neg h]⟩
theorem op_pt (h : codeC ns ps n zs = 0) : opC ns ps n zs = ptC ns ps n zs ∧ opS ns ps n zs = ptS ns ps n zs ∧ opF ns ps n zs = ptF ns ps n zs ∧ ∀ hi, opL ns ps n zs hi = ptL ns ps n zs hi := by
  refine ⟨by unfold opC; rw [if_pos h], by unfold opS; rw [if_pos h], by unfold opF; rw [if_pos h], fun hi => by unfold opL; rw [if_pos h]⟩
end
/-- A call returns a proof of its own, its two rows apart, a step and a code. -/
def RetPt (w : World) (fl lv : List Int) (s k : Int) (e : Ending) (w' : World) : Prop :=
  ∃ A c B d, e = .returned (.tuple #[.agg #[.slice A fl.length c, .slice B lv.length d], .int .i64 s, .int .i64 k]) ∧ Own w' w.heap.size A fl.length c fl ∧ Own w' w.heap.size B lv.length d lv ∧ Ap A B ∧ Below w.heap.size w w'
theorem retPt_nil {w w' : World} {fl lv : List Int} {s k s' k' : Int} (hf : fl = []) (hl : lv = []) (hs : s = s') (hk : k = k') (hb : Below w.heap.size w w') : RetPt w fl lv s k (.returned (.tuple #[.agg #[.slice none 0 0, .slice none 0 0], .int .i64 s', .int .i64 k'])) w' := by
  subst hf hl hs hk
  exact ⟨none, 0, none, 0, rfl, own_nil _ _, own_nil _ _, (fun g h => by cases h), hb⟩
theorem retPt_of {w w' : World} {fl lv fl' lv' : List Int} {s k s' k' : Int} {A B : Option Addr} {n c m d : Nat} (hn : fl'.length = n) (hm : lv'.length = m) (hf : fl = fl') (hl : lv = lv') (hs : s = s') (hk : k = k') (h1 : Own w' w.heap.size A n c fl') (h2 : Own w' w.heap.size B m d lv') (ha : Ap A B) (hb : Below w.heap.size w w') : RetPt w fl lv s k (.returned (.tuple #[.agg #[.slice A n c, .slice B m d], .int .i64 s', .int .i64 k'])) w' := by
  subst hf hl hs hk hn hm
  exact ⟨A, c, B, d, rfl, h1, h2, ha, hb⟩
theorem ap_late {w w' : World} {B B' : Nat} {A A' : Option Addr} {n c n' c' : Nat} {zs zs' : List Int} (h : Own w B A n c zs) (h' : Own w' B' A' n' c' zs') (hB : w.heap.size ≤ B') : Ap A A' := by
  intro g h1 h2
  have e1 := (h.lt g h1).2
  have e2 := (h'.lt g h2).1
  omega
set_option maxHeartbeats 20000000 in
theorem point_any (A B C : Option Addr) (n c m d l e : Nat) (hi : Bool) (zs : List Int) (ns : List Nd) (ps : List Pp) (w : World) (h : IsNet w A n c ns B m d ps) (hz : Ints w C l zs) (hl : l ≤ 1048576) :
    Calls Tryz.prog 96 #[.agg #[.slice A n c, .slice B m d], .slice C l e, .bool hi] w (RetPt w (opF ns ps n zs) (opL ns ps n zs hi) (opS ns ps n zs) (opC ns ps n zs)) := by
  have bN := (box_new w #[.slice A n c, .slice B m d] 33).alloc (.cells #[.slice none 0 0, .slice none 0 0] 51)
  have bR := box_at (w.alloc (.cells #[.slice A n c, .slice B m d] 33)) #[.slice none 0 0, .slice none 0 0] 51 (g := w.heap.size + 1) (by simp)
  have hV : Below w.heap.size w ((w.alloc (.cells #[.slice A n c, .slice B m d] 33)).alloc (.cells #[.slice none 0 0, .slice none 0 0] 51)) := ((Below.refl _ _).alloc (Nat.le_refl _) _).alloc (by simp) _
  go_enter Tryz.func96, Tryz.ntmps96
  have hV2 : w.heap.size + 2 ≤ ((w.alloc (.cells #[.slice A n c, .slice B m d] 33)).alloc (.cells #[.slice none 0 0, .slice none 0 0] 51)).heap.size := by simp
  go_upto_region 1 with fail
  generalize ((w.alloc (.cells #[.slice A n c, .slice B m d] 33)).alloc (.cells #[.slice none 0 0, .slice none 0 0] 51)) = V at *
  have xl := bN.lt
  have x0 : V.cell? ⟨w.heap.size, 0, none⟩ = some (.slice A n c) := bN.cell 0
  have x1 : V.cell? ⟨w.heap.size, 1, none⟩ = some (.slice B m d) := bN.cell 1
  have yl := bR.lt
  have z0 : V.cell? ⟨w.heap.size + 1, 0, none⟩ = some (.slice none 0 0) := bR.cell 0
  have z1 : V.cell? ⟨w.heap.size + 1, 1, none⟩ = some (.slice none 0 0) := bR.cell 1
  have f0 := bR.free 0
  have f1 := bR.free 1
  by_cases hcc : codeC ns ps n zs = 0
  case neg =>
    obtain ⟨k1, k2, k3, k4⟩ := op_no hcc
    obtain ⟨K, hK⟩ : ∃ y, codeC ns ps n zs = y := ⟨_, rfl⟩
    rw [hK] at hcc k1
    have H1 := Lib.hid k1
    have H2 := Lib.hid k2
    have H3 := Lib.hid k3
    have H4 := Lib.hid k4
    have HK := Lib.hid hK
    have t1 : (K != 0) = true := by simpa using hcc
    clear k1 k2 k3 k4 hK hcc
    go_upto_region 3 with (go_at_call 87; refine (codeC_any _ _ _ _ _ _ _ _ _ ns ps zs _ (h.below hV) (hz.below hV) hl).mono ?_; rw [HK.out]; rintro e1 w1 ⟨rfl, hb1⟩)
    have hW1 := bthen hV hb1 hV.size
    have bN1 := bN.belowA hb1
    have bR1 := bR.belowA hb1
    clear x0 x1 xl yl z0 z1 f0 f1
    have xl := bN1.lt
    have x0 : w1.cell? ⟨w.heap.size, 0, none⟩ = some (.slice A n c) := bN1.cell 0
    have x1 : w1.cell? ⟨w.heap.size, 1, none⟩ = some (.slice B m d) := bN1.cell 1
    have yl := bR1.lt
    have z0 : w1.cell? ⟨w.heap.size + 1, 0, none⟩ = some (.slice none 0 0) := bR1.cell 0
    have z1 : w1.cell? ⟨w.heap.size + 1, 1, none⟩ = some (.slice none 0 0) := bR1.cell 1
    have f0 := bR1.free 0
    have f1 := bR1.free 1
    go_wp2_with fail
    refine bodyPost_ret (v := .tuple #[.agg #[.slice none 0 0, .slice none 0 0], .int .i64 (0), .int .i64 (K)]) (by simp [results, Tryz.results96, go_sem, z0, z1]) rfl ?_
    exact retPt_nil H3.out (H4.out hi) H2.out H1.out ((hW1.setCell (p := ⟨w.heap.size + 1, 0, none⟩) (by simp) _).setCell (p := ⟨w.heap.size + 1, 1, none⟩) (by simp) _)
  obtain ⟨j1, j2, j3, j4⟩ := op_pt hcc
  have J1 := Lib.hid j1
  have J2 := Lib.hid j2
  have J3 := Lib.hid j3
  have J4 := Lib.hid (j4 hi)
  clear j1 j2 j3 j4
  obtain ⟨_, hok, hfl, hcb⟩ := codeC_zero hcc
  have hn1 : 0 < n := by have := hok.1; have := h.nodes.len; omega
  have hn24 : n ≤ 24 := by have := hok.2.1; have := h.nodes.len; omega
  have hm : ps.length = m := h.pipes.len
  have hm40 : m ≤ 40 := by have := hok.2.2.1; omega
  have hg : Good (esOf ps) n := by rw [← h.nodes.len]; exact net_good hok
  have HCN := Lib.hid ((conB_iff hg hn1).1 hcb)
  have HOK := Lib.hid hok
  have HCC := Lib.hid hcc
  have HM := Lib.hid hm
  have HPL := Lib.hid (show ∀ (i : Nat) (p : Pp), ps[i]? = some p → 1 ≤ p.l ∧ p.l ≤ 30000 from fun i p hp => (pipe_ok hok hp).2.2.2.2.2.2)
  clear hok hfl hcb hg hm hcc
  go_upto_region 4 with (go_at_call 87; refine (codeC_any _ _ _ _ _ _ _ _ _ ns ps zs _ (h.below hV) (hz.below hV) hl).mono ?_; rw [HCC.out]; rintro e1 w1 ⟨rfl, hb1⟩)
  have hW1 := bthen hV hb1 hV.size
  have bN1 := bN.belowA hb1
  have bR1 := bR.belowA hb1
  have hV1s := hb1.size
  clear x0 x1 xl yl z0 z1 f0 f1
  clear bN bR hV hb1
  have xl := bN1.lt
  have x0 : w1.cell? ⟨w.heap.size, 0, none⟩ = some (.slice A n c) := bN1.cell 0
  have x1 : w1.cell? ⟨w.heap.size, 1, none⟩ = some (.slice B m d) := bN1.cell 1
  have yl := bR1.lt
  have z0 : w1.cell? ⟨w.heap.size + 1, 0, none⟩ = some (.slice none 0 0) := bR1.cell 0
  have z1 : w1.cell? ⟨w.heap.size + 1, 1, none⟩ = some (.slice none 0 0) := bR1.cell 1
  have f0 := bR1.free 0
  have f1 := bR1.free 1
  by_cases hfo : fofC ns ps n zs = 0
  case neg =>
    obtain ⟨k1, k2, k3, k4⟩ := pt_1 hfo
    obtain ⟨K, hK⟩ : ∃ y, fofC ns ps n zs = y := ⟨_, rfl⟩
    rw [hK] at hfo k1
    have G1 := Lib.hid k1
    have G2 := Lib.hid k2
    have G3 := Lib.hid k3
    have G4 := Lib.hid k4
    have HK := Lib.hid hK
    have t1 : (K != 0) = true := by simpa using hfo
    clear k1 k2 k3 k4 hK hfo
    go_upto_region 6 with (go_at_call 55; refine (solve_any _ _ _ _ _ _ _ _ _ zs ns ps _ (h.below hW1) (hz.below hW1) hl).mono ?_; rw [HK.out]; rintro e2 w2 ⟨A2, c2, rfl, o2, hb2⟩)
    have hW2 := bthen hW1 hb2 hW1.size
    have bN2 := bN1.belowA hb2
    have bR2 := bR1.belowA hb2
    clear x0 x1 xl yl z0 z1 f0 f1
    have xl := bN2.lt
    have x0 : w2.cell? ⟨w.heap.size, 0, none⟩ = some (.slice A n c) := bN2.cell 0
    have x1 : w2.cell? ⟨w.heap.size, 1, none⟩ = some (.slice B m d) := bN2.cell 1
    have yl := bR2.lt
    have z0 : w2.cell? ⟨w.heap.size + 1, 0, none⟩ = some (.slice none 0 0) := bR2.cell 0
    have z1 : w2.cell? ⟨w.heap.size + 1, 1, none⟩ = some (.slice none 0 0) := bR2.cell 1
    have f0 := bR2.free 0
    have f1 := bR2.free 1
    go_wp2_with fail
    refine bodyPost_ret (v := .tuple #[.agg #[.slice none 0 0, .slice none 0 0], .int .i64 (1), .int .i64 (K)]) (by simp [results, Tryz.results96, go_sem, z0, z1]) rfl ?_
    exact retPt_nil (J3.out.trans G3.out) (J4.out.trans (G4.out hi)) (J2.out.trans G2.out) (J1.out.trans G1.out) ((hW2.setCell (p := ⟨w.heap.size + 1, 0, none⟩) (by simp) _).setCell (p := ⟨w.heap.size + 1, 1, none⟩) (by simp) _)
  obtain ⟨_, _, _, hsl, hsr⟩ := slv_facts h hfo
  have HFO := Lib.hid hfo
  have HSL := Lib.hid hsl
  have HSR := Lib.hid hsr
  clear hfo hsl hsr
  go_upto_region 7 with (go_at_call 55; refine (solve_any _ _ _ _ _ _ _ _ _ zs ns ps _ (h.below hW1) (hz.below hW1) hl).mono ?_; rw [HFO.out]; rintro e2 w2 ⟨A2, c2, rfl, o2, hb2⟩; rw [HSL.out] at o2 ⊢)
  have hW2 := bthen hW1 hb2 hW1.size
  have bN2 := bN1.belowA hb2
  have bR2 := bR1.belowA hb2
  have hsW2 := hW2.size
  have hsV2 := hb2.size
  clear x0 x1 xl yl z0 z1 f0 f1
  clear bN1 bR1 hb2
  obtain ⟨fl, hfl⟩ : ∃ y, slvL ns ps n zs = y := ⟨_, rfl⟩
  rw [hfl] at HSL HSR o2
  have HFL := Lib.hid hfl
  have hRB := rng_bd HOK.out h.nodes.len (lvR_bd HOK.out h.nodes.len (show fl.length = ps.length by rw [HSL.out, HM.out]) HSR.out) n (Nat.le_refl _)
  have HRB := Lib.hid (show (rngL ns ps n fl).natAbs ≤ 21600100000000 ∧ (rngH ns ps n fl).natAbs ≤ 21600100000000 from hRB)
  have HOV0 := Lib.hid (show ovTo ps fl 0 = false from rfl)
  have HSTP := Lib.hid (fun k => ovTo_step ps fl k)
  clear hfl hRB
  have xl := bN2.lt
  have x0 : w2.cell? ⟨w.heap.size, 0, none⟩ = some (.slice A n c) := bN2.cell 0
  have x1 : w2.cell? ⟨w.heap.size, 1, none⟩ = some (.slice B m d) := bN2.cell 1
  have yl := bR2.lt
  have z0 : w2.cell? ⟨w.heap.size + 1, 0, none⟩ = some (.slice none 0 0) := bR2.cell 0
  have z1 : w2.cell? ⟨w.heap.size + 1, 1, none⟩ = some (.slice none 0 0) := bR2.cell 1
  have f0 := bR2.free 0
  have f1 := bR2.free 1
  go_wp2_with fail
  go_loopw [39] (fun ii wr => ∃ k : Nat, k ≤ m ∧ ii = .int .i64 (k : Int) ∧ Hid (ovTo ps fl k = false) ∧ Below w2.heap.size w2 wr) (fun ii _ => m - (intOf ii).toNat)
  case atStart => exact ⟨0, Nat.zero_le _, rfl, HOV0, Below.refl _ _⟩
  case round =>
    clear x0 x1 xl yl z0 z1 f0 f1
    obtain ⟨k, hk, rfl, HOV, hb⟩ := hrel
    have hWr := bthen hW2 hb hW2.size
    have bN3 := bN2.belowA hb
    have bR3 := bR2.belowA hb
    have or := o2.below hb
    by_cases hkm : k < m
    · obtain ⟨ga, rfl, _, hga⟩ := or.form (by omega)
      obtain ⟨bp, op, p, rfl, hpw, hpp, _, q0, q1, q2, q3, q4⟩ := h.pipes.at_ hkm
      have hpl := HPL.out k p hpp
      have cf := (or.atD hkm).1
      have hfr := inR_at HSR.out (i := k) (by rw [HSL.out]; exact hkm)
      have HS := Lib.hid (HSTP.out k)
      have HY := Lib.hid (fun h9 => ovTo_yes (ps := ps) (fs := fl) (i := k) (k := m) hkm h9)
      rw [limL_at hpp] at HS HY
      obtain ⟨f, hf⟩ : ∃ y, fl.getD k 0 = y := ⟨_, rfl⟩
      rw [hf] at cf hfr HS HY
      have hwr := hWr.size
      have r0 := (hWr.cell (p := ⟨bp, op + k * 5, none⟩) hpw).trans q0
      have r1 := (hWr.cell (p := ⟨bp, op + k * 5 + 1, none⟩) hpw).trans q1
      have r2 := (hWr.cell (p := ⟨bp, op + k * 5 + 2, none⟩) hpw).trans q2
      have r3 := (hWr.cell (p := ⟨bp, op + k * 5 + 3, none⟩) hpw).trans q3
      have r4 := (hWr.cell (p := ⟨bp, op + k * 5 + 4, none⟩) hpw).trans q4
      obtain ⟨p0, hp0⟩ : ∃ y, p.fr = y := ⟨_, rfl⟩
      obtain ⟨p1, hp1⟩ : ∃ y, p.to = y := ⟨_, rfl⟩
      obtain ⟨p2, hp2⟩ : ∃ y, p.k = y := ⟨_, rfl⟩
      obtain ⟨p3, hp3⟩ : ∃ y, p.v = y := ⟨_, rfl⟩
      obtain ⟨p4, hp4⟩ : ∃ y, p.l = y := ⟨_, rfl⟩
      rw [hp0] at r0
      rw [hp1] at r1
      rw [hp2] at r2
      rw [hp3] at r3
      rw [hp4] at r4 HS HY hpl
      have hpl9 : bp < wr.heap.size := by omega
      have k0 : (0 : Int) ≤ (k : Int) := by omega
      have k1 : (k : Int) < (m : Int) := by omega
      clear hpp q0 q1 q2 q3 q4 hf hp0 hp1 hp2 hp3 hp4
      have xl := bN3.lt
      have x0 : wr.cell? ⟨w.heap.size, 0, none⟩ = some (.slice A n c) := bN3.cell 0
      have x1 : wr.cell? ⟨w.heap.size, 1, none⟩ = some (.slice (some ⟨bp, op, none⟩) m d) := bN3.cell 1
      have yl := bR3.lt
      have z0 : wr.cell? ⟨w.heap.size + 1, 0, none⟩ = some (.slice none 0 0) := bR3.cell 0
      have z1 : wr.cell? ⟨w.heap.size + 1, 1, none⟩ = some (.slice none 0 0) := bR3.cell 1
      have f0 := bR3.free 0
      have f1 := bR3.free 1
      have hV1 : Below wr.heap.size wr (wr.alloc (.cells #[.int .i64 p0, .int .i64 p1, .int .i64 p2, .int .i64 p3, .int .i64 p4] 95)) := (Below.refl _ _).alloc (Nat.le_refl _) _
      have bP := box_new wr #[.int .i64 p0, .int .i64 p1, .int .i64 p2, .int .i64 p3, .int .i64 p4] 95
      have bN4 := bN3.belowA hV1
      have bR4 := bR3.belowA hV1
      have hb4 := bthen hb hV1 hb.size
      have cf4 := (hV1.cell (p := ⟨ga, k, none⟩) hga).trans cf
      have hs4 := hV1.size
      go_upto_region 10 with fail
      obtain ⟨PB, hPB⟩ : ∃ y, wr.heap.size = y := ⟨_, rfl⟩
      rw [hPB] at bP
      clear x0 x1 xl yl z0 z1 f0 f1
      clear r0 r1 r2 r3 r4 cf
      generalize (wr.alloc (.cells #[.int .i64 p0, .int .i64 p1, .int .i64 p2, .int .i64 p3, .int .i64 p4] 95)) = V1 at *
      have yP := bP.lt
      have y4 : V1.cell? ⟨PB, 4, none⟩ = some (.int .i64 p4) := bP.cell 4
      have hga4 : ga < V1.heap.size := by omega
      try rw [hPB]
      by_cases hov : p4 < ab f
      · have HOB := Lib.hid (show ovTo ps (slvL ns ps n zs) ps.length = true by rw [HFL.out, HM.out]; exact HY.out hov)
        obtain ⟨k1, k2, k3, k4⟩ := pt_2 HFO.out HOB.out
        have G1 := Lib.hid k1
        have G2 := Lib.hid k2
        have G3 := Lib.hid k3
        have G4 := Lib.hid k4
        clear k1 k2 k3 k4
        go_quiet ((go_at_call 92; exact Calls.quiet_of_same (absOf_any _ _ (by omega) (by omega))))
        obtain ⟨w5, hw5⟩ : ∃ y, V1.drewN nq = y := ⟨_, rfl⟩
        have hq5 : Qt V1 w5 := ⟨nq, hw5.symm⟩
        rw [hw5]
        have bN5 := bN4.qt hq5
        have bR5 := bR4.qt hq5
        have hW5 := hW2.trans ((hb4.trans (hq5.below _)).mono hsW2)
        clear hw5
        skip
        have xl := bN5.lt
        have x0 : w5.cell? ⟨w.heap.size, 0, none⟩ = some (.slice A n c) := bN5.cell 0
        have x1 : w5.cell? ⟨w.heap.size, 1, none⟩ = some (.slice (some ⟨bp, op, none⟩) m d) := bN5.cell 1
        have yl := bR5.lt
        have z0 : w5.cell? ⟨w.heap.size + 1, 0, none⟩ = some (.slice none 0 0) := bR5.cell 0
        have z1 : w5.cell? ⟨w.heap.size + 1, 1, none⟩ = some (.slice none 0 0) := bR5.cell 1
        have f0 := bR5.free 0
        have f1 := bR5.free 1
        go_wp2_with fail
        refine bodyPost_ret (v := .tuple #[.agg #[.slice none 0 0, .slice none 0 0], .int .i64 (2), .int .i64 (7)]) (by simp [results, Tryz.results96, go_sem, z0, z1]) rfl ?_
        exact retPt_nil (J3.out.trans G3.out) (J4.out.trans (G4.out hi)) (J2.out.trans G2.out) (J1.out.trans G1.out) ((hW5.setCell (p := ⟨w.heap.size + 1, 0, none⟩) (by simp) _).setCell (p := ⟨w.heap.size + 1, 1, none⟩) (by simp) _)
      · have HS2 := Lib.hid (show ovTo ps fl (k + 1) = false by rw [HS.out, HOV.out]; simpa using hov)
        go_quiet ((go_at_call 92; exact Calls.quiet_of_same (absOf_any _ _ (by omega) (by omega))))
        have hbE := hb4.trans ((Qt.below ⟨nq, rfl⟩ w2.heap.size : Below w2.heap.size V1 (V1.drewN nq)))
        go_wp2_with fail
        go_roundw
        case rel => exact ⟨k + 1, by omega, by go_num, HS2, hbE⟩
        case measure => simp [intOf]; omega
    · obtain rfl : k = m := by omega
      have hOB : ovTo ps (slvL ns ps n zs) ps.length = false := by rw [HFL.out, HM.out]; exact HOV.out
      have HOB := Lib.hid hOB
      have hkn : ¬ (k : Int) < (k : Int) := by omega
      clear hOB
      have xl := bN3.lt
      have x0 : wr.cell? ⟨w.heap.size, 0, none⟩ = some (.slice A n c) := bN3.cell 0
      have x1 : wr.cell? ⟨w.heap.size, 1, none⟩ = some (.slice B k d) := bN3.cell 1
      have yl := bR3.lt
      have z0 : wr.cell? ⟨w.heap.size + 1, 0, none⟩ = some (.slice none 0 0) := bR3.cell 0
      have z1 : wr.cell? ⟨w.heap.size + 1, 1, none⟩ = some (.slice none 0 0) := bR3.cell 1
      have f0 := bR3.free 0
      have f1 := bR3.free 1
      by_cases hrg : rngH ns ps n fl < rngL ns ps n fl
      · obtain ⟨k1, k2, k3, k4⟩ := pt_3 HFO.out HOB.out (by rw [HFL.out]; exact hrg)
        obtain ⟨e1, e2, e3⟩ := rng_no hrg
        have G1 := Lib.hid k1
        have G2 := Lib.hid k2
        have G3 := Lib.hid k3
        have G4 := Lib.hid k4
        have E1 := Lib.hid e1
        have E2 := Lib.hid e2
        have E3 := Lib.hid e3
        obtain ⟨a, ha⟩ : ∃ y, rngL ns ps n fl = y := ⟨_, rfl⟩
        obtain ⟨b, hb9⟩ : ∃ y, rngH ns ps n fl = y := ⟨_, rfl⟩
        have HA := Lib.hid ha
        have HB := Lib.hid hb9
        rw [ha, hb9] at hrg
        clear k1 k2 k3 k4 e1 e2 e3 ha hb9
        go_upto_region 15 with (go_at_call 152; refine (range_any _ _ _ _ _ _ _ _ fl ns ps _ (h.below hWr) HOK.out or.ints HSR.out).mono ?_; rw [E1.out, E2.out, E3.out]; rintro e6 w6 ⟨rfl, hb6⟩)
        have hW6 := bthen hWr hb6 hWr.size
        have bN6 := bN3.belowA hb6
        have bR6 := bR3.belowA hb6
        clear x0 x1 xl yl z0 z1 f0 f1
        have xl := bN6.lt
        have x0 : w6.cell? ⟨w.heap.size, 0, none⟩ = some (.slice A n c) := bN6.cell 0
        have x1 : w6.cell? ⟨w.heap.size, 1, none⟩ = some (.slice B k d) := bN6.cell 1
        have yl := bR6.lt
        have z0 : w6.cell? ⟨w.heap.size + 1, 0, none⟩ = some (.slice none 0 0) := bR6.cell 0
        have z1 : w6.cell? ⟨w.heap.size + 1, 1, none⟩ = some (.slice none 0 0) := bR6.cell 1
        have f0 := bR6.free 0
        have f1 := bR6.free 1
        go_wp2_with fail
        refine bodyPost_ret (v := .tuple #[.agg #[.slice none 0 0, .slice none 0 0], .int .i64 (3), .int .i64 (7)]) (by simp [results, Tryz.results96, go_sem, z0, z1]) rfl ?_
        exact retPt_nil (J3.out.trans G3.out) (J4.out.trans (G4.out hi)) (J2.out.trans G2.out) (J1.out.trans G1.out) ((hW6.setCell (p := ⟨w.heap.size + 1, 0, none⟩) (by simp) _).setCell (p := ⟨w.heap.size + 1, 1, none⟩) (by simp) _)
      · obtain ⟨k1, k2, k3, k4⟩ := pt_0 HFO.out HOB.out (by rw [HFL.out]; exact hrg)
        obtain ⟨e1, e2, e3⟩ := rng_ok hrg
        rw [HFL.out] at k3 k4
        have hrb := HRB.out
        obtain ⟨a, ha⟩ : ∃ y, rngL ns ps n fl = y := ⟨_, rfl⟩
        obtain ⟨b, hb9⟩ : ∃ y, rngH ns ps n fl = y := ⟨_, rfl⟩
        rw [ha] at e2 k4 hrb
        rw [hb9] at e3 k4 hrb
        have HA := Lib.hid ha
        have HB := Lib.hid hb9
        rw [ha, hb9] at hrg
        have G1 := Lib.hid k1
        have G2 := Lib.hid k2
        have G3 := Lib.hid k3
        have G4 := Lib.hid k4
        have E1 := Lib.hid e1
        have E2 := Lib.hid e2
        have E3 := Lib.hid e3
        clear k1 k2 k3 k4 e1 e2 e3 ha hb9
        go_upto_region 16 with (go_at_call 152; refine (range_any _ _ _ _ _ _ _ _ fl ns ps _ (h.below hWr) HOK.out or.ints HSR.out).mono ?_; rw [E1.out, E2.out, E3.out]; rintro e6 w6 ⟨rfl, hb6⟩)
        have hW6 := bthen hWr hb6 hWr.size
        have bN6 := bN3.belowA hb6
        have bR6 := bR3.belowA hb6
        clear x0 x1 xl yl z0 z1 f0 f1
        have xl := bN6.lt
        have x0 : w6.cell? ⟨w.heap.size, 0, none⟩ = some (.slice A n c) := bN6.cell 0
        have x1 : w6.cell? ⟨w.heap.size, 1, none⟩ = some (.slice B k d) := bN6.cell 1
        have yl := bR6.lt
        have z0 : w6.cell? ⟨w.heap.size + 1, 0, none⟩ = some (.slice none 0 0) := bR6.cell 0
        have z1 : w6.cell? ⟨w.heap.size + 1, 1, none⟩ = some (.slice none 0 0) := bR6.cell 1
        have f0 := bR6.free 0
        have f1 := bR6.free 1
        cases hi
        · have HLL := Lib.hid (lvR_len (esOf ps) (ksL ps) n fl a)
          have HG4 := Lib.hid (show opL ns ps n zs false = lvR (esOf ps) (ksL ps) n fl a by rw [J4.out, G4.out false]; rfl)
          have o7 := or.below hb6
          go_wp2_with (go_at_call 90; refine (lev_any _ _ _ _ _ _ _ _ a fl ns ps _ (h.below hW6) HOK.out (or.below hb6).ints HSR.out ⟨by omega, by omega⟩).mono ?_; rintro e7 w7 ⟨A7, c7, rfl, o8, hb7⟩; rw [HLL.out] at o8 ⊢; have hc7 := hb7.cell (p := ⟨w.heap.size + 1, 0, none⟩) (by simp; omega); have hc8 := hb7.cell (p := ⟨w.heap.size + 1, 1, none⟩) (by simp; omega); rw [z0] at hc7; rw [z1] at hc8; have hd7 := hb7.frozen (p := ⟨w.heap.size + 1, 0, none⟩) (by simp; omega); have hd8 := hb7.frozen (p := ⟨w.heap.size + 1, 1, none⟩) (by simp; omega); rw [f0] at hd7; rw [f1] at hd8; have hs7 := hb7.size; have hyl7 : w.heap.size + 1 < w7.heap.size := by omega)
          have hW7 := bthen hW6 hb7 hW6.size
          refine bodyPost_ret (v := .tuple #[.agg #[.slice A2 k c2, .slice A7 n c7], .int .i64 0, .int .i64 0]) (by simp [results, Tryz.results96, go_sem, hc7, hc8]) rfl ?_
          refine retPt_of HSL.out HLL.out (J3.out.trans G3.out) HG4.out (J2.out.trans G2.out) (J1.out.trans G1.out) ?_ ?_ (ap_late o7 o8 (Nat.le_refl _)) ((hW7.setCell (p := ⟨w.heap.size + 1, 0, none⟩) (by simp) _).setCell (p := ⟨w.heap.size + 1, 1, none⟩) (by simp) _)
          · exact Own.mono (B := w1.heap.size) (Own.low1 (Own.low1 (o7.below hb7) (by simp; omega) _) (by simp; omega) _) (by omega)
          · exact Own.mono (B := w6.heap.size) (Own.low1 (Own.low1 o8 (by simp; omega) _) (by simp; omega) _) (by omega)
        · have HLL := Lib.hid (lvR_len (esOf ps) (ksL ps) n fl b)
          have HG4 := Lib.hid (show opL ns ps n zs true = lvR (esOf ps) (ksL ps) n fl b by rw [J4.out, G4.out true]; rfl)
          have o7 := or.below hb6
          go_wp2_with (go_at_call 90; refine (lev_any _ _ _ _ _ _ _ _ b fl ns ps _ (h.below hW6) HOK.out (or.below hb6).ints HSR.out ⟨by omega, by omega⟩).mono ?_; rintro e7 w7 ⟨A7, c7, rfl, o8, hb7⟩; rw [HLL.out] at o8 ⊢; have hc7 := hb7.cell (p := ⟨w.heap.size + 1, 0, none⟩) (by simp; omega); have hc8 := hb7.cell (p := ⟨w.heap.size + 1, 1, none⟩) (by simp; omega); rw [z0] at hc7; rw [z1] at hc8; have hd7 := hb7.frozen (p := ⟨w.heap.size + 1, 0, none⟩) (by simp; omega); have hd8 := hb7.frozen (p := ⟨w.heap.size + 1, 1, none⟩) (by simp; omega); rw [f0] at hd7; rw [f1] at hd8; have hs7 := hb7.size; have hyl7 : w.heap.size + 1 < w7.heap.size := by omega)
          have hW7 := bthen hW6 hb7 hW6.size
          refine bodyPost_ret (v := .tuple #[.agg #[.slice A2 k c2, .slice A7 n c7], .int .i64 0, .int .i64 0]) (by simp [results, Tryz.results96, go_sem, hc7, hc8]) rfl ?_
          refine retPt_of HSL.out HLL.out (J3.out.trans G3.out) HG4.out (J2.out.trans G2.out) (J1.out.trans G1.out) ?_ ?_ (ap_late o7 o8 (Nat.le_refl _)) ((hW7.setCell (p := ⟨w.heap.size + 1, 0, none⟩) (by simp) _).setCell (p := ⟨w.heap.size + 1, 1, none⟩) (by simp) _)
          · exact Own.mono (B := w1.heap.size) (Own.low1 (Own.low1 (o7.below hb7) (by simp; omega) _) (by simp; omega) _) (by omega)
          · exact Own.mono (B := w6.heap.size) (Own.low1 (Own.low1 o8 (by simp; omega) _) (by simp; omega) _) (by omega)
set_option maxHeartbeats 20000000 in
theorem sPoint_any (A B C : Option Addr) (n c m d l e : Nat) (hi : Bool) (zs : List Int) (ns : List Nd) (ps : List Pp) (w : World) (h : IsNet w A n c ns B m d ps) (hz : Ints w C l zs) (hnil : C = none → e = 0) (hcc : codeC ns ps n zs = 0) (hl : l ≤ 1048576) :
    Calls Tryz.prog 95 #[.agg #[.slice A n c, .slice B m d], .slice C l e, .bool hi] w (RetPt w (ptF ns ps n zs) (ptL ns ps n zs hi) (ptS ns ps n zs) (ptC ns ps n zs)) := by
  have bN := (box_new w #[.slice A n c, .slice B m d] 33).alloc (.cells #[.slice none 0 0, .slice none 0 0] 51)
  have bR := box_at (w.alloc (.cells #[.slice A n c, .slice B m d] 33)) #[.slice none 0 0, .slice none 0 0] 51 (g := w.heap.size + 1) (by simp)
  have hV : Below w.heap.size w ((w.alloc (.cells #[.slice A n c, .slice B m d] 33)).alloc (.cells #[.slice none 0 0, .slice none 0 0] 51)) := ((Below.refl _ _).alloc (Nat.le_refl _) _).alloc (by simp) _
  have HNL := Lib.hid hnil
  clear hnil
  go_enter Tryz.func95, Tryz.ntmps95
  have hV2 : w.heap.size + 2 ≤ ((w.alloc (.cells #[.slice A n c, .slice B m d] 33)).alloc (.cells #[.slice none 0 0, .slice none 0 0] 51)).heap.size := by simp
  go_upto_region 1 with fail
  generalize ((w.alloc (.cells #[.slice A n c, .slice B m d] 33)).alloc (.cells #[.slice none 0 0, .slice none 0 0] 51)) = V at *
  have xl := bN.lt
  have x0 : V.cell? ⟨w.heap.size, 0, none⟩ = some (.slice A n c) := bN.cell 0
  have x1 : V.cell? ⟨w.heap.size, 1, none⟩ = some (.slice B m d) := bN.cell 1
  have yl := bR.lt
  have z0 : V.cell? ⟨w.heap.size + 1, 0, none⟩ = some (.slice none 0 0) := bR.cell 0
  have z1 : V.cell? ⟨w.heap.size + 1, 1, none⟩ = some (.slice none 0 0) := bR.cell 1
  have f0 := bR.free 0
  have f1 := bR.free 1
  obtain ⟨_, hok, hfl, hcb⟩ := codeC_zero hcc
  have hn1 : 0 < n := by have := hok.1; have := h.nodes.len; omega
  have hn24 : n ≤ 24 := by have := hok.2.1; have := h.nodes.len; omega
  have hm : ps.length = m := h.pipes.len
  have hm40 : m ≤ 40 := by have := hok.2.2.1; omega
  have hg : Good (esOf ps) n := by rw [← h.nodes.len]; exact net_good hok
  have HCN := Lib.hid ((conB_iff hg hn1).1 hcb)
  have HOK := Lib.hid hok
  have HCC := Lib.hid hcc
  have HM := Lib.hid hm
  have HPL := Lib.hid (show ∀ (i : Nat) (p : Pp), ps[i]? = some p → 1 ≤ p.l ∧ p.l ≤ 30000 from fun i p hp => (pipe_ok hok hp).2.2.2.2.2.2)
  clear hok hfl hcb hg hm hcc
  by_cases hfo : fofC ns ps n zs = 0
  case neg =>
    obtain ⟨k1, k2, k3, k4⟩ := pt_1 hfo
    obtain ⟨K, hK⟩ : ∃ y, fofC ns ps n zs = y := ⟨_, rfl⟩
    rw [hK] at hfo k1
    have G1 := Lib.hid k1
    have G2 := Lib.hid k2
    have G3 := Lib.hid k3
    have G4 := Lib.hid k4
    have HK := Lib.hid hK
    have t1 : (K != 0) = true := by simpa using hfo
    clear k1 k2 k3 k4 hK hfo
    go_upto_region 3 with (go_at_call 26; refine (sSolveL_any _ _ _ _ _ _ _ _ _ zs ns ps _ (h.below hV) (hz.below hV) HNL.out hl).mono ?_; rw [HK.out]; rintro e2 w2 ⟨A2, c2, rfl, o2, hb2⟩)
    have hW2 := bthen hV hb2 hV.size
    have bN2 := bN.belowA hb2
    have bR2 := bR.belowA hb2
    clear x0 x1 xl yl z0 z1 f0 f1
    have xl := bN2.lt
    have x0 : w2.cell? ⟨w.heap.size, 0, none⟩ = some (.slice A n c) := bN2.cell 0
    have x1 : w2.cell? ⟨w.heap.size, 1, none⟩ = some (.slice B m d) := bN2.cell 1
    have yl := bR2.lt
    have z0 : w2.cell? ⟨w.heap.size + 1, 0, none⟩ = some (.slice none 0 0) := bR2.cell 0
    have z1 : w2.cell? ⟨w.heap.size + 1, 1, none⟩ = some (.slice none 0 0) := bR2.cell 1
    have f0 := bR2.free 0
    have f1 := bR2.free 1
    go_wp2_with fail
    refine bodyPost_ret (v := .tuple #[.agg #[.slice none 0 0, .slice none 0 0], .int .i64 (1), .int .i64 (K)]) (by simp [results, Tryz.results95, go_sem, z0, z1]) rfl ?_
    exact retPt_nil G3.out (G4.out hi) G2.out G1.out ((hW2.setCell (p := ⟨w.heap.size + 1, 0, none⟩) (by simp) _).setCell (p := ⟨w.heap.size + 1, 1, none⟩) (by simp) _)
  obtain ⟨_, _, _, hsl, hsr⟩ := slv_facts h hfo
  have HFO := Lib.hid hfo
  have HSL := Lib.hid hsl
  have HSR := Lib.hid hsr
  clear hfo hsl hsr
  go_upto_region 4 with (go_at_call 26; refine (sSolveL_any _ _ _ _ _ _ _ _ _ zs ns ps _ (h.below hV) (hz.below hV) HNL.out hl).mono ?_; rw [HFO.out]; rintro e2 w2 ⟨A2, c2, rfl, o2, hb2⟩; rw [HSL.out] at o2 ⊢)
  have hW2 := bthen hV hb2 hV.size
  have bN2 := bN.belowA hb2
  have bR2 := bR.belowA hb2
  have hsW2 := hW2.size
  have hsV2 := hb2.size
  clear x0 x1 xl yl z0 z1 f0 f1
  clear bN bR hb2
  obtain ⟨fl, hfl⟩ : ∃ y, slvL ns ps n zs = y := ⟨_, rfl⟩
  rw [hfl] at HSL HSR o2
  have HFL := Lib.hid hfl
  have hRB := rng_bd HOK.out h.nodes.len (lvR_bd HOK.out h.nodes.len (show fl.length = ps.length by rw [HSL.out, HM.out]) HSR.out) n (Nat.le_refl _)
  have HRB := Lib.hid (show (rngL ns ps n fl).natAbs ≤ 21600100000000 ∧ (rngH ns ps n fl).natAbs ≤ 21600100000000 from hRB)
  have HOV0 := Lib.hid (show ovTo ps fl 0 = false from rfl)
  have HSTP := Lib.hid (fun k => ovTo_step ps fl k)
  clear hfl hRB
  have xl := bN2.lt
  have x0 : w2.cell? ⟨w.heap.size, 0, none⟩ = some (.slice A n c) := bN2.cell 0
  have x1 : w2.cell? ⟨w.heap.size, 1, none⟩ = some (.slice B m d) := bN2.cell 1
  have yl := bR2.lt
  have z0 : w2.cell? ⟨w.heap.size + 1, 0, none⟩ = some (.slice none 0 0) := bR2.cell 0
  have z1 : w2.cell? ⟨w.heap.size + 1, 1, none⟩ = some (.slice none 0 0) := bR2.cell 1
  have f0 := bR2.free 0
  have f1 := bR2.free 1
  go_wp2_with fail
  go_loopw [11] (fun ii wr => ∃ k : Nat, k ≤ m ∧ ii = .int .i64 (k : Int) ∧ Hid (ovTo ps fl k = false) ∧ Below w2.heap.size w2 wr) (fun ii _ => m - (intOf ii).toNat)
  case atStart => exact ⟨0, Nat.zero_le _, rfl, HOV0, Below.refl _ _⟩
  case round =>
    clear x0 x1 xl yl z0 z1 f0 f1
    obtain ⟨k, hk, rfl, HOV, hb⟩ := hrel
    have hWr := bthen hW2 hb hW2.size
    have bN3 := bN2.belowA hb
    have bR3 := bR2.belowA hb
    have or := o2.below hb
    by_cases hkm : k < m
    · obtain ⟨ga, rfl, _, hga⟩ := or.form (by omega)
      obtain ⟨bp, op, p, rfl, hpw, hpp, _, q0, q1, q2, q3, q4⟩ := h.pipes.at_ hkm
      have hpl := HPL.out k p hpp
      have cf := (or.atD hkm).1
      have hfr := inR_at HSR.out (i := k) (by rw [HSL.out]; exact hkm)
      have HS := Lib.hid (HSTP.out k)
      have HY := Lib.hid (fun h9 => ovTo_yes (ps := ps) (fs := fl) (i := k) (k := m) hkm h9)
      rw [limL_at hpp] at HS HY
      obtain ⟨f, hf⟩ : ∃ y, fl.getD k 0 = y := ⟨_, rfl⟩
      rw [hf] at cf hfr HS HY
      have hwr := hWr.size
      have r0 := (hWr.cell (p := ⟨bp, op + k * 5, none⟩) hpw).trans q0
      have r1 := (hWr.cell (p := ⟨bp, op + k * 5 + 1, none⟩) hpw).trans q1
      have r2 := (hWr.cell (p := ⟨bp, op + k * 5 + 2, none⟩) hpw).trans q2
      have r3 := (hWr.cell (p := ⟨bp, op + k * 5 + 3, none⟩) hpw).trans q3
      have r4 := (hWr.cell (p := ⟨bp, op + k * 5 + 4, none⟩) hpw).trans q4
      obtain ⟨p0, hp0⟩ : ∃ y, p.fr = y := ⟨_, rfl⟩
      obtain ⟨p1, hp1⟩ : ∃ y, p.to = y := ⟨_, rfl⟩
      obtain ⟨p2, hp2⟩ : ∃ y, p.k = y := ⟨_, rfl⟩
      obtain ⟨p3, hp3⟩ : ∃ y, p.v = y := ⟨_, rfl⟩
      obtain ⟨p4, hp4⟩ : ∃ y, p.l = y := ⟨_, rfl⟩
      rw [hp0] at r0
      rw [hp1] at r1
      rw [hp2] at r2
      rw [hp3] at r3
      rw [hp4] at r4 HS HY hpl
      have hpl9 : bp < wr.heap.size := by omega
      have k0 : (0 : Int) ≤ (k : Int) := by omega
      have k1 : (k : Int) < (m : Int) := by omega
      clear hpp q0 q1 q2 q3 q4 hf hp0 hp1 hp2 hp3 hp4
      have xl := bN3.lt
      have x0 : wr.cell? ⟨w.heap.size, 0, none⟩ = some (.slice A n c) := bN3.cell 0
      have x1 : wr.cell? ⟨w.heap.size, 1, none⟩ = some (.slice (some ⟨bp, op, none⟩) m d) := bN3.cell 1
      have yl := bR3.lt
      have z0 : wr.cell? ⟨w.heap.size + 1, 0, none⟩ = some (.slice none 0 0) := bR3.cell 0
      have z1 : wr.cell? ⟨w.heap.size + 1, 1, none⟩ = some (.slice none 0 0) := bR3.cell 1
      have f0 := bR3.free 0
      have f1 := bR3.free 1
      go_upto_region 7 with fail
      by_cases hov : p4 < ab f
      · have HOB := Lib.hid (show ovTo ps (slvL ns ps n zs) ps.length = true by rw [HFL.out, HM.out]; exact HY.out hov)
        obtain ⟨k1, k2, k3, k4⟩ := pt_2 HFO.out HOB.out
        have G1 := Lib.hid k1
        have G2 := Lib.hid k2
        have G3 := Lib.hid k3
        have G4 := Lib.hid k4
        clear k1 k2 k3 k4
        go_quiet ((go_at_call 123; exact Calls.quiet_of_same (sAbs_any _ _ (by omega) (by omega))))
        obtain ⟨w5, hw5⟩ : ∃ y, wr.drewN nq = y := ⟨_, rfl⟩
        have hq5 : Qt wr w5 := ⟨nq, hw5.symm⟩
        rw [hw5]
        have bN5 := bN3.qt hq5
        have bR5 := bR3.qt hq5
        have hW5 := hW2.trans ((hb.trans (hq5.below _)).mono hsW2)
        clear hw5
        clear x0 x1 xl yl z0 z1 f0 f1
        have xl := bN5.lt
        have x0 : w5.cell? ⟨w.heap.size, 0, none⟩ = some (.slice A n c) := bN5.cell 0
        have x1 : w5.cell? ⟨w.heap.size, 1, none⟩ = some (.slice (some ⟨bp, op, none⟩) m d) := bN5.cell 1
        have yl := bR5.lt
        have z0 : w5.cell? ⟨w.heap.size + 1, 0, none⟩ = some (.slice none 0 0) := bR5.cell 0
        have z1 : w5.cell? ⟨w.heap.size + 1, 1, none⟩ = some (.slice none 0 0) := bR5.cell 1
        have f0 := bR5.free 0
        have f1 := bR5.free 1
        go_wp2_with fail
        refine bodyPost_ret (v := .tuple #[.agg #[.slice none 0 0, .slice none 0 0], .int .i64 (2), .int .i64 (7)]) (by simp [results, Tryz.results95, go_sem, z0, z1]) rfl ?_
        exact retPt_nil G3.out (G4.out hi) G2.out G1.out ((hW5.setCell (p := ⟨w.heap.size + 1, 0, none⟩) (by simp) _).setCell (p := ⟨w.heap.size + 1, 1, none⟩) (by simp) _)
      · have HS2 := Lib.hid (show ovTo ps fl (k + 1) = false by rw [HS.out, HOV.out]; simpa using hov)
        go_quiet ((go_at_call 123; exact Calls.quiet_of_same (sAbs_any _ _ (by omega) (by omega))))
        have hbE := hb.trans ((Qt.below ⟨nq, rfl⟩ w2.heap.size : Below w2.heap.size wr (wr.drewN nq)))
        go_wp2_with fail
        go_roundw
        case rel => exact ⟨k + 1, by omega, by go_num, HS2, hbE⟩
        case measure => simp [intOf]; omega
    · obtain rfl : k = m := by omega
      have hOB : ovTo ps (slvL ns ps n zs) ps.length = false := by rw [HFL.out, HM.out]; exact HOV.out
      have HOB := Lib.hid hOB
      have hkn : ¬ (k : Int) < (k : Int) := by omega
      clear hOB
      have xl := bN3.lt
      have x0 : wr.cell? ⟨w.heap.size, 0, none⟩ = some (.slice A n c) := bN3.cell 0
      have x1 : wr.cell? ⟨w.heap.size, 1, none⟩ = some (.slice B k d) := bN3.cell 1
      have yl := bR3.lt
      have z0 : wr.cell? ⟨w.heap.size + 1, 0, none⟩ = some (.slice none 0 0) := bR3.cell 0
      have z1 : wr.cell? ⟨w.heap.size + 1, 1, none⟩ = some (.slice none 0 0) := bR3.cell 1
      have f0 := bR3.free 0
      have f1 := bR3.free 1
      by_cases hrg : rngH ns ps n fl < rngL ns ps n fl
      · obtain ⟨k1, k2, k3, k4⟩ := pt_3 HFO.out HOB.out (by rw [HFL.out]; exact hrg)
        obtain ⟨e1, e2, e3⟩ := rng_no hrg
        have G1 := Lib.hid k1
        have G2 := Lib.hid k2
        have G3 := Lib.hid k3
        have G4 := Lib.hid k4
        have E1 := Lib.hid e1
        have E2 := Lib.hid e2
        have E3 := Lib.hid e3
        obtain ⟨a, ha⟩ : ∃ y, rngL ns ps n fl = y := ⟨_, rfl⟩
        obtain ⟨b, hb9⟩ : ∃ y, rngH ns ps n fl = y := ⟨_, rfl⟩
        have HA := Lib.hid ha
        have HB := Lib.hid hb9
        rw [ha, hb9] at hrg
        clear k1 k2 k3 k4 e1 e2 e3 ha hb9
        go_upto_region 11 with (go_at_call 151; refine (sRange_any _ _ _ _ _ _ _ _ fl ns ps _ (h.below hWr) HOK.out HCN.out or.ints HSR.out).mono ?_; rw [HA.out, HB.out]; rintro e6 w6 ⟨rfl, hb6⟩)
        have hW6 := bthen hWr hb6 hWr.size
        have bN6 := bN3.belowA hb6
        have bR6 := bR3.belowA hb6
        clear x0 x1 xl yl z0 z1 f0 f1
        have xl := bN6.lt
        have x0 : w6.cell? ⟨w.heap.size, 0, none⟩ = some (.slice A n c) := bN6.cell 0
        have x1 : w6.cell? ⟨w.heap.size, 1, none⟩ = some (.slice B k d) := bN6.cell 1
        have yl := bR6.lt
        have z0 : w6.cell? ⟨w.heap.size + 1, 0, none⟩ = some (.slice none 0 0) := bR6.cell 0
        have z1 : w6.cell? ⟨w.heap.size + 1, 1, none⟩ = some (.slice none 0 0) := bR6.cell 1
        have f0 := bR6.free 0
        have f1 := bR6.free 1
        go_wp2_with fail
        refine bodyPost_ret (v := .tuple #[.agg #[.slice none 0 0, .slice none 0 0], .int .i64 (3), .int .i64 (7)]) (by simp [results, Tryz.results95, go_sem, z0, z1]) rfl ?_
        exact retPt_nil G3.out (G4.out hi) G2.out G1.out ((hW6.setCell (p := ⟨w.heap.size + 1, 0, none⟩) (by simp) _).setCell (p := ⟨w.heap.size + 1, 1, none⟩) (by simp) _)
      · obtain ⟨k1, k2, k3, k4⟩ := pt_0 HFO.out HOB.out (by rw [HFL.out]; exact hrg)
        obtain ⟨e1, e2, e3⟩ := rng_ok hrg
        rw [HFL.out] at k3 k4
        have hrb := HRB.out
        obtain ⟨a, ha⟩ : ∃ y, rngL ns ps n fl = y := ⟨_, rfl⟩
        obtain ⟨b, hb9⟩ : ∃ y, rngH ns ps n fl = y := ⟨_, rfl⟩
        rw [ha] at e2 k4 hrb
        rw [hb9] at e3 k4 hrb
        have HA := Lib.hid ha
        have HB := Lib.hid hb9
        rw [ha, hb9] at hrg
        have G1 := Lib.hid k1
        have G2 := Lib.hid k2
        have G3 := Lib.hid k3
        have G4 := Lib.hid k4
        have E1 := Lib.hid e1
        have E2 := Lib.hid e2
        have E3 := Lib.hid e3
        clear k1 k2 k3 k4 e1 e2 e3 ha hb9
        go_upto_region 12 with (go_at_call 151; refine (sRange_any _ _ _ _ _ _ _ _ fl ns ps _ (h.below hWr) HOK.out HCN.out or.ints HSR.out).mono ?_; rw [HA.out, HB.out]; rintro e6 w6 ⟨rfl, hb6⟩)
        have hW6 := bthen hWr hb6 hWr.size
        have bN6 := bN3.belowA hb6
        have bR6 := bR3.belowA hb6
        clear x0 x1 xl yl z0 z1 f0 f1
        have xl := bN6.lt
        have x0 : w6.cell? ⟨w.heap.size, 0, none⟩ = some (.slice A n c) := bN6.cell 0
        have x1 : w6.cell? ⟨w.heap.size, 1, none⟩ = some (.slice B k d) := bN6.cell 1
        have yl := bR6.lt
        have z0 : w6.cell? ⟨w.heap.size + 1, 0, none⟩ = some (.slice none 0 0) := bR6.cell 0
        have z1 : w6.cell? ⟨w.heap.size + 1, 1, none⟩ = some (.slice none 0 0) := bR6.cell 1
        have f0 := bR6.free 0
        have f1 := bR6.free 1
        cases hi
        · have HLL := Lib.hid (lvR_len (esOf ps) (ksL ps) n fl a)
          have HG4 := Lib.hid (show ptL ns ps n zs false = lvR (esOf ps) (ksL ps) n fl a by rw [G4.out false]; rfl)
          have o7 := or.below hb6
          go_wp2_with (go_at_call 85; refine (sLvs_any _ _ _ _ _ _ _ _ a fl ns ps _ (h.below hW6) HOK.out HCN.out (or.below hb6).ints HSR.out ⟨by omega, by omega⟩).mono ?_; rintro e7 w7 ⟨A7, c7, rfl, o8, hb7⟩; rw [HLL.out] at o8 ⊢; have hc7 := hb7.cell (p := ⟨w.heap.size + 1, 0, none⟩) (by simp; omega); have hc8 := hb7.cell (p := ⟨w.heap.size + 1, 1, none⟩) (by simp; omega); rw [z0] at hc7; rw [z1] at hc8; have hd7 := hb7.frozen (p := ⟨w.heap.size + 1, 0, none⟩) (by simp; omega); have hd8 := hb7.frozen (p := ⟨w.heap.size + 1, 1, none⟩) (by simp; omega); rw [f0] at hd7; rw [f1] at hd8; have hs7 := hb7.size; have hyl7 : w.heap.size + 1 < w7.heap.size := by omega)
          have hW7 := bthen hW6 hb7 hW6.size
          refine bodyPost_ret (v := .tuple #[.agg #[.slice A2 k c2, .slice A7 n c7], .int .i64 0, .int .i64 0]) (by simp [results, Tryz.results95, go_sem, hc7, hc8]) rfl ?_
          refine retPt_of HSL.out HLL.out G3.out HG4.out G2.out G1.out ?_ ?_ (ap_late o7 o8 (Nat.le_refl _)) ((hW7.setCell (p := ⟨w.heap.size + 1, 0, none⟩) (by simp) _).setCell (p := ⟨w.heap.size + 1, 1, none⟩) (by simp) _)
          · exact Own.mono (B := V.heap.size) (Own.low1 (Own.low1 (o7.below hb7) (by simp; omega) _) (by simp; omega) _) (by omega)
          · exact Own.mono (B := w6.heap.size) (Own.low1 (Own.low1 o8 (by simp; omega) _) (by simp; omega) _) (by omega)
        · have HLL := Lib.hid (lvR_len (esOf ps) (ksL ps) n fl b)
          have HG4 := Lib.hid (show ptL ns ps n zs true = lvR (esOf ps) (ksL ps) n fl b by rw [G4.out true]; rfl)
          have o7 := or.below hb6
          go_wp2_with (go_at_call 85; refine (sLvs_any _ _ _ _ _ _ _ _ b fl ns ps _ (h.below hW6) HOK.out HCN.out (or.below hb6).ints HSR.out ⟨by omega, by omega⟩).mono ?_; rintro e7 w7 ⟨A7, c7, rfl, o8, hb7⟩; rw [HLL.out] at o8 ⊢; have hc7 := hb7.cell (p := ⟨w.heap.size + 1, 0, none⟩) (by simp; omega); have hc8 := hb7.cell (p := ⟨w.heap.size + 1, 1, none⟩) (by simp; omega); rw [z0] at hc7; rw [z1] at hc8; have hd7 := hb7.frozen (p := ⟨w.heap.size + 1, 0, none⟩) (by simp; omega); have hd8 := hb7.frozen (p := ⟨w.heap.size + 1, 1, none⟩) (by simp; omega); rw [f0] at hd7; rw [f1] at hd8; have hs7 := hb7.size; have hyl7 : w.heap.size + 1 < w7.heap.size := by omega)
          have hW7 := bthen hW6 hb7 hW6.size
          refine bodyPost_ret (v := .tuple #[.agg #[.slice A2 k c2, .slice A7 n c7], .int .i64 0, .int .i64 0]) (by simp [results, Tryz.results95, go_sem, hc7, hc8]) rfl ?_
          refine retPt_of HSL.out HLL.out G3.out HG4.out G2.out G1.out ?_ ?_ (ap_late o7 o8 (Nat.le_refl _)) ((hW7.setCell (p := ⟨w.heap.size + 1, 0, none⟩) (by simp) _).setCell (p := ⟨w.heap.size + 1, 1, none⟩) (by simp) _)
          · exact Own.mono (B := V.heap.size) (Own.low1 (Own.low1 (o7.below hb7) (by simp; omega) _) (by simp; omega) _) (by omega)
          · exact Own.mono (B := w6.heap.size) (Own.low1 (Own.low1 o8 (by simp; omega) _) (by simp; omega) _) (by omega)
end Go.Proofs.YtpgegfnhokhlmaaGreat
