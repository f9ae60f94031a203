/- What checkProof, l12Form, pipeError, l12Error do, by walks over their text. Conditions: lengths of at most 1048576; a valid network, flows, levels. -/
import Derived.Test.YtebefamekjjbcaaDoorKS
import Derived.Test.YtebefamekjjbcaaDoorKA
import Derived.Deep.DeepCutAuto
set_option linter.unusedVariables false
set_option maxRecDepth 100000
namespace Go.Proofs.YtebefamekjjbcaaDoor
open Go.ChangeShapes Go.WideShapes Go.ChangeAt Go.RowKit Go.Joins Go.Deep
attribute [local go_sem ↓] Go.wp_at_zero Go.wp_at_succ

/-- The resistance of a pipe. -/
def kOf (ps : List Pp) (i : Nat) : Int := ((ps.map Pp.k).getD i 0)
theorem kOf_at {ps : List Pp} {i : Nat} {p : Pp} (h : ps[i]? = some p) : kOf ps i = p.k := by simp [kOf, List.getD, h]
/-- The error of a pipe. -/
def peV (ps : List Pp) (fs ls : List Int) (i : Nat) : Int := ls.getD (efr (esOf ps) i) 0 - ls.getD (eto (esOf ps) i) 0 - drp (kOf ps i) (fs.getD i 0)
/-- The code of a network and a proof. -/
noncomputable def codeQ (ns : List Nd) (ps : List Pp) (m n : Nat) (fs ls : List Int) : Int := if codeF ns ps m fs = 0 then (if lvB n ls = true then 0 else 3) else codeF ns ps m fs
theorem codeQ_1 {ns : List Nd} {ps : List Pp} {m n : Nat} {fs ls : List Int} {k : Int} (h : codeF ns ps m fs = k) (hk : k ≠ 0) : codeQ ns ps m n fs ls = k := by
  unfold codeQ
  rw [h, if_neg hk]
theorem codeQ_3 {ns : List Nd} {ps : List Pp} {m n : Nat} {fs ls : List Int} (h : codeF ns ps m fs = 0) (hl : lvB n ls = false) : codeQ ns ps m n fs ls = 3 := by
  unfold codeQ
  rw [if_pos h, if_neg (by rw [hl]; decide)]
theorem codeQ_0 {ns : List Nd} {ps : List Pp} {m n : Nat} {fs ls : List Int} (h : codeF ns ps m fs = 0) (hl : lvB n ls = true) : codeQ ns ps m n fs ls = 0 := by
  unfold codeQ
  rw [if_pos h, if_pos hl]
theorem codeQ_in (ns : List Nd) (ps : List Pp) (m n : Nat) (fs ls : List Int) : (codeQ ns ps m n fs ls = 0 ∧ NetOk ns ps ∧ flB m fs = true ∧ lvB n ls = true) ∨ codeQ ns ps m n fs ls = 1 ∨ codeQ ns ps m n fs ls = 3 := by
  rcases codeF_in ns ps m fs with ⟨h, h1, h2⟩ | h | h
  · cases hl : lvB n ls
    · exact .inr (.inr (codeQ_3 h hl))
    · exact .inl ⟨codeQ_0 h hl, h1, h2, rfl⟩
  · exact .inr (.inl (codeQ_1 h (by omega)))
  · exact .inr (.inr (codeQ_1 h (by omega)))
set_option maxHeartbeats 2000000 in
theorem codeQ_any (A B C D : Option Addr) (n c m d l e k f : Nat) (ns : List Nd) (ps : List Pp) (fs ls : List Int) (w : World) (h : IsNet w A n c ns B m d ps) (hf : Ints w C l fs) (hv : Ints w D k ls) (hl : l ≤ 1048576) (hk : k ≤ 1048576) :
    Calls Tryd.prog 20 #[.agg #[.slice A n c, .slice B m d], .agg #[.slice C l e, .slice D k f]] w fun e w' => e = .returned (.int .i64 (codeQ ns ps m n fs ls)) ∧ Below w.heap.size w w' := by
  have hV : Below w.heap.size w ((w.alloc (.cells #[.slice A n c, .slice B m d] 35)).alloc (.cells #[.slice C l e, .slice D k f] 37)) := ((Below.refl _ _).alloc (Nat.le_refl _) _).alloc (by simp) _
  have bx := (box_new w #[.slice A n c, .slice B m d] 35).alloc (.cells #[.slice C l e, .slice D k f] 37)
  have by1 := box_at (w.alloc (.cells #[.slice A n c, .slice B m d] 35)) #[.slice C l e, .slice D k f] 37 (g := w.heap.size + 1) (by simp)
  go_enter Tryd.func20, Tryd.ntmps20
  go_upto_region 1 with fail
  generalize ((w.alloc (.cells #[.slice A n c, .slice B m d] 35)).alloc (.cells #[.slice C l e, .slice D k f] 37)) = V at *
  have xl := bx.lt
  have x0 : V.cell? ⟨w.heap.size, 0, none⟩ = some (.slice A n c) := bx.cell 0
  have x1 : V.cell? ⟨w.heap.size, 1, none⟩ = some (.slice B m d) := bx.cell 1
  have yl := by1.lt
  have y0 : V.cell? ⟨w.heap.size + 1, 0, none⟩ = some (.slice C l e) := by1.cell 0
  have y1 : V.cell? ⟨w.heap.size + 1, 1, none⟩ = some (.slice D k f) := by1.cell 1
  go_wp2_with fail
  refine (codeF_any _ _ _ _ _ _ _ _ _ ns ps fs _ (h.below hV) (hf.below hV) hl).mono ?_
  rintro e1 w1 ⟨rfl, hb1⟩
  have hB1 := bthen hV hb1 hV.size
  have bx1 := bx.belowA hb1
  have by2 := by1.belowA hb1
  clear x0 x1 xl y0 y1 yl hb1 bx by1
  have xl := bx1.lt
  have x0 : w1.cell? ⟨w.heap.size, 0, none⟩ = some (.slice A n c) := bx1.cell 0
  have x1 : w1.cell? ⟨w.heap.size, 1, none⟩ = some (.slice B m d) := bx1.cell 1
  have yl := by2.lt
  have y0 : w1.cell? ⟨w.heap.size + 1, 0, none⟩ = some (.slice C l e) := by2.cell 0
  have y1 : w1.cell? ⟨w.heap.size + 1, 1, none⟩ = some (.slice D k f) := by2.cell 1
  rcases codeF_in ns ps m fs with ⟨hc, hn, _⟩ | hc | hc
  rotate_left
  · have HQ := Lib.hid (codeQ_1 (n := n) (ls := ls) hc (by omega))
    rw [hc]
    clear hc
    go_wp2_with fail
    go_ret
    exact ⟨ri HQ.out.symm, hB1⟩
  · have HQ := Lib.hid (codeQ_1 (n := n) (ls := ls) hc (by omega))
    rw [hc]
    clear hc
    go_wp2_with fail
    go_ret
    exact ⟨ri HQ.out.symm, hB1⟩
  have HC := Lib.hid hc
  rw [hc]
  clear hc
  go_wp2_with fail
  refine (areLev_any _ _ _ _ _ _ _ _ _ ls _ (hv.below hB1) hk).mono ?_
  rintro e2 w2 ⟨rfl, hb2⟩
  have hB2 := bthen hB1 hb2 hB1.size
  cases hE : lvB n ls
  · have HE := Lib.hid (codeQ_3 HC.out hE)
    clear hE
    go_wp2_with fail
    go_ret
    exact ⟨ri HE.out.symm, hB2⟩
  · have HE := Lib.hid (codeQ_0 HC.out hE)
    clear hE
    go_wp2_with fail
    go_ret
    exact ⟨ri HE.out.symm, hB2⟩
set_option maxHeartbeats 2000000 in
theorem sCodeQ_any (A B C D : Option Addr) (n c m d l e k f : Nat) (ns : List Nd) (ps : List Pp) (fs ls : List Int) (w : World) (h : IsNet w A n c ns B m d ps) (hf : Ints w C l fs) (hv : Ints w D k ls) (hl : l ≤ 1048576) (hk : k ≤ 1048576) :
    Calls Tryd.prog 15 #[.agg #[.slice A n c, .slice B m d], .agg #[.slice C l e, .slice D k f]] w fun e w' => e = .returned (.int .i64 (codeQ ns ps m n fs ls)) ∧ Below w.heap.size w w' := by
  have hV : Below w.heap.size w ((w.alloc (.cells #[.slice A n c, .slice B m d] 35)).alloc (.cells #[.slice C l e, .slice D k f] 37)) := ((Below.refl _ _).alloc (Nat.le_refl _) _).alloc (by simp) _
  have bx := (box_new w #[.slice A n c, .slice B m d] 35).alloc (.cells #[.slice C l e, .slice D k f] 37)
  have by1 := box_at (w.alloc (.cells #[.slice A n c, .slice B m d] 35)) #[.slice C l e, .slice D k f] 37 (g := w.heap.size + 1) (by simp)
  go_enter Tryd.func15, Tryd.ntmps15
  go_upto_region 1 with fail
  generalize ((w.alloc (.cells #[.slice A n c, .slice B m d] 35)).alloc (.cells #[.slice C l e, .slice D k f] 37)) = V at *
  have xl := bx.lt
  have x0 : V.cell? ⟨w.heap.size, 0, none⟩ = some (.slice A n c) := bx.cell 0
  have x1 : V.cell? ⟨w.heap.size, 1, none⟩ = some (.slice B m d) := bx.cell 1
  have yl := by1.lt
  have y0 : V.cell? ⟨w.heap.size + 1, 0, none⟩ = some (.slice C l e) := by1.cell 0
  have y1 : V.cell? ⟨w.heap.size + 1, 1, none⟩ = some (.slice D k f) := by1.cell 1
  go_wp2_with fail
  refine (sCodeF_any _ _ _ _ _ _ _ _ _ ns ps fs _ (h.below hV) (hf.below hV) hl).mono ?_
  rintro e1 w1 ⟨rfl, hb1⟩
  have hB1 := bthen hV hb1 hV.size
  have bx1 := bx.belowA hb1
  have by2 := by1.belowA hb1
  clear x0 x1 xl y0 y1 yl hb1 bx by1
  have xl := bx1.lt
  have x0 : w1.cell? ⟨w.heap.size, 0, none⟩ = some (.slice A n c) := bx1.cell 0
  have x1 : w1.cell? ⟨w.heap.size, 1, none⟩ = some (.slice B m d) := bx1.cell 1
  have yl := by2.lt
  have y0 : w1.cell? ⟨w.heap.size + 1, 0, none⟩ = some (.slice C l e) := by2.cell 0
  have y1 : w1.cell? ⟨w.heap.size + 1, 1, none⟩ = some (.slice D k f) := by2.cell 1
  rcases codeF_in ns ps m fs with ⟨hc, hn, _⟩ | hc | hc
  rotate_left
  · have HQ := Lib.hid (codeQ_1 (n := n) (ls := ls) hc (by omega))
    rw [hc]
    clear hc
    go_wp2_with fail
    go_ret
    exact ⟨ri HQ.out.symm, hB1⟩
  · have HQ := Lib.hid (codeQ_1 (n := n) (ls := ls) hc (by omega))
    rw [hc]
    clear hc
    go_wp2_with fail
    go_ret
    exact ⟨ri HQ.out.symm, hB1⟩
  have HC := Lib.hid hc
  rw [hc]
  clear hc
  go_wp2_with fail
  refine (sLev_any _ _ _ _ _ _ _ _ _ ls _ (hv.below hB1) hk).mono ?_
  rintro e2 w2 ⟨rfl, hb2⟩
  have hB2 := bthen hB1 hb2 hB1.size
  cases hE : lvB n ls
  · have HE := Lib.hid (codeQ_3 HC.out hE)
    clear hE
    go_wp2_with fail
    go_ret
    exact ⟨ri HE.out.symm, hB2⟩
  · have HE := Lib.hid (codeQ_0 HC.out hE)
    clear hE
    go_wp2_with fail
    go_ret
    exact ⟨ri HE.out.symm, hB2⟩
end Go.Proofs.YtebefamekjjbcaaDoor
