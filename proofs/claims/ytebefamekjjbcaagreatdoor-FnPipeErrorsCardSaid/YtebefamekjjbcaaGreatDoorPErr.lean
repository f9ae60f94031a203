/- What checkProof, l12Form, pipeError, l12Error do, by walks over their text. Conditions: lengths of at most 1048576; a valid network, flows, levels. -/
import Derived.Test.YtebefamekjjbcaaGreatDoorKS
import Derived.Test.YtebefamekjjbcaaGreatDoorKA
import Derived.Deep.DeepCutAuto
set_option linter.unusedVariables false
set_option maxRecDepth 100000
namespace Go.Proofs.YtebefamekjjbcaaGreatDoor
open Go.ChangeShapes Go.WideShapes Go.ChangeAt Go.RowKit Go.Joins Go.Deep
attribute [local go_sem ↓] Go.wp_at_zero Go.wp_at_succ

/-- The resistance of a pipe. -/
def kOf (ps : List Pp) (i : Nat) : Int := ((ps.map Pp.k).getD i 0)
theorem kOf_at {ps : List Pp} {i : Nat} {p : Pp} (h : ps[i]? = some p) : kOf ps i = p.k := by simp [kOf, List.getD, h]
/-- The error of a pipe. -/
def peV (ps : List Pp) (fs ls : List Int) (i : Nat) : Int := ls.getD (efr (esOf ps) i) 0 - ls.getD (eto (esOf ps) i) 0 - drp (kOf ps i) (fs.getD i 0)
/-- The code of a network and a proof. -/
noncomputable def codeQ (ns : List Nd) (ps : List Pp) (m n : Nat) (fs ls : List Int) : Int := if codeF ns ps m fs = 0 then (if lvB n ls = true then 0 else 3) else codeF ns ps m fs
theorem codeQ_1 {ns : List Nd} {ps : List Pp} {m n : Nat} {fs ls : List Int} {k : Int} (h : codeF ns ps m fs = k) (hk : k ≠ 0) : codeQ ns ps m n fs ls = k := by
  unfold codeQ
  rw [h, if_neg hk]
theorem codeQ_3 {ns : List Nd} {ps : List Pp} {m n : Nat} {fs ls : List Int} (h : codeF ns ps m fs = 0) (hl : lvB n ls = false) : codeQ ns ps m n fs ls = 3 := by
  unfold codeQ
  rw [if_pos h, if_neg (by rw [hl]; decide)]
theorem codeQ_0 {ns : List Nd} {ps : List Pp} {m n : Nat} {fs ls : List Int} (h : codeF ns ps m fs = 0) (hl : lvB n ls = true) : codeQ ns ps m n fs ls = 0 := by
  unfold codeQ
  rw [if_pos h, if_pos hl]
theorem codeQ_in (ns : List Nd) (ps : List Pp) (m n : Nat) (fs ls : List Int) : (codeQ ns ps m n fs ls = 0 ∧ NetOk ns ps ∧ flB m fs = true ∧ lvB n ls = true) ∨ codeQ ns ps m n fs ls = 1 ∨ codeQ ns ps m n fs ls = 3 := by
  rcases codeF_in ns ps m fs with ⟨h, h1, h2⟩ | h | h
  · cases hl : lvB n ls
    · exact .inr (.inr (codeQ_3 h hl))
    · exact .inl ⟨codeQ_0 h hl, h1, h2, rfl⟩
  · exact .inr (.inl (codeQ_1 h (by omega)))
  · exact .inr (.inr (codeQ_1 h (by omega)))
set_option maxHeartbeats 2000000 in
theorem codeQ_any (A B C D : Option Addr) (n c m d l e k f : Nat) (ns : List Nd) (ps : List Pp) (fs ls : List Int) (w : World) (h : IsNet w A n c ns B m d ps) (hf : Ints w C l fs) (hv : Ints w D k ls) (hl : l ≤ 1048576) (hk : k ≤ 1048576) :
    Calls Tryz.prog 20 #[.agg #[.slice A n c, .slice B m d], .agg #[.slice C l e, .slice D k f]] w fun e w' => e = .returned (.int .i64 (codeQ ns ps m n fs ls)) ∧ Below w.heap.size w w' := by
  have hV : Below w.heap.size w ((w.alloc (.cells #[.slice A n c, .slice B m d] 27)).alloc (.cells #[.slice C l e, .slice D k f] 30)) := ((Below.refl _ _).alloc (Nat.le_refl _) _).alloc (by simp) _
  have bx := (box_new w #[.slice A n c, .slice B m d] 27).alloc (.cells #[.slice C l e, .slice D k f] 30)
  have by1 := box_at (w.alloc (.cells #[.slice A n c, .slice B m d] 27)) #[.slice C l e, .slice D k f] 30 (g := w.heap.size + 1) (by simp)
  go_enter Tryz.func20, Tryz.ntmps20
  go_upto_region 1 with fail
  generalize ((w.alloc (.cells #[.slice A n c, .slice B m d] 27)).alloc (.cells #[.slice C l e, .slice D k f] 30)) = V at *
  have xl := bx.lt
  have x0 : V.cell? ⟨w.heap.size, 0, none⟩ = some (.slice A n c) := bx.cell 0
  have x1 : V.cell? ⟨w.heap.size, 1, none⟩ = some (.slice B m d) := bx.cell 1
  have yl := by1.lt
  have y0 : V.cell? ⟨w.heap.size + 1, 0, none⟩ = some (.slice C l e) := by1.cell 0
  have y1 : V.cell? ⟨w.heap.size + 1, 1, none⟩ = some (.slice D k f) := by1.cell 1
  go_wp2_with fail
  refine (codeF_any _ _ _ _ _ _ _ _ _ ns ps fs _ (h.below hV) (hf.below hV) hl).mono ?_
  rintro e1 w1 ⟨rfl, hb1⟩
  have hB1 := bthen hV hb1 hV.size
  have bx1 := bx.belowA hb1
  have by2 := by1.belowA hb1
  clear x0 x1 xl y0 y1 yl hb1 bx by1
  have xl := bx1.lt
  have x0 : w1.cell? ⟨w.heap.size, 0, none⟩ = some (.slice A n c) := bx1.cell 0
  have x1 : w1.cell? ⟨w.heap.size, 1, none⟩ = some (.slice B m d) := bx1.cell 1
  have yl := by2.lt
  have y0 : w1.cell? ⟨w.heap.size + 1, 0, none⟩ = some (.slice C l e) := by2.cell 0
  have y1 : w1.cell? ⟨w.heap.size + 1, 1, none⟩ = some (.slice D k f) := by2.cell 1
  rcases codeF_in ns ps m fs with ⟨hc, hn, _⟩ | hc | hc
  rotate_left
  · have HQ := Lib.hid (codeQ_1 (n := n) (ls := ls) hc (by omega))
    rw [hc]
    clear hc
    go_wp2_with fail
    go_ret
    exact ⟨ri HQ.out.symm, hB1⟩
  · have HQ := Lib.hid (codeQ_1 (n := n) (ls := ls) hc (by omega))
    rw [hc]
    clear hc
    go_wp2_with fail
    go_ret
    exact ⟨ri HQ.out.symm, hB1⟩
  have HC := Lib.hid hc
  rw [hc]
  clear hc
  go_wp2_with fail
  refine (areLev_any _ _ _ _ _ _ _ _ _ ls _ (hv.below hB1) hk).mono ?_
  rintro e2 w2 ⟨rfl, hb2⟩
  have hB2 := bthen hB1 hb2 hB1.size
  cases hE : lvB n ls
  · have HE := Lib.hid (codeQ_3 HC.out hE)
    clear hE
    go_wp2_with fail
    go_ret
    exact ⟨ri HE.out.symm, hB2⟩
  · have HE := Lib.hid (codeQ_0 HC.out hE)
    clear hE
    go_wp2_with fail
    go_ret
    exact ⟨ri HE.out.symm, hB2⟩
set_option maxHeartbeats 2000000 in
theorem sCodeQ_any (A B C D : Option Addr) (n c m d l e k f : Nat) (ns : List Nd) (ps : List Pp) (fs ls : List Int) (w : World) (h : IsNet w A n c ns B m d ps) (hf : Ints w C l fs) (hv : Ints w D k ls) (hl : l ≤ 1048576) (hk : k ≤ 1048576) :
    Calls Tryz.prog 23 #[.agg #[.slice A n c, .slice B m d], .agg #[.slice C l e, .slice D k f]] w fun e w' => e = .returned (.int .i64 (codeQ ns ps m n fs ls)) ∧ Below w.heap.size w w' := by
  have hV : Below w.heap.size w ((w.alloc (.cells #[.slice A n c, .slice B m d] 27)).alloc (.cells #[.slice C l e, .slice D k f] 30)) := ((Below.refl _ _).alloc (Nat.le_refl _) _).alloc (by simp) _
  have bx := (box_new w #[.slice A n c, .slice B m d] 27).alloc (.cells #[.slice C l e, .slice D k f] 30)
  have by1 := box_at (w.alloc (.cells #[.slice A n c, .slice B m d] 27)) #[.slice C l e, .slice D k f] 30 (g := w.heap.size + 1) (by simp)
  go_enter Tryz.func23, Tryz.ntmps23
  go_upto_region 1 with fail
  generalize ((w.alloc (.cells #[.slice A n c, .slice B m d] 27)).alloc (.cells #[.slice C l e, .slice D k f] 30)) = V at *
  have xl := bx.lt
  have x0 : V.cell? ⟨w.heap.size, 0, none⟩ = some (.slice A n c) := bx.cell 0
  have x1 : V.cell? ⟨w.heap.size, 1, none⟩ = some (.slice B m d) := bx.cell 1
  have yl := by1.lt
  have y0 : V.cell? ⟨w.heap.size + 1, 0, none⟩ = some (.slice C l e) := by1.cell 0
  have y1 : V.cell? ⟨w.heap.size + 1, 1, none⟩ = some (.slice D k f) := by1.cell 1
  go_wp2_with fail
  refine (sCodeF_any _ _ _ _ _ _ _ _ _ ns ps fs _ (h.below hV) (hf.below hV) hl).mono ?_
  rintro e1 w1 ⟨rfl, hb1⟩
  have hB1 := bthen hV hb1 hV.size
  have bx1 := bx.belowA hb1
  have by2 := by1.belowA hb1
  clear x0 x1 xl y0 y1 yl hb1 bx by1
  have xl := bx1.lt
  have x0 : w1.cell? ⟨w.heap.size, 0, none⟩ = some (.slice A n c) := bx1.cell 0
  have x1 : w1.cell? ⟨w.heap.size, 1, none⟩ = some (.slice B m d) := bx1.cell 1
  have yl := by2.lt
  have y0 : w1.cell? ⟨w.heap.size + 1, 0, none⟩ = some (.slice C l e) := by2.cell 0
  have y1 : w1.cell? ⟨w.heap.size + 1, 1, none⟩ = some (.slice D k f) := by2.cell 1
  rcases codeF_in ns ps m fs with ⟨hc, hn, _⟩ | hc | hc
  rotate_left
  · have HQ := Lib.hid (codeQ_1 (n := n) (ls := ls) hc (by omega))
    rw [hc]
    clear hc
    go_wp2_with fail
    go_ret
    exact ⟨ri HQ.out.symm, hB1⟩
  · have HQ := Lib.hid (codeQ_1 (n := n) (ls := ls) hc (by omega))
    rw [hc]
    clear hc
    go_wp2_with fail
    go_ret
    exact ⟨ri HQ.out.symm, hB1⟩
  have HC := Lib.hid hc
  rw [hc]
  clear hc
  go_wp2_with fail
  refine (sLev_any _ _ _ _ _ _ _ _ _ ls _ (hv.below hB1) hk).mono ?_
  rintro e2 w2 ⟨rfl, hb2⟩
  have hB2 := bthen hB1 hb2 hB1.size
  cases hE : lvB n ls
  · have HE := Lib.hid (codeQ_3 HC.out hE)
    clear hE
    go_wp2_with fail
    go_ret
    exact ⟨ri HE.out.symm, hB2⟩
  · have HE := Lib.hid (codeQ_0 HC.out hE)
    clear hE
    go_wp2_with fail
    go_ret
    exact ⟨ri HE.out.symm, hB2⟩
set_option maxHeartbeats 4000000 in
theorem pErr_any (A B C D : Option Addr) (n c m d e f : Nat) (i : Nat) (ns : List Nd) (ps : List Pp) (fs ls : List Int) (w : World) (h : IsNet w A n c ns B m d ps) (hok : NetOk ns ps) (hf : Ints w C m fs) (hv : Ints w D n ls) (hfb : flB m fs = true) (hlb : lvB n ls = true) (hi : i < m) :
    Calls Tryz.prog 22 #[.agg #[.slice A n c, .slice B m d], .agg #[.slice C m e, .slice D n f], .int .i64 i] w fun e w' => e = .returned (.int .i64 (peV ps fs ls i)) ∧ Below w.heap.size w w' := by
  have hln : ns.length = n := h.nodes.len
  have hm : m ≤ 40 := by have := hok.2.2.1; rw [h.pipes.len] at this; exact this
  have hn : n ≤ 24 := by have := hok.2.1; omega
  obtain ⟨bp, op, p, rfl, hpw, hpp, _, q0, q1, q2, q3, q4⟩ := h.pipes.at_ hi
  obtain ⟨e1, e2, l1, l2, _, hpk, _⟩ := pipe_ok hok hpp
  rw [hln] at l1 l2
  rw [e1] at q0
  rw [e2] at q1
  obtain ⟨bf, of, rfl, hfw, cf0⟩ := hf.atD hi
  obtain ⟨bl, ol, rfl, hlw, ca0⟩ := hv.atD l1
  obtain ⟨bl', ol', hAl, _, cb0⟩ := hv.atD l2
  obtain ⟨rfl, rfl⟩ : bl = bl' ∧ ol = ol' := by
    injection hAl with hAl
    injection hAl with a1 a2
    exact ⟨a1, a2⟩
  have hfk := all_at (flB_all hfb) (getD_some hf.len hi)
  have hla := all_at (lvB_all hlb) (getD_some hv.len l1)
  have hlb' := all_at (lvB_all hlb) (getD_some hv.len l2)
  have HPE := Lib.hid (show peV ps fs ls i = ls.getD (efr (esOf ps) i) 0 - ls.getD (eto (esOf ps) i) 0 - drp p.k (fs.getD i 0) by unfold peV; rw [kOf_at hpp])
  obtain ⟨fi, hfi⟩ : ∃ y, fs.getD i 0 = y := ⟨_, rfl⟩
  obtain ⟨la, hla2⟩ : ∃ y, ls.getD (efr (esOf ps) i) 0 = y := ⟨_, rfl⟩
  obtain ⟨lb, hlb2⟩ : ∃ y, ls.getD (eto (esOf ps) i) 0 = y := ⟨_, rfl⟩
  rw [hfi] at cf0 hfk
  rw [hla2] at ca0 hla
  rw [hlb2] at cb0 hlb'
  have HFI := Lib.hid hfi
  have HLA := Lib.hid hla2
  have HLB := Lib.hid hlb2
  have hdr := drp_bd hpk hfk
  obtain ⟨dr, hdr2⟩ : ∃ y, drp p.k fi = y := ⟨_, rfl⟩
  have HDR := Lib.hid hdr2
  rw [hdr2] at hdr
  have s1 : IntKind.i64.wrap (la - lb) = la - lb := IntWalk.i64_in _ (by omega)
  have s2 : IntKind.i64.wrap (la - lb - drp p.k fi) = la - lb - drp p.k fi := IntWalk.i64_in _ (by rw [hdr2]; omega)
  have HP := Lib.hid hpp
  have HPK := Lib.hid hpk
  have HFK := Lib.hid hfk
  have i0 : (0 : Int) ≤ (i : Int) := by omega
  have i1 : (i : Int) < (m : Int) := by omega
  have i2 : (0 : Int) ≤ (efr (esOf ps) i : Int) := by omega
  have i3 : (efr (esOf ps) i : Int) < (n : Int) := by omega
  have i4 : (0 : Int) ≤ (eto (esOf ps) i : Int) := by omega
  have i5 : (eto (esOf ps) i : Int) < (n : Int) := by omega
  have hV : Below w.heap.size w (((w.alloc (.cells #[.slice A n c, .slice (some ⟨bp, op, none⟩) m d] 27)).alloc (.cells #[.slice (some ⟨bf, of, none⟩) m e, .slice (some ⟨bl, ol, none⟩) n f] 30)).alloc (.cells #[.int .i64 (efr (esOf ps) i : Int), .int .i64 (eto (esOf ps) i : Int), .int .i64 p.k, .int .i64 p.v, .int .i64 p.l] 63)) := (((Below.refl _ _).alloc (Nat.le_refl _) _).alloc (by simp) _).alloc (by simp; omega) _
  have bx := ((box_new w #[.slice A n c, .slice (some ⟨bp, op, none⟩) m d] 27).alloc (.cells #[.slice (some ⟨bf, of, none⟩) m e, .slice (some ⟨bl, ol, none⟩) n f] 30)).alloc (.cells #[.int .i64 (efr (esOf ps) i : Int), .int .i64 (eto (esOf ps) i : Int), .int .i64 p.k, .int .i64 p.v, .int .i64 p.l] 63)
  have by1 := (box_at (w.alloc (.cells #[.slice A n c, .slice (some ⟨bp, op, none⟩) m d] 27)) #[.slice (some ⟨bf, of, none⟩) m e, .slice (some ⟨bl, ol, none⟩) n f] 30 (g := w.heap.size + 1) (by simp)).alloc (.cells #[.int .i64 (efr (esOf ps) i : Int), .int .i64 (eto (esOf ps) i : Int), .int .i64 p.k, .int .i64 p.v, .int .i64 p.l] 63)
  have bz := box_at ((w.alloc (.cells #[.slice A n c, .slice (some ⟨bp, op, none⟩) m d] 27)).alloc (.cells #[.slice (some ⟨bf, of, none⟩) m e, .slice (some ⟨bl, ol, none⟩) n f] 30)) #[.int .i64 (efr (esOf ps) i : Int), .int .i64 (eto (esOf ps) i : Int), .int .i64 p.k, .int .i64 p.v, .int .i64 p.l] 63 (g := w.heap.size + 2) (by simp)
  clear hpp e1 e2 hfi hla2 hlb2 hdr2 hAl hfb hlb hf hv hok
  go_enter Tryz.func22, Tryz.ntmps22
  go_upto_region 2 with fail
  have c1 := (hV.cell (p := ⟨bf, of + i, none⟩) hfw).trans cf0
  have c2 := (hV.cell (p := ⟨bl, ol + efr (esOf ps) i, none⟩) hlw).trans ca0
  have c3 := (hV.cell (p := ⟨bl, ol + eto (esOf ps) i, none⟩) hlw).trans cb0
  have kN : Kept (IsNet _ A n c ns (some ⟨bp, op, none⟩) m d ps) := ⟨h.below hV⟩
  have hsv := hV.size
  generalize (((w.alloc (.cells #[.slice A n c, .slice (some ⟨bp, op, none⟩) m d] 27)).alloc (.cells #[.slice (some ⟨bf, of, none⟩) m e, .slice (some ⟨bl, ol, none⟩) n f] 30)).alloc (.cells #[.int .i64 (efr (esOf ps) i : Int), .int .i64 (eto (esOf ps) i : Int), .int .i64 p.k, .int .i64 p.v, .int .i64 p.l] 63)) = V at *
  have xl := bx.lt
  have yl := by1.lt
  have zl := bz.lt
  have x0 : V.cell? ⟨w.heap.size, 0, none⟩ = some (.slice A n c) := bx.cell 0
  have x1 : V.cell? ⟨w.heap.size, 1, none⟩ = some (.slice (some ⟨bp, op, none⟩) m d) := bx.cell 1
  have y0 : V.cell? ⟨w.heap.size + 1, 0, none⟩ = some (.slice (some ⟨bf, of, none⟩) m e) := by1.cell 0
  have y1 : V.cell? ⟨w.heap.size + 1, 1, none⟩ = some (.slice (some ⟨bl, ol, none⟩) n f) := by1.cell 1
  have z0 : V.cell? ⟨w.heap.size + 2, 0, none⟩ = some (.int .i64 (efr (esOf ps) i : Int)) := bz.cell 0
  have z1 : V.cell? ⟨w.heap.size + 2, 1, none⟩ = some (.int .i64 (eto (esOf ps) i : Int)) := bz.cell 1
  have z2 : V.cell? ⟨w.heap.size + 2, 2, none⟩ = some (.int .i64 p.k) := bz.cell 2
  have z3 : V.cell? ⟨w.heap.size + 2, 3, none⟩ = some (.int .i64 p.v) := bz.cell 3
  have z4 : V.cell? ⟨w.heap.size + 2, 4, none⟩ = some (.int .i64 p.l) := bz.cell 4
  have hfl : bf < V.heap.size := by omega
  have hll : bl < V.heap.size := by omega
  have kU : Kept (Below V.heap.size V V.drew) := ⟨(Below.refl _ _).drew⟩
  clear bx by1 bz q0 q1 q2 q3 q4 cf0 ca0 cb0
  go_region_held3 (fun w' => w.heap.size < w'.heap.size ∧ w.heap.size + 1 < w'.heap.size ∧ w.heap.size + 2 < w'.heap.size ∧ bl < w'.heap.size ∧ bf < w'.heap.size ∧ w'.cell? ⟨w.heap.size + 1, 1, none⟩ = some (.slice (some ⟨bl, ol, none⟩) n f) ∧ w'.cell? ⟨w.heap.size + 1, 0, none⟩ = some (.slice (some ⟨bf, of, none⟩) m e) ∧ w'.cell? ⟨w.heap.size + 2, 0, none⟩ = some (.int .i64 (efr (esOf ps) i : Int)) ∧ w'.cell? ⟨w.heap.size + 2, 1, none⟩ = some (.int .i64 (eto (esOf ps) i : Int)) ∧ w'.cell? ⟨w.heap.size + 2, 2, none⟩ = some (.int .i64 p.k) ∧ w'.cell? ⟨w.heap.size + 2, 3, none⟩ = some (.int .i64 p.v) ∧ w'.cell? ⟨w.heap.size + 2, 4, none⟩ = some (.int .i64 p.l) ∧ w'.cell? ⟨bl, ol + efr (esOf ps) i, none⟩ = some (.int .i64 la) ∧ w'.cell? ⟨bl, ol + eto (esOf ps) i, none⟩ = some (.int .i64 lb) ∧ w'.cell? ⟨bf, of + i, none⟩ = some (.int .i64 fi) ∧ Kept (Below V.heap.size V w'))
    (first | (go_split_ands; refine ⟨by have := hbb.size; omega, by have := hbb.size; omega, by have := hbb.size; omega, by have := hbb.size; omega, by have := hbb.size; omega, ?_, ?_, ?_, ?_, ?_, ?_, ?_, ?_, ?_, ?_, ⟨bthen (Kept.out ‹Kept (Below V.heap.size _ _)›) hbb (Kept.out ‹Kept (Below V.heap.size _ _)›).size⟩⟩ <;> (rw [hbb.cell (by simp; omega)]; assumption)) | go_keep)
    (first | (go_at_call 55; go_split_ands; refine (dropOf_any _ _ _ _ _ _ _ HPK.out HFK.out).mono ?_; rintro e5 wb ⟨rfl, hbb⟩))
  rename_i hh
  obtain ⟨_, _, _, _, _, _, _, _, _, _, _, _, _, _, _, ⟨hbB⟩⟩ := hh
  go_wp2_with fail
  go_ret
  exact ⟨ri (by rw [HPE.out, HFI.out, HLA.out, HLB.out]), bthen hV hbB hV.size⟩
set_option maxHeartbeats 4000000 in
theorem sPErr_any (A B C D : Option Addr) (n c m d e f : Nat) (i : Nat) (ns : List Nd) (ps : List Pp) (fs ls : List Int) (w : World) (h : IsNet w A n c ns B m d ps) (hok : NetOk ns ps) (hf : Ints w C m fs) (hv : Ints w D n ls) (hfb : flB m fs = true) (hlb : lvB n ls = true) (hi : i < m) :
    Calls Tryz.prog 25 #[.agg #[.slice A n c, .slice B m d], .agg #[.slice C m e, .slice D n f], .int .i64 i] w fun e w' => e = .returned (.int .i64 (peV ps fs ls i)) ∧ Below w.heap.size w w' := by
  have hln : ns.length = n := h.nodes.len
  have hm : m ≤ 40 := by have := hok.2.2.1; rw [h.pipes.len] at this; exact this
  have hn : n ≤ 24 := by have := hok.2.1; omega
  obtain ⟨bp, op, p, rfl, hpw, hpp, _, q0, q1, q2, q3, q4⟩ := h.pipes.at_ hi
  obtain ⟨e1, e2, l1, l2, _, hpk, _⟩ := pipe_ok hok hpp
  rw [hln] at l1 l2
  rw [e1] at q0
  rw [e2] at q1
  obtain ⟨bf, of, rfl, hfw, cf0⟩ := hf.atD hi
  obtain ⟨bl, ol, rfl, hlw, ca0⟩ := hv.atD l1
  obtain ⟨bl', ol', hAl, _, cb0⟩ := hv.atD l2
  obtain ⟨rfl, rfl⟩ : bl = bl' ∧ ol = ol' := by
    injection hAl with hAl
    injection hAl with a1 a2
    exact ⟨a1, a2⟩
  have hfk := all_at (flB_all hfb) (getD_some hf.len hi)
  have hla := all_at (lvB_all hlb) (getD_some hv.len l1)
  have hlb' := all_at (lvB_all hlb) (getD_some hv.len l2)
  have HPE := Lib.hid (show peV ps fs ls i = ls.getD (efr (esOf ps) i) 0 - ls.getD (eto (esOf ps) i) 0 - drp p.k (fs.getD i 0) by unfold peV; rw [kOf_at hpp])
  obtain ⟨fi, hfi⟩ : ∃ y, fs.getD i 0 = y := ⟨_, rfl⟩
  obtain ⟨la, hla2⟩ : ∃ y, ls.getD (efr (esOf ps) i) 0 = y := ⟨_, rfl⟩
  obtain ⟨lb, hlb2⟩ : ∃ y, ls.getD (eto (esOf ps) i) 0 = y := ⟨_, rfl⟩
  rw [hfi] at cf0 hfk
  rw [hla2] at ca0 hla
  rw [hlb2] at cb0 hlb'
  have HFI := Lib.hid hfi
  have HLA := Lib.hid hla2
  have HLB := Lib.hid hlb2
  have hdr := drp_bd hpk hfk
  obtain ⟨dr, hdr2⟩ : ∃ y, drp p.k fi = y := ⟨_, rfl⟩
  have HDR := Lib.hid hdr2
  rw [hdr2] at hdr
  have s1 : IntKind.i64.wrap (la - lb) = la - lb := IntWalk.i64_in _ (by omega)
  have s2 : IntKind.i64.wrap (la - lb - drp p.k fi) = la - lb - drp p.k fi := IntWalk.i64_in _ (by rw [hdr2]; omega)
  have HP := Lib.hid hpp
  have HPK := Lib.hid hpk
  have HFK := Lib.hid hfk
  have i0 : (0 : Int) ≤ (i : Int) := by omega
  have i1 : (i : Int) < (m : Int) := by omega
  have i2 : (0 : Int) ≤ (efr (esOf ps) i : Int) := by omega
  have i3 : (efr (esOf ps) i : Int) < (n : Int) := by omega
  have i4 : (0 : Int) ≤ (eto (esOf ps) i : Int) := by omega
  have i5 : (eto (esOf ps) i : Int) < (n : Int) := by omega
  have hV : Below w.heap.size w (((w.alloc (.cells #[.slice A n c, .slice (some ⟨bp, op, none⟩) m d] 27)).alloc (.cells #[.slice (some ⟨bf, of, none⟩) m e, .slice (some ⟨bl, ol, none⟩) n f] 30)).alloc (.cells #[.int .i64 (efr (esOf ps) i : Int), .int .i64 (eto (esOf ps) i : Int), .int .i64 p.k, .int .i64 p.v, .int .i64 p.l] 63)) := (((Below.refl _ _).alloc (Nat.le_refl _) _).alloc (by simp) _).alloc (by simp; omega) _
  have bx := ((box_new w #[.slice A n c, .slice (some ⟨bp, op, none⟩) m d] 27).alloc (.cells #[.slice (some ⟨bf, of, none⟩) m e, .slice (some ⟨bl, ol, none⟩) n f] 30)).alloc (.cells #[.int .i64 (efr (esOf ps) i : Int), .int .i64 (eto (esOf ps) i : Int), .int .i64 p.k, .int .i64 p.v, .int .i64 p.l] 63)
  have by1 := (box_at (w.alloc (.cells #[.slice A n c, .slice (some ⟨bp, op, none⟩) m d] 27)) #[.slice (some ⟨bf, of, none⟩) m e, .slice (some ⟨bl, ol, none⟩) n f] 30 (g := w.heap.size + 1) (by simp)).alloc (.cells #[.int .i64 (efr (esOf ps) i : Int), .int .i64 (eto (esOf ps) i : Int), .int .i64 p.k, .int .i64 p.v, .int .i64 p.l] 63)
  have bz := box_at ((w.alloc (.cells #[.slice A n c, .slice (some ⟨bp, op, none⟩) m d] 27)).alloc (.cells #[.slice (some ⟨bf, of, none⟩) m e, .slice (some ⟨bl, ol, none⟩) n f] 30)) #[.int .i64 (efr (esOf ps) i : Int), .int .i64 (eto (esOf ps) i : Int), .int .i64 p.k, .int .i64 p.v, .int .i64 p.l] 63 (g := w.heap.size + 2) (by simp)
  clear hpp e1 e2 hfi hla2 hlb2 hdr2 hAl hfb hlb hf hv hok
  go_enter Tryz.func25, Tryz.ntmps25
  go_upto_region 2 with fail
  have c1 := (hV.cell (p := ⟨bf, of + i, none⟩) hfw).trans cf0
  have c2 := (hV.cell (p := ⟨bl, ol + efr (esOf ps) i, none⟩) hlw).trans ca0
  have c3 := (hV.cell (p := ⟨bl, ol + eto (esOf ps) i, none⟩) hlw).trans cb0
  have kN : Kept (IsNet _ A n c ns (some ⟨bp, op, none⟩) m d ps) := ⟨h.below hV⟩
  have hsv := hV.size
  generalize (((w.alloc (.cells #[.slice A n c, .slice (some ⟨bp, op, none⟩) m d] 27)).alloc (.cells #[.slice (some ⟨bf, of, none⟩) m e, .slice (some ⟨bl, ol, none⟩) n f] 30)).alloc (.cells #[.int .i64 (efr (esOf ps) i : Int), .int .i64 (eto (esOf ps) i : Int), .int .i64 p.k, .int .i64 p.v, .int .i64 p.l] 63)) = V at *
  have xl := bx.lt
  have yl := by1.lt
  have zl := bz.lt
  have x0 : V.cell? ⟨w.heap.size, 0, none⟩ = some (.slice A n c) := bx.cell 0
  have x1 : V.cell? ⟨w.heap.size, 1, none⟩ = some (.slice (some ⟨bp, op, none⟩) m d) := bx.cell 1
  have y0 : V.cell? ⟨w.heap.size + 1, 0, none⟩ = some (.slice (some ⟨bf, of, none⟩) m e) := by1.cell 0
  have y1 : V.cell? ⟨w.heap.size + 1, 1, none⟩ = some (.slice (some ⟨bl, ol, none⟩) n f) := by1.cell 1
  have z0 : V.cell? ⟨w.heap.size + 2, 0, none⟩ = some (.int .i64 (efr (esOf ps) i : Int)) := bz.cell 0
  have z1 : V.cell? ⟨w.heap.size + 2, 1, none⟩ = some (.int .i64 (eto (esOf ps) i : Int)) := bz.cell 1
  have z2 : V.cell? ⟨w.heap.size + 2, 2, none⟩ = some (.int .i64 p.k) := bz.cell 2
  have z3 : V.cell? ⟨w.heap.size + 2, 3, none⟩ = some (.int .i64 p.v) := bz.cell 3
  have z4 : V.cell? ⟨w.heap.size + 2, 4, none⟩ = some (.int .i64 p.l) := bz.cell 4
  have hfl : bf < V.heap.size := by omega
  have hll : bl < V.heap.size := by omega
  have kU : Kept (Below V.heap.size V V.drew) := ⟨(Below.refl _ _).drew⟩
  clear bx by1 bz q0 q1 q2 q3 q4 cf0 ca0 cb0
  go_region_held3 (fun w' => w.heap.size < w'.heap.size ∧ w.heap.size + 1 < w'.heap.size ∧ w.heap.size + 2 < w'.heap.size ∧ bl < w'.heap.size ∧ bf < w'.heap.size ∧ w'.cell? ⟨w.heap.size + 1, 1, none⟩ = some (.slice (some ⟨bl, ol, none⟩) n f) ∧ w'.cell? ⟨w.heap.size + 1, 0, none⟩ = some (.slice (some ⟨bf, of, none⟩) m e) ∧ w'.cell? ⟨w.heap.size + 2, 0, none⟩ = some (.int .i64 (efr (esOf ps) i : Int)) ∧ w'.cell? ⟨w.heap.size + 2, 1, none⟩ = some (.int .i64 (eto (esOf ps) i : Int)) ∧ w'.cell? ⟨w.heap.size + 2, 2, none⟩ = some (.int .i64 p.k) ∧ w'.cell? ⟨w.heap.size + 2, 3, none⟩ = some (.int .i64 p.v) ∧ w'.cell? ⟨w.heap.size + 2, 4, none⟩ = some (.int .i64 p.l) ∧ w'.cell? ⟨bl, ol + efr (esOf ps) i, none⟩ = some (.int .i64 la) ∧ w'.cell? ⟨bl, ol + eto (esOf ps) i, none⟩ = some (.int .i64 lb) ∧ w'.cell? ⟨bf, of + i, none⟩ = some (.int .i64 fi) ∧ w'.cell? ⟨w.heap.size, 0, none⟩ = some (.slice A n c) ∧ w'.cell? ⟨w.heap.size, 1, none⟩ = some (.slice (some ⟨bp, op, none⟩) m d) ∧ Kept (Below V.heap.size V w'))
    (first | (go_split_ands; refine ⟨by have := hbb.size; omega, by have := hbb.size; omega, by have := hbb.size; omega, by have := hbb.size; omega, by have := hbb.size; omega, ?_, ?_, ?_, ?_, ?_, ?_, ?_, ?_, ?_, ?_, ?_, ?_, ⟨bthen (Kept.out ‹Kept (Below V.heap.size _ _)›) hbb (Kept.out ‹Kept (Below V.heap.size _ _)›).size⟩⟩ <;> (rw [hbb.cell (by simp; omega)]; assumption)) | go_keep)
    (first | (go_at_call 58; go_split_ands; refine (sDrop_any _ _ _ _ _ _ i _ p ns ps _ (kN.out.below (Kept.out ‹Kept (Below V.heap.size _ _)›)) hi HP.out HPK.out HFK.out).mono ?_; rintro e5 wb ⟨rfl, hbb⟩))
  rename_i hh
  obtain ⟨_, _, _, _, _, _, _, _, _, _, _, _, _, _, _, _, _, ⟨hbB⟩⟩ := hh
  go_wp2_with fail
  go_ret
  exact ⟨ri (by rw [HPE.out, HFI.out, HLA.out, HLB.out]), bthen hV hbB hV.size⟩
end Go.Proofs.YtebefamekjjbcaaGreatDoor
