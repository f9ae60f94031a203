/- What PipeError and ProofError do, by walks over both texts. Conditions: lengths of at most 1048576. -/
import Derived.Test.YtebefamekjjbcaaGreatDoorPErr
import Derived.Test.YtebefamekjjbcaaGreatDoorKA
set_option linter.unusedVariables false
set_option maxRecDepth 100000
namespace Go.Proofs.YtebefamekjjbcaaGreatDoor
open Go.ChangeShapes Go.WideShapes Go.ChangeAt Go.RowKit Go.Joins Go.Deep
attribute [local go_sem ↓] Go.wp_at_zero Go.wp_at_succ

theorem peV_bd {w : World} {A : Option Addr} {n c : Nat} {ns : List Nd} {B : Option Addr} {m d : Nat} {ps : List Pp} {fs ls : List Int} (h : IsNet w A n c ns B m d ps) (hok : NetOk ns ps) (hfb : flB m fs = true) (hlb : lvB n ls = true) {i : Nat} (hi : i < m) : -2000900000000000000 ≤ peV ps fs ls i ∧ peV ps fs ls i ≤ 2000900000000000000 := by
  have hp : ps[i]? = some (ps[i]'(by rw [h.pipes.len]; exact hi)) := List.getElem?_eq_getElem _
  obtain ⟨_, _, l1, l2, _, hpk, _⟩ := pipe_ok hok hp
  rw [h.nodes.len] at l1 l2
  have hfk := all_at (flB_all hfb) (getD_some (flB_len hfb) hi)
  have hla := all_at (lvB_all hlb) (getD_some (lvB_len hlb) l1)
  have hlb' := all_at (lvB_all hlb) (getD_some (lvB_len hlb) l2)
  have hdr := drp_bd hpk hfk
  unfold peV
  rw [kOf_at hp]
  omega
/-- The greatest error without its sign, among the first k pipes. -/
def mxE (ps : List Pp) (fs ls : List Int) : Nat → Int
  | 0 => 0
  | k + 1 => max (mxE ps fs ls k) (ab (peV ps fs ls k))
theorem mxE_bd {w : World} {A : Option Addr} {n c : Nat} {ns : List Nd} {B : Option Addr} {m d : Nat} {ps : List Pp} {fs ls : List Int} (h : IsNet w A n c ns B m d ps) (hok : NetOk ns ps) (hfb : flB m fs = true) (hlb : lvB n ls = true) : ∀ k, k ≤ m → 0 ≤ mxE ps fs ls k ∧ mxE ps fs ls k ≤ 2000900000000000000
  | 0, _ => by simp [mxE]
  | k + 1, hk => by
    have h1 := mxE_bd h hok hfb hlb k (by omega)
    have h2 := peV_bd h hok hfb hlb (show k < m by omega)
    unfold mxE ab
    omega
noncomputable def perR (ns : List Nd) (ps : List Pp) (m n : Nat) (fs ls : List Int) (q : Int) : Int × Int := if codeQ ns ps m n fs ls = 0 then (if inB q 0 ((m : Int) - 1) = true then (peV ps fs ls q.toNat, 0) else (0, 2)) else (0, codeQ ns ps m n fs ls)
theorem perR_code {ns : List Nd} {ps : List Pp} {m n : Nat} {fs ls : List Int} {q k : Int} (h : codeQ ns ps m n fs ls = k) (hk : k ≠ 0) : perR ns ps m n fs ls q = (0, k) := by
  unfold perR
  rw [h, if_neg hk]
theorem perR_no {ns : List Nd} {ps : List Pp} {m n : Nat} {fs ls : List Int} {q : Int} (h : codeQ ns ps m n fs ls = 0) (hq : inB q 0 ((m : Int) - 1) = false) : perR ns ps m n fs ls q = (0, 2) := by
  unfold perR
  rw [if_pos h, if_neg (by rw [hq]; decide)]
theorem perR_ok {ns : List Nd} {ps : List Pp} {m n : Nat} {fs ls : List Int} {q : Int} (h : codeQ ns ps m n fs ls = 0) (hq : inB q 0 ((m : Int) - 1) = true) : perR ns ps m n fs ls q = (peV ps fs ls q.toNat, 0) := by
  unfold perR
  rw [if_pos h, if_pos hq]
noncomputable def prfR (ns : List Nd) (ps : List Pp) (m n : Nat) (fs ls : List Int) : Int × Int := if codeQ ns ps m n fs ls = 0 then (mxE ps fs ls m, 0) else (0, codeQ ns ps m n fs ls)
theorem prfR_code {ns : List Nd} {ps : List Pp} {m n : Nat} {fs ls : List Int} {k : Int} (h : codeQ ns ps m n fs ls = k) (hk : k ≠ 0) : prfR ns ps m n fs ls = (0, k) := by
  unfold prfR
  rw [h, if_neg hk]
theorem prfR_ok {ns : List Nd} {ps : List Pp} {m n : Nat} {fs ls : List Int} (h : codeQ ns ps m n fs ls = 0) : prfR ns ps m n fs ls = (mxE ps fs ls m, 0) := by
  unfold prfR
  rw [if_pos h]
theorem isPipeOf_any (A B : Option Addr) (n c m d : Nat) (z : Int) (w : World) (hm : m ≤ maxLen) :
    Calls Tryz.prog 21 #[.agg #[.slice A n c, .slice B m d], .int .i64 z] w fun e w' => e = .returned (.bool (inB z 0 (m - 1))) ∧ Below w.heap.size w w' := by
  unfold maxLen at hm
  go_enter Tryz.func21, Tryz.ntmps21
  go_wp2_with (go_at_call 54; refine (within_any _ _ _ _).mono ?_; rintro e w' ⟨rfl, rfl⟩)
  go_ret
  exact ⟨rfl, (Below.refl _ _).alloc (Nat.le_refl _) _⟩
theorem in_anyB (n lo hi : Int) (w : World) :
    Calls Tryz.prog 24 #[.int .i64 n, .int .i64 lo, .int .i64 hi] w fun e w' => e = .returned (.bool (inB n lo hi)) ∧ Below w.heap.size w w' :=
  (in_any n lo hi w).mono fun e w' ⟨he, hw⟩ => ⟨he, hw ▸ Below.refl _ _⟩
set_option maxHeartbeats 4000000 in
theorem pipeError_any (A B C D : Option Addr) (n c m d l e k f : Nat) (ns : List Nd) (ps : List Pp) (fs ls : List Int) (w : World) (h : IsNet w A n c ns B m d ps) (hf : Ints w C l fs) (hv : Ints w D k ls) (hl : l ≤ 1048576) (hk : k ≤ 1048576) (q : Int) :
    Calls Tryz.prog 6 #[.agg #[.slice A n c, .slice B m d], .agg #[.slice C l e, .slice D k f], .int .i64 q] w fun e w' => e = .returned (.tuple #[.int .i64 (perR ns ps m n fs ls q).1, .int .i64 (perR ns ps m n fs ls q).2]) ∧ Below w.heap.size w w' := by
  have hm : m ≤ 9223372036854775807 := by have := h.capB.1; have := h.capB.2; unfold maxLen at this; omega
  have hV : Below w.heap.size w ((w.alloc (.cells #[.slice A n c, .slice B m d] 27)).alloc (.cells #[.slice C l e, .slice D k f] 30)) := ((Below.refl _ _).alloc (Nat.le_refl _) _).alloc (by simp) _
  have bx := (box_new w #[.slice A n c, .slice B m d] 27).alloc (.cells #[.slice C l e, .slice D k f] 30)
  have by1 := box_at (w.alloc (.cells #[.slice A n c, .slice B m d] 27)) #[.slice C l e, .slice D k f] 30 (g := w.heap.size + 1) (by simp)
  go_enter Tryz.func6, Tryz.ntmps6
  go_upto_region 1 with fail
  generalize ((w.alloc (.cells #[.slice A n c, .slice B m d] 27)).alloc (.cells #[.slice C l e, .slice D k f] 30)) = V at *
  have xl := bx.lt
  have x0 : V.cell? ⟨w.heap.size, 0, none⟩ = some (.slice A n c) := bx.cell 0
  have x1 : V.cell? ⟨w.heap.size, 1, none⟩ = some (.slice B m d) := bx.cell 1
  have yl := by1.lt
  have y0 : V.cell? ⟨w.heap.size + 1, 0, none⟩ = some (.slice C l e) := by1.cell 0
  have y1 : V.cell? ⟨w.heap.size + 1, 1, none⟩ = some (.slice D k f) := by1.cell 1
  go_wp2_with fail
  refine (codeQ_any _ _ _ _ _ _ _ _ _ _ _ _ ns ps fs ls _ (h.below hV) (hf.below hV) (hv.below hV) hl hk).mono ?_
  rintro e1 w1 ⟨rfl, hb1⟩
  have hB1 := bthen hV hb1 hV.size
  have bx1 := bx.belowA hb1
  have by2 := by1.belowA hb1
  clear x0 x1 xl y0 y1 yl hb1 bx by1
  have xl := bx1.lt
  have x0 : w1.cell? ⟨w.heap.size, 0, none⟩ = some (.slice A n c) := bx1.cell 0
  have x1 : w1.cell? ⟨w.heap.size, 1, none⟩ = some (.slice B m d) := bx1.cell 1
  have yl := by2.lt
  have y0 : w1.cell? ⟨w.heap.size + 1, 0, none⟩ = some (.slice C l e) := by2.cell 0
  have y1 : w1.cell? ⟨w.heap.size + 1, 1, none⟩ = some (.slice D k f) := by2.cell 1
  rcases codeQ_in ns ps m n fs ls with ⟨hc, hn, hfb, hlb⟩ | hc | hc
  rotate_left
  · have HQ := Lib.hid (perR_code (q := q) hc (by omega))
    rw [hc]
    clear hc
    go_wp2_with fail
    go_ret2
    exact ⟨ri2 (by rw [HQ.out]) (by rw [HQ.out]), hB1⟩
  · have HQ := Lib.hid (perR_code (q := q) hc (by omega))
    rw [hc]
    clear hc
    go_wp2_with fail
    go_ret2
    exact ⟨ri2 (by rw [HQ.out]) (by rw [HQ.out]), hB1⟩
  have HC := Lib.hid hc
  have HN := Lib.hid hn
  have HFB := Lib.hid hfb
  have HLB := Lib.hid hlb
  have hfm : fs.length = m := flB_len hfb
  have hln : ls.length = n := lvB_len hlb
  obtain rfl : l = m := by rw [← hf.len, hfm]
  obtain rfl : n = k := by rw [← hv.len, hln]
  have hm40 : l ≤ 40 := by have := hn.2.2.1; rw [h.pipes.len] at this; exact this
  rw [hc]
  clear hc hn hfb hlb hfm hln
  go_wp2_with fail
  refine (isPipeOf_any _ _ _ _ _ _ q _ (Nat.le_trans h.capB.1 h.capB.2)).mono ?_
  rintro e2 w2 ⟨rfl, hb2⟩
  have hB2 := bthen hB1 hb2 hB1.size
  have bx3 := bx1.belowA hb2
  have by3 := by2.belowA hb2
  clear x0 x1 xl y0 y1 yl hb2 bx1 by2
  have xl := bx3.lt
  have x0 : w2.cell? ⟨w.heap.size, 0, none⟩ = some (.slice A n c) := bx3.cell 0
  have x1 : w2.cell? ⟨w.heap.size, 1, none⟩ = some (.slice B l d) := bx3.cell 1
  have yl := by3.lt
  have y0 : w2.cell? ⟨w.heap.size + 1, 0, none⟩ = some (.slice C l e) := by3.cell 0
  have y1 : w2.cell? ⟨w.heap.size + 1, 1, none⟩ = some (.slice D n f) := by3.cell 1
  cases hE : inB q 0 ((l : Int) - 1)
  · have HE := Lib.hid (perR_no HC.out hE)
    clear hE
    go_wp2_with fail
    go_ret2
    exact ⟨ri2 (by rw [HE.out]) (by rw [HE.out]), hB2⟩
  have hq := (inB_iff _ _ _).1 hE
  obtain ⟨i, rfl⟩ := Int.eq_ofNat_of_zero_le hq.1
  have HE := Lib.hid (perR_ok HC.out hE)
  have hi : i < l := by omega
  clear hE hq
  go_wp2_with fail
  refine (pErr_any _ _ _ _ _ _ _ _ _ _ i ns ps fs ls _ (h.below hB2) HN.out (hf.below hB2) (hv.below hB2) HFB.out HLB.out hi).mono ?_
  rintro e3 w3 ⟨rfl, hb3⟩
  go_wp2_with fail
  go_ret2
  exact ⟨ri2 (by rw [HE.out, Int.toNat_natCast]) (by rw [HE.out]), bthen hB2 hb3 hB2.size⟩
set_option maxHeartbeats 4000000 in
theorem sPipeError_any (A B C D : Option Addr) (n c m d l e k f : Nat) (ns : List Nd) (ps : List Pp) (fs ls : List Int) (w : World) (h : IsNet w A n c ns B m d ps) (hf : Ints w C l fs) (hv : Ints w D k ls) (hl : l ≤ 1048576) (hk : k ≤ 1048576) (q : Int) :
    Calls Tryz.prog 7 #[.agg #[.slice A n c, .slice B m d], .agg #[.slice C l e, .slice D k f], .int .i64 q] w fun e w' => e = .returned (.tuple #[.int .i64 (perR ns ps m n fs ls q).1, .int .i64 (perR ns ps m n fs ls q).2]) ∧ Below w.heap.size w w' := by
  have hm : m ≤ 9223372036854775807 := by have := h.capB.1; have := h.capB.2; unfold maxLen at this; omega
  have hV : Below w.heap.size w ((w.alloc (.cells #[.slice A n c, .slice B m d] 27)).alloc (.cells #[.slice C l e, .slice D k f] 30)) := ((Below.refl _ _).alloc (Nat.le_refl _) _).alloc (by simp) _
  have bx := (box_new w #[.slice A n c, .slice B m d] 27).alloc (.cells #[.slice C l e, .slice D k f] 30)
  have by1 := box_at (w.alloc (.cells #[.slice A n c, .slice B m d] 27)) #[.slice C l e, .slice D k f] 30 (g := w.heap.size + 1) (by simp)
  go_enter Tryz.func7, Tryz.ntmps7
  go_upto_region 1 with fail
  generalize ((w.alloc (.cells #[.slice A n c, .slice B m d] 27)).alloc (.cells #[.slice C l e, .slice D k f] 30)) = V at *
  have xl := bx.lt
  have x0 : V.cell? ⟨w.heap.size, 0, none⟩ = some (.slice A n c) := bx.cell 0
  have x1 : V.cell? ⟨w.heap.size, 1, none⟩ = some (.slice B m d) := bx.cell 1
  have yl := by1.lt
  have y0 : V.cell? ⟨w.heap.size + 1, 0, none⟩ = some (.slice C l e) := by1.cell 0
  have y1 : V.cell? ⟨w.heap.size + 1, 1, none⟩ = some (.slice D k f) := by1.cell 1
  go_wp2_with fail
  refine (sCodeQ_any _ _ _ _ _ _ _ _ _ _ _ _ ns ps fs ls _ (h.below hV) (hf.below hV) (hv.below hV) hl hk).mono ?_
  rintro e1 w1 ⟨rfl, hb1⟩
  have hB1 := bthen hV hb1 hV.size
  have bx1 := bx.belowA hb1
  have by2 := by1.belowA hb1
  clear x0 x1 xl y0 y1 yl hb1 bx by1
  have xl := bx1.lt
  have x0 : w1.cell? ⟨w.heap.size, 0, none⟩ = some (.slice A n c) := bx1.cell 0
  have x1 : w1.cell? ⟨w.heap.size, 1, none⟩ = some (.slice B m d) := bx1.cell 1
  have yl := by2.lt
  have y0 : w1.cell? ⟨w.heap.size + 1, 0, none⟩ = some (.slice C l e) := by2.cell 0
  have y1 : w1.cell? ⟨w.heap.size + 1, 1, none⟩ = some (.slice D k f) := by2.cell 1
  rcases codeQ_in ns ps m n fs ls with ⟨hc, hn, hfb, hlb⟩ | hc | hc
  rotate_left
  · have HQ := Lib.hid (perR_code (q := q) hc (by omega))
    rw [hc]
    clear hc
    go_wp2_with fail
    go_ret2
    exact ⟨ri2 (by rw [HQ.out]) (by rw [HQ.out]), hB1⟩
  · have HQ := Lib.hid (perR_code (q := q) hc (by omega))
    rw [hc]
    clear hc
    go_wp2_with fail
    go_ret2
    exact ⟨ri2 (by rw [HQ.out]) (by rw [HQ.out]), hB1⟩
  have HC := Lib.hid hc
  have HN := Lib.hid hn
  have HFB := Lib.hid hfb
  have HLB := Lib.hid hlb
  have hfm : fs.length = m := flB_len hfb
  have hln : ls.length = n := lvB_len hlb
  obtain rfl : l = m := by rw [← hf.len, hfm]
  obtain rfl : n = k := by rw [← hv.len, hln]
  have hm40 : l ≤ 40 := by have := hn.2.2.1; rw [h.pipes.len] at this; exact this
  rw [hc]
  clear hc hn hfb hlb hfm hln
  go_wp2_with fail
  refine (in_anyB q 0 ((l : Int) - 1) _).mono ?_
  rintro e2 w2 ⟨rfl, hb2⟩
  have hB2 := bthen hB1 hb2 hB1.size
  have bx3 := bx1.belowA hb2
  have by3 := by2.belowA hb2
  clear x0 x1 xl y0 y1 yl hb2 bx1 by2
  have xl := bx3.lt
  have x0 : w2.cell? ⟨w.heap.size, 0, none⟩ = some (.slice A n c) := bx3.cell 0
  have x1 : w2.cell? ⟨w.heap.size, 1, none⟩ = some (.slice B l d) := bx3.cell 1
  have yl := by3.lt
  have y0 : w2.cell? ⟨w.heap.size + 1, 0, none⟩ = some (.slice C l e) := by3.cell 0
  have y1 : w2.cell? ⟨w.heap.size + 1, 1, none⟩ = some (.slice D n f) := by3.cell 1
  cases hE : inB q 0 ((l : Int) - 1)
  · have HE := Lib.hid (perR_no HC.out hE)
    clear hE
    go_wp2_with fail
    go_ret2
    exact ⟨ri2 (by rw [HE.out]) (by rw [HE.out]), hB2⟩
  have hq := (inB_iff _ _ _).1 hE
  obtain ⟨i, rfl⟩ := Int.eq_ofNat_of_zero_le hq.1
  have HE := Lib.hid (perR_ok HC.out hE)
  have hi : i < l := by omega
  clear hE hq
  go_wp2_with fail
  refine (sPErr_any _ _ _ _ _ _ _ _ _ _ i ns ps fs ls _ (h.below hB2) HN.out (hf.below hB2) (hv.below hB2) HFB.out HLB.out hi).mono ?_
  rintro e3 w3 ⟨rfl, hb3⟩
  go_wp2_with fail
  go_ret2
  exact ⟨ri2 (by rw [HE.out, Int.toNat_natCast]) (by rw [HE.out]), bthen hB2 hb3 hB2.size⟩
set_option maxHeartbeats 4000000 in
theorem proofError_any (A B C D : Option Addr) (n c m d l e k f : Nat) (ns : List Nd) (ps : List Pp) (fs ls : List Int) (w : World) (h : IsNet w A n c ns B m d ps) (hf : Ints w C l fs) (hv : Ints w D k ls) (hl : l ≤ 1048576) (hk : k ≤ 1048576) :
    Calls Tryz.prog 8 #[.agg #[.slice A n c, .slice B m d], .agg #[.slice C l e, .slice D k f]] w fun e w' => e = .returned (.tuple #[.int .i64 (prfR ns ps m n fs ls).1, .int .i64 (prfR ns ps m n fs ls).2]) ∧ Below w.heap.size w w' := by
  have hm : m ≤ 9223372036854775807 := by have := h.capB.1; have := h.capB.2; unfold maxLen at this; omega
  have hV : Below w.heap.size w ((w.alloc (.cells #[.slice A n c, .slice B m d] 27)).alloc (.cells #[.slice C l e, .slice D k f] 30)) := ((Below.refl _ _).alloc (Nat.le_refl _) _).alloc (by simp) _
  have bx := (box_new w #[.slice A n c, .slice B m d] 27).alloc (.cells #[.slice C l e, .slice D k f] 30)
  have by1 := box_at (w.alloc (.cells #[.slice A n c, .slice B m d] 27)) #[.slice C l e, .slice D k f] 30 (g := w.heap.size + 1) (by simp)
  go_enter Tryz.func8, Tryz.ntmps8
  go_upto_region 1 with fail
  generalize ((w.alloc (.cells #[.slice A n c, .slice B m d] 27)).alloc (.cells #[.slice C l e, .slice D k f] 30)) = V at *
  have xl := bx.lt
  have x0 : V.cell? ⟨w.heap.size, 0, none⟩ = some (.slice A n c) := bx.cell 0
  have x1 : V.cell? ⟨w.heap.size, 1, none⟩ = some (.slice B m d) := bx.cell 1
  have yl := by1.lt
  have y0 : V.cell? ⟨w.heap.size + 1, 0, none⟩ = some (.slice C l e) := by1.cell 0
  have y1 : V.cell? ⟨w.heap.size + 1, 1, none⟩ = some (.slice D k f) := by1.cell 1
  go_wp2_with fail
  refine (codeQ_any _ _ _ _ _ _ _ _ _ _ _ _ ns ps fs ls _ (h.below hV) (hf.below hV) (hv.below hV) hl hk).mono ?_
  rintro e1 w1 ⟨rfl, hb1⟩
  have hB1 := bthen hV hb1 hV.size
  have bx1 := bx.belowA hb1
  have by2 := by1.belowA hb1
  clear x0 x1 xl y0 y1 yl hb1 bx by1
  have xl := bx1.lt
  have x0 : w1.cell? ⟨w.heap.size, 0, none⟩ = some (.slice A n c) := bx1.cell 0
  have x1 : w1.cell? ⟨w.heap.size, 1, none⟩ = some (.slice B m d) := bx1.cell 1
  have yl := by2.lt
  have y0 : w1.cell? ⟨w.heap.size + 1, 0, none⟩ = some (.slice C l e) := by2.cell 0
  have y1 : w1.cell? ⟨w.heap.size + 1, 1, none⟩ = some (.slice D k f) := by2.cell 1
  rcases codeQ_in ns ps m n fs ls with ⟨hc, hn, hfb, hlb⟩ | hc | hc
  rotate_left
  · have HQ := Lib.hid (prfR_code hc (by omega))
    rw [hc]
    clear hc
    go_wp2_with fail
    go_ret2
    exact ⟨ri2 (by rw [HQ.out]) (by rw [HQ.out]), hB1⟩
  · have HQ := Lib.hid (prfR_code hc (by omega))
    rw [hc]
    clear hc
    go_wp2_with fail
    go_ret2
    exact ⟨ri2 (by rw [HQ.out]) (by rw [HQ.out]), hB1⟩
  have HC := Lib.hid hc
  have HN := Lib.hid hn
  have HFB := Lib.hid hfb
  have HLB := Lib.hid hlb
  have hfm : fs.length = m := flB_len hfb
  have hln : ls.length = n := lvB_len hlb
  obtain rfl : l = m := by rw [← hf.len, hfm]
  obtain rfl : n = k := by rw [← hv.len, hln]
  have hm40 : l ≤ 40 := by have := hn.2.2.1; rw [h.pipes.len] at this; exact this
  rw [hc]
  clear hc hn hfb hlb hfm hln
  go_wp2_with fail
  go_loopw [7, 18] (fun mm ii wr => ∃ j : Nat, j ≤ l ∧ ii = .int .i64 j ∧ mm = .int .i64 (mxE ps fs ls j) ∧ Below w1.heap.size w1 wr) (fun _ ii _ => l - (intOf ii).toNat)
  case atStart => exact ⟨0, Nat.zero_le _, rfl, rfl, Below.refl _ _⟩
  case round =>
    clear x0 x1 xl y0 y1 yl
    obtain ⟨j, hj, rfl, rfl, hb⟩ := hrel
    have bx3 := bx1.belowA hb
    have by3 := by2.belowA hb
    have hB2 := bthen hB1 hb hB1.size
    have xl := bx3.lt
    have x0 : wr.cell? ⟨w.heap.size, 0, none⟩ = some (.slice A n c) := bx3.cell 0
    have x1 : wr.cell? ⟨w.heap.size, 1, none⟩ = some (.slice B l d) := bx3.cell 1
    have yl := by3.lt
    have y0 : wr.cell? ⟨w.heap.size + 1, 0, none⟩ = some (.slice C l e) := by3.cell 0
    have y1 : wr.cell? ⟨w.heap.size + 1, 1, none⟩ = some (.slice D n f) := by3.cell 1
    by_cases hlt : j < l
    · have hbd := peV_bd h HN.out HFB.out HLB.out hlt
      have hmx := mxE_bd h HN.out HFB.out HLB.out j hj
      have HS := Lib.hid (show mxE ps fs ls (j + 1) = max (mxE ps fs ls j) (ab (peV ps fs ls j)) from rfl)
      have hB2' := Lib.hid hB2
      clear hB2
      go_wp2_with (first
        | (go_at_call 22; refine (pErr_any _ _ _ _ _ _ _ _ _ _ j ns ps fs ls _ (h.below hB2'.out) HN.out (hf.below hB2'.out) (hv.below hB2'.out) HFB.out HLB.out hlt).mono ?_; rintro e3 w3 ⟨rfl, hb3⟩)
        | (go_at_call 26; refine (absOf_any _ _ (by omega) (by omega)).mono ?_; rintro e4 w4 ⟨rfl, rfl⟩))
      all_goals
        go_roundw
        case rel => exact ⟨j + 1, by omega, by go_num, by first | (rw [HS.out]; done) | (rw [HS.out]; exact congrArg (Value.int .i64) (by omega)), bthen hb hb3 hb.size⟩
        case measure => simp [intOf]; omega
    · obtain rfl : j = l := by omega
      have HE := Lib.hid (prfR_ok HC.out)
      go_wp2_with fail
      go_ret2
      exact ⟨ri2 (by rw [HE.out]) (by rw [HE.out]), hB2⟩
set_option maxHeartbeats 4000000 in
theorem sProofError_any (A B C D : Option Addr) (n c m d l e k f : Nat) (ns : List Nd) (ps : List Pp) (fs ls : List Int) (w : World) (h : IsNet w A n c ns B m d ps) (hf : Ints w C l fs) (hv : Ints w D k ls) (hl : l ≤ 1048576) (hk : k ≤ 1048576) :
    Calls Tryz.prog 9 #[.agg #[.slice A n c, .slice B m d], .agg #[.slice C l e, .slice D k f]] w fun e w' => e = .returned (.tuple #[.int .i64 (prfR ns ps m n fs ls).1, .int .i64 (prfR ns ps m n fs ls).2]) ∧ Below w.heap.size w w' := by
  have hm : m ≤ 9223372036854775807 := by have := h.capB.1; have := h.capB.2; unfold maxLen at this; omega
  have hV : Below w.heap.size w ((w.alloc (.cells #[.slice A n c, .slice B m d] 27)).alloc (.cells #[.slice C l e, .slice D k f] 30)) := ((Below.refl _ _).alloc (Nat.le_refl _) _).alloc (by simp) _
  have bx := (box_new w #[.slice A n c, .slice B m d] 27).alloc (.cells #[.slice C l e, .slice D k f] 30)
  have by1 := box_at (w.alloc (.cells #[.slice A n c, .slice B m d] 27)) #[.slice C l e, .slice D k f] 30 (g := w.heap.size + 1) (by simp)
  go_enter Tryz.func9, Tryz.ntmps9
  go_upto_region 1 with fail
  generalize ((w.alloc (.cells #[.slice A n c, .slice B m d] 27)).alloc (.cells #[.slice C l e, .slice D k f] 30)) = V at *
  have xl := bx.lt
  have x0 : V.cell? ⟨w.heap.size, 0, none⟩ = some (.slice A n c) := bx.cell 0
  have x1 : V.cell? ⟨w.heap.size, 1, none⟩ = some (.slice B m d) := bx.cell 1
  have yl := by1.lt
  have y0 : V.cell? ⟨w.heap.size + 1, 0, none⟩ = some (.slice C l e) := by1.cell 0
  have y1 : V.cell? ⟨w.heap.size + 1, 1, none⟩ = some (.slice D k f) := by1.cell 1
  go_wp2_with fail
  refine (sCodeQ_any _ _ _ _ _ _ _ _ _ _ _ _ ns ps fs ls _ (h.below hV) (hf.below hV) (hv.below hV) hl hk).mono ?_
  rintro e1 w1 ⟨rfl, hb1⟩
  have hB1 := bthen hV hb1 hV.size
  have bx1 := bx.belowA hb1
  have by2 := by1.belowA hb1
  clear x0 x1 xl y0 y1 yl hb1 bx by1
  have xl := bx1.lt
  have x0 : w1.cell? ⟨w.heap.size, 0, none⟩ = some (.slice A n c) := bx1.cell 0
  have x1 : w1.cell? ⟨w.heap.size, 1, none⟩ = some (.slice B m d) := bx1.cell 1
  have yl := by2.lt
  have y0 : w1.cell? ⟨w.heap.size + 1, 0, none⟩ = some (.slice C l e) := by2.cell 0
  have y1 : w1.cell? ⟨w.heap.size + 1, 1, none⟩ = some (.slice D k f) := by2.cell 1
  rcases codeQ_in ns ps m n fs ls with ⟨hc, hn, hfb, hlb⟩ | hc | hc
  rotate_left
  · have HQ := Lib.hid (prfR_code hc (by omega))
    rw [hc]
    clear hc
    go_wp2_with fail
    go_ret2
    exact ⟨ri2 (by rw [HQ.out]) (by rw [HQ.out]), hB1⟩
  · have HQ := Lib.hid (prfR_code hc (by omega))
    rw [hc]
    clear hc
    go_wp2_with fail
    go_ret2
    exact ⟨ri2 (by rw [HQ.out]) (by rw [HQ.out]), hB1⟩
  have HC := Lib.hid hc
  have HN := Lib.hid hn
  have HFB := Lib.hid hfb
  have HLB := Lib.hid hlb
  have hfm : fs.length = m := flB_len hfb
  have hln : ls.length = n := lvB_len hlb
  obtain rfl : l = m := by rw [← hf.len, hfm]
  obtain rfl : n = k := by rw [← hv.len, hln]
  have hm40 : l ≤ 40 := by have := hn.2.2.1; rw [h.pipes.len] at this; exact this
  rw [hc]
  clear hc hn hfb hlb hfm hln
  go_wp2_with fail
  go_loopw [7, 8] (fun mm ii wr => ∃ j : Nat, j ≤ l ∧ ii = .int .i64 j ∧ mm = .int .i64 (mxE ps fs ls j) ∧ Below w1.heap.size w1 wr) (fun _ ii _ => l - (intOf ii).toNat)
  case atStart => exact ⟨0, Nat.zero_le _, rfl, rfl, Below.refl _ _⟩
  case round =>
    clear x0 x1 xl y0 y1 yl
    obtain ⟨j, hj, rfl, rfl, hb⟩ := hrel
    have bx3 := bx1.belowA hb
    have by3 := by2.belowA hb
    have hB2 := bthen hB1 hb hB1.size
    have xl := bx3.lt
    have x0 : wr.cell? ⟨w.heap.size, 0, none⟩ = some (.slice A n c) := bx3.cell 0
    have x1 : wr.cell? ⟨w.heap.size, 1, none⟩ = some (.slice B l d) := bx3.cell 1
    have yl := by3.lt
    have y0 : wr.cell? ⟨w.heap.size + 1, 0, none⟩ = some (.slice C l e) := by3.cell 0
    have y1 : wr.cell? ⟨w.heap.size + 1, 1, none⟩ = some (.slice D n f) := by3.cell 1
    by_cases hlt : j < l
    · have hbd := peV_bd h HN.out HFB.out HLB.out hlt
      have hmx := mxE_bd h HN.out HFB.out HLB.out j hj
      have HS := Lib.hid (show mxE ps fs ls (j + 1) = max (mxE ps fs ls j) (ab (peV ps fs ls j)) from rfl)
      have hB2' := Lib.hid hB2
      clear hB2
      go_wp2_with (first
        | (go_at_call 25; refine (sPErr_any _ _ _ _ _ _ _ _ _ _ j ns ps fs ls _ (h.below hB2'.out) HN.out (hf.below hB2'.out) (hv.below hB2'.out) HFB.out HLB.out hlt).mono ?_; rintro e3 w3 ⟨rfl, hb3⟩)
        | (go_at_call 27; refine (sAbs_any _ _ (by omega) (by omega)).mono ?_; rintro e4 w4 ⟨rfl, rfl⟩))
      all_goals
        go_roundw
        case rel => exact ⟨j + 1, by omega, by go_num, by first | (rw [HS.out]; done) | (rw [HS.out]; exact congrArg (Value.int .i64) (by omega)), bthen hb hb3 hb.size⟩
        case measure => simp [intOf]; omega
    · obtain rfl : j = l := by omega
      have HE := Lib.hid (prfR_ok HC.out)
      go_wp2_with fail
      go_ret2
      exact ⟨ri2 (by rw [HE.out]) (by rw [HE.out]), hB2⟩
end Go.Proofs.YtebefamekjjbcaaGreatDoor
