/- What checkSettings, l16Code, SwitchCount of the program and of the reference do, by walks over their text. Conditions: lengths of at most 1048576. -/
import Derived.Test.YtpgegfnhokhlmaaGreatAllow
set_option linter.unusedVariables false
set_option maxRecDepth 100000
namespace Go.Proofs.YtpgegfnhokhlmaaGreat
open Go.ChangeShapes Go.WideShapes Go.ChangeAt Go.RowKit Go.Joins Go.Deep

open Classical in
/-- The code of a network and settings. -/
noncomputable def codeS (ns : List Nd) (ps : List Pp) (m : Nat) (zs : List Int) : Int := if NetOk ns ps then (if setB m zs = true then 0 else 3) else 1
theorem codeS_net {ns : List Nd} {ps : List Pp} {m : Nat} {zs : List Int} (h : ¬ NetOk ns ps) : codeS ns ps m zs = 1 := if_neg h
theorem codeS_set {ns : List Nd} {ps : List Pp} {m : Nat} {zs : List Int} (h : NetOk ns ps) (h2 : setB m zs = false) : codeS ns ps m zs = 3 := by
  unfold codeS
  rw [if_pos h, if_neg (by rw [h2]; simp)]
theorem codeS_ok {ns : List Nd} {ps : List Pp} {m : Nat} {zs : List Int} (h : NetOk ns ps) (h2 : setB m zs = true) : codeS ns ps m zs = 0 := by
  unfold codeS
  rw [if_pos h, if_pos h2]
set_option maxHeartbeats 2000000 in
theorem checkS_any (A B C : Option Addr) (n c m d l e : Nat) (ns : List Nd) (ps : List Pp) (zs : List Int) (w : World) (h : IsNet w A n c ns B m d ps) (hz : Ints w C l zs) (hl : l ≤ 1048576) :
    Calls Tryz.prog 103 #[.agg #[.slice A n c, .slice B m d], .slice C l e] w fun e w' => e = .returned (.int .i64 (codeS ns ps m zs)) ∧ Below w.heap.size w w' := by
  have hw0 : ∀ cs t, Below w.heap.size w (w.alloc (.cells cs t)) := fun cs t => (Below.refl _ _).alloc (Nat.le_refl _) _
  go_enter Tryz.func103, Tryz.ntmps103
  go_wp2_with fail
  refine (isNetw_any _ _ _ _ _ _ ns ps _ (h.alloc _)).mono ?_
  rintro e w1 ⟨b, hb, rfl, hb1⟩
  obtain ⟨xl, x0, x1⟩ := (boxN_of (w := w) (A := A) (n := n) (c := c) (B := B) (m := m) (d := d) 33).below hb1
  have hB1 := bthen (hw0 _ _) hb1 (by simp)
  have HB := Lib.hid hb
  clear hb
  cases b
  · go_wp2_with fail
    go_ret
    exact ⟨ri (codeS_net (fun h => absurd (HB.out.2 h) (by simp))).symm, hB1⟩
  have HN := Lib.hid (HB.out.1 rfl)
  go_wp2_with fail
  refine (areSett_any _ _ _ _ _ _ _ _ _ zs _ (hz.below hB1) hl).mono ?_
  rintro e w2 ⟨rfl, hb2⟩
  cases hE : setB m zs
  all_goals
    have HE := Lib.hid hE
    clear hE
    go_wp2_with fail
    go_ret
  · exact ⟨ri (codeS_set HN.out HE.out).symm, bthen hB1 hb2 hB1.size⟩
  · exact ⟨ri (codeS_ok HN.out HE.out).symm, bthen hB1 hb2 hB1.size⟩
set_option maxHeartbeats 2000000 in
theorem sCodeS_any (A B C : Option Addr) (n c m d l e : Nat) (ns : List Nd) (ps : List Pp) (zs : List Int) (w : World) (h : IsNet w A n c ns B m d ps) (hz : Ints w C l zs) (hl : l ≤ 1048576) :
    Calls Tryz.prog 99 #[.agg #[.slice A n c, .slice B m d], .slice C l e] w fun e w' => e = .returned (.int .i64 (codeS ns ps m zs)) ∧ Below w.heap.size w w' := by
  have hw0 : ∀ cs t, Below w.heap.size w (w.alloc (.cells cs t)) := fun cs t => (Below.refl _ _).alloc (Nat.le_refl _) _
  go_enter Tryz.func99, Tryz.ntmps99
  go_wp2_with fail
  refine (sIsNetw_any _ _ _ _ _ _ ns ps _ (h.alloc _)).mono ?_
  rintro e w1 ⟨b, hb, rfl, hb1⟩
  obtain ⟨xl, x0, x1⟩ := (boxN_of (w := w) (A := A) (n := n) (c := c) (B := B) (m := m) (d := d) 33).below hb1
  have hB1 := bthen (hw0 _ _) hb1 (by simp)
  have HB := Lib.hid hb
  clear hb
  cases b
  · go_wp2_with fail
    go_ret
    exact ⟨ri (codeS_net (fun h => absurd (HB.out.2 h) (by simp))).symm, hB1⟩
  have HN := Lib.hid (HB.out.1 rfl)
  go_wp2_with fail
  refine (sSett_any _ _ _ _ _ _ _ _ _ zs _ (hz.below hB1) hl).mono ?_
  rintro e w2 ⟨rfl, hb2⟩
  cases hE : setB m zs
  all_goals
    have HE := Lib.hid hE
    clear hE
    go_wp2_with fail
    go_ret
  · exact ⟨ri (codeS_set HN.out HE.out).symm, bthen hB1 hb2 hB1.size⟩
  · exact ⟨ri (codeS_ok HN.out HE.out).symm, bthen hB1 hb2 hB1.size⟩
/-- How many elements of two lists differ. -/
def cntD (xs ys : List Int) : Nat := (xs.zip ys).countP fun p => p.1 != p.2
def cntSw (xs ys : List Int) (k : Nat) : Nat := ((xs.zip ys).take k).countP fun p => p.1 != p.2
theorem cnt_step {xs ys : List Int} {k : Nat} {x y : Int} (hx : xs[k]? = some x) (hy : ys[k]? = some y) : cntSw xs ys (k + 1) = cntSw xs ys k + (if (x != y) = true then 1 else 0) := by
  unfold cntSw
  rw [List.take_add_one, List.countP_append, zip_at hx hy]
  simp [List.countP_cons]
theorem cnt_le (xs ys : List Int) (k : Nat) : cntSw xs ys k ≤ k := by
  unfold cntSw
  exact Nat.le_trans List.countP_le_length (by simp; omega)
open Classical in
/-- What SwitchCount returns. -/
noncomputable def swOf (ns : List Nd) (ps : List Pp) (m : Nat) (xs ys : List Int) : Int × Int := if codeS ns ps m xs = 0 then (if setB m ys = true then ((cntD xs ys : Nat), 0) else (0, 3)) else (0, codeS ns ps m xs)
theorem codeS_in (ns : List Nd) (ps : List Pp) (m : Nat) (zs : List Int) : (codeS ns ps m zs = 0 ∧ setB m zs = true) ∨ codeS ns ps m zs = 1 ∨ codeS ns ps m zs = 3 := by
  by_cases h : NetOk ns ps
  · cases h2 : setB m zs
    · exact .inr (.inr (codeS_set h h2))
    · exact .inl ⟨codeS_ok h h2, rfl⟩
  · exact .inr (.inl (codeS_net h))
theorem swOf_code {ns : List Nd} {ps : List Pp} {m : Nat} {xs ys : List Int} {k : Int} (h : codeS ns ps m xs = k) (hk : k ≠ 0) : swOf ns ps m xs ys = (0, k) := by
  unfold swOf
  rw [if_neg (by omega), h]
theorem swOf_bad {ns : List Nd} {ps : List Pp} {m : Nat} {xs ys : List Int} (h : codeS ns ps m xs = 0) (h2 : setB m ys = false) : swOf ns ps m xs ys = (0, 3) := by
  unfold swOf
  rw [if_pos h, if_neg (by rw [h2]; simp)]
theorem swOf_ok {ns : List Nd} {ps : List Pp} {m : Nat} {xs ys : List Int} {j : Nat} (h : codeS ns ps m xs = 0) (h2 : setB m ys = true) (hj : cntD xs ys = j) : swOf ns ps m xs ys = (((j : Nat) : Int), 0) := by
  unfold swOf
  rw [if_pos h, if_pos h2, hj]
theorem rsw {p : Int × Int} {a b : Int} (h : p = (a, b)) : Ending.returned (.tuple #[.int .i64 a, .int .i64 b]) = .returned (.tuple #[.int .i64 p.1, .int .i64 p.2]) := by rw [h]
theorem cnt_all {xs ys : List Int} {k : Nat} (h1 : xs.length = k) (h2 : ys.length = k) : cntD xs ys = cntSw xs ys k := by
  unfold cntD cntSw
  rw [List.take_of_length_le (by simp; omega)]
end Go.Proofs.YtpgegfnhokhlmaaGreat
