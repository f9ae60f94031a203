/- What the tests of flow lists, supplies, levels and their codes do, by walks over their text. Conditions: lengths of at most 1048576. -/
import Derived.Test.YthlencpbekjekaaBox
import Derived.Test.YthlencpbekjekaaLists
set_option linter.unusedVariables false
set_option maxRecDepth 100000
namespace Go.Proofs.Ythlencpbekjekaa
open Go.ChangeShapes Go.WideShapes Go.ChangeAt Go.RowKit Go.Joins Go.Deep

def flB (m : Nat) (zs : List Int) : Bool := decide (zs.length = m) && allB zs (-30000) 30000
def lvB (m : Nat) (zs : List Int) : Bool := decide (zs.length = m) && allB zs (-1000000000000000000) 1000000000000000000
theorem flB_len {m : Nat} {zs : List Int} (h : flB m zs = true) : zs.length = m := by
  unfold flB at h
  simp at h
  exact h.1
theorem flB_all {m : Nat} {zs : List Int} (h : flB m zs = true) : allB zs (-30000) 30000 = true := by
  unfold flB at h
  rw [Bool.and_eq_true] at h
  exact h.2
theorem lvB_len {m : Nat} {zs : List Int} (h : lvB m zs = true) : zs.length = m := by
  unfold lvB at h
  simp at h
  exact h.1
theorem lvB_all {m : Nat} {zs : List Int} (h : lvB m zs = true) : allB zs (-1000000000000000000) 1000000000000000000 = true := by
  unfold lvB at h
  rw [Bool.and_eq_true] at h
  exact h.2
/-- The code of a network and a list of numbers. -/
noncomputable def codeF (ns : List Nd) (ps : List Pp) (m : Nat) (zs : List Int) : Int := @ite _ (NetOk ns ps) (Classical.propDecidable _) (if flB m zs = true then 0 else 3) 1
theorem codeF_net {ns : List Nd} {ps : List Pp} {m : Nat} {zs : List Int} (h : ¬ NetOk ns ps) : codeF ns ps m zs = 1 := if_neg h
theorem codeF_bad {ns : List Nd} {ps : List Pp} {m : Nat} {zs : List Int} (h : NetOk ns ps) (hf : flB m zs = false) : codeF ns ps m zs = 3 := by
  unfold codeF
  rw [if_pos h, if_neg (by rw [hf]; decide)]
theorem codeF_ok {ns : List Nd} {ps : List Pp} {m : Nat} {zs : List Int} (h : NetOk ns ps) (hf : flB m zs = true) : codeF ns ps m zs = 0 := by
  unfold codeF
  rw [if_pos h, if_pos hf]
theorem codeF_in (ns : List Nd) (ps : List Pp) (m : Nat) (zs : List Int) : (codeF ns ps m zs = 0 ∧ NetOk ns ps ∧ flB m zs = true) ∨ codeF ns ps m zs = 1 ∨ codeF ns ps m zs = 3 := by
  by_cases h : NetOk ns ps
  · cases hf : flB m zs
    · exact .inr (.inr (codeF_bad h hf))
    · exact .inl ⟨codeF_ok h hf, h, rfl⟩
  · exact .inr (.inl (codeF_net h))
set_option maxHeartbeats 1000000 in
theorem isFlow_any (A B C : Option Addr) (n c m d l e : Nat) (zs : List Int) (w : World) (hz : Ints w C l zs) (hl : l ≤ 1048576) :
    Calls Try.prog 49 #[.agg #[.slice A n c, .slice B m d], .slice C l e] w fun e w' => e = .returned (.bool (flB m zs)) ∧ Below w.heap.size w w' := by
  have hb0 : ∀ cs t, Below w.heap.size w (w.alloc (.cells cs t)) := fun cs t => (Below.refl _ _).alloc (Nat.le_refl _) _
  have hln := Lib.hid hz.len
  cases hE : ((l : Int) == (m : Int))
  · have H := Lib.hid (show flB m zs = false by
      unfold flB
      rw [decide_eq_false (by rw [hln.out]; intro h; subst h; simp at hE)]; rfl)
    go_enter Try.func49, Try.ntmps49
    go_wp2_with fail
    go_ret
    exact ⟨rb H.out.symm, hb0 _ _⟩
  · have H := Lib.hid (show flB m zs = allB zs (-30000) 30000 by
      unfold flB
      rw [decide_eq_true (by rw [hln.out]; have := eq_of_beq hE; omega)]; rfl)
    go_enter Try.func49, Try.ntmps49
    go_wp2_with (go_at_call 50; refine (allWithin_any _ _ _ _ _ _ _ (hz.alloc _) hl).mono ?_; rintro e w' ⟨rfl, rfl⟩)
    go_ret
    exact ⟨rb H.out.symm, hb0 _ _⟩
theorem sFlow1_any (z : Int) (w : World) : Calls Try.prog 53 #[.int .i64 z] w fun e w' => e = .returned (.bool (inB z (-30000) 30000)) ∧ w = w' := by
  go_enter Try.func53, Try.ntmps53
  go_wp2_with (go_at_call 19; refine (in_any _ _ _ _).mono ?_; rintro e w' ⟨rfl, rfl⟩)
  go_ret
  exact ⟨rfl, rfl⟩
set_option maxHeartbeats 1000000 in
theorem sFlow_any (A B C : Option Addr) (n c m d l e : Nat) (zs : List Int) (w : World) (hz : Ints w C l zs) (hl : l ≤ 1048576) :
    Calls Try.prog 45 #[.agg #[.slice A n c, .slice B m d], .slice C l e] w fun e w' => e = .returned (.bool (flB m zs)) ∧ Below w.heap.size w w' := by
  have hb0 : ∀ cs t, Below w.heap.size w (w.alloc (.cells cs t)) := fun cs t => (Below.refl _ _).alloc (Nat.le_refl _) _
  have hln := Lib.hid hz.len
  go_enter Try.func45, Try.ntmps45
  go_wp2_with fail
  go_loop [5] (fun i => ∃ k : Nat, k ≤ l ∧ i = .int .i64 k ∧ Hid (allB (zs.take k) (-30000) 30000 = true)) (fun i => l - (intOf i).toNat)
  case atStart => exact ⟨0, Nat.zero_le _, rfl, rfl⟩
  case round =>
    obtain ⟨k, hk, rfl, HP⟩ := hrel
    by_cases hlt : k < l
    · obtain ⟨b, o, x, rfl, hbl, hx, hx64, hcx⟩ := (hz.alloc (.cells #[.slice A n c, .slice B m d] 36)).at_ hlt
      have HX := Lib.hid hx
      clear hx
      cases hin : inB x (-30000) 30000
      · go_wp2_with (go_at_call 53; refine (sFlow1_any _ _).mono ?_; rintro e w' ⟨rfl, rfl⟩)
        go_ret
        exact ⟨rb (by unfold flB; rw [all_no HX.out hin]; simp), hb0 _ _⟩
      · go_wp2_with (go_at_call 53; refine (sFlow1_any _ _).mono ?_; rintro e w' ⟨rfl, rfl⟩)
        go_round
        case rel => exact ⟨k + 1, by omega, by go_num, all_step HP.out HX.out hin⟩
        case measure => simp [intOf]; omega
    · go_wp2_with fail
      go_ret
      have hp := HP.out
      rw [List.take_of_length_le (by have := hln.out; omega)] at hp
      refine ⟨rb ?_, hb0 _ _⟩
      unfold flB
      rw [hp, hln.out, Bool.and_true]
      by_cases hE : l = m
      · subst hE; simp
      · rw [decide_eq_false hE]; simp; omega
set_option maxHeartbeats 1000000 in
theorem areLev_any (A B C : Option Addr) (n c m d l e : Nat) (zs : List Int) (w : World) (hz : Ints w C l zs) (hl : l ≤ 1048576) :
    Calls Try.prog 39 #[.agg #[.slice A n c, .slice B m d], .slice C l e] w fun e w' => e = .returned (.bool (lvB n zs)) ∧ Below w.heap.size w w' := by
  have hb0 : ∀ cs t, Below w.heap.size w (w.alloc (.cells cs t)) := fun cs t => (Below.refl _ _).alloc (Nat.le_refl _) _
  have hln := Lib.hid hz.len
  cases hE : ((l : Int) == (n : Int))
  · have H := Lib.hid (show lvB n zs = false by
      unfold lvB
      rw [decide_eq_false (by rw [hln.out]; intro h; subst h; simp at hE)]; rfl)
    go_enter Try.func39, Try.ntmps39
    go_wp2_with fail
    go_ret
    exact ⟨rb H.out.symm, hb0 _ _⟩
  · have H := Lib.hid (show lvB n zs = allB zs (-1000000000000000000) 1000000000000000000 by
      unfold lvB
      rw [decide_eq_true (by rw [hln.out]; have := eq_of_beq hE; omega)]; rfl)
    go_enter Try.func39, Try.ntmps39
    go_wp2_with (go_at_call 50; refine (allWithin_any _ _ _ _ _ _ _ (hz.alloc _) hl).mono ?_; rintro e w' ⟨rfl, rfl⟩)
    go_ret
    exact ⟨rb H.out.symm, hb0 _ _⟩
theorem sBig_any (z : Int) (w : World) : Calls Try.prog 46 #[.int .i64 z] w fun e w' => e = .returned (.bool (inB z (-1000000000000000000) 1000000000000000000)) ∧ w = w' := by
  go_enter Try.func46, Try.ntmps46
  go_wp2_with (go_at_call 19; refine (in_any _ _ _ _).mono ?_; rintro e w' ⟨rfl, rfl⟩)
  go_ret
  exact ⟨rfl, rfl⟩
set_option maxHeartbeats 1000000 in
theorem sLev_any (A B C : Option Addr) (n c m d l e : Nat) (zs : List Int) (w : World) (hz : Ints w C l zs) (hl : l ≤ 1048576) :
    Calls Try.prog 34 #[.agg #[.slice A n c, .slice B m d], .slice C l e] w fun e w' => e = .returned (.bool (lvB n zs)) ∧ Below w.heap.size w w' := by
  have hb0 : ∀ cs t, Below w.heap.size w (w.alloc (.cells cs t)) := fun cs t => (Below.refl _ _).alloc (Nat.le_refl _) _
  have hln := Lib.hid hz.len
  go_enter Try.func34, Try.ntmps34
  go_wp2_with fail
  go_loop [5] (fun i => ∃ k : Nat, k ≤ l ∧ i = .int .i64 k ∧ Hid (allB (zs.take k) (-1000000000000000000) 1000000000000000000 = true)) (fun i => l - (intOf i).toNat)
  case atStart => exact ⟨0, Nat.zero_le _, rfl, rfl⟩
  case round =>
    obtain ⟨k, hk, rfl, HP⟩ := hrel
    by_cases hlt : k < l
    · obtain ⟨b, o, x, rfl, hbl, hx, hx64, hcx⟩ := (hz.alloc (.cells #[.slice A n c, .slice B m d] 36)).at_ hlt
      have HX := Lib.hid hx
      clear hx
      cases hin : inB x (-1000000000000000000) 1000000000000000000
      · go_wp2_with (go_at_call 46; refine (sBig_any _ _).mono ?_; rintro e w' ⟨rfl, rfl⟩)
        go_ret
        exact ⟨rb (by unfold lvB; rw [all_no HX.out hin]; simp), hb0 _ _⟩
      · go_wp2_with (go_at_call 46; refine (sBig_any _ _).mono ?_; rintro e w' ⟨rfl, rfl⟩)
        go_round
        case rel => exact ⟨k + 1, by omega, by go_num, all_step HP.out HX.out hin⟩
        case measure => simp [intOf]; omega
    · go_wp2_with fail
      go_ret
      have hp := HP.out
      rw [List.take_of_length_le (by have := hln.out; omega)] at hp
      refine ⟨rb ?_, hb0 _ _⟩
      unfold lvB
      rw [hp, hln.out, Bool.and_true]
      by_cases hE : l = n
      · subst hE; simp
      · rw [decide_eq_false hE]; simp; omega
set_option maxHeartbeats 1000000 in
theorem codeF_any (A B C : Option Addr) (n c m d l e : Nat) (ns : List Nd) (ps : List Pp) (zs : List Int) (w : World) (h : IsNet w A n c ns B m d ps) (hz : Ints w C l zs) (hl : l ≤ 1048576) :
    Calls Try.prog 38 #[.agg #[.slice A n c, .slice B m d], .slice C l e] w fun e w' => e = .returned (.int .i64 (codeF ns ps m zs)) ∧ Below w.heap.size w w' := by
  have hw0 : ∀ cs t, Below w.heap.size w (w.alloc (.cells cs t)) := fun cs t => (Below.refl _ _).alloc (Nat.le_refl _) _
  go_enter Try.func38, Try.ntmps38
  go_wp2_with fail
  refine (isNetw_any _ _ _ _ _ _ ns ps _ (h.alloc _)).mono ?_
  rintro e1 w1 ⟨b, hb, rfl, hb1⟩
  have bx := (box_new w #[.slice A n c, .slice B m d] 36).belowA hb1
  have xl := bx.lt
  have x0 : w1.cell? ⟨w.heap.size, 0, none⟩ = some (.slice A n c) := bx.cell 0
  have x1 : w1.cell? ⟨w.heap.size, 1, none⟩ = some (.slice B m d) := bx.cell 1
  have hB1 := bthen (hw0 _ _) hb1 (by simp)
  have HB := Lib.hid hb
  clear hb hb1 bx
  cases b
  · go_wp2_with fail
    go_ret
    exact ⟨ri (codeF_net (fun hh => absurd (HB.out.2 hh) (by simp))).symm, hB1⟩
  have HN := Lib.hid (HB.out.1 rfl)
  clear HB
  go_wp2_with fail
  refine (isFlow_any _ _ _ _ _ _ _ _ _ zs _ (hz.below hB1) hl).mono ?_
  rintro e2 w2 ⟨rfl, hb2⟩
  have hB2 := bthen hB1 hb2 hB1.size
  cases hE : flB m zs
  · have HE := Lib.hid (codeF_bad HN.out hE)
    clear hE
    go_wp2_with fail
    go_ret
    exact ⟨ri HE.out.symm, hB2⟩
  · have HE := Lib.hid (codeF_ok HN.out hE)
    clear hE
    go_wp2_with fail
    go_ret
    exact ⟨ri HE.out.symm, hB2⟩
set_option maxHeartbeats 1000000 in
theorem sCodeF_any (A B C : Option Addr) (n c m d l e : Nat) (ns : List Nd) (ps : List Pp) (zs : List Int) (w : World) (h : IsNet w A n c ns B m d ps) (hz : Ints w C l zs) (hl : l ≤ 1048576) :
    Calls Try.prog 33 #[.agg #[.slice A n c, .slice B m d], .slice C l e] w fun e w' => e = .returned (.int .i64 (codeF ns ps m zs)) ∧ Below w.heap.size w w' := by
  have hw0 : ∀ cs t, Below w.heap.size w (w.alloc (.cells cs t)) := fun cs t => (Below.refl _ _).alloc (Nat.le_refl _) _
  go_enter Try.func33, Try.ntmps33
  go_wp2_with fail
  refine (sIsNetw_any _ _ _ _ _ _ ns ps _ (h.alloc _)).mono ?_
  rintro e1 w1 ⟨b, hb, rfl, hb1⟩
  have bx := (box_new w #[.slice A n c, .slice B m d] 36).belowA hb1
  have xl := bx.lt
  have x0 : w1.cell? ⟨w.heap.size, 0, none⟩ = some (.slice A n c) := bx.cell 0
  have x1 : w1.cell? ⟨w.heap.size, 1, none⟩ = some (.slice B m d) := bx.cell 1
  have hB1 := bthen (hw0 _ _) hb1 (by simp)
  have HB := Lib.hid hb
  clear hb hb1 bx
  cases b
  · go_wp2_with fail
    go_ret
    exact ⟨ri (codeF_net (fun hh => absurd (HB.out.2 hh) (by simp))).symm, hB1⟩
  have HN := Lib.hid (HB.out.1 rfl)
  clear HB
  go_wp2_with fail
  refine (sFlow_any _ _ _ _ _ _ _ _ _ zs _ (hz.below hB1) hl).mono ?_
  rintro e2 w2 ⟨rfl, hb2⟩
  have hB2 := bthen hB1 hb2 hB1.size
  cases hE : flB m zs
  · have HE := Lib.hid (codeF_bad HN.out hE)
    clear hE
    go_wp2_with fail
    go_ret
    exact ⟨ri HE.out.symm, hB2⟩
  · have HE := Lib.hid (codeF_ok HN.out hE)
    clear hE
    go_wp2_with fail
    go_ret
    exact ⟨ri HE.out.symm, hB2⟩
end Go.Proofs.Ythlencpbekjekaa
