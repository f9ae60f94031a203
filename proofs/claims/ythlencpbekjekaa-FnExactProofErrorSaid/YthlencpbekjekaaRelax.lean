/- Relaxing a flow list along cycles, as a plain function. No program in sight. -/
import Derived.Test.YthlencpbekjekaaGraph7
set_option linter.unusedVariables false
namespace Go.Proofs.Ythlencpbekjekaa

/-- The energy of a flow through a resistance. -/
def en (k f : Int) : Int := k * ((f.natAbs : Int) * (f.natAbs : Int) * (f.natAbs : Int))
def enL (ks fs : List Int) : Int := sumN fs.length fun i => en (ks.getD i 0) (fs.getD i 0)
def inR (fs : List Int) : Bool := fs.all fun f => decide (-30000 ≤ f) && decide (f ≤ 30000)
def addL (fs cs : List Int) (a : Int) : List Int := (List.range fs.length).map fun i => fs.getD i 0 + a * cs.getD i 0
def lower (ks fs cs : List Int) (a : Int) : Bool := inR (addL fs cs a) && decide (enL ks (addL fs cs a) < enL ks fs)
def moveM (ks cs : List Int) (s : Int) (fs : List Int) : Option (List Int) := if lower ks fs cs s = true then some (addL fs cs s) else if lower ks fs cs (-s) = true then some (addL fs cs (-s)) else none
/-- One cycle of a pass: the flows and the number of moves. -/
def passS (ks : List Int) (s : Int) (st : List Int × Nat) (cs : List Int) : List Int × Nat := if 5000 ≤ st.2 then st else match moveM ks cs s st.1 with
  | none => st
  | some f => (f, st.2 + 1)
def passM (ks : List Int) (css : List (List Int)) (s : Int) (st : List Int × Nat) : List Int × Nat := css.foldl (passS ks s) st
theorem addL_len (fs cs : List Int) (a : Int) : (addL fs cs a).length = fs.length := by simp [addL]
theorem addL_at {fs cs : List Int} {a : Int} {i : Nat} (hi : i < fs.length) : (addL fs cs a).getD i 0 = fs.getD i 0 + a * cs.getD i 0 := by simp [addL, List.getD, hi]
theorem passS_mono (ks : List Int) (s : Int) (st : List Int × Nat) (cs : List Int) : st.2 ≤ (passS ks s st cs).2 ∧ (passS ks s st cs).2 ≤ max 5000 st.2 ∧ ((passS ks s st cs).2 = st.2 → passS ks s st cs = st) := by
  unfold passS
  split
  · exact ⟨Nat.le_refl _, by omega, fun _ => rfl⟩
  · rename_i h
    cases hm : moveM ks cs s st.1 with
    | none => exact ⟨Nat.le_refl _, by show st.2 ≤ _; omega, fun _ => rfl⟩
    | some f =>
      refine ⟨by simp, by simp; omega, fun h => ?_⟩
      simp at h
theorem passM_mono (ks : List Int) (css : List (List Int)) (s : Int) : ∀ (st : List Int × Nat), st.2 ≤ (passM ks css s st).2 ∧ (passM ks css s st).2 ≤ max 5000 st.2 ∧ ((passM ks css s st).2 = st.2 → passM ks css s st = st) := by
  unfold passM
  induction css with
  | nil => intro st; exact ⟨Nat.le_refl _, by show st.2 ≤ _; omega, fun _ => rfl⟩
  | cons cs css ih =>
    intro st
    rw [List.foldl_cons]
    obtain ⟨a1, a2, a3⟩ := passS_mono ks s st cs
    obtain ⟨b1, b2, b3⟩ := ih (passS ks s st cs)
    refine ⟨by omega, by omega, fun h => ?_⟩
    have e1 : (passS ks s st cs).2 = st.2 := by omega
    have e2 := a3 e1
    rw [e2] at b3 ⊢
    exact b3 (by rw [e2] at h; exact h)
theorem passS_full {ks : List Int} {s : Int} {st : List Int × Nat} {cs : List Int} (h : 5000 ≤ st.2) : passS ks s st cs = st := by
  unfold passS
  rw [if_pos h]
theorem passM_full {ks : List Int} {css : List (List Int)} {s : Int} {st : List Int × Nat} (h : 5000 ≤ st.2) : passM ks css s st = st := by
  unfold passM
  induction css with
  | nil => rfl
  | cons cs css ih => rw [List.foldl_cons, passS_full h]; exact ih
/-- Passes with a step until none moves, then with half the step. -/
def relaxM (ks : List Int) (css : List (List Int)) (s : Nat) (st : List Int × Nat) : List Int × Nat :=
  if s = 0 then st else if (passM ks css s st).2 = st.2 then relaxM ks css (s / 2) (passM ks css s st) else relaxM ks css s (passM ks css s st)
termination_by (s, 5000 - st.2)
decreasing_by
  · apply Prod.Lex.left
    omega
  · rename_i h1 h2
    have hm := passM_mono ks css s st
    have h5 : ¬ 5000 ≤ st.2 := fun h => h2 (by rw [passM_full h])
    apply Prod.Lex.right
    have := hm.1
    have := hm.2.1
    omega
theorem relaxM_zero (ks : List Int) (css : List (List Int)) (st : List Int × Nat) : relaxM ks css 0 st = st := by rw [relaxM, if_pos rfl]
theorem relaxM_stay {ks : List Int} {css : List (List Int)} {s : Nat} {st : List Int × Nat} (hs : 0 < s) (h : (passM ks css s st).2 = st.2) : relaxM ks css s st = relaxM ks css (s / 2) st := by
  rw [relaxM, if_neg (by omega), if_pos h, (passM_mono ks css s st).2.2 h]
theorem relaxM_go {ks : List Int} {css : List (List Int)} {s : Nat} {st : List Int × Nat} (hs : 0 < s) (h : (passM ks css s st).2 ≠ st.2) : relaxM ks css s st = relaxM ks css s (passM ks css s st) := by
  rw [relaxM, if_neg (by omega), if_neg h]
theorem relaxM_full {ks : List Int} {css : List (List Int)} {st : List Int × Nat} (h : 5000 ≤ st.2) : ∀ s, relaxM ks css s st = st := by
  intro s
  induction s using Nat.strongRecOn with
  | ind s ih =>
    by_cases hs : s = 0
    · subst hs; exact relaxM_zero _ _ _
    · rw [relaxM_stay (by omega) (by rw [passM_full h])]
      exact ih (s / 2) (by omega)
/-- What passes keep, relaxing keeps. -/
theorem relaxM_keep {ks : List Int} {css : List (List Int)} {P : List Int × Nat → Prop} (h : ∀ (s : Int) (st : List Int × Nat), P st → P (passM ks css s st)) (s : Nat) (st : List Int × Nat) (h0 : P st) : P (relaxM ks css s st) := by
  induction s, st using relaxM.induct ks css with
  | case1 st => rw [relaxM_zero]; exact h0
  | case2 s st hs hst ih =>
    rw [relaxM_stay (by omega) hst]
    have e := (passM_mono ks css s st).2.2 hst
    rw [e] at ih
    exact ih h0
  | case3 s st hs hst ih =>
    rw [relaxM_go (by omega) hst]
    exact ih (h s st h0)
theorem passM_keep {ks : List Int} {css : List (List Int)} {P : List Int × Nat → Prop} (h : ∀ (s : Int) (st : List Int × Nat) (cs : List Int), cs ∈ css → P st → P (passS ks s st cs)) (s : Int) : ∀ (st : List Int × Nat), P st → P (passM ks css s st) := by
  unfold passM
  induction css with
  | nil => intro st h0; exact h0
  | cons cs css ih =>
    intro st h0
    rw [List.foldl_cons]
    exact ih (fun s st c hc => h s st c (List.mem_cons_of_mem _ hc)) _ (h s st cs List.mem_cons_self h0)
/-- A move adds a multiple of a cycle, and stays in range. -/
theorem moveM_some {ks cs fs f : List Int} {s : Int} (h : moveM ks cs s fs = some f) : ∃ a, f = addL fs cs a ∧ lower ks fs cs a = true := by
  unfold moveM at h
  split at h
  · rename_i h1
    injection h with h
    exact ⟨s, h.symm, h1⟩
  · split at h
    · rename_i h1
      injection h with h
      exact ⟨-s, h.symm, h1⟩
    · cases h
theorem moveM_none {ks cs fs : List Int} {s : Int} (h : moveM ks cs s fs = none) : lower ks fs cs s = false ∧ lower ks fs cs (-s) = false := by
  unfold moveM at h
  split at h
  · cases h
  · rename_i h1
    split at h
    · cases h
    · rename_i h2
      exact ⟨by simpa using h1, by simpa using h2⟩
theorem passM_stay {ks : List Int} {css : List (List Int)} {s : Int} : ∀ (st : List Int × Nat), ¬ 5000 ≤ st.2 → (passM ks css s st).2 = st.2 → ∀ cs ∈ css, moveM ks cs s st.1 = none := by
  unfold passM
  induction css with
  | nil => intro st _ _ cs hcs; exact absurd hcs List.not_mem_nil
  | cons c css ih =>
    intro st h5 h cs hcs
    rw [List.foldl_cons] at h
    obtain ⟨a1, a2, a3⟩ := passS_mono ks s st c
    have b1 := (passM_mono ks css s (passS ks s st c)).1
    unfold passM at b1
    have e : passS ks s st c = st := a3 (by omega)
    have hc : moveM ks c s st.1 = none := by
      cases hm : moveM ks c s st.1 with
      | none => rfl
      | some f =>
        exfalso
        have : passS ks s st c = (f, st.2 + 1) := by
          unfold passS
          rw [if_neg h5, hm]
        rw [this] at e
        have := congrArg Prod.snd e
        simp at this
    rcases List.mem_cons.1 hcs with rfl | hcs
    · exact hc
    · rw [e] at h
      exact ih st h5 h cs hcs
/-- Relaxed from a step of at least 1, with moves to spare: no cycle lowers the energy any more. -/
theorem relaxM_rest {ks : List Int} {css : List (List Int)} (s : Nat) (st : List Int × Nat) (hs : 0 < s) (h5 : (relaxM ks css s st).2 < 5000) : ∀ cs ∈ css, lower ks (relaxM ks css s st).1 cs 1 = false ∧ lower ks (relaxM ks css s st).1 cs (-1) = false := by
  induction s, st using relaxM.induct ks css with
  | case1 st => omega
  | case2 s st hs' hst ih =>
    have e := (passM_mono ks css s st).2.2 hst
    rw [e] at ih
    rw [relaxM_stay hs hst] at h5 ⊢
    by_cases h1 : s = 1
    · subst h1
      rw [show (1 / 2 : Nat) = 0 from rfl, relaxM_zero] at h5 ⊢
      intro cs hcs
      have := passM_stay st (by omega) hst cs hcs
      exact moveM_none this
    · exact ih (by omega) h5
  | case3 s st hs' hst ih =>
    rw [relaxM_go hs hst] at h5 ⊢
    exact ih hs h5
end Go.Proofs.Ythlencpbekjekaa
