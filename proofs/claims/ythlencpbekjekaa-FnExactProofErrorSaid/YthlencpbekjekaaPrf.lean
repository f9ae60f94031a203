/- Relaxed flows have small residuals; the error of a chord is minus its residual. No program in sight. -/
import Derived.Test.YthlencpbekjekaaRelax
set_option linter.unusedVariables false
namespace Go.Proofs.Ythlencpbekjekaa

def ab (f : Int) : Int := (f.natAbs : Int)
def drp (k f : Int) : Int := k * (f * ab f)
def resL (ks fs cs : List Int) : Int := sumN fs.length fun i => cs.getD i 0 * drp (ks.getD i 0) (fs.getD i 0)
def bndL (ks fs cs : List Int) : Int := sumN fs.length fun i => if cs.getD i 0 = 0 then 0 else ks.getD i 0 * (3 * ab (fs.getD i 0) + 1)
theorem ab_pos {f : Int} (h : 0 ≤ f) : ab f = f := by unfold ab; omega
theorem ab_neg {f : Int} (h : f ≤ 0) : ab f = -f := by unfold ab; omega
theorem cube_up (a : Int) : (a + 1) * (a + 1) * (a + 1) = a * a * a + (3 * (a * a) + 3 * a + 1) := by grind
theorem cube_dn (a : Int) : (a - 1) * (a - 1) * (a - 1) = a * a * a + (-(3 * (a * a)) + 3 * a - 1) := by grind
theorem en_step {k f x : Int} (hk : 0 ≤ k) (hx : x = 1 ∨ x = -1) : en k (f + x) - en k f ≤ 3 * (x * drp k f) + k * (3 * ab f + 1) := by
  have e1 : en k (f + x) = k * (ab (f + x) * ab (f + x) * ab (f + x)) := rfl
  have e2 : en k f = k * (ab f * ab f * ab f) := rfl
  rw [e1, e2]
  unfold drp
  have key : ab (f + x) * ab (f + x) * ab (f + x) ≤ ab f * ab f * ab f + 3 * (x * (f * ab f)) + (3 * ab f + 1) := by
    rcases hx with rfl | rfl
    · by_cases h : 0 ≤ f
      · rw [ab_pos h, ab_pos (show 0 ≤ f + 1 by omega), cube_up]
        have : (1 : Int) * (f * f) = f * f := Int.one_mul _
        omega
      · rw [ab_neg (show f ≤ 0 by omega), ab_neg (show f + 1 ≤ 0 by omega)]
        have e : -(f + 1) = -f - 1 := by omega
        rw [e, cube_dn]
        have : (1 : Int) * (f * -f) = -(f * f) := by rw [Int.one_mul, Int.mul_neg]
        have : -f * -f = f * f := Int.neg_mul_neg f f
        omega
    · by_cases h : 1 ≤ f
      · rw [ab_pos (show 0 ≤ f by omega), ab_pos (show 0 ≤ f + -1 by omega)]
        have e : f + -1 = f - 1 := by omega
        rw [e, cube_dn]
        have : (-1 : Int) * (f * f) = -(f * f) := by rw [Int.neg_mul, Int.one_mul]
        omega
      · rw [ab_neg (show f ≤ 0 by omega), ab_neg (show f + -1 ≤ 0 by omega)]
        have e : -(f + -1) = -f + 1 := by omega
        rw [e, cube_up]
        have : (-1 : Int) * (f * -f) = f * f := by rw [Int.neg_mul, Int.one_mul, Int.mul_neg, Int.neg_neg]
        have : -f * -f = f * f := Int.neg_mul_neg f f
        omega
  have h := Int.mul_le_mul_of_nonneg_left key hk
  have e3 : k * (ab f * ab f * ab f + 3 * (x * (f * ab f)) + (3 * ab f + 1)) = k * (ab f * ab f * ab f) + 3 * (x * (k * (f * ab f))) + k * (3 * ab f + 1) := by grind
  rw [e3] at h
  omega
theorem sumN_le {m : Nat} {f g : Nat → Int} (h : ∀ i, i < m → f i ≤ g i) : sumN m f ≤ sumN m g := by
  induction m with
  | zero => exact Int.le_refl _
  | succ m ih =>
    rw [sumN, sumN]
    have := ih (fun i hi => h i (by omega))
    have := h m (by omega)
    omega
theorem inR_of {fs : List Int} (h : ∀ i, i < fs.length → -30000 ≤ fs.getD i 0 ∧ fs.getD i 0 ≤ 30000) : inR fs = true := by
  unfold inR
  rw [List.all_eq_true]
  intro x hx
  obtain ⟨i, hi, rfl⟩ := List.mem_iff_getElem.1 hx
  have := h i hi
  simp [List.getD, hi] at this
  simp [this]
theorem inR_at {fs : List Int} (h : inR fs = true) {i : Nat} (hi : i < fs.length) : -30000 ≤ fs.getD i 0 ∧ fs.getD i 0 ≤ 30000 := by
  unfold inR at h
  have := List.all_eq_true.1 h fs[i] (List.getElem_mem hi)
  simp at this
  simp [List.getD, hi, this]
/-- No move by one unit lowers the energy: the residual is small. -/
theorem rest_small {ks fs cs : List Int} (hk : ∀ i, i < fs.length → 0 ≤ ks.getD i 0) (hc : ∀ i, i < fs.length → cs.getD i 0 = 0 ∨ cs.getD i 0 = 1 ∨ cs.getD i 0 = -1) (hf : ∀ i, i < fs.length → ab (fs.getD i 0) < 30000)
    (h1 : lower ks fs cs 1 = false) (h2 : lower ks fs cs (-1) = false) : 3 * ab (resL ks fs cs) ≤ bndL ks fs cs := by
  have key : ∀ t : Int, (t = 1 ∨ t = -1) → lower ks fs cs t = false → 0 ≤ 3 * (t * resL ks fs cs) + bndL ks fs cs := by
    intro t ht hl
    have hr : inR (addL fs cs t) = true := by
      refine inR_of fun i hi => ?_
      rw [addL_len] at hi
      rw [addL_at hi]
      have := hf i hi
      unfold ab at this
      rcases ht with rfl | rfl <;> rcases hc i hi with e | e | e <;> rw [e] <;> omega
    unfold lower at hl
    rw [hr] at hl
    simp at hl
    have hle : enL ks (addL fs cs t) - enL ks fs ≤ 3 * (t * resL ks fs cs) + bndL ks fs cs := by
      unfold enL resL bndL
      rw [addL_len, ← sumN_sub]
      have e : 3 * (t * sumN fs.length fun i => cs.getD i 0 * drp (ks.getD i 0) (fs.getD i 0)) + (sumN fs.length fun i => if cs.getD i 0 = 0 then 0 else ks.getD i 0 * (3 * ab (fs.getD i 0) + 1)) =
          sumN fs.length fun i => 3 * (t * (cs.getD i 0 * drp (ks.getD i 0) (fs.getD i 0))) + (if cs.getD i 0 = 0 then 0 else ks.getD i 0 * (3 * ab (fs.getD i 0) + 1)) := by
        rw [sumN_add, sumN_mul, sumN_mul]
      rw [e]
      refine sumN_le fun i hi => ?_
      rw [addL_at hi]
      rcases hc i hi with e0 | e0 | e0
      · rw [e0, if_pos rfl, Int.mul_zero, Int.add_zero, Int.zero_mul, Int.mul_zero, Int.mul_zero]; omega
      · rw [e0, if_neg (by omega)]
        have := en_step (f := fs.getD i 0) (x := t * 1) (hk i hi) (by rcases ht with rfl | rfl <;> simp)
        rw [Int.mul_one] at this ⊢
        rw [Int.one_mul]
        exact this
      · rw [e0, if_neg (by omega)]
        have := en_step (f := fs.getD i 0) (x := t * -1) (hk i hi) (by rcases ht with rfl | rfl <;> simp)
        have e5 : t * (-1 * drp (ks.getD i 0) (fs.getD i 0)) = t * -1 * drp (ks.getD i 0) (fs.getD i 0) := by rw [Int.mul_assoc]
        rw [e5]
        exact this
    omega
  have k1 := key 1 (.inl rfl) h1
  have k2 := key (-1) (.inr rfl) h2
  rw [Int.one_mul] at k1
  rw [Int.neg_mul, Int.one_mul] at k2
  unfold ab
  omega
theorem unit_even {es : Es} {n c : Nat} (hg : Good es n) (hc : c < es.length) : Even es n (unitS n (eto es c) (efr es c)) := by
  intro r _
  obtain ⟨h1, h2, _⟩ := hg c hc
  unfold compSum
  have e : ∀ v, v < n → (if ((comps es n)[v]? == some (some r)) = true then (unitS n (eto es c) (efr es c)).getD v 0 else 0) = (if eto es c = v then (if ((comps es n)[eto es c]? == some (some r)) = true then 1 else 0) else 0) - (if efr es c = v then (if ((comps es n)[efr es c]? == some (some r)) = true then 1 else 0) else 0) := by
    intro v hv
    rw [unitS_at hv]
    by_cases a : eto es c = v
    · have b : ¬ efr es c = v := by omega
      simp [a, b]
    · by_cases b : efr es c = v
      · simp [a, b]
        split <;> simp
      · simp [a, b]
  rw [sumN_congr e, sumN_sub, sumN_ite _ h2, sumN_ite _ h1, comp_same hg hc]
  omega
/-- What flows out of the nodes, weighed with their levels. -/
theorem out_weigh {es : Es} {n : Nat} (hg : Good es n) (f lv : Nat → Int) : sumN es.length (fun i => f i * (lv (efr es i) - lv (eto es i))) = sumN n (fun v => lv v * outN es f v) := by
  have e : sumN n (fun v => lv v * outN es f v) = sumN n (fun v => sumN es.length (fun i => lv v * sgn es i v (f i))) := by
    refine sumN_congr fun v _ => ?_
    unfold outN
    rw [sumN_mul]
  rw [e, sumN_swap]
  refine sumN_congr fun i hi => ?_
  obtain ⟨h1, h2, h3⟩ := hg i hi
  have e2 : ∀ v, v < n → lv v * sgn es i v (f i) = (if efr es i = v then f i * lv (efr es i) else 0) - (if eto es i = v then f i * lv (eto es i) else 0) := by
    intro v _
    unfold sgn
    by_cases a : efr es i = v
    · have b : ¬ eto es i = v := by omega
      simp [a, b, Int.mul_comm]
    · by_cases b : eto es i = v
      · simp [a, b]
        rw [Int.mul_comm, Int.neg_mul]
      · simp [a, b]
  rw [sumN_congr e2, sumN_sub, sumN_ite _ h1, sumN_ite _ h2, Int.mul_sub]
/-- Along the cycle of a chord the drops add up to the gap that the levels leave. -/
theorem chord_gap {es : Es} {n c : Nat} (hg : Good es n) (hc : c < es.length) (hct : ¬ Tree es n c) (d lv : Nat → Int) (hlv : ∀ i, Tree es n i → lv (efr es i) - lv (eto es i) = d i) :
    sumN es.length (fun i => (cyc es n c).getD i 0 * d i) = lv (eto es c) - lv (efr es c) + d c := by
  have hul := unitS_len n (eto es c) (efr es c)
  have hfl := ffl_len hg hul
  have hfc := ffl_tree hg hul hc hct
  obtain ⟨h1, h2, h3⟩ := hg c hc
  have e : ∀ i, i < es.length → (cyc es n c).getD i 0 * d i = (ffl es n (unitS n (eto es c) (efr es c))).getD i 0 * (lv (efr es i) - lv (eto es i)) + (if c = i then d c else 0) := by
    intro i hi
    unfold cyc
    rw [getD_set (by omega)]
    by_cases e : i = c
    · subst e
      rw [if_pos rfl, if_pos rfl, hfc]
      omega
    · rw [if_neg e, if_neg (fun h => e h.symm)]
      by_cases ht : Tree es n i
      · rw [hlv i ht]; omega
      · rw [ffl_tree hg hul hi ht]; omega
  rw [sumN_congr e, sumN_add, sumN_ite _ hc, out_weigh hg]
  have e2 : ∀ v, v < n → lv v * outN es (fun i => (ffl es n (unitS n (eto es c) (efr es c))).getD i 0) v = (if eto es c = v then lv (eto es c) else 0) - (if efr es c = v then lv (efr es c) else 0) := by
    intro v hv
    rw [ffl_bal hg hul (unit_even hg hc) hv, unitS_at hv]
    by_cases a : eto es c = v
    · have b : ¬ efr es c = v := by omega
      simp [a, b]
    · by_cases b : efr es c = v
      · simp [a, b]
      · simp [a, b]
  rw [sumN_congr e2, sumN_sub, sumN_ite _ h2, sumN_ite _ h1]
/-- A cycle is a circulation. -/
theorem cyc_out {es : Es} {n c v : Nat} (hg : Good es n) (hc : c < es.length) (hct : ¬ Tree es n c) (hv : v < n) : outN es (fun i => (cyc es n c).getD i 0) v = 0 := by
  have hul := unitS_len n (eto es c) (efr es c)
  have hfl := ffl_len hg hul
  obtain ⟨h1, h2, h3⟩ := hg c hc
  have e : (fun i => (cyc es n c).getD i 0) = fun i => if i = c then 1 else (ffl es n (unitS n (eto es c) (efr es c))).getD i 0 := by
    funext i
    exact getD_set (by omega)
  rw [e, outN_set hc, ffl_tree hg hul hc hct, ffl_bal hg hul (unit_even hg hc) hv, unitS_at hv, Int.sub_zero]
  unfold sgn
  by_cases a : eto es c = v <;> by_cases b : efr es c = v <;> simp [a, b]
/-- The elements of a cycle are 0, 1 and -1. -/
theorem cyc_vals {es : Es} {n c i : Nat} (hg : Good es n) (hc : c < es.length) (hct : ¬ Tree es n c) (hi : i < es.length) : (cyc es n c).getD i 0 = 0 ∨ (cyc es n c).getD i 0 = 1 ∨ (cyc es n c).getD i 0 = -1 := by
  obtain ⟨l, hp, hn, ht⟩ := chord_path (n := n) hg hc
  rw [cyc_path hg hc hct hp hn ht i hi]
  split
  · exact .inr (.inl rfl)
  · have key : ∀ (l : List Nat) (a : Nat), pfl es a l i = 0 ∨ pfl es a l i = 1 ∨ pfl es a l i = -1 := by
      intro l
      induction l with
      | nil => intro a; exact .inl rfl
      | cons j l ih =>
        intro a
        rw [pfl]
        split
        · split
          · exact .inr (.inl rfl)
          · exact .inr (.inr rfl)
        · exact ih _
    exact key l _
end Go.Proofs.Ythlencpbekjekaa
