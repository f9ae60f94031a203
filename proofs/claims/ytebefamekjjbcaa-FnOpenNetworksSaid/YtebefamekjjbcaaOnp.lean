/- Where the pipes of the open network stand in the whole one; spread flows are allowed unless one goes against a one-way pipe. No program in sight. -/
import Derived.Test.YtebefamekjjbcaaSpb
import Derived.Test.YtebefamekjjbcaaAllow
set_option linter.unusedVariables false
namespace Go.Proofs.Ytebefamekjjbcaa

section
variable {ps : List Pp} {zs fs : List Int} {m : Nat}
theorem opI_spot (hz : zs.length = m) {i : Nat} (hi : i < (opI zs m).length) : ∃ k z, k < m ∧ (opI zs m)[i]? = some (k : Int) ∧ zs[k]? = some z ∧ z ≠ 0 ∧ i = opN zs k := by
  obtain ⟨k, h1, h2, h3⟩ := opI_mem.1 (List.getElem_mem hi)
  have hk : zs[k]? = some zs[k] := List.getElem?_eq_getElem (by omega)
  rw [List.getD_eq_getElem?_getD, hk] at h2
  have hg := opI_get (m := m) (by omega) h1 hk h2
  have hlt : opN zs k < (opI zs m).length := by
    rcases Nat.lt_or_ge (opN zs k) (opI zs m).length with h | h
    · exact h
    · rw [List.getElem?_eq_none h] at hg; cases hg
  have e2 : (opI zs m)[opN zs k] = (k : Int) := by
    rw [List.getElem?_eq_getElem hlt] at hg
    exact Option.some.inj hg
  have hji : i = opN zs k := (List.getElem_inj (opI_nodup zs m)).1 (h3.trans e2.symm)
  exact ⟨k, zs[k], h1, by rw [List.getElem?_eq_getElem hi, h3], hk, h2, hji⟩
/-- A flow goes against a one-way pipe. -/
def agB (zs ix fs : List Int) (k : Nat) : Bool := (List.range k).any fun i => zs.getD (ix.getD i 0).toNat 0 == 2 && decide (fs.getD i 0 < 0)
theorem agB_zero (zs ix fs : List Int) : agB zs ix fs 0 = false := rfl
theorem agB_step (zs ix fs : List Int) (k : Nat) : agB zs ix fs (k + 1) = (agB zs ix fs k || (zs.getD (ix.getD k 0).toNat 0 == 2 && decide (fs.getD k 0 < 0))) := by
  unfold agB
  rw [List.range_succ, List.any_append]
  simp
theorem al_at {xs : List Int} (hz : zs.length = m) (hx : xs.length = m) : alB zs xs = true ↔ ∀ k, k < m → okA (zs.getD k 0) (xs.getD k 0) = true := by
  unfold alB
  rw [List.all_eq_true]
  constructor
  · intro h k hk
    have := h (zs[k], xs[k]) (List.mem_iff_getElem.2 ⟨k, by rw [List.length_zip]; omega, by simp⟩)
    simpa [List.getD, show k < zs.length by omega, show k < xs.length by omega] using this
  · intro h p hp
    obtain ⟨k, hk, rfl⟩ := List.mem_iff_getElem.1 hp
    rw [List.length_zip] at hk
    have := h k (by omega)
    simpa [List.getD, show k < zs.length by omega, show k < xs.length by omega] using this
theorem al_ag (hz : zs.length = m) (hl : (opI zs m).length = fs.length) : alB zs (spr m ((opI zs m).zip fs)) = !agB zs (opI zs m) fs fs.length := by
  have key : alB zs (spr m ((opI zs m).zip fs)) = true ↔ agB zs (opI zs m) fs fs.length = false := by
    rw [al_at hz (spr_len _ _)]
    constructor
    · intro h
      unfold agB
      rw [List.any_eq_false]
      intro i hi
      obtain ⟨k, z, h1, h2, h3, h4, h5⟩ := opI_spot hz (show i < (opI zs m).length by rw [hl]; exact List.mem_range.1 hi)
      have hk := h k h1
      rw [spr_open (by omega) hl h1 h3 h4, ← h5] at hk
      have e1 : (opI zs m).getD i 0 = (k : Int) := by rw [List.getD_eq_getElem?_getD, h2]; rfl
      have e2 : zs.getD k 0 = z := by rw [List.getD_eq_getElem?_getD, h3]; rfl
      rw [e1, show ((k : Int)).toNat = k from rfl, e2]
      rw [e2] at hk
      unfold okA at hk
      simp only [Bool.and_eq_true, Bool.not_eq_true'] at hk
      rw [hk.2]
      simp
    · intro h k hk
      have hkz : zs[k]? = some zs[k] := List.getElem?_eq_getElem (by omega)
      have e2 : zs.getD k 0 = zs[k] := by rw [List.getD_eq_getElem?_getD, hkz]; rfl
      rw [e2]
      by_cases h0 : zs[k] = 0
      · rw [spr_shut hl hkz h0, h0]
        rfl
      · have hg := opI_get (m := m) (by omega) hk hkz h0
        have hlt : opN zs k < (opI zs m).length := by
          rcases Nat.lt_or_ge (opN zs k) (opI zs m).length with h | h
          · exact h
          · rw [List.getElem?_eq_none h] at hg; cases hg
        unfold agB at h
        rw [List.any_eq_false] at h
        have h9 := h (opN zs k) (List.mem_range.2 (by omega))
        rw [show (opI zs m).getD (opN zs k) 0 = (k : Int) by rw [List.getD_eq_getElem?_getD, hg]; rfl, show ((k : Int)).toNat = k from rfl, e2] at h9
        rw [spr_open (by omega) hl hk hkz h0]
        unfold okA
        have h8 : (zs[k] == 0) = false := by simpa using h0
        rw [h8]
        simp at h9 ⊢
        by_cases hz2 : zs[k] = 2
        · exact .inr (h9 hz2)
        · exact .inl hz2
  cases h1 : alB zs (spr m ((opI zs m).zip fs)) <;> cases h2 : agB zs (opI zs m) fs fs.length
  · rw [h1, h2] at key; simp at key
  · rfl
  · rfl
  · rw [h1, h2] at key; simp at key
theorem sumN_list (l : List Int) : sumN l.length (fun i => l.getD i 0) = l.sum := by
  suffices h : ∀ k, k ≤ l.length → sumN k (fun i => l.getD i 0) = (l.take k).sum by
    rw [h _ (Nat.le_refl _), List.take_length]
  intro k
  induction k with
  | zero => intro _; rfl
  | succ k ih =>
    intro hk
    rw [sumN, ih (by omega), List.take_add_one, List.sum_append]
    have : l[k]? = some l[k] := List.getElem?_eq_getElem (by omega)
    simp [List.getD, this]
theorem spr_total (hz : zs.length = m) (hl : (opI zs m).length = fs.length) : (spr m ((opI zs m).zip fs)).sum = fs.sum := by
  have h := spr_sum (G := fun _ x => x) (fun _ => rfl) hz hl m (Nat.le_refl _)
  rw [show opN zs m = fs.length from hl, sumN_list] at h
  rw [← sumN_list, spr_len]
  exact h
theorem opP_spot (hz : zs.length = m) (hp : ps.length = m) {i k : Nat} (h : (opI zs m)[i]? = some (k : Int)) : (opP ps zs m)[i]? = ps[k]? := by
  have hi : i < (opI zs m).length := (List.getElem?_eq_some_iff.1 h).1
  obtain ⟨k', z, h1, h2, h3, h4, h5⟩ := opI_spot hz hi
  have : k' = k := by rw [h2] at h; injection h with h; omega
  subst this
  have hpp : ps[k']? = some ps[k'] := List.getElem?_eq_getElem (by omega)
  rw [h5, hpp]
  exact opP_get (by omega) (by omega) h1 h3 hpp h4
end
end Go.Proofs.Ytebefamekjjbcaa
