/- The ranges of ratios and flows are just the possible points: plain arithmetic, no program. No condition but a valid compressor and a point in its ranges. -/
import Derived.Test.YtgchbajhceddnaaRatioR
set_option linter.unusedVariables false
set_option maxRecDepth 100000
namespace Go.Proofs.Ytgchbajhceddnaa

theorem cut_iff {lo hi a b x : Int} : (cutLo lo a b ≤ x ∧ x ≤ cutHi lo hi a b) ↔ (lo ≤ x ∧ x ≤ hi ∧ a * x ≤ b) := by
  by_cases ha : 0 < a
  · have e1 : cutLo lo a b = lo := by unfold cutLo; rw [if_neg (by omega)]
    have e2 : x ≤ b / a ↔ a * x ≤ b := by rw [Int.le_ediv_iff_mul_le ha, Int.mul_comm]
    rw [e1, ← e2]
    unfold cutHi
    rw [if_pos ha]
    split <;> omega
  · by_cases hb : a < 0
    · have e1 : cutHi lo hi a b = hi := by unfold cutHi; rw [if_neg ha, if_pos hb]
      have e2 : b / a ≤ x ↔ a * x ≤ b := by
        have h1 : -x ≤ b / -a ↔ -x * -a ≤ b := Int.le_ediv_iff_mul_le (by omega)
        rw [Int.neg_mul_neg, Int.mul_comm, Int.ediv_neg] at h1
        rw [← h1]
        omega
      rw [e1, ← e2]
      unfold cutLo
      rw [if_pos hb]
      split <;> omega
    · obtain rfl : a = 0 := by omega
      unfold cutLo cutHi
      simp
      split <;> omega
theorem cutTo_iff {lo hi x : Int} {ps : List (Int × Int)} (k : Nat) : ((cutTo lo hi ps k).1 ≤ x ∧ x ≤ (cutTo lo hi ps k).2) ↔ (lo ≤ x ∧ x ≤ hi ∧ ∀ (i : Nat) (p : Int × Int), i < k → ps[i]? = some p → p.1 * x ≤ p.2) := by
  induction k with
  | zero =>
    simp only [cutTo]
    constructor
    · intro h
      exact ⟨h.1, h.2, fun i p hi => absurd hi (by omega)⟩
    · intro h
      exact ⟨h.1, h.2.1⟩
  | succ k ih =>
    cases hk : ps[k]? with
    | none =>
      rw [cutTo, hk, ih]
      constructor
      · intro ⟨h1, h2, h3⟩
        refine ⟨h1, h2, fun i p hi hp => ?_⟩
        by_cases e : i = k
        · subst e; rw [hk] at hp; cases hp
        · exact h3 i p (by omega) hp
      · intro ⟨h1, h2, h3⟩
        exact ⟨h1, h2, fun i p hi hp => h3 i p (by omega) hp⟩
    | some p =>
      rw [cutTo_step hk, cut_iff]
      constructor
      · intro ⟨h1, h2, h3⟩
        obtain ⟨a1, a2, a3⟩ := ih.1 ⟨h1, h2⟩
        refine ⟨a1, a2, fun i y hi hy => ?_⟩
        by_cases e : i = k
        · subst e
          rw [hk] at hy
          injection hy with hy
          subst hy
          exact h3
        · exact a3 i y (by omega) hy
      · intro ⟨h1, h2, h3⟩
        obtain ⟨a1, a2⟩ := ih.2 ⟨h1, h2, fun i y hi hy => h3 i y (by omega) hy⟩
        exact ⟨a1, a2, h3 k p (by omega) hk⟩
theorem all_poss {fs : List Fc} {q r : Int} : fs.all (possF q r) = true ↔ ∀ (i : Nat) (f : Fc), fs[i]? = some f → f.p * q + f.q * r ≤ f.r := by
  rw [List.all_eq_true]
  constructor
  · intro h i f hf
    simpa [possF] using h f (List.mem_of_getElem? hf)
  · intro h f hf
    obtain ⟨i, hi, rfl⟩ := List.mem_iff_getElem.1 hf
    simpa [possF] using h i _ (List.getElem?_eq_getElem hi)
/-- A point is possible just if its ratio lies in the range of its flow. -/
theorem poss_ratio {fs : List Fc} {le q r : Int} (h1 : 1000 ≤ r) (h2 : r ≤ 3000) : possB fs le q r = true ↔ (ratLo fs q ≤ r ∧ r ≤ ratHi fs q ∧ le ≤ q) := by
  unfold possB ratLo ratHi
  rw [Bool.and_eq_true, decide_eq_true_eq, all_poss, ← and_assoc, cutTo_iff]
  constructor
  · intro ⟨h3, h4⟩
    refine ⟨⟨h1, h2, fun i p hi hp => ?_⟩, h4⟩
    simp only [pairsQ, List.getElem?_map, Option.map_eq_some_iff] at hp
    obtain ⟨f, hf, rfl⟩ := hp
    have := h3 i f hf
    simp only
    omega
  · intro ⟨⟨_, _, h3⟩, h4⟩
    refine ⟨fun i f hf => ?_, h4⟩
    have hi : i < fs.length := (List.getElem?_eq_some_iff.1 hf).1
    have := h3 i _ hi (pairsQ_at q hf)
    simp only at this
    omega
/-- .. and just if its flow lies in the range of its ratio. -/
theorem poss_flow {fs : List Fc} {le q r : Int} (h2 : q ≤ 30000) : possB fs le q r = true ↔ (floLo fs le r ≤ q ∧ q ≤ floHi fs le r) := by
  unfold possB floLo floHi
  rw [Bool.and_eq_true, decide_eq_true_eq, all_poss, cutTo_iff]
  constructor
  · intro ⟨h3, h4⟩
    refine ⟨h4, h2, fun i p hi hp => ?_⟩
    simp only [pairsP, List.getElem?_map, Option.map_eq_some_iff] at hp
    obtain ⟨f, hf, rfl⟩ := hp
    have := h3 i f hf
    simp only
    omega
  · intro ⟨h4, _, h3⟩
    refine ⟨fun i f hf => ?_, h4⟩
    have hi : i < fs.length := (List.getElem?_eq_some_iff.1 hf).1
    have := h3 i _ hi (pairsP_at r hf)
    simp only at this
    omega
/-- The range of ratios lies in 1000 to 3000, if it is not empty. -/
theorem rat_range {fs : List Fc} {q : Int} (h : ratLo fs q ≤ ratHi fs q) : 1000 ≤ ratLo fs q ∧ ratHi fs q ≤ 3000 := by
  have a := (cutTo_iff (lo := 1000) (hi := 3000) (x := ratLo fs q) (ps := pairsQ q fs) fs.length).1 ⟨Int.le_refl _, h⟩
  have b := (cutTo_iff (lo := 1000) (hi := 3000) (x := ratHi fs q) (ps := pairsQ q fs) fs.length).1 ⟨h, Int.le_refl _⟩
  exact ⟨a.1, b.2.1⟩
theorem flo_range {fs : List Fc} {le r : Int} (h : floLo fs le r ≤ floHi fs le r) : le ≤ floLo fs le r ∧ floHi fs le r ≤ 30000 := by
  have a := (cutTo_iff (lo := le) (hi := 30000) (x := floLo fs le r) (ps := pairsP r fs) fs.length).1 ⟨Int.le_refl _, h⟩
  have b := (cutTo_iff (lo := le) (hi := 30000) (x := floHi fs le r) (ps := pairsP r fs) fs.length).1 ⟨h, Int.le_refl _⟩
  exact ⟨a.1, b.2.1⟩
end Go.Proofs.Ytgchbajhceddnaa
