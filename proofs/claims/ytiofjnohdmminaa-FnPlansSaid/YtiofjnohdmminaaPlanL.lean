/- What the plans are good for, in plain terms: they keep the rules, cost what is told, and none costs less. No program in sight. -/
import Derived.Test.YtiofjnohdmminaaBestP
import Derived.Test.YtiofjnohdmminaaPlanCost
import Derived.Test.YtiofjnohdmminaaRules
set_option linter.unusedVariables false
namespace Go.Proofs.Ytiofjnohdmminaa

theorem all_bits {zs : List Int} (h : ∀ x ∈ zs, x = 0 ∨ x = 1) : allB zs 0 1 = true := by
  unfold allB
  rw [List.all_eq_true]
  intro x hx
  rcases h x hx with rfl | rfl <;> rfl
theorem bits_of {zs : List Int} (h : allB zs 0 1 = true) : ∀ x ∈ zs, x = 0 ∨ x = 1 := by
  intro x hx
  obtain ⟨i, hi⟩ := List.getElem?_of_mem hx
  have := all_at h hi
  omega
theorem fp_ok {s u d : Int} {cs ms : List Int} (h : fpCode s u d cs ms = 0) :
    unitB s u d = true ∧ inB cs.length 1 48 = true ∧ allB cs (-1000000) 1000000 = true ∧ allB ms 0 1 = true ∧ ms.length = cs.length ∧ lst s u d (capO u d) (cs.zip ms) 0 d = some (fpCost s u d cs ms) ∧ fpPlan s u d cs ms = plan s u d (capO u d) (cs.zip ms) 0 d := by
  have h0 := h
  unfold fpCode at h
  cases h1 : unitB s u d
  · simp [h1] at h
  cases h2 : inB (cs.length : Int) 1 48
  · simp [h1, h2] at h
  cases h3 : inB (ms.length : Int) 1 48
  · simp [h1, h2, h3] at h
  cases h4 : allB cs (-1000000) 1000000
  · simp [h1, h2, h3, h4] at h
  cases h5 : allB ms 0 1
  · simp [h1, h2, h3, h4, h5] at h
  cases h6 : ((cs.length : Int) != ms.length)
  case true => simp [h1, h2, h3, h4, h5, h6] at h
  have h7 : (cs.length : Int) = ms.length := by simpa using h6
  cases hl : lst s u d (capO u d) (cs.zip ms) 0 d with
  | none => simp [h1, h2, h3, h4, h5, h6, hl] at h
  | some t =>
    refine ⟨rfl, rfl, rfl, rfl, by omega, ?_, by unfold fpPlan; rw [if_pos h0]⟩
    unfold fpCost
    rw [if_pos h0, hl]
    rfl
theorem fp_code {s u d : Int} {cs ms : List Int} (h1 : unitB s u d = true) (h2 : inB cs.length 1 48 = true) (h4 : allB cs (-1000000) 1000000 = true) (h5 : allB ms 0 1 = true) (hm : ms.length = cs.length) {t : Int} (hl : lst s u d (capO u d) (cs.zip ms) 0 d = some t) :
    fpCode s u d cs ms = 0 ∧ fpCost s u d cs ms = t := by
  have h0 : fpCode s u d cs ms = 0 := by
    unfold fpCode
    rw [hm, hl]
    simp [h1, h2, h4, h5]
  exact ⟨h0, by unfold fpCost; rw [if_pos h0, hl]; rfl⟩
theorem fp_plan {s u d : Int} {cs ms : List Int} (h : fpCode s u d cs ms = 0) : (fpPlan s u d cs ms).length = cs.length ∧ (∀ x ∈ fpPlan s u d cs ms, x = 0 ∨ x = 1) ∧ acc u d (fpPlan s u d cs ms) 0 d ∧ costR s (cs.zip ms) (fpPlan s u d cs ms) 0 = fpCost s u d cs ms ∧ musts (cs.zip ms) (fpPlan s u d cs ms) := by
  obtain ⟨_, _, _, _, hm, hl, hp⟩ := fp_ok h
  rw [hp]
  obtain ⟨a, b, c, e⟩ := plan_ok (s := s) (u := u) (d := d) (cs.zip ms) 0 d _ hl
  refine ⟨?_, e, a, b, c⟩
  rw [plan_len, List.length_zip]
  omega
theorem cost_of {s u d : Int} {zs cs ms : List Int} (h1 : unitB s u d = true) (h2 : inB cs.length 1 48 = true) (h4 : allB cs (-1000000) 1000000 = true) (hl : zs.length = cs.length) (hb : ∀ x ∈ zs, x = 0 ∨ x = 1) (hm : ms.length = cs.length) :
    costCode s u d zs.length cs.length zs cs = 0 ∧ costVal s u d zs.length cs.length zs cs = costR s (cs.zip ms) zs 0 := by
  have h0 : costCode s u d zs.length cs.length zs cs = 0 := by
    unfold costCode
    rw [hl]
    simp [h1, h2, h4, all_bits hb]
  refine ⟨h0, ?_⟩
  unfold costVal
  rw [if_pos h0]
  have := cost_costR (s := s) (ms := ms) hb hl.symm (by omega) zs.length 0 (by omega)
  rw [this]
  simp [costTo]
theorem keeps_of {s u d : Int} {zs : List Int} (h1 : unitB s u d = true) (h2 : inB zs.length 1 48 = true) (hb : ∀ x ∈ zs, x = 0 ∨ x = 1) : keepsB s u d zs = true ↔ acc u d zs 0 d := by
  have hu := unitB_at h1
  have hn := (inB_iff _ _ _).1 h2
  have h0 : planCode s u d zs.length zs = 0 := by simp [planCode, h1, h2, all_bits hb]
  rw [← keeps_acc hu.2.1.1 hu.2.2.1 (show 0 < zs.length by omega) hb]
  unfold keepsB
  rw [h0]
  simp
/-- A plan as told keeps the rules and costs what is told. -/
theorem fp_cost {s u d : Int} {cs ms : List Int} (h : fpCode s u d cs ms = 0) : costCode s u d (fpPlan s u d cs ms).length cs.length (fpPlan s u d cs ms) cs = 0 ∧ costVal s u d (fpPlan s u d cs ms).length cs.length (fpPlan s u d cs ms) cs = fpCost s u d cs ms ∧ keepsB s u d (fpPlan s u d cs ms) = true := by
  obtain ⟨h1, h2, h4, h5, hm, hl, hp⟩ := fp_ok h
  obtain ⟨p1, p2, p3, p4, p5⟩ := fp_plan h
  obtain ⟨c1, c2⟩ := cost_of (ms := ms) h1 h2 h4 p1 p2 hm
  exact ⟨c1, c2.trans p4, (keeps_of h1 (by rw [p1]; exact h2) p2).2 p3⟩
theorem costR_any {s : Int} : ∀ (cs ms ms' zs : List Int) (on : Int), ms.length = cs.length → ms'.length = cs.length → costR s (cs.zip ms) zs on = costR s (cs.zip ms') zs on
  | [], ms, ms', zs, on, _, _ => by simp [costR]
  | c :: cs, [], ms', zs, on, h, _ => by simp at h
  | c :: cs, m :: ms, [], zs, on, _, h => by simp at h
  | c :: cs, m :: ms, m' :: ms', [], on, _, _ => by simp [costR]
  | c :: cs, m :: ms, m' :: ms', x :: zs, on, h, h' => by
    have := costR_any (s := s) cs ms ms' zs x (by simpa using h) (by simpa using h')
    simp only [List.zip_cons_cons, costR, this]
theorem musts_zer : ∀ (cs zs : List Int) (n : Nat), (∀ x ∈ zs, x = 0 ∨ x = 1) → musts (cs.zip (zer n)) zs
  | [], zs, n, _ => by simp [musts]
  | c :: cs, zs, 0, _ => by simp [zer, musts]
  | c :: cs, [], n + 1, _ => by simp [zer, List.replicate_succ, musts]
  | c :: cs, x :: zs, n + 1, h => by
    have := musts_zer cs zs n (fun y hy => h y (List.mem_cons_of_mem _ hy))
    have hx := h x List.mem_cons_self
    unfold zer at this ⊢
    rw [List.replicate_succ, List.zip_cons_cons]
    exact ⟨by omega, this⟩
theorem musts_at {cs ms zs : List Int} (h : musts (cs.zip ms) zs) : ∀ (i : Nat) (m x : Int), i < cs.length → ms[i]? = some m → zs[i]? = some x → m ≤ x := by
  induction cs generalizing ms zs with
  | nil => intro i m x hi; simp at hi
  | cons c cs ih =>
    intro i m x hi hm hx
    cases ms with
    | nil => simp at hm
    | cons m0 ms =>
      cases zs with
      | nil => simp at hx
      | cons x0 zs =>
        obtain ⟨a, b⟩ := h
        cases i with
        | zero =>
          simp at hm hx
          subst hm hx
          exact a
        | succ i => exact ih b i m x (by simpa using hi) (by simpa using hm) (by simpa using hx)
/-- No plan that keeps the rules costs less than the best one. -/
theorem best_le {s u d : Int} {cs O : List Int} (h1 : unitB s u d = true) (h2 : inB cs.length 1 48 = true) (h4 : allB cs (-1000000) 1000000 = true) (hl : O.length = cs.length) (hb : ∀ x ∈ O, x = 0 ∨ x = 1) (hk : acc u d O 0 d) :
    fpCode s u d cs (zer cs.length) = 0 ∧ fpCost s u d cs (zer cs.length) ≤ costVal s u d O.length cs.length O cs := by
  obtain ⟨t, ht, hle⟩ := lst_least (s := s) (u := u) (d := d) (cs.zip (zer cs.length)) O 0 d (by rw [List.length_zip, zer_len]; omega) hb hk (musts_zer cs O _ hb)
  obtain ⟨f1, f2⟩ := fp_code h1 h2 h4 (zer_bits cs.length) (zer_len _) ht
  refine ⟨f1, ?_⟩
  rw [f2, (cost_of (ms := zer cs.length) h1 h2 h4 hl hb (zer_len _)).2]
  exact hle
/-- A forced plan costs at least as much as the best one. -/
theorem forced_best {s u d : Int} {cs ms : List Int} (h : fpCode s u d cs ms = 0) : fpCode s u d cs (zer cs.length) = 0 ∧ fpCost s u d cs (zer cs.length) ≤ fpCost s u d cs ms := by
  obtain ⟨h1, h2, h4, h5, hm, hl, hp⟩ := fp_ok h
  obtain ⟨p1, p2, p3, p4, p5⟩ := fp_plan h
  obtain ⟨b1, b2⟩ := best_le h1 h2 h4 p1 p2 p3
  refine ⟨b1, ?_⟩
  rw [(fp_cost h).2.1] at b2
  exact b2
end Go.Proofs.Ytiofjnohdmminaa
