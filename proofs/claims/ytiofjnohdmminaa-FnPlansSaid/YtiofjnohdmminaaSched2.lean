/- The best plan keeps the rules, and none that keeps them costs less. No program in sight. -/
import Derived.Test.YtiofjnohdmminaaSched
import Derived.Test.YtiofjnohdmminaaPlan
import Derived.Test.YtiofjnohdmminaaCost
set_option linter.unusedVariables false
namespace Go.Proofs.Ytiofjnohdmminaa

/-- A sequence of hours that the rules allow from a state on. -/
def acc (u d : Int) : List Int → Int → Int → Prop
  | [], _, _ => True
  | x :: zs, on, long => ¬ (x ≠ on ∧ long < capO u d on) ∧ acc u d zs x (nxt (capO u d) on long x)
/-- What it costs. -/
def costR (s : Int) : List (Int × Int) → List Int → Int → Int
  | (c, _) :: l, x :: zs, on => stepC s c on x + costR s l zs x
  | _, _, _ => 0
/-- It is on where it must be. -/
def musts : List (Int × Int) → List Int → Prop
  | (_, m) :: l, x :: zs => m ≤ x ∧ musts l zs
  | _, _ => True
theorem plan_len {s u d : Int} {cp : Int → Int} : ∀ (l : List (Int × Int)) (on long : Int), (plan s u d cp l on long).length = l.length
  | [], _, _ => rfl
  | (c, m) :: l, on, long => by
    rw [plan]
    split <;> rw [List.length_cons, List.length_cons, plan_len l]
theorem plan_ok {s u d : Int} : ∀ (l : List (Int × Int)) (on long t : Int), lst s u d (capO u d) l on long = some t →
    acc u d (plan s u d (capO u d) l on long) on long ∧ costR s l (plan s u d (capO u d) l on long) on = t ∧ musts l (plan s u d (capO u d) l on long) ∧ ∀ x ∈ plan s u d (capO u d) l on long, x = 0 ∨ x = 1
  | [], on, long, t, h => by
    simp [lst] at h
    exact ⟨trivial, h, trivial, fun x hx => absurd hx List.not_mem_nil⟩
  | (c, m) :: l, on, long, t, h => by
    have key : ∀ x, (x = 0 ∨ x = 1) → stp s u d (capO u d) c m (lst s u d (capO u d) l) on long x = some t →
        acc u d (x :: plan s u d (capO u d) l x (nxt (capO u d) on long x)) on long ∧ costR s ((c, m) :: l) (x :: plan s u d (capO u d) l x (nxt (capO u d) on long x)) on = t ∧ musts ((c, m) :: l) (x :: plan s u d (capO u d) l x (nxt (capO u d) on long x)) ∧ ∀ y ∈ x :: plan s u d (capO u d) l x (nxt (capO u d) on long x), y = 0 ∨ y = 1 := by
      intro x hx01 hx
      unfold stp at hx
      split at hx
      · rename_i ho
        cases hr : lst s u d (capO u d) l x (nxt (capO u d) on long x) with
        | none => rw [hr] at hx; cases hx
        | some r =>
          rw [hr] at hx
          simp at hx
          obtain ⟨h1, h2, h3, h4⟩ := plan_ok l x _ r hr
          unfold okS at ho
          refine ⟨⟨fun hh => ho (.inr hh), h1⟩, ?_, ⟨?_, h3⟩, fun y hy => ?_⟩
          · show stepC s c on x + costR s l _ x = t
            rw [h2]; exact hx
          · rcases Int.lt_or_le x m with hh | hh
            · exact absurd (.inl hh) ho
            · exact hh
          · rcases List.mem_cons.1 hy with rfl | hy
            · exact hx01
            · exact h4 y hy
      · cases hx
    rw [plan]
    by_cases h0 : stp s u d (capO u d) c m (lst s u d (capO u d) l) on long 0 = lst s u d (capO u d) ((c, m) :: l) on long
    · rw [if_pos h0]
      exact key 0 (.inl rfl) (h0.trans h)
    · rw [if_neg h0]
      have h' : omin (stp s u d (capO u d) c m (lst s u d (capO u d) l) on long 0) (stp s u d (capO u d) c m (lst s u d (capO u d) l) on long 1) = some t := h
      rcases omin_some h' with h1 | h1
      · exact absurd (h1.trans h.symm) h0
      · exact key 1 (.inr rfl) h1
theorem omin_le {a b : Option Int} {t : Int} (h : a = some t ∨ b = some t) : ∃ r, omin a b = some r ∧ r ≤ t := by
  cases a with
  | none =>
    rcases h with h | h
    · cases h
    · exact ⟨t, by simp [omin, h], Int.le_refl _⟩
  | some a =>
    cases b with
    | none =>
      rcases h with h | h
      · exact ⟨a, rfl, by injection h with h; omega⟩
      · cases h
    | some b =>
      refine ⟨min a b, rfl, ?_⟩
      rcases h with h | h <;> injection h with h <;> omega
theorem lst_least {s u d : Int} : ∀ (l : List (Int × Int)) (zs : List Int) (on long : Int), zs.length = l.length → (∀ x ∈ zs, x = 0 ∨ x = 1) → acc u d zs on long → musts l zs → ∃ t, lst s u d (capO u d) l on long = some t ∧ t ≤ costR s l zs on
  | [], zs, on, long, hl, _, _, _ => by
    have : zs = [] := List.length_eq_zero_iff.1 hl
    subst this
    exact ⟨0, rfl, Int.le_refl _⟩
  | (c, m) :: l, [], on, long, hl, _, _, _ => by simp at hl
  | (c, m) :: l, x :: zs, on, long, hl, hb, ha, hm => by
    obtain ⟨r, hr, hle⟩ := lst_least (s := s) l zs x (nxt (capO u d) on long x) (by simpa using hl) (fun y hy => hb y (List.mem_cons_of_mem _ hy)) ha.2 hm.2
    have hst : stp s u d (capO u d) c m (lst s u d (capO u d) l) on long x = some (stepC s c on x + r) := by
      unfold stp
      have ho : okS u d m on long x := by
        unfold okS
        rintro (h | h)
        · have := hm.1; omega
        · exact ha.1 h
      rw [if_pos ho, hr]
      rfl
    have h01 : stp s u d (capO u d) c m (lst s u d (capO u d) l) on long 0 = some (stepC s c on x + r) ∨ stp s u d (capO u d) c m (lst s u d (capO u d) l) on long 1 = some (stepC s c on x + r) := by
      rcases hb x List.mem_cons_self with rfl | rfl
      · exact .inl hst
      · exact .inr hst
    obtain ⟨t, ht, htl⟩ := omin_le h01
    refine ⟨t, ht, ?_⟩
    show t ≤ stepC s c on x + costR s l zs x
    omega
/-- The state behind an hour of a plan, told by the hour at which its sequence began. -/
def stOk (u d on long : Int) (a i : Nat) : Prop := long = if on = 0 ∧ a = 0 then d else min (capO u d on) ((i : Int) + 1 - (a : Int))
theorem brk_acc {u d : Int} (hu : 1 ≤ u) (hd : 1 ≤ d) {zs : List Int} (hb : ∀ x ∈ zs, x = 0 ∨ x = 1) : ∀ (f a i : Nat) (on long : Int), i + f + 1 = zs.length → a ≤ i → zs[i]? = some on → stOk u d on long a i → (brk zs u d f a i = -1 ↔ acc u d (zs.drop (i + 1)) on long) ∧ -1 ≤ brk zs u d f a i
  | 0, a, i, on, long, hl, ha, hi, hs => by
    rw [List.drop_eq_nil_of_le (by omega)]
    exact ⟨⟨fun _ => trivial, fun _ => rfl⟩, by rw [brk]; omega⟩
  | f + 1, a, i, on, long, hl, ha, hi, hs => by
    have hy : zs[i + 1]? = some (zs[i + 1]'(by omega)) := List.getElem?_eq_getElem (by omega)
    have hd1 : zs.drop (i + 1) = zs[i + 1]'(by omega) :: zs.drop (i + 1 + 1) := List.drop_eq_getElem_cons (by omega)
    generalize zs[i + 1]'(by omega) = y at hy hd1
    have hon := hb on (List.mem_of_getElem? hi)
    rw [hd1]
    unfold stOk at hs
    by_cases e : on = y
    · subst e
      have hn : stOk u d on (nxt (capO u d) on long on) a (i + 1) := by
        unfold stOk nxt capO at *
        rw [if_pos rfl, hs]
        rcases hon with rfl | rfl
        · by_cases h0 : a = 0
          · simp [h0]; omega
          · simp [h0]; omega
        · simp; omega
      have ih := brk_acc hu hd hb f a (i + 1) on (nxt (capO u d) on long on) (by omega) (by omega) hy hn
      rw [brk, if_pos (by rw [hi, hy])]
      refine ⟨ih.1.trans ⟨fun h => ⟨fun hh => hh.1 rfl, h⟩, fun h => h.2⟩, ih.2⟩
    · rw [brk, if_neg (by rw [hi, hy]; intro hh; exact e (Option.some.inj hh))]
      have hlong : long < capO u d on ↔ ((zs[i]? = some 1 ∧ (i : Int) + 1 - a < u) ∨ (zs[i]? = some 0 ∧ 0 < a ∧ (i : Int) + 1 - a < d)) := by
        rw [hi, hs]
        unfold capO
        rcases hon with rfl | rfl
        · by_cases h0 : a = 0
          · simp [h0]
          · simp [h0]; omega
        · simp; omega
      by_cases hc : (zs[i]? = some 1 ∧ (i : Int) + 1 - a < u) ∨ (zs[i]? = some 0 ∧ 0 < a ∧ (i : Int) + 1 - a < d)
      · rw [if_pos hc]
        exact ⟨⟨fun h => by omega, fun h => absurd ⟨fun hh => e hh.symm, hlong.2 hc⟩ h.1⟩, by omega⟩
      · rw [if_neg hc]
        have hn : stOk u d y (nxt (capO u d) on long y) (i + 1) (i + 1) := by
          unfold stOk nxt capO
          rw [if_neg (fun hh => e hh.symm)]
          simp
          split <;> omega
        have ih := brk_acc hu hd hb f (i + 1) (i + 1) y (nxt (capO u d) on long y) (by omega) (by omega) hy hn
        refine ⟨ih.1.trans ⟨fun h => ⟨fun hh => hc (hlong.1 hh.2), h⟩, fun h => h.2⟩, ih.2⟩
/-- A plan keeps the rules exactly if they allow it hour by hour. -/
theorem keeps_acc {u d : Int} (hu : 1 ≤ u) (hd : 1 ≤ d) {zs : List Int} (hn : 0 < zs.length) (hb : ∀ x ∈ zs, x = 0 ∨ x = 1) : brk zs u d (zs.length - 1) 0 0 < 0 ↔ acc u d zs 0 d := by
  have hx : zs[0]? = some zs[0] := List.getElem?_eq_getElem hn
  have hd0 : zs = zs[0] :: zs.drop 1 := by
    have := List.drop_eq_getElem_cons hn
    simpa using this
  generalize zs[0] = x at hx hd0
  have hxb := hb x (List.mem_of_getElem? hx)
  have hs : stOk u d x (nxt (capO u d) 0 d x) 0 0 := by
    unfold stOk nxt capO
    rcases hxb with rfl | rfl
    · simp; omega
    · simp; omega
  obtain ⟨h1, h2⟩ := brk_acc hu hd hb (zs.length - 1) 0 0 x _ (by omega) (Nat.le_refl _) hx hs
  have h3 : acc u d zs 0 d ↔ acc u d (zs.drop 1) x (nxt (capO u d) 0 d x) := by
    rw [hd0]
    show (_ ∧ acc u d (zs.drop 1) x _) ↔ acc u d ((x :: zs.drop 1).drop 1) x _
    refine ⟨fun h => h.2, fun h => ⟨fun hh => ?_, h⟩⟩
    have := hh.2
    unfold capO at this
    simp at this
  rw [h3, ← h1]
  omega
/-- The cost of a plan, hour by hour. -/
theorem cost_costR {s : Int} {zs cs ms : List Int} (hb : ∀ x ∈ zs, x = 0 ∨ x = 1) (hc : cs.length = zs.length) (hm : ms.length = zs.length) : ∀ (f k : Nat), k + f = zs.length → costTo s zs cs zs.length = costTo s zs cs k + costR s ((cs.zip ms).drop k) (zs.drop k) (if k = 0 then 0 else zs.getD (k - 1) 0)
  | 0, k, hk => by
    have : k = zs.length := by omega
    subst this
    rw [List.drop_length]
    cases (cs.zip ms).drop zs.length with
    | nil => simp [costR]
    | cons a l => simp [costR]
  | f + 1, k, hk => by
    have hkz : k < zs.length := by omega
    have hkl : k < (cs.zip ms).length := by rw [List.length_zip]; omega
    rw [cost_costR hb hc hm f (k + 1) (by omega), costTo, List.drop_eq_getElem_cons hkz, List.drop_eq_getElem_cons hkl, if_neg (show ¬ k + 1 = 0 by omega)]
    have hzk : zs.getD k 0 = zs[k] := by simp [List.getD, hkz]
    have hck : cs.getD k 0 = cs[k] := by simp [List.getD, show k < cs.length by omega]
    have e : (cs.zip ms)[k] = (cs[k], ms[k]) := by simp
    rw [e]
    show _ = costTo s zs cs k + (stepC s cs[k] _ zs[k] + costR s ((cs.zip ms).drop (k + 1)) (zs.drop (k + 1)) zs[k])
    rw [Nat.add_sub_cancel, hzk, hck]
    have hx := hb zs[k] (List.getElem_mem hkz)
    have hprev : (if k = 0 then (0 : Int) else zs.getD (k - 1) 0) = 0 ∨ (if k = 0 then (0 : Int) else zs.getD (k - 1) 0) = 1 := by
      split
      · exact .inl rfl
      · have hk1 : k - 1 < zs.length := by omega
        have := hb zs[k - 1] (List.getElem_mem hk1)
        simpa [List.getD, hk1] using this
    have hp2 : (k = 0 ∨ zs.getD (k - 1) 0 = 0) ↔ (if k = 0 then (0 : Int) else zs.getD (k - 1) 0) = 0 := by
      by_cases h0 : k = 0
      · simp [h0]
      · simp [h0]
    unfold stepC
    rcases hx with hx | hx
    · rw [hx]; simp
    · rw [hx, if_pos rfl, if_pos rfl]
      rcases hprev with hp | hp
      · rw [if_pos (hp2.2 hp), hp, if_neg (by omega)]; omega
      · rw [if_neg (fun hh => by have := hp2.1 hh; omega), hp, if_pos rfl]; omega
end Go.Proofs.Ytiofjnohdmminaa
