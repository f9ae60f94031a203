/- The search in a graph, as a plain function: what it visits, and by which pipes. No program in sight. -/
set_option linter.unusedVariables false
namespace Go.Proofs.Ythlencpbekjekaa

abbrev Es := List (Nat × Nat)
def efr (es : Es) (i : Nat) : Nat := (es.getD i (0, 0)).1
def eto (es : Es) (i : Nat) : Nat := (es.getD i (0, 0)).2
/-- The pipes at a node. -/
def inc (es : Es) (v : Nat) : List Nat := (List.range es.length).filter fun i => efr es i == v || eto es i == v
def oth (es : Es) (i v : Nat) : Nat := if efr es i = v then eto es i else efr es i
/-- What the search has found: the nodes in order, and the entry of each node. -/
structure St where
  ord : List Nat
  ent : List (Option Nat)
def visit (es : Es) (v : Nat) (st : St) (i : Nat) : St := if oth es i v ∈ st.ord then st else ⟨st.ord ++ [oth es i v], st.ent.set (oth es i v) (some i)⟩
def stepB (es : Es) (st : St) (k : Nat) : St := match st.ord[k]? with | none => st | some v => (inc es v).foldl (visit es v) st
def bfsTo (es : Es) (n s : Nat) : Nat → St
  | 0 => ⟨[s], List.replicate n none⟩
  | k + 1 => stepB es (bfsTo es n s k) k
def bfs (es : Es) (n s : Nat) : St := bfsTo es n s n
def Good (es : Es) (n : Nat) : Prop := ∀ i, i < es.length → efr es i < n ∧ eto es i < n ∧ efr es i ≠ eto es i

theorem inc_mem {es : Es} {v i : Nat} : i ∈ inc es v ↔ i < es.length ∧ (efr es i = v ∨ eto es i = v) := by
  unfold inc
  rw [List.mem_filter, List.mem_range]
  simp
theorem oth_lt {es : Es} {n i v : Nat} (hg : Good es n) (hi : i < es.length) : oth es i v < n := by
  have := hg i hi
  unfold oth
  split <;> omega
theorem oth_ne {es : Es} {n i v : Nat} (hg : Good es n) (hi : i ∈ inc es v) : oth es i v ≠ v := by
  have h := inc_mem.1 hi
  have := hg i h.1
  unfold oth
  split <;> omega
theorem oth_oth {es : Es} {n i v : Nat} (hg : Good es n) (hi : i ∈ inc es v) : oth es i (oth es i v) = v := by
  have h := inc_mem.1 hi
  have := hg i h.1
  unfold oth
  by_cases h1 : efr es i = v
  · rw [if_pos h1, if_neg (by omega)]; exact h1
  · rw [if_neg h1, if_pos rfl]; omega
theorem inc_oth {es : Es} {i v : Nat} (hi : i ∈ inc es v) : i ∈ inc es (oth es i v) := by
  have h := inc_mem.1 hi
  refine inc_mem.2 ⟨h.1, ?_⟩
  unfold oth
  split
  · exact .inr rfl
  · exact .inl rfl
theorem ends_eq {es : Es} {n i v u : Nat} (hg : Good es n) (hv : i ∈ inc es v) (hu : i ∈ inc es u) (hne : u ≠ v) : u = oth es i v := by
  have h1 := inc_mem.1 hv
  have h2 := inc_mem.1 hu
  have := hg i h1.1
  unfold oth
  split <;> omega

/-- What holds all along the search. -/
structure Inv (es : Es) (n s : Nat) (st : St) : Prop where
  nd : st.ord.Nodup
  lt : ∀ v ∈ st.ord, v < n
  hd : st.ord[0]? = some s
  len : st.ent.length = n
  ent1 : ∀ v i, st.ent[v]? = some (some i) → i ∈ inc es v ∧ ∃ (p q : Nat), st.ord[p]? = some (oth es i v) ∧ st.ord[q]? = some v ∧ p < q
  ent2 : ∀ v ∈ st.ord, v ≠ s → ∃ i, st.ent[v]? = some (some i)
theorem pre_at {l l' : List Nat} (h : l <+: l') {p v : Nat} (hp : l[p]? = some v) : l'[p]? = some v := by
  obtain ⟨t, rfl⟩ := h
  rw [List.getElem?_append_left (List.getElem?_eq_some_iff.1 hp).1, hp]
theorem visit_inv {es : Es} {n s v k : Nat} {st : St} {i : Nat} (hg : Good es n) (h : Inv es n s st) (hk : st.ord[k]? = some v) (hi : i ∈ inc es v) :
    Inv es n s (visit es v st i) ∧ st.ord <+: (visit es v st i).ord ∧ oth es i v ∈ (visit es v st i).ord := by
  unfold visit
  split
  · rename_i hm
    exact ⟨h, List.prefix_refl _, hm⟩
  · rename_i hm
    have hil := (inc_mem.1 hi).1
    have ho := oth_lt (v := v) hg hil
    refine ⟨⟨?_, ?_, ?_, ?_, ?_, ?_⟩, List.prefix_append _ _, List.mem_append_right _ (List.mem_singleton.2 rfl)⟩
    · exact List.nodup_append.2 ⟨h.nd, List.nodup_cons.2 ⟨List.not_mem_nil, List.nodup_nil⟩, fun a ha b hb => by
        rw [List.mem_singleton.1 hb]
        rintro rfl
        exact hm ha⟩
    · intro u hu
      rcases List.mem_append.1 hu with hu | hu
      · exact h.lt u hu
      · rw [List.mem_singleton.1 hu]; exact ho
    · have := (List.getElem?_eq_some_iff.1 h.hd).1
      show (st.ord ++ [oth es i v])[0]? = some s
      rw [List.getElem?_append_left this]
      exact h.hd
    · show (st.ent.set _ _).length = n
      rw [List.length_set]; exact h.len
    · intro u j hu
      show j ∈ inc es u ∧ ∃ (p q : Nat), (st.ord ++ [oth es i v])[p]? = some (oth es j u) ∧ (st.ord ++ [oth es i v])[q]? = some u ∧ p < q
      have hu' : (st.ent.set (oth es i v) (some i))[u]? = some (some j) := hu
      by_cases he : oth es i v = u
      · subst he
        rw [List.getElem?_set_self (by rw [h.len]; exact ho)] at hu'
        injection hu' with hu'
        injection hu' with hu'
        subst hu'
        refine ⟨inc_oth hi, k, st.ord.length, ?_, ?_, (List.getElem?_eq_some_iff.1 hk).1⟩
        · rw [oth_oth hg hi, List.getElem?_append_left (List.getElem?_eq_some_iff.1 hk).1]; exact hk
        · simp
      · rw [List.getElem?_set_ne he] at hu'
        obtain ⟨h1, p, q, hp, hq, hpq⟩ := h.ent1 u j hu'
        exact ⟨h1, p, q, pre_at (List.prefix_append _ _) hp, pre_at (List.prefix_append _ _) hq, hpq⟩
    · intro u hu hus
      show ∃ j, (st.ent.set (oth es i v) (some i))[u]? = some (some j)
      by_cases he : oth es i v = u
      · subst he
        exact ⟨i, List.getElem?_set_self (by rw [h.len]; exact ho)⟩
      · rcases List.mem_append.1 hu with hu | hu
        · obtain ⟨j, hj⟩ := h.ent2 u hu hus
          exact ⟨j, by rw [List.getElem?_set_ne he]; exact hj⟩
        · exact absurd (List.mem_singleton.1 hu).symm he
theorem fold_inv {es : Es} {n s v k : Nat} (hg : Good es n) : ∀ (l : List Nat) (st : St), Inv es n s st → st.ord[k]? = some v → (∀ i ∈ l, i ∈ inc es v) →
    Inv es n s (l.foldl (visit es v) st) ∧ st.ord <+: (l.foldl (visit es v) st).ord ∧ ∀ i ∈ l, oth es i v ∈ (l.foldl (visit es v) st).ord := by
  intro l
  induction l with
  | nil => intro st h _ _; exact ⟨h, List.prefix_refl _, fun i hi => absurd hi List.not_mem_nil⟩
  | cons i l ih =>
    intro st h hk hl
    obtain ⟨h1, h2, h3⟩ := visit_inv hg h hk (hl i List.mem_cons_self)
    obtain ⟨h4, h5, h6⟩ := ih (visit es v st i) h1 (pre_at h2 hk) (fun j hj => hl j (List.mem_cons_of_mem _ hj))
    refine ⟨h4, h2.trans h5, fun j hj => ?_⟩
    rcases List.mem_cons.1 hj with rfl | hj
    · exact h5.subset h3
    · exact h6 j hj
theorem inv_start (es : Es) {n s : Nat} (hs : s < n) : Inv es n s ⟨[s], List.replicate n none⟩ := by
  refine ⟨List.nodup_cons.2 ⟨List.not_mem_nil, List.nodup_nil⟩, fun v hv => ?_, rfl, List.length_replicate, fun v i hv => ?_, fun v hv hne => absurd (List.mem_singleton.1 hv) hne⟩
  · rw [List.mem_singleton.1 hv]; exact hs
  · exfalso
    have hv' : (List.replicate n (none : Option Nat))[v]? = some (some i) := hv
    rw [List.getElem?_replicate] at hv'
    split at hv' <;> simp at hv'
theorem bfsTo_inv {es : Es} {n s : Nat} (hg : Good es n) (hs : s < n) : ∀ k, Inv es n s (bfsTo es n s k) ∧ ∀ p v, p < k → (bfsTo es n s k).ord[p]? = some v → ∀ i ∈ inc es v, oth es i v ∈ (bfsTo es n s k).ord := by
  intro k
  induction k with
  | zero => exact ⟨inv_start es hs, fun p v hp => absurd hp (by omega)⟩
  | succ k ih =>
    show Inv es n s (stepB es (bfsTo es n s k) k) ∧ ∀ p v, p < k + 1 → (stepB es (bfsTo es n s k) k).ord[p]? = some v → ∀ i ∈ inc es v, oth es i v ∈ (stepB es (bfsTo es n s k) k).ord
    unfold stepB
    cases hv : (bfsTo es n s k).ord[k]? with
    | none =>
      refine ⟨ih.1, fun p v hp hpv => ih.2 p v ?_ hpv⟩
      have h1 : p < (bfsTo es n s k).ord.length := (List.getElem?_eq_some_iff.1 hpv).1
      have h2 := List.getElem?_eq_none_iff.1 hv
      omega
    | some v =>
      obtain ⟨h1, h2, h3⟩ := fold_inv hg (inc es v) _ ih.1 hv (fun i hi => hi)
      refine ⟨h1, fun p u hp hpu i hi => ?_⟩
      by_cases hpk : p < k
      · have hpl : p < (bfsTo es n s k).ord.length := by
          have := (List.getElem?_eq_some_iff.1 hv).1
          omega
        have he := pre_at h2 (List.getElem?_eq_getElem hpl)
        have : (bfsTo es n s k).ord[p]? = some u := by
          rw [List.getElem?_eq_getElem hpl, ← he]
          exact hpu
        exact h2.subset (ih.2 p u hpk this i hi)
      · obtain rfl : p = k := by omega
        have he := pre_at h2 hv
        have : v = u := Option.some.inj (he.symm.trans hpu)
        subst this
        exact h3 i hi
theorem nodup_len {l : List Nat} {n : Nat} (hn : l.Nodup) (hl : ∀ v ∈ l, v < n) : l.length ≤ n := by
  induction n generalizing l with
  | zero =>
    cases l with
    | nil => simp
    | cons a l => exact absurd (hl a List.mem_cons_self) (by omega)
  | succ n ih =>
    have h2 : (l.erase n).length ≤ n := ih (hn.erase n) fun v hv => by
      have hm := (List.Nodup.mem_erase_iff hn).1 hv
      have := hl v hm.2
      have := hm.1
      omega
    by_cases hm : n ∈ l
    · have := List.length_erase_of_mem hm
      omega
    · rw [List.erase_of_not_mem hm] at h2
      omega
/-- The search is at rest. -/
structure Done (es : Es) (n s : Nat) (st : St) : Prop where
  inv : Inv es n s st
  clo : ∀ v ∈ st.ord, ∀ i ∈ inc es v, oth es i v ∈ st.ord
theorem bfs_done {es : Es} {n s : Nat} (hg : Good es n) (hs : s < n) : Done es n s (bfs es n s) := by
  obtain ⟨h1, h2⟩ := bfsTo_inv hg hs n
  refine ⟨h1, fun v hv i hi => ?_⟩
  obtain ⟨p, hp⟩ := List.getElem?_of_mem hv
  have hl := (List.getElem?_eq_some_iff.1 hp).1
  exact h2 p v (Nat.lt_of_lt_of_le hl (nodup_len h1.nd h1.lt)) hp i hi
theorem bfsTo_ge {es : Es} {n s k : Nat} (h : (bfsTo es n s k).ord.length ≤ k) : ∀ j, k ≤ j → bfsTo es n s j = bfsTo es n s k := by
  intro j hj
  induction j with
  | zero =>
    obtain rfl : k = 0 := by omega
    rfl
  | succ j ih =>
    by_cases e : k = j + 1
    · rw [e]
    · have hj' := ih (by omega)
      show stepB es (bfsTo es n s j) j = _
      rw [hj']
      unfold stepB
      rw [List.getElem?_eq_none (by omega)]
/-- Once as many nodes have been gone through as are found, the search is at its end. -/
theorem bfsTo_end {es : Es} {n s k : Nat} (hg : Good es n) (hs : s < n) (h : (bfsTo es n s k).ord.length ≤ k) : bfsTo es n s k = bfs es n s := by
  by_cases hkn : k ≤ n
  · exact (bfsTo_ge h n hkn).symm
  · have h1 := (bfsTo_inv hg hs n).1
    exact bfsTo_ge (nodup_len h1.nd h1.lt) k (by omega)
end Go.Proofs.Ythlencpbekjekaa
