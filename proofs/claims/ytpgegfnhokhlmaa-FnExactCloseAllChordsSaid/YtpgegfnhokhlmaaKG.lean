/- The search in a graph, as a plain function: what it visits, and by which pipes. No program in sight. Reachability, components, the spanning forest of a graph. No program in sight. Flows in a graph: what flows out of each node; flows in a forest are determined by it. No program in sight. The flows through the forest that balance supplies, as they are computed. No program in sight. The flows through the forest balance the supplies. No program in sight. The forest as a graph of its own, paths in it, and the cycles of chords. No program in sight. Levels along the forest; chords; connected graphs. No program in sight. Relaxing a flow list along cycles, as a plain function. No program in sight. Relaxed flows have small residuals; the error of a chord is minus its residual. No program in sight. Outflows and sums over components, step by step. No program in sight. One round of the forest's flows. No program in sight. The cycle of a chord as the reference lays it down, pipe by pipe; the supplies of a chord. No program in sight. The change of the energy along a cycle, as the program sums it up. No program in sight. One pass over the cycles, cut after the first k of them. No program in sight. The best multiple of a cycle: the energy is convex along it. No program in sight. The forest's pipes as they are gathered: sorted, they are the forest. No program in sight. -/

set_option linter.unusedVariables false
namespace Go.Proofs.Ytpgegfnhokhlmaa

abbrev Es := List (Nat × Nat)
def efr (es : Es) (i : Nat) : Nat := (es.getD i (0, 0)).1
def eto (es : Es) (i : Nat) : Nat := (es.getD i (0, 0)).2
/-- The pipes at a node. -/
def inc (es : Es) (v : Nat) : List Nat := (List.range es.length).filter fun i => efr es i == v || eto es i == v
def oth (es : Es) (i v : Nat) : Nat := if efr es i = v then eto es i else efr es i
/-- What the search has found: the nodes in order, and the entry of each node. -/
structure St where
  ord : List Nat
  ent : List (Option Nat)
def visit (es : Es) (v : Nat) (st : St) (i : Nat) : St := if oth es i v ∈ st.ord then st else ⟨st.ord ++ [oth es i v], st.ent.set (oth es i v) (some i)⟩
def stepB (es : Es) (st : St) (k : Nat) : St := match st.ord[k]? with | none => st | some v => (inc es v).foldl (visit es v) st
def bfsTo (es : Es) (n s : Nat) : Nat → St
  | 0 => ⟨[s], List.replicate n none⟩
  | k + 1 => stepB es (bfsTo es n s k) k
def bfs (es : Es) (n s : Nat) : St := bfsTo es n s n
def Good (es : Es) (n : Nat) : Prop := ∀ i, i < es.length → efr es i < n ∧ eto es i < n ∧ efr es i ≠ eto es i

theorem inc_mem {es : Es} {v i : Nat} : i ∈ inc es v ↔ i < es.length ∧ (efr es i = v ∨ eto es i = v) := by
  unfold inc
  rw [List.mem_filter, List.mem_range]
  simp
theorem oth_lt {es : Es} {n i v : Nat} (hg : Good es n) (hi : i < es.length) : oth es i v < n := by
  have := hg i hi
  unfold oth
  split <;> omega
theorem oth_ne {es : Es} {n i v : Nat} (hg : Good es n) (hi : i ∈ inc es v) : oth es i v ≠ v := by
  have h := inc_mem.1 hi
  have := hg i h.1
  unfold oth
  split <;> omega
theorem oth_oth {es : Es} {n i v : Nat} (hg : Good es n) (hi : i ∈ inc es v) : oth es i (oth es i v) = v := by
  have h := inc_mem.1 hi
  have := hg i h.1
  unfold oth
  by_cases h1 : efr es i = v
  · rw [if_pos h1, if_neg (by omega)]; exact h1
  · rw [if_neg h1, if_pos rfl]; omega
theorem inc_oth {es : Es} {i v : Nat} (hi : i ∈ inc es v) : i ∈ inc es (oth es i v) := by
  have h := inc_mem.1 hi
  refine inc_mem.2 ⟨h.1, ?_⟩
  unfold oth
  split
  · exact .inr rfl
  · exact .inl rfl
theorem ends_eq {es : Es} {n i v u : Nat} (hg : Good es n) (hv : i ∈ inc es v) (hu : i ∈ inc es u) (hne : u ≠ v) : u = oth es i v := by
  have h1 := inc_mem.1 hv
  have h2 := inc_mem.1 hu
  have := hg i h1.1
  unfold oth
  split <;> omega

/-- What holds all along the search. -/
structure Inv (es : Es) (n s : Nat) (st : St) : Prop where
  nd : st.ord.Nodup
  lt : ∀ v ∈ st.ord, v < n
  hd : st.ord[0]? = some s
  len : st.ent.length = n
  ent1 : ∀ v i, st.ent[v]? = some (some i) → i ∈ inc es v ∧ ∃ (p q : Nat), st.ord[p]? = some (oth es i v) ∧ st.ord[q]? = some v ∧ p < q
  ent2 : ∀ v ∈ st.ord, v ≠ s → ∃ i, st.ent[v]? = some (some i)
theorem pre_at {l l' : List Nat} (h : l <+: l') {p v : Nat} (hp : l[p]? = some v) : l'[p]? = some v := by
  obtain ⟨t, rfl⟩ := h
  rw [List.getElem?_append_left (List.getElem?_eq_some_iff.1 hp).1, hp]
theorem visit_inv {es : Es} {n s v k : Nat} {st : St} {i : Nat} (hg : Good es n) (h : Inv es n s st) (hk : st.ord[k]? = some v) (hi : i ∈ inc es v) :
    Inv es n s (visit es v st i) ∧ st.ord <+: (visit es v st i).ord ∧ oth es i v ∈ (visit es v st i).ord := by
  unfold visit
  split
  · rename_i hm
    exact ⟨h, List.prefix_refl _, hm⟩
  · rename_i hm
    have hil := (inc_mem.1 hi).1
    have ho := oth_lt (v := v) hg hil
    refine ⟨⟨?_, ?_, ?_, ?_, ?_, ?_⟩, List.prefix_append _ _, List.mem_append_right _ (List.mem_singleton.2 rfl)⟩
    · exact List.nodup_append.2 ⟨h.nd, List.nodup_cons.2 ⟨List.not_mem_nil, List.nodup_nil⟩, fun a ha b hb => by
        rw [List.mem_singleton.1 hb]
        rintro rfl
        exact hm ha⟩
    · intro u hu
      rcases List.mem_append.1 hu with hu | hu
      · exact h.lt u hu
      · rw [List.mem_singleton.1 hu]; exact ho
    · have := (List.getElem?_eq_some_iff.1 h.hd).1
      show (st.ord ++ [oth es i v])[0]? = some s
      rw [List.getElem?_append_left this]
      exact h.hd
    · show (st.ent.set _ _).length = n
      rw [List.length_set]; exact h.len
    · intro u j hu
      show j ∈ inc es u ∧ ∃ (p q : Nat), (st.ord ++ [oth es i v])[p]? = some (oth es j u) ∧ (st.ord ++ [oth es i v])[q]? = some u ∧ p < q
      have hu' : (st.ent.set (oth es i v) (some i))[u]? = some (some j) := hu
      by_cases he : oth es i v = u
      · subst he
        rw [List.getElem?_set_self (by rw [h.len]; exact ho)] at hu'
        injection hu' with hu'
        injection hu' with hu'
        subst hu'
        refine ⟨inc_oth hi, k, st.ord.length, ?_, ?_, (List.getElem?_eq_some_iff.1 hk).1⟩
        · rw [oth_oth hg hi, List.getElem?_append_left (List.getElem?_eq_some_iff.1 hk).1]; exact hk
        · simp
      · rw [List.getElem?_set_ne he] at hu'
        obtain ⟨h1, p, q, hp, hq, hpq⟩ := h.ent1 u j hu'
        exact ⟨h1, p, q, pre_at (List.prefix_append _ _) hp, pre_at (List.prefix_append _ _) hq, hpq⟩
    · intro u hu hus
      show ∃ j, (st.ent.set (oth es i v) (some i))[u]? = some (some j)
      by_cases he : oth es i v = u
      · subst he
        exact ⟨i, List.getElem?_set_self (by rw [h.len]; exact ho)⟩
      · rcases List.mem_append.1 hu with hu | hu
        · obtain ⟨j, hj⟩ := h.ent2 u hu hus
          exact ⟨j, by rw [List.getElem?_set_ne he]; exact hj⟩
        · exact absurd (List.mem_singleton.1 hu).symm he
theorem fold_inv {es : Es} {n s v k : Nat} (hg : Good es n) : ∀ (l : List Nat) (st : St), Inv es n s st → st.ord[k]? = some v → (∀ i ∈ l, i ∈ inc es v) →
    Inv es n s (l.foldl (visit es v) st) ∧ st.ord <+: (l.foldl (visit es v) st).ord ∧ ∀ i ∈ l, oth es i v ∈ (l.foldl (visit es v) st).ord := by
  intro l
  induction l with
  | nil => intro st h _ _; exact ⟨h, List.prefix_refl _, fun i hi => absurd hi List.not_mem_nil⟩
  | cons i l ih =>
    intro st h hk hl
    obtain ⟨h1, h2, h3⟩ := visit_inv hg h hk (hl i List.mem_cons_self)
    obtain ⟨h4, h5, h6⟩ := ih (visit es v st i) h1 (pre_at h2 hk) (fun j hj => hl j (List.mem_cons_of_mem _ hj))
    refine ⟨h4, h2.trans h5, fun j hj => ?_⟩
    rcases List.mem_cons.1 hj with rfl | hj
    · exact h5.subset h3
    · exact h6 j hj
theorem inv_start (es : Es) {n s : Nat} (hs : s < n) : Inv es n s ⟨[s], List.replicate n none⟩ := by
  refine ⟨List.nodup_cons.2 ⟨List.not_mem_nil, List.nodup_nil⟩, fun v hv => ?_, rfl, List.length_replicate, fun v i hv => ?_, fun v hv hne => absurd (List.mem_singleton.1 hv) hne⟩
  · rw [List.mem_singleton.1 hv]; exact hs
  · exfalso
    have hv' : (List.replicate n (none : Option Nat))[v]? = some (some i) := hv
    rw [List.getElem?_replicate] at hv'
    split at hv' <;> simp at hv'
theorem bfsTo_inv {es : Es} {n s : Nat} (hg : Good es n) (hs : s < n) : ∀ k, Inv es n s (bfsTo es n s k) ∧ ∀ p v, p < k → (bfsTo es n s k).ord[p]? = some v → ∀ i ∈ inc es v, oth es i v ∈ (bfsTo es n s k).ord := by
  intro k
  induction k with
  | zero => exact ⟨inv_start es hs, fun p v hp => absurd hp (by omega)⟩
  | succ k ih =>
    show Inv es n s (stepB es (bfsTo es n s k) k) ∧ ∀ p v, p < k + 1 → (stepB es (bfsTo es n s k) k).ord[p]? = some v → ∀ i ∈ inc es v, oth es i v ∈ (stepB es (bfsTo es n s k) k).ord
    unfold stepB
    cases hv : (bfsTo es n s k).ord[k]? with
    | none =>
      refine ⟨ih.1, fun p v hp hpv => ih.2 p v ?_ hpv⟩
      have h1 : p < (bfsTo es n s k).ord.length := (List.getElem?_eq_some_iff.1 hpv).1
      have h2 := List.getElem?_eq_none_iff.1 hv
      omega
    | some v =>
      obtain ⟨h1, h2, h3⟩ := fold_inv hg (inc es v) _ ih.1 hv (fun i hi => hi)
      refine ⟨h1, fun p u hp hpu i hi => ?_⟩
      by_cases hpk : p < k
      · have hpl : p < (bfsTo es n s k).ord.length := by
          have := (List.getElem?_eq_some_iff.1 hv).1
          omega
        have he := pre_at h2 (List.getElem?_eq_getElem hpl)
        have : (bfsTo es n s k).ord[p]? = some u := by
          rw [List.getElem?_eq_getElem hpl, ← he]
          exact hpu
        exact h2.subset (ih.2 p u hpk this i hi)
      · obtain rfl : p = k := by omega
        have he := pre_at h2 hv
        have : v = u := Option.some.inj (he.symm.trans hpu)
        subst this
        exact h3 i hi
theorem nodup_len {l : List Nat} {n : Nat} (hn : l.Nodup) (hl : ∀ v ∈ l, v < n) : l.length ≤ n := by
  induction n generalizing l with
  | zero =>
    cases l with
    | nil => simp
    | cons a l => exact absurd (hl a List.mem_cons_self) (by omega)
  | succ n ih =>
    have h2 : (l.erase n).length ≤ n := ih (hn.erase n) fun v hv => by
      have hm := (List.Nodup.mem_erase_iff hn).1 hv
      have := hl v hm.2
      have := hm.1
      omega
    by_cases hm : n ∈ l
    · have := List.length_erase_of_mem hm
      omega
    · rw [List.erase_of_not_mem hm] at h2
      omega
/-- The search is at rest. -/
structure Done (es : Es) (n s : Nat) (st : St) : Prop where
  inv : Inv es n s st
  clo : ∀ v ∈ st.ord, ∀ i ∈ inc es v, oth es i v ∈ st.ord
theorem bfs_done {es : Es} {n s : Nat} (hg : Good es n) (hs : s < n) : Done es n s (bfs es n s) := by
  obtain ⟨h1, h2⟩ := bfsTo_inv hg hs n
  refine ⟨h1, fun v hv i hi => ?_⟩
  obtain ⟨p, hp⟩ := List.getElem?_of_mem hv
  have hl := (List.getElem?_eq_some_iff.1 hp).1
  exact h2 p v (Nat.lt_of_lt_of_le hl (nodup_len h1.nd h1.lt)) hp i hi
theorem bfsTo_ge {es : Es} {n s k : Nat} (h : (bfsTo es n s k).ord.length ≤ k) : ∀ j, k ≤ j → bfsTo es n s j = bfsTo es n s k := by
  intro j hj
  induction j with
  | zero =>
    obtain rfl : k = 0 := by omega
    rfl
  | succ j ih =>
    by_cases e : k = j + 1
    · rw [e]
    · have hj' := ih (by omega)
      show stepB es (bfsTo es n s j) j = _
      rw [hj']
      unfold stepB
      rw [List.getElem?_eq_none (by omega)]
/-- Once as many nodes have been gone through as are found, the search is at its end. -/
theorem bfsTo_end {es : Es} {n s k : Nat} (hg : Good es n) (hs : s < n) (h : (bfsTo es n s k).ord.length ≤ k) : bfsTo es n s k = bfs es n s := by
  by_cases hkn : k ≤ n
  · exact (bfsTo_ge h n hkn).symm
  · have h1 := (bfsTo_inv hg hs n).1
    exact bfsTo_ge (nodup_len h1.nd h1.lt) k (by omega)
end Go.Proofs.Ytpgegfnhokhlmaa
set_option linter.unusedVariables false
namespace Go.Proofs.Ytpgegfnhokhlmaa

/-- A path leads from a node to another. -/
inductive Rch (es : Es) : Nat → Nat → Prop
  | refl (v : Nat) : Rch es v v
  | step {u v i : Nat} : Rch es u v → i ∈ inc es v → Rch es u (oth es i v)
theorem Rch.trans {es : Es} {u v x : Nat} (h : Rch es u v) (k : Rch es v x) : Rch es u x := by
  induction k with
  | refl => exact h
  | step _ hi ih => exact ih.step hi
theorem Rch.symm {es : Es} {n u v : Nat} (hg : Good es n) (h : Rch es u v) : Rch es v u := by
  induction h with
  | refl => exact .refl _
  | @step x i _ hi ih =>
    have h1 : Rch es (oth es i x) x := by
      have := (Rch.refl (es := es) (oth es i x)).step (inc_oth hi)
      rwa [oth_oth hg hi] at this
    exact h1.trans ih
theorem done_rch {es : Es} {n s : Nat} {st : St} (hg : Good es n) (h : Done es n s st) (v : Nat) : v ∈ st.ord ↔ Rch es s v := by
  constructor
  · intro hv
    obtain ⟨q, hq⟩ := List.getElem?_of_mem hv
    have key : ∀ (q v : Nat), st.ord[q]? = some v → Rch es s v := by
      intro q
      induction q using Nat.strongRecOn with
      | ind q ih =>
        intro v hq
        by_cases hs : v = s
        · subst hs; exact .refl _
        · obtain ⟨i, hi⟩ := h.inv.ent2 v (List.mem_of_getElem? hq) hs
          obtain ⟨hinc, p, q', hp, hq', hpq⟩ := h.inv.ent1 v i hi
          have hqq : q' = q := by
            have h1 := (List.getElem?_eq_some_iff.1 hq)
            have h2 := (List.getElem?_eq_some_iff.1 hq')
            obtain ⟨a1, a2⟩ := h1
            obtain ⟨b1, b2⟩ := h2
            exact (List.getElem_inj h.inv.nd).1 (b2.trans a2.symm)
          subst hqq
          have := (ih p hpq _ hp).step (inc_oth hinc)
          rwa [oth_oth hg hinc] at this
    exact key q v hq
  · intro hr
    induction hr with
    | refl => exact List.mem_of_getElem? h.inv.hd
    | step _ hi ih => exact h.clo _ ih _ hi
theorem rch_lt {es : Es} {n u v : Nat} (hg : Good es n) (h : Rch es u v) (hu : u < n) : v < n := by
  induction h with
  | refl => exact hu
  | step _ hi _ => exact oth_lt hg (inc_mem.1 hi).1

/-- The components found from the nodes below k. -/
def paint (l : List (Option Nat)) (vs : List Nat) (k : Nat) : List (Option Nat) := vs.foldl (fun l v => l.set v (some k)) l
def compTo (es : Es) (n : Nat) : Nat → List (Option Nat)
  | 0 => List.replicate n none
  | k + 1 => if ((compTo es n k).getD k none).isSome then compTo es n k else paint (compTo es n k) (bfs es n k).ord k
def comps (es : Es) (n : Nat) : List (Option Nat) := compTo es n n
theorem paint_len (l : List (Option Nat)) (vs : List Nat) (k : Nat) : (paint l vs k).length = l.length := by
  unfold paint
  induction vs generalizing l with
  | nil => rfl
  | cons v vs ih => rw [List.foldl_cons, ih, List.length_set]
theorem paint_at (l : List (Option Nat)) (vs : List Nat) (k v : Nat) (hv : v < l.length) : (paint l vs k)[v]? = if v ∈ vs then some (some k) else l[v]? := by
  unfold paint
  induction vs generalizing l with
  | nil => simp
  | cons u vs ih =>
    rw [List.foldl_cons, ih _ (by rw [List.length_set]; exact hv)]
    by_cases h1 : v ∈ vs
    · simp [h1]
    · by_cases h2 : u = v
      · subst h2
        simp [h1, hv]
      · have h3 : ¬ v = u := fun h => h2 h.symm
        simp [h1, h2, h3]
theorem compTo_len (es : Es) (n k : Nat) : (compTo es n k).length = n := by
  induction k with
  | zero => simp [compTo]
  | succ k ih =>
    unfold compTo
    split
    · exact ih
    · rw [paint_len, ih]
/-- r is the least node from which v is reached. -/
def Lst (es : Es) (r v : Nat) : Prop := Rch es r v ∧ ∀ r', r' < r → ¬ Rch es r' v
theorem lst_eq {es : Es} {r r' v : Nat} (h : Lst es r v) (h' : Lst es r' v) : r = r' := by
  rcases Nat.lt_trichotomy r r' with h1 | h1 | h1
  · exact absurd h.1 (h'.2 r h1)
  · exact h1
  · exact absurd h'.1 (h.2 r' h1)
theorem compTo_at {es : Es} {n : Nat} (hg : Good es n) : ∀ k, k ≤ n → ∀ v, v < n → (∃ r, (compTo es n k)[v]? = some (some r) ∧ r < k ∧ Lst es r v) ∨ ((compTo es n k)[v]? = some none ∧ ∀ r, r < k → ¬ Rch es r v) := by
  intro k
  induction k with
  | zero =>
    intro _ v hv
    right
    exact ⟨by simp [compTo, hv], fun r hr => absurd hr (by omega)⟩
  | succ k ih =>
    intro hk v hv
    have hl := compTo_len es n k
    have hkk := ih (by omega) k (by omega)
    have hvv := ih (by omega) v hv
    have hD := bfs_done (es := es) (n := n) (s := k) hg (by omega)
    unfold compTo
    by_cases hs : ((compTo es n k).getD k none).isSome = true
    · rw [if_pos hs]
      rcases hkk with ⟨r, hr, hrk, hl⟩ | ⟨hn, _⟩
      · rcases hvv with ⟨r', h1, h2, h3⟩ | ⟨h1, h2⟩
        · exact .inl ⟨r', h1, by omega, h3⟩
        · refine .inr ⟨h1, fun x hx hxv => ?_⟩
          by_cases e : x = k
          · subst e
            exact h2 r hrk (hl.1.trans hxv)
          · exact h2 x (by omega) hxv
      · simp [List.getD, hn] at hs
    · rw [if_neg hs, paint_at _ _ _ _ (by omega)]
      have hno : ∀ r, r < k → ¬ Rch es r k := by
        rcases hkk with ⟨r, hr, _⟩ | ⟨_, h⟩
        · simp [List.getD, hr] at hs
        · exact h
      by_cases hm : v ∈ (bfs es n k).ord
      · rw [if_pos hm]
        have hkv := (done_rch hg hD v).1 hm
        exact .inl ⟨k, rfl, by omega, hkv, fun r hr hrv => hno r hr (hrv.trans (hkv.symm hg))⟩
      · rw [if_neg hm]
        have hkv : ¬ Rch es k v := fun h => hm ((done_rch hg hD v).2 h)
        rcases hvv with ⟨r', h1, h2, h3⟩ | ⟨h1, h2⟩
        · exact .inl ⟨r', h1, by omega, h3⟩
        · refine .inr ⟨h1, fun x hx hxv => ?_⟩
          by_cases e : x = k
          · subst e; exact hkv hxv
          · exact h2 x (by omega) hxv
theorem comps_at {es : Es} {n : Nat} (hg : Good es n) {v : Nat} (hv : v < n) : ∃ r, (comps es n)[v]? = some (some r) ∧ r < n ∧ Lst es r v := by
  rcases compTo_at hg n (Nat.le_refl _) v hv with h | ⟨_, h⟩
  · exact h
  · exact absurd (Rch.refl v) (h v hv)
theorem comps_len (es : Es) (n : Nat) : (comps es n).length = n := compTo_len es n n
/-- The least node of a component. -/
def Root (es : Es) (n r : Nat) : Prop := (comps es n)[r]? = some (some r)
theorem root_iff {es : Es} {n r : Nat} (hg : Good es n) (hr : r < n) : Root es n r ↔ ∀ r', r' < r → ¬ Rch es r' r := by
  obtain ⟨x, hx, _, hl⟩ := comps_at hg hr
  unfold Root
  constructor
  · intro h
    rw [hx] at h
    injection h with h
    injection h with h
    subst h
    exact hl.2
  · intro h
    have : x = r := lst_eq hl ⟨.refl _, h⟩
    rw [hx, this]
theorem root_lt {es : Es} {n r : Nat} (h : Root es n r) : r < n := by
  have := (List.getElem?_eq_some_iff.1 h).1
  rwa [comps_len] at this
theorem root_of {es : Es} {n v r : Nat} (hg : Good es n) (hr : r < n) (h : Lst es r v) : Root es n r :=
  (root_iff hg hr).2 fun r' hr' hh => h.2 r' hr' (hh.trans h.1)
theorem roots_eq {es : Es} {n r r' v : Nat} (hg : Good es n) (h : Root es n r) (h' : Root es n r') (hv : Rch es r v) (hv' : Rch es r' v) : r = r' := by
  have h1 := (root_iff hg (root_lt h)).1 h
  have h2 := (root_iff hg (root_lt h')).1 h'
  rcases Nat.lt_trichotomy r r' with e | e | e
  · exact absurd (hv.trans (hv'.symm hg)) (h2 r e)
  · exact e
  · exact absurd (hv'.trans (hv.symm hg)) (h1 r' e)
theorem has_root {es : Es} {n v : Nat} (hg : Good es n) (hv : v < n) : ∃ r, Root es n r ∧ Rch es r v := by
  obtain ⟨r, _, hr, hl⟩ := comps_at hg hv
  exact ⟨r, root_of hg hr hl, hl.1⟩

/-- A pipe by which the searches from the roots enter a node. -/
def Tree (es : Es) (n i : Nat) : Prop := ∃ (r v : Nat), Root es n r ∧ (bfs es n r).ent[v]? = some (some i)
theorem pos_inj {l : List Nat} (h : l.Nodup) {p q v : Nat} (hp : l[p]? = some v) (hq : l[q]? = some v) : p = q := by
  obtain ⟨a1, a2⟩ := List.getElem?_eq_some_iff.1 hp
  obtain ⟨b1, b2⟩ := List.getElem?_eq_some_iff.1 hq
  exact (List.getElem_inj h).1 (a2.trans b2.symm)
/-- No pipe is the entry of two nodes. -/
theorem ent_inj {es : Es} {n s u v i : Nat} {st : St} (hg : Good es n) (h : Inv es n s st) (hu : st.ent[u]? = some (some i)) (hv : st.ent[v]? = some (some i)) : u = v := by
  obtain ⟨iu, p, q, hp, hq, hpq⟩ := h.ent1 u i hu
  obtain ⟨iv, p', q', hp', hq', hpq'⟩ := h.ent1 v i hv
  by_cases e : v = u
  · exact e.symm
  · have e1 : v = oth es i u := ends_eq hg iu iv e
    have e2 : u = oth es i v := ends_eq hg iv iu (fun h => e h.symm)
    rw [← e1] at hp
    rw [← e2] at hp'
    have h1 := pos_inj h.nd hp hq'
    have h2 := pos_inj h.nd hq hp'
    omega
theorem tree_lt {es : Es} {n i : Nat} (hg : Good es n) (h : Tree es n i) : i < es.length := by
  obtain ⟨r, v, hr, hv⟩ := h
  exact (inc_mem.1 ((bfs_done hg (root_lt hr)).inv.ent1 v i hv).1).1
end Go.Proofs.Ytpgegfnhokhlmaa
set_option linter.unusedVariables false
namespace Go.Proofs.Ytpgegfnhokhlmaa

def sumN (m : Nat) (f : Nat → Int) : Int := match m with
  | 0 => 0
  | m + 1 => sumN m f + f m
theorem sumN_zero {m : Nat} {f : Nat → Int} (h : ∀ i, i < m → f i = 0) : sumN m f = 0 := by
  induction m with
  | zero => rfl
  | succ m ih => rw [sumN, ih (fun i hi => h i (by omega)), h m (by omega)]; rfl
theorem sumN_congr {m : Nat} {f g : Nat → Int} (h : ∀ i, i < m → f i = g i) : sumN m f = sumN m g := by
  induction m with
  | zero => rfl
  | succ m ih => rw [sumN, sumN, ih (fun i hi => h i (by omega)), h m (by omega)]
theorem sumN_add (m : Nat) (f g : Nat → Int) : sumN m (fun i => f i + g i) = sumN m f + sumN m g := by
  induction m with
  | zero => rfl
  | succ m ih => rw [sumN, sumN, sumN, ih]; omega
theorem sumN_sub (m : Nat) (f g : Nat → Int) : sumN m (fun i => f i - g i) = sumN m f - sumN m g := by
  induction m with
  | zero => rfl
  | succ m ih => rw [sumN, sumN, sumN, ih]; omega
theorem sumN_mul (m : Nat) (c : Int) (f : Nat → Int) : sumN m (fun i => c * f i) = c * sumN m f := by
  induction m with
  | zero => simp [sumN]
  | succ m ih => rw [sumN, sumN, ih, Int.mul_add]
theorem sumN_one {m i : Nat} {f : Nat → Int} (hi : i < m) (h : ∀ j, j < m → j ≠ i → f j = 0) : sumN m f = f i := by
  induction m with
  | zero => omega
  | succ m ih =>
    rw [sumN]
    by_cases e : i = m
    · subst e
      rw [sumN_zero (fun j hj => h j (by omega) (by omega))]
      omega
    · rw [ih (by omega) (fun j hj => h j (by omega)), h m (by omega) (fun h => e h.symm)]
      omega
theorem sumN_swap (n m : Nat) (f : Nat → Nat → Int) : sumN n (fun v => sumN m (fun i => f v i)) = sumN m (fun i => sumN n (fun v => f v i)) := by
  induction n with
  | zero => rw [sumN, sumN_zero]; intro i _; rfl
  | succ n ih =>
    rw [sumN, ih, ← sumN_add]
    exact sumN_congr fun i _ => rfl
theorem sumN_ite {n a : Nat} (x : Int) (ha : a < n) : sumN n (fun v => if a = v then x else 0) = x := by
  rw [sumN_one ha (fun j _ hj => if_neg (fun h => hj h.symm))]
  exact if_pos rfl

/-- What pipe i takes out of node v if it carries x. -/
def sgn (es : Es) (i v : Nat) (x : Int) : Int := (if efr es i = v then x else 0) - (if eto es i = v then x else 0)
/-- What flows out of a node minus what flows into it. -/
def outN (es : Es) (f : Nat → Int) (v : Nat) : Int := sumN es.length fun i => sgn es i v (f i)
theorem sgn_zero (es : Es) (i v : Nat) : sgn es i v 0 = 0 := by unfold sgn; split <;> split <;> rfl
theorem sgn_add (es : Es) (i v : Nat) (x y : Int) : sgn es i v (x + y) = sgn es i v x + sgn es i v y := by unfold sgn; split <;> split <;> omega
theorem sgn_sub (es : Es) (i v : Nat) (x y : Int) : sgn es i v (x - y) = sgn es i v x - sgn es i v y := by unfold sgn; split <;> split <;> omega
theorem sgn_mul (es : Es) (i v : Nat) (c x : Int) : sgn es i v (c * x) = c * sgn es i v x := by
  unfold sgn
  split <;> split <;> simp [Int.mul_neg]
theorem sgn_out {es : Es} {i v : Nat} {x : Int} (h : i ∉ inc es v) (hi : i < es.length) : sgn es i v x = 0 := by
  have h1 : ¬ efr es i = v := fun e => h (inc_mem.2 ⟨hi, .inl e⟩)
  have h2 : ¬ eto es i = v := fun e => h (inc_mem.2 ⟨hi, .inr e⟩)
  unfold sgn
  rw [if_neg h1, if_neg h2]; rfl
theorem outN_add (es : Es) (f g : Nat → Int) (v : Nat) : outN es (fun i => f i + g i) v = outN es f v + outN es g v := by
  unfold outN
  rw [← sumN_add]
  exact sumN_congr fun i _ => sgn_add es i v _ _
theorem outN_sub (es : Es) (f g : Nat → Int) (v : Nat) : outN es (fun i => f i - g i) v = outN es f v - outN es g v := by
  unfold outN
  rw [← sumN_sub]
  exact sumN_congr fun i _ => sgn_sub es i v _ _
theorem outN_mul (es : Es) (c : Int) (f : Nat → Int) (v : Nat) : outN es (fun i => c * f i) v = c * outN es f v := by
  unfold outN
  rw [← sumN_mul]
  exact sumN_congr fun i _ => sgn_mul es i v _ _
theorem outN_congr {es : Es} {f g : Nat → Int} (h : ∀ i, i < es.length → f i = g i) (v : Nat) : outN es f v = outN es g v :=
  sumN_congr fun i hi => by rw [h i hi]
/-- One pipe carries x more. -/
theorem outN_set {es : Es} {f : Nat → Int} {i : Nat} (hi : i < es.length) (x : Int) (v : Nat) : outN es (fun j => if j = i then x else f j) v = outN es f v + sgn es i v (x - f i) := by
  have e : outN es (fun j => if j = i then x else f j) v - outN es f v = sgn es i v (x - f i) := by
    rw [← outN_sub]
    unfold outN
    rw [sumN_one hi (fun j _ hj => by
      show sgn es j v ((if j = i then x else f j) - f j) = 0
      rw [if_neg hj, Int.sub_self]; exact sgn_zero _ _ _)]
    show sgn es i v ((if i = i then x else f i) - f i) = _
    rw [if_pos rfl]
  omega
/-- All in all nothing flows out of a component. -/
theorem outN_sum {es : Es} {n : Nat} (hg : Good es n) (f : Nat → Int) (p : Nat → Bool) (hp : ∀ i, i < es.length → p (efr es i) = p (eto es i)) : sumN n (fun v => if p v = true then outN es f v else 0) = 0 := by
  have e : sumN n (fun v => if p v = true then outN es f v else 0) = sumN n (fun v => sumN es.length (fun i => if p v = true then sgn es i v (f i) else 0)) := by
    refine sumN_congr fun v _ => ?_
    by_cases h : p v = true
    · rw [if_pos h]; exact sumN_congr fun i _ => by rw [if_pos h]
    · rw [if_neg h, sumN_zero]; intro i _; rw [if_neg h]
  rw [e, sumN_swap]
  refine sumN_zero fun i hi => ?_
  obtain ⟨h1, h2, h3⟩ := hg i hi
  have e2 : (fun v => if p v = true then sgn es i v (f i) else 0) = fun v => (if efr es i = v then (if p (efr es i) = true then f i else 0) else 0) - (if eto es i = v then (if p (eto es i) = true then f i else 0) else 0) := by
    funext v
    unfold sgn
    by_cases a : efr es i = v
    · have b : ¬ eto es i = v := by omega
      simp [a, b]
    · by_cases b : eto es i = v
      · simp [a, b]
        split <;> simp
      · simp [a, b]
  rw [e2, sumN_sub, sumN_ite _ h1, sumN_ite _ h2, hp i hi]
  omega
theorem sgn_ne {es : Es} {n i v : Nat} {x : Int} (hg : Good es n) (h : i ∈ inc es v) (h0 : sgn es i v x = 0) : x = 0 := by
  obtain ⟨hi, hv⟩ := inc_mem.1 h
  have := hg i hi
  unfold sgn at h0
  rcases hv with hv | hv
  · rw [if_pos hv, if_neg (by omega)] at h0; omega
  · rw [if_pos hv, if_neg (by omega)] at h0; omega
/-- A flow through the forest alone of which nothing flows out anywhere is none. -/
theorem tree_flow_zero {es : Es} {n : Nat} (hg : Good es n) (f : Nat → Int) (hsup : ∀ i, i < es.length → ¬ Tree es n i → f i = 0) (hout : ∀ v, v < n → ¬ Root es n v → outN es f v = 0) : ∀ i, i < es.length → f i = 0 := by
  have key : ∀ r, Root es n r → ∀ (d q v i : Nat), q + d = (bfs es n r).ord.length → (bfs es n r).ord[q]? = some v → (bfs es n r).ent[v]? = some (some i) → f i = 0 := by
    intro r hr
    have hD := bfs_done hg (root_lt hr)
    intro d
    induction d using Nat.strongRecOn with
    | ind d ih =>
      intro q v i hqd hq hv
      obtain ⟨hinc, p, q', hp, hq', hpq⟩ := hD.inv.ent1 v i hv
      have hqq := pos_inj hD.inv.nd hq hq'
      subst hqq
      have hvn := hD.inv.lt v (List.mem_of_getElem? hq)
      have hvs : v ≠ r := by
        intro e
        subst e
        have := pos_inj hD.inv.nd hq hD.inv.hd
        omega
      have hrv := (done_rch hg hD v).1 (List.mem_of_getElem? hq)
      have hnr : ¬ Root es n v := fun h => hvs (roots_eq hg h hr (.refl v) hrv)
      have h0 := hout v hvn hnr
      unfold outN at h0
      rw [sumN_one (inc_mem.1 hinc).1] at h0
      · exact sgn_ne hg hinc h0
      · intro j hj hji
        by_cases hjv : j ∈ inc es v
        · have hfj : f j = 0 := by
            by_cases hjt : Tree es n j
            · obtain ⟨r', u, hr', hu⟩ := hjt
              have hD' := bfs_done hg (root_lt hr')
              obtain ⟨hju, p', q', hp', hq', hpq'⟩ := hD'.inv.ent1 u j hu
              have hru := (done_rch hg hD' u).1 (List.mem_of_getElem? hq')
              by_cases huv : v = u
              · subst huv
                obtain rfl := roots_eq hg hr hr' hrv hru
                rw [hv] at hu
                injection hu with hu
                injection hu with hu
                exact absurd hu.symm hji
              · have ev : v = oth es j u := ends_eq hg hju hjv huv
                rw [← ev] at hp'
                have hrv' := (done_rch hg hD' v).1 (List.mem_of_getElem? hp')
                obtain rfl := roots_eq hg hr hr' hrv hrv'
                have := pos_inj hD.inv.nd hq hp'
                subst this
                have hql := (List.getElem?_eq_some_iff.1 hq').1
                exact ih ((bfs es n r).ord.length - q') (by omega) q' u j (by omega) hq' hu
            · exact hsup j hj hjt
          rw [hfj]; exact sgn_zero _ _ _
        · exact sgn_out hjv hj
  intro i hi
  by_cases ht : Tree es n i
  · obtain ⟨r, v, hr, hv⟩ := ht
    obtain ⟨_, p, q, _, hq, _⟩ := (bfs_done hg (root_lt hr)).inv.ent1 v i hv
    have hql := (List.getElem?_eq_some_iff.1 hq).1
    exact key r hr ((bfs es n r).ord.length - q) q v i (by omega) hq hv
  · exact hsup i hi ht
theorem tree_flow_eq {es : Es} {n : Nat} (hg : Good es n) (f g : Nat → Int) (hf : ∀ i, i < es.length → ¬ Tree es n i → f i = g i) (hout : ∀ v, v < n → ¬ Root es n v → outN es f v = outN es g v) : ∀ i, i < es.length → f i = g i := by
  intro i hi
  have := tree_flow_zero hg (fun i => f i - g i) (fun j hj ht => by rw [hf j hj ht]; omega) (fun v hv hr => by rw [outN_sub, hout v hv hr]; omega) i hi
  omega
end Go.Proofs.Ytpgegfnhokhlmaa
set_option linter.unusedVariables false
namespace Go.Proofs.Ytpgegfnhokhlmaa

/-- Flows; what is left at the nodes (as the program and as the reference keep it); the nodes gone through. -/
structure FF where
  fl : List Int
  lf : List Int
  z : List Int
  pr : List Nat
def ffStep (es : Es) (ent : List (Option Nat)) (a : FF) (v : Nat) : FF := match ent[v]? with
  | some (some i) => ⟨a.fl.set i (if efr es i = v then a.lf.getD v 0 else -(a.lf.getD v 0)), a.lf.set (oth es i v) (a.lf.getD (oth es i v) 0 + a.lf.getD v 0), (a.z.set (oth es i v) (a.z.getD (oth es i v) 0 + a.z.getD v 0)).set v 0, v :: a.pr⟩
  | _ => a
/-- The nodes of a search but the first, from the last one on. -/
def bw (es : Es) (n r : Nat) : List Nat := ((bfs es n r).ord.drop 1).reverse
def ffPart (es : Es) (n r j : Nat) (a : FF) : FF := ((bw es n r).take j).foldl (ffStep es (bfs es n r).ent) a
def isRoot (es : Es) (n r : Nat) : Bool := (comps es n)[r]? == some (some r)
def ffTo (es : Es) (n : Nat) (sup : List Int) : Nat → FF
  | 0 => ⟨List.replicate es.length 0, sup, sup, []⟩
  | r + 1 => if isRoot es n r = true then ffPart es n r (bw es n r).length (ffTo es n sup r) else ffTo es n sup r
def ffl (es : Es) (n : Nat) (sup : List Int) : List Int := (ffTo es n sup n).fl
theorem isRoot_iff {es : Es} {n r : Nat} : isRoot es n r = true ↔ Root es n r := by
  unfold isRoot Root
  exact beq_iff_eq

def absS (l : List Int) : Nat := (l.map Int.natAbs).sum
theorem absS_le {l : List Int} {v : Nat} {x : Int} (h : l[v]? = some x) : x.natAbs ≤ absS l := by
  induction l generalizing v with
  | nil => simp at h
  | cons a l ih =>
    simp only [absS, List.map_cons, List.sum_cons]
    cases v with
    | zero => simp at h; subst h; omega
    | succ v =>
      simp at h
      have := ih h
      unfold absS at this
      omega
theorem absS_set {l : List Int} {v : Nat} {x y : Int} (h : l[v]? = some x) : absS (l.set v y) + x.natAbs = absS l + y.natAbs := by
  induction l generalizing v with
  | nil => simp at h
  | cons a l ih =>
    cases v with
    | zero => simp at h; subst h; simp [absS]; omega
    | succ v =>
      simp at h
      have := ih h
      simp only [absS, List.set_cons_succ, List.map_cons, List.sum_cons] at *
      omega
theorem getD_set {l : List Int} {i j : Nat} {x : Int} (hi : i < l.length) : (l.set i x).getD j 0 = if j = i then x else l.getD j 0 := by
  by_cases e : j = i
  · subst e
    simp [List.getD, hi]
  · have e' : ¬ i = j := fun h => e h.symm
    simp [List.getD, e, e']

/-- What holds of a state in the middle. -/
structure FI (es : Es) (n : Nat) (sup : List Int) (a : FF) : Prop where
  lfl : a.fl.length = es.length
  llf : a.lf.length = n
  lz : a.z.length = n
  done : ∀ v, v < n → v ∈ a.pr → outN es (fun i => a.fl.getD i 0) v = sup.getD v 0
  left : ∀ v, v < n → v ∉ a.pr → a.z.getD v 0 = sup.getD v 0 - outN es (fun i => a.fl.getD i 0) v
  same : ∀ v, v < n → v ∉ a.pr → a.lf.getD v 0 = a.z.getD v 0
  zero : ∀ v, v < n → v ∈ a.pr → a.z.getD v 0 = 0
  nz : ∀ i, i < es.length → a.fl.getD i 0 ≠ 0 → ∃ (r v : Nat), v ∈ a.pr ∧ Root es n r ∧ (bfs es n r).ent[v]? = some (some i)
  bd : absS a.z ≤ absS sup
theorem fi_start (es : Es) (n : Nat) (sup : List Int) (hl : sup.length = n) : FI es n sup ⟨List.replicate es.length 0, sup, sup, []⟩ := by
  have hz : ∀ i, (List.replicate es.length (0 : Int)).getD i 0 = 0 := by
    intro i
    simp only [List.getD, List.getElem?_replicate]
    split <;> rfl
  have ho : ∀ v, outN es (fun i => (List.replicate es.length (0 : Int)).getD i 0) v = 0 := by
    intro v
    refine sumN_zero fun i _ => ?_
    show sgn es i v ((List.replicate es.length (0 : Int)).getD i 0) = 0
    rw [hz, sgn_zero]
  refine ⟨List.length_replicate, hl, hl, fun v _ hv => absurd hv List.not_mem_nil, fun v _ _ => ?_, fun v _ _ => rfl, fun v _ hv => absurd hv List.not_mem_nil, fun i _ h => absurd (hz i) h, Nat.le_refl _⟩
  show sup.getD v 0 = sup.getD v 0 - outN es (fun i => (List.replicate es.length (0 : Int)).getD i 0) v
  rw [ho]; omega
theorem getD_some {l : List Int} {v n : Nat} (hl : l.length = n) (hv : v < n) : l[v]? = some (l.getD v 0) := by
  simp [List.getD, List.getElem?_eq_getElem (show v < l.length by omega)]
theorem ff_step {es : Es} {n r v i : Nat} {sup : List Int} {a : FF} (hg : Good es n) (hr : Root es n r) (h : FI es n sup a) (hv : (bfs es n r).ent[v]? = some (some i)) (hp : v ∉ a.pr) (hu : oth es i v ∉ a.pr) :
    FI es n sup (ffStep es (bfs es n r).ent a v) ∧ (ffStep es (bfs es n r).ent a v).pr = v :: a.pr := by
  have hD := bfs_done hg (root_lt hr)
  obtain ⟨hinc, p, q, hpp, hq, hpq⟩ := hD.inv.ent1 v i hv
  have hil := (inc_mem.1 hinc).1
  have hvn : v < n := hD.inv.lt v (List.mem_of_getElem? hq)
  have hun : oth es i v < n := oth_lt hg hil
  have hne : oth es i v ≠ v := oth_ne hg hinc
  have hfi : a.fl.getD i 0 = 0 := by
    apply Classical.byContradiction
    intro h0
    obtain ⟨r', v', hv', hr', hev'⟩ := h.nz i hil h0
    have hD' := bfs_done hg (root_lt hr')
    obtain ⟨hinc', p', q', hpp', hq', hpq'⟩ := hD'.inv.ent1 v' i hev'
    by_cases e : v' = v
    · subst e; exact hp hv'
    · have ev : v' = oth es i v := ends_eq hg hinc hinc' e
      rw [← ev] at hu
      exact hu hv'
  have e0 : ffStep es (bfs es n r).ent a v = ⟨a.fl.set i (if efr es i = v then a.lf.getD v 0 else -(a.lf.getD v 0)), a.lf.set (oth es i v) (a.lf.getD (oth es i v) 0 + a.lf.getD v 0), (a.z.set (oth es i v) (a.z.getD (oth es i v) 0 + a.z.getD v 0)).set v 0, v :: a.pr⟩ := by
    unfold ffStep
    rw [hv]
  rw [e0]
  refine ⟨?_, rfl⟩
  have hlz := h.lz
  have hlf := h.llf
  have hfl := h.lfl
  have hsv := h.same v hvn hp
  have hsu := h.same _ hun hu
  -- what flows out now
  have hout : ∀ x, outN es (fun j => (a.fl.set i (if efr es i = v then a.lf.getD v 0 else -(a.lf.getD v 0))).getD j 0) x = outN es (fun j => a.fl.getD j 0) x + sgn es i x (if efr es i = v then a.lf.getD v 0 else -(a.lf.getD v 0)) := by
    intro x
    have e1 : (fun j => (a.fl.set i (if efr es i = v then a.lf.getD v 0 else -(a.lf.getD v 0))).getD j 0) = fun j => if j = i then (if efr es i = v then a.lf.getD v 0 else -(a.lf.getD v 0)) else a.fl.getD j 0 := by
      funext j
      exact getD_set (by omega)
    rw [e1, outN_set hil, hfi, Int.sub_zero]
  have hends : (efr es i = v ∧ ¬ eto es i = v ∧ oth es i v = eto es i) ∨ (¬ efr es i = v ∧ eto es i = v ∧ oth es i v = efr es i) := by
    have hgi := hg i hil
    unfold oth
    rcases (inc_mem.1 hinc).2 with hh | hh
    · exact .inl ⟨hh, by omega, if_pos hh⟩
    · exact .inr ⟨by omega, hh, if_neg (by omega)⟩
  have hsgv : sgn es i v (if efr es i = v then a.lf.getD v 0 else -(a.lf.getD v 0)) = a.lf.getD v 0 := by
    unfold sgn
    rcases hends with ⟨b1, b2, _⟩ | ⟨b1, b2, _⟩
    · rw [if_pos b1, if_neg b2, if_pos b1]; omega
    · rw [if_neg b1, if_pos b2, if_neg b1]; omega
  have hsgu : sgn es i (oth es i v) (if efr es i = v then a.lf.getD v 0 else -(a.lf.getD v 0)) = -(a.lf.getD v 0) := by
    have hgi := hg i hil
    unfold sgn
    rcases hends with ⟨b1, b2, b3⟩ | ⟨b1, b2, b3⟩
    · rw [b3, if_pos b1, if_neg hgi.2.2, if_pos rfl]; omega
    · rw [b3, if_neg b1, if_pos rfl, if_neg (fun h => hgi.2.2 h.symm)]; omega
  have hsgx : ∀ x, x ≠ v → x ≠ oth es i v → sgn es i x (if efr es i = v then a.lf.getD v 0 else -(a.lf.getD v 0)) = 0 := by
    intro x h1 h2
    refine sgn_out (fun hx => ?_) hil
    exact h2 (ends_eq hg hinc hx h1)
  have hz1 : ∀ x, ((a.z.set (oth es i v) (a.z.getD (oth es i v) 0 + a.z.getD v 0)).set v 0).getD x 0 = if x = v then 0 else if x = oth es i v then a.z.getD (oth es i v) 0 + a.z.getD v 0 else a.z.getD x 0 := by
    intro x
    rw [getD_set (by rw [List.length_set]; omega), getD_set (by omega)]
  have hlf1 : ∀ x, (a.lf.set (oth es i v) (a.lf.getD (oth es i v) 0 + a.lf.getD v 0)).getD x 0 = if x = oth es i v then a.lf.getD (oth es i v) 0 + a.lf.getD v 0 else a.lf.getD x 0 := fun x => getD_set (by omega)
  refine ⟨by rw [List.length_set]; exact hfl, by rw [List.length_set]; exact hlf, by rw [List.length_set, List.length_set]; exact hlz, ?_, ?_, ?_, ?_, ?_, ?_⟩
  · intro x hx hxp
    show outN es (fun j => (a.fl.set i _).getD j 0) x = _
    rw [hout x]
    rcases List.mem_cons.1 hxp with rfl | hxp
    · rw [hsgv, hsv, h.left x hx hp]; omega
    · have h1 : x ≠ v := fun e => hp (e ▸ hxp)
      have h2 : x ≠ oth es i v := fun e => hu (e ▸ hxp)
      rw [hsgx x h1 h2, h.done x hx hxp]; omega
  · intro x hx hxp
    have h1 : x ≠ v := fun e => hxp (e ▸ List.mem_cons_self)
    have h3 : x ∉ a.pr := fun e => hxp (List.mem_cons_of_mem _ e)
    show ((a.z.set (oth es i v) _).set v 0).getD x 0 = _ - outN es (fun j => (a.fl.set i _).getD j 0) x
    rw [hz1, if_neg h1, hout x]
    by_cases h2 : x = oth es i v
    · rw [if_pos h2, h2, hsgu, h.left _ hun hu, hsv]; omega
    · rw [if_neg h2, hsgx x h1 h2, h.left x hx h3]; omega
  · intro x hx hxp
    have h1 : x ≠ v := fun e => hxp (e ▸ List.mem_cons_self)
    have h3 : x ∉ a.pr := fun e => hxp (List.mem_cons_of_mem _ e)
    show (a.lf.set (oth es i v) _).getD x 0 = ((a.z.set (oth es i v) _).set v 0).getD x 0
    rw [hz1, if_neg h1, hlf1]
    by_cases h2 : x = oth es i v
    · rw [if_pos h2, if_pos h2, hsv, hsu]
    · rw [if_neg h2, if_neg h2, h.same x hx h3]
  · intro x hx hxp
    show ((a.z.set (oth es i v) _).set v 0).getD x 0 = 0
    rw [hz1]
    rcases List.mem_cons.1 hxp with rfl | hxp
    · rw [if_pos rfl]
    · have h1 : x ≠ v := fun e => hp (e ▸ hxp)
      have h2 : x ≠ oth es i v := fun e => hu (e ▸ hxp)
      rw [if_neg h1, if_neg h2, h.zero x hx hxp]
  · intro j hj hjn
    have hjn' : (a.fl.set i (if efr es i = v then a.lf.getD v 0 else -(a.lf.getD v 0))).getD j 0 ≠ 0 := hjn
    by_cases e : j = i
    · subst e
      exact ⟨r, v, List.mem_cons_self, hr, hv⟩
    · rw [getD_set (by omega), if_neg e] at hjn'
      obtain ⟨r', v', h1, h2, h3⟩ := h.nz j hj hjn'
      exact ⟨r', v', List.mem_cons_of_mem _ h1, h2, h3⟩
  · show absS ((a.z.set (oth es i v) _).set v 0) ≤ absS sup
    have e1 := getD_some hlz hun
    have e2 : (a.z.set (oth es i v) (a.z.getD (oth es i v) 0 + a.z.getD v 0))[v]? = some (a.z.getD v 0) := by
      rw [List.getElem?_set_ne hne]; exact getD_some hlz hvn
    have h1 := absS_set (y := a.z.getD (oth es i v) 0 + a.z.getD v 0) e1
    have h2 := absS_set (y := 0) e2
    have h3 := h.bd
    omega
end Go.Proofs.Ytpgegfnhokhlmaa
set_option linter.unusedVariables false
namespace Go.Proofs.Ytpgegfnhokhlmaa

theorem bw_len (es : Es) (n r : Nat) : (bw es n r).length = (bfs es n r).ord.length - 1 := by simp [bw]
theorem bw_at {es : Es} {n r j v : Nat} (h : (bw es n r)[j]? = some v) : ∃ q : Nat, (bfs es n r).ord[q]? = some v ∧ q + j + 1 = (bfs es n r).ord.length ∧ 1 ≤ q := by
  have hl := (List.getElem?_eq_some_iff.1 h).1
  rw [bw_len] at hl
  unfold bw at h
  rw [List.getElem?_reverse (by simp; omega), List.getElem?_drop] at h
  refine ⟨_, h, ?_, by omega⟩
  simp
  omega
theorem bw_take {es : Es} {n r j v : Nat} (h : v ∈ (bw es n r).take j) : ∃ q : Nat, (bfs es n r).ord[q]? = some v ∧ (bfs es n r).ord.length ≤ q + j ∧ 1 ≤ q := by
  obtain ⟨k, hk⟩ := List.getElem?_of_mem h
  have hkj : k < j := by
    have := (List.getElem?_eq_some_iff.1 hk).1
    simp at this
    omega
  rw [List.getElem?_take_of_lt hkj] at hk
  obtain ⟨q, h1, h2, h3⟩ := bw_at hk
  exact ⟨q, h1, by omega, h3⟩
theorem bw_has {es : Es} {n r q v : Nat} (h : (bfs es n r).ord[q]? = some v) (hq : 1 ≤ q) : v ∈ bw es n r := by
  unfold bw
  rw [List.mem_reverse]
  have h' : ((bfs es n r).ord.drop 1)[q - 1]? = some v := by
    rw [List.getElem?_drop, show 1 + (q - 1) = q by omega]; exact h
  exact List.mem_of_getElem? h'
/-- The nodes gone through before the search from r. -/
def Past (es : Es) (n r v : Nat) : Prop := ∃ r', r' < r ∧ Root es n r' ∧ Rch es r' v ∧ v ≠ r'
theorem ff_part {es : Es} {n r : Nat} {sup : List Int} {a : FF} (hg : Good es n) (hr : Root es n r) (h : FI es n sup a) (hp : ∀ v, v ∈ a.pr ↔ Past es n r v) :
    ∀ j, j ≤ (bw es n r).length → FI es n sup (ffPart es n r j a) ∧ ∀ v, v ∈ (ffPart es n r j a).pr ↔ Past es n r v ∨ v ∈ (bw es n r).take j := by
  have hD := bfs_done hg (root_lt hr)
  intro j
  induction j with
  | zero => intro _; exact ⟨by simpa [ffPart] using h, fun v => by simp [ffPart, hp]⟩
  | succ j ih =>
    intro hj
    obtain ⟨h1, h2⟩ := ih (by omega)
    have hb : (bw es n r)[j]? = some (bw es n r)[j] := List.getElem?_eq_getElem (by omega)
    generalize (bw es n r)[j] = v at hb
    have e : ffPart es n r (j + 1) a = ffStep es (bfs es n r).ent (ffPart es n r j a) v := by
      unfold ffPart
      rw [List.take_add_one, hb, List.foldl_append]
      rfl
    obtain ⟨q, hq, hqj, hq1⟩ := bw_at hb
    have hrv := (done_rch hg hD v).1 (List.mem_of_getElem? hq)
    have hvr : v ≠ r := by
      intro e
      subst e
      have := pos_inj hD.inv.nd hq hD.inv.hd
      omega
    obtain ⟨i, hi⟩ := hD.inv.ent2 v (List.mem_of_getElem? hq) hvr
    obtain ⟨hinc, p, q', hpp, hq', hpq⟩ := hD.inv.ent1 v i hi
    obtain rfl := pos_inj hD.inv.nd hq hq'
    have hru := (done_rch hg hD _).1 (List.mem_of_getElem? hpp)
    have hnp : ∀ x, Rch es r x → ¬ Past es n r x := by
      rintro x hx ⟨r', hr'1, hr'2, hr'3, _⟩
      have := roots_eq hg hr hr'2 hx hr'3
      omega
    have hv1 : v ∉ (ffPart es n r j a).pr := fun hh => by
      rcases (h2 v).1 hh with hh | hh
      · exact hnp v hrv hh
      · obtain ⟨q2, a1, a2, _⟩ := bw_take hh
        have := pos_inj hD.inv.nd hq a1
        omega
    have hu1 : oth es i v ∉ (ffPart es n r j a).pr := fun hh => by
      rcases (h2 _).1 hh with hh | hh
      · exact hnp _ hru hh
      · obtain ⟨q2, a1, a2, _⟩ := bw_take hh
        have := pos_inj hD.inv.nd hpp a1
        omega
    obtain ⟨h3, h4⟩ := ff_step hg hr h1 hi hv1 hu1
    rw [e]
    refine ⟨h3, fun x => ?_⟩
    rw [h4, List.mem_cons, h2, List.take_add_one, hb, List.mem_append]
    simp
    constructor
    · rintro (rfl | h | h)
      · exact .inr (.inr rfl)
      · exact .inl h
      · exact .inr (.inl h)
    · rintro (h | h | rfl)
      · exact .inr (.inl h)
      · exact .inr (.inr h)
      · exact .inl rfl
theorem ff_to {es : Es} {n : Nat} {sup : List Int} (hg : Good es n) (hl : sup.length = n) : ∀ r, r ≤ n → FI es n sup (ffTo es n sup r) ∧ ∀ v, v ∈ (ffTo es n sup r).pr ↔ Past es n r v := by
  intro r
  induction r with
  | zero => intro _; exact ⟨fi_start es n sup hl, fun v => ⟨fun h => absurd h List.not_mem_nil, fun ⟨r', h, _⟩ => absurd h (by omega)⟩⟩
  | succ r ih =>
    intro hr
    obtain ⟨h1, h2⟩ := ih (by omega)
    unfold ffTo
    by_cases hR : isRoot es n r = true
    · rw [if_pos hR]
      have hroot := isRoot_iff.1 hR
      obtain ⟨h3, h4⟩ := ff_part hg hroot h1 h2 _ (Nat.le_refl _)
      refine ⟨h3, fun v => ?_⟩
      rw [h4, List.take_length]
      have hD := bfs_done hg (root_lt hroot)
      constructor
      · rintro (⟨r', a, b, c, d⟩ | h)
        · exact ⟨r', by omega, b, c, d⟩
        · obtain ⟨q, hq, _, hq1⟩ := bw_take (j := (bw es n r).length) (by rw [List.take_length]; exact h)
          refine ⟨r, by omega, hroot, (done_rch hg hD v).1 (List.mem_of_getElem? hq), fun e => ?_⟩
          subst e
          have := pos_inj hD.inv.nd hq hD.inv.hd
          omega
      · rintro ⟨r', a, b, c, d⟩
        by_cases e : r' = r
        · subst e
          obtain ⟨q, hq⟩ := List.getElem?_of_mem ((done_rch hg hD v).2 c)
          refine .inr (bw_has hq ?_)
          rcases Nat.eq_zero_or_pos q with h0 | h0
          · subst h0
            exact absurd (Option.some.inj (hq.symm.trans hD.inv.hd)) d
          · exact h0
        · exact .inl ⟨r', by omega, b, c, d⟩
    · rw [if_neg hR]
      refine ⟨h1, fun v => ?_⟩
      rw [h2]
      constructor
      · rintro ⟨r', a, b, c, d⟩
        exact ⟨r', by omega, b, c, d⟩
      · rintro ⟨r', a, b, c, d⟩
        by_cases e : r' = r
        · subst e
          exact absurd (isRoot_iff.2 b) hR
        · exact ⟨r', by omega, b, c, d⟩
/-- The sum of the supplies over the component of a root. -/
def compSum (es : Es) (n : Nat) (sup : List Int) (r : Nat) : Int := sumN n fun v => if (comps es n)[v]? == some (some r) then sup.getD v 0 else 0
def Even (es : Es) (n : Nat) (sup : List Int) : Prop := ∀ r, Root es n r → compSum es n sup r = 0
theorem comp_same {es : Es} {n i : Nat} (hg : Good es n) (hi : i < es.length) : (comps es n)[efr es i]? = (comps es n)[eto es i]? := by
  obtain ⟨h1, h2, h3⟩ := hg i hi
  obtain ⟨r, e1, hr, l1⟩ := comps_at hg h1
  obtain ⟨r', e2, hr', l2⟩ := comps_at hg h2
  have hst : Rch es (efr es i) (eto es i) := by
    have hin : i ∈ inc es (efr es i) := inc_mem.2 ⟨hi, .inl rfl⟩
    have := (Rch.refl (es := es) (efr es i)).step hin
    unfold oth at this
    rwa [if_pos rfl] at this
  have : Lst es r' (efr es i) := ⟨l2.1.trans (hst.symm hg), fun x hx hh => l2.2 x hx (hh.trans hst)⟩
  rw [e1, e2, lst_eq l1 this]
theorem ffl_len {es : Es} {n : Nat} {sup : List Int} (hg : Good es n) (hl : sup.length = n) : (ffl es n sup).length = es.length := (ff_to hg hl n (Nat.le_refl _)).1.lfl
theorem ffl_tree {es : Es} {n i : Nat} {sup : List Int} (hg : Good es n) (hl : sup.length = n) (hi : i < es.length) (ht : ¬ Tree es n i) : (ffl es n sup).getD i 0 = 0 := by
  apply Classical.byContradiction
  intro h
  obtain ⟨r, v, _, h1, h2⟩ := (ff_to hg hl n (Nat.le_refl _)).1.nz i hi h
  exact ht ⟨r, v, h1, h2⟩
theorem ffl_out {es : Es} {n : Nat} {sup : List Int} (hg : Good es n) (hl : sup.length = n) {v : Nat} (hv : v < n) (hr : ¬ Root es n v) : outN es (fun i => (ffl es n sup).getD i 0) v = sup.getD v 0 := by
  obtain ⟨h1, h2⟩ := ff_to hg hl n (Nat.le_refl _)
  refine h1.done v hv ((h2 v).2 ?_)
  obtain ⟨r, hroot, hrv⟩ := has_root hg hv
  exact ⟨r, root_lt hroot, hroot, hrv, fun e => hr (e ▸ hroot)⟩
theorem ffl_bal {es : Es} {n : Nat} {sup : List Int} (hg : Good es n) (hl : sup.length = n) (he : Even es n sup) {v : Nat} (hv : v < n) : outN es (fun i => (ffl es n sup).getD i 0) v = sup.getD v 0 := by
  by_cases hr : Root es n v
  · have h1 := outN_sum hg (fun i => (ffl es n sup).getD i 0) (fun x => (comps es n)[x]? == some (some v)) (fun i hi => by rw [comp_same hg hi])
    have h2 := he v hr
    unfold compSum at h2
    have h3 : sumN n (fun x => if ((comps es n)[x]? == some (some v)) = true then sup.getD x 0 - outN es (fun i => (ffl es n sup).getD i 0) x else 0) = 0 := by
      have e : (fun x => if ((comps es n)[x]? == some (some v)) = true then sup.getD x 0 - outN es (fun i => (ffl es n sup).getD i 0) x else 0) = fun x => (if ((comps es n)[x]? == some (some v)) = true then sup.getD x 0 else 0) - (if ((comps es n)[x]? == some (some v)) = true then outN es (fun i => (ffl es n sup).getD i 0) x else 0) := by
        funext x
        split <;> omega
      rw [e, sumN_sub, h1, h2]; rfl
    rw [sumN_one hv] at h3
    · rw [if_pos (beq_iff_eq.2 hr)] at h3
      omega
    · intro x hx hne
      by_cases hc : ((comps es n)[x]? == some (some v)) = true
      · rw [if_pos hc]
        have hxr : ¬ Root es n x := by
          intro hxr
          have h5 := beq_iff_eq.1 hc
          unfold Root at hxr
          rw [hxr] at h5
          injection h5 with h5
          injection h5 with h5
          exact hne h5
        rw [ffl_out hg hl hx hxr]; omega
      · rw [if_neg hc]
  · exact ffl_out hg hl hv hr
end Go.Proofs.Ytpgegfnhokhlmaa
set_option linter.unusedVariables false
namespace Go.Proofs.Ytpgegfnhokhlmaa

def treeB (es : Es) (n i : Nat) : Bool := (List.range n).any fun r => isRoot es n r && (bfs es n r).ent.contains (some i)
theorem treeB_iff {es : Es} {n i : Nat} : treeB es n i = true ↔ Tree es n i := by
  unfold treeB Tree
  rw [List.any_eq_true]
  constructor
  · rintro ⟨r, hr, h⟩
    rw [Bool.and_eq_true] at h
    have hm := List.contains_iff_mem.1 h.2
    obtain ⟨v, hv⟩ := List.getElem?_of_mem hm
    exact ⟨r, v, isRoot_iff.1 h.1, hv⟩
  · rintro ⟨r, v, hr, hv⟩
    refine ⟨r, List.mem_range.2 (root_lt hr), ?_⟩
    rw [Bool.and_eq_true]
    exact ⟨isRoot_iff.2 hr, List.contains_iff_mem.2 (List.mem_of_getElem? hv)⟩
/-- The pipes of the forest, increasing. -/
def fst (es : Es) (n : Nat) : List Nat := (List.range es.length).filter fun i => treeB es n i
theorem fst_mem {es : Es} {n i : Nat} (hg : Good es n) : i ∈ fst es n ↔ Tree es n i := by
  unfold fst
  rw [List.mem_filter, List.mem_range, treeB_iff]
  exact ⟨fun h => h.2, fun h => ⟨tree_lt hg h, h⟩⟩
/-- The forest as a graph. -/
def tes (es : Es) (n : Nat) : Es := (fst es n).map fun i => es.getD i (0, 0)
theorem tes_len (es : Es) (n : Nat) : (tes es n).length = (fst es n).length := by simp [tes]
theorem tes_at {es : Es} {n j i : Nat} (h : (fst es n)[j]? = some i) : efr (tes es n) j = efr es i ∧ eto (tes es n) j = eto es i := by
  have e : (tes es n).getD j (0, 0) = es.getD i (0, 0) := by
    unfold tes
    simp [List.getD, h]
  unfold efr eto
  rw [e]
  exact ⟨rfl, rfl⟩
theorem fst_get {es : Es} {n j : Nat} (hj : j < (tes es n).length) : ∃ i, (fst es n)[j]? = some i := by
  rw [tes_len] at hj
  exact ⟨_, List.getElem?_eq_getElem hj⟩
theorem tes_good {es : Es} {n : Nat} (hg : Good es n) : Good (tes es n) n := by
  intro j hj
  obtain ⟨i, hi⟩ := fst_get hj
  obtain ⟨h1, h2⟩ := tes_at hi
  rw [h1, h2]
  exact hg i (tree_lt hg ((fst_mem hg).1 (List.mem_of_getElem? hi)))
theorem tes_inc {es : Es} {n j i v : Nat} (hg : Good es n) (h : (fst es n)[j]? = some i) : j ∈ inc (tes es n) v ↔ i ∈ inc es v := by
  obtain ⟨h1, h2⟩ := tes_at h
  have hj := (List.getElem?_eq_some_iff.1 h).1
  rw [inc_mem, inc_mem, h1, h2, tes_len]
  have := tree_lt hg ((fst_mem hg).1 (List.mem_of_getElem? h))
  exact ⟨fun h => ⟨this, h.2⟩, fun h => ⟨hj, h.2⟩⟩
theorem tes_oth {es : Es} {n j i : Nat} (h : (fst es n)[j]? = some i) (v : Nat) : oth (tes es n) j v = oth es i v := by
  obtain ⟨h1, h2⟩ := tes_at h
  unfold oth
  rw [h1, h2]
theorem tes_rch {es : Es} {n u v : Nat} (hg : Good es n) (hu : u < n) : Rch (tes es n) u v ↔ Rch es u v := by
  have hg' := tes_good hg
  constructor
  · intro h
    induction h with
    | refl => exact .refl _
    | @step x j _ hj ih =>
      obtain ⟨i, hi⟩ := fst_get (inc_mem.1 hj).1
      rw [tes_oth hi]
      exact ih.step ((tes_inc hg hi).1 hj)
  · have key : ∀ r, Root es n r → ∀ (q v : Nat), (bfs es n r).ord[q]? = some v → Rch (tes es n) r v := by
      intro r hr
      have hD := bfs_done hg (root_lt hr)
      intro q
      induction q using Nat.strongRecOn with
      | ind q ih =>
        intro v hq
        by_cases hs : v = r
        · subst hs; exact .refl _
        · obtain ⟨i, hi⟩ := hD.inv.ent2 v (List.mem_of_getElem? hq) hs
          obtain ⟨hinc, p, q', hp, hq', hpq⟩ := hD.inv.ent1 v i hi
          obtain rfl := pos_inj hD.inv.nd hq hq'
          obtain ⟨j, hj⟩ := List.getElem?_of_mem ((fst_mem hg).2 ⟨r, v, hr, hi⟩)
          have h1 := (ih p hpq _ hp).step ((tes_inc hg hj).2 (inc_oth hinc))
          rwa [tes_oth hj, oth_oth hg hinc] at h1
    intro h
    obtain ⟨r, hr, hru⟩ := has_root hg hu
    have hD := bfs_done hg (root_lt hr)
    have hrv := hru.trans h
    obtain ⟨q1, h1⟩ := List.getElem?_of_mem ((done_rch hg hD u).2 hru)
    obtain ⟨q2, h2⟩ := List.getElem?_of_mem ((done_rch hg hD v).2 hrv)
    exact ((key r hr q1 u h1).symm hg').trans (key r hr q2 v h2)

/-- A list of pipes leads from a to b. -/
def IsPath (es : Es) : Nat → List Nat → Nat → Prop
  | a, [], b => a = b
  | a, i :: l, b => i ∈ inc es a ∧ IsPath es (oth es i a) l b
/-- One unit sent along a path. -/
def pfl (es : Es) : Nat → List Nat → Nat → Int
  | _, [], _ => 0
  | a, i :: l, j => if j = i then (if efr es i = a then 1 else -1) else pfl es (oth es i a) l j
theorem pfl_out {es : Es} {n : Nat} : ∀ (l : List Nat) (a : Nat) (j : Nat), j ∉ l → pfl es a l j = 0
  | [], _, _, _ => rfl
  | i :: l, a, j, h => by
    have hne : ¬ j = i := fun e => h (List.mem_cons.2 (.inl e))
    rw [pfl, if_neg hne]
    exact pfl_out (n := n) l _ j (fun hh => h (List.mem_cons_of_mem _ hh))
theorem unit_sgn {es : Es} {n i a v : Nat} (hg : Good es n) (hi : i ∈ inc es a) : sgn es i v (if efr es i = a then 1 else -1) = (if a = v then 1 else 0) - (if oth es i a = v then 1 else 0) := by
  obtain ⟨hil, he⟩ := inc_mem.1 hi
  obtain ⟨h1, h2, h3⟩ := hg i hil
  unfold sgn oth
  rcases he with he | he
  · subst he
    rw [if_pos rfl, if_pos rfl]
  · subst he
    rw [if_neg h3, if_neg h3]
    by_cases a : efr es i = v
    · rw [if_pos a, if_neg (by omega), if_pos a, if_neg (by omega)]; rfl
    · rw [if_neg a, if_neg a]
      split <;> rfl
theorem pfl_outN {es : Es} {n : Nat} (hg : Good es n) : ∀ (l : List Nat) (a b : Nat), IsPath es a l b → l.Nodup → ∀ v, outN es (pfl es a l) v = (if a = v then 1 else 0) - (if b = v then 1 else 0)
  | [], a, b, h, _, v => by
    have h : a = b := h
    subst h
    have : outN es (pfl es a []) v = 0 := sumN_zero fun i _ => by
      show sgn es i v 0 = 0
      exact sgn_zero _ _ _
    rw [this]; omega
  | i :: l, a, b, h, hn, v => by
    obtain ⟨hi, hl⟩ := h
    have hil := (inc_mem.1 hi).1
    have hn' := List.nodup_cons.1 hn
    have e : pfl es a (i :: l) = fun j => if j = i then (if efr es i = a then 1 else -1) else pfl es (oth es i a) l j := by funext j; rfl
    rw [e, outN_set hil, pfl_outN hg l _ b hl hn'.2 v, pfl_out (n := n) l _ i hn'.1, Int.sub_zero, unit_sgn hg hi]
    omega
/-- A supply of one at a node, of minus one at another. -/
def unitS (n a b : Nat) : List Int := (List.range n).map fun v => (if a = v then 1 else 0) - (if b = v then 1 else 0)
theorem unitS_len (n a b : Nat) : (unitS n a b).length = n := by simp [unitS]
theorem unitS_at {n a b v : Nat} (hv : v < n) : (unitS n a b).getD v 0 = (if a = v then 1 else 0) - (if b = v then 1 else 0) := by simp [unitS, List.getD, hv]
/-- The cycle of a chord. -/
def cyc (es : Es) (n c : Nat) : List Int := (ffl es n (unitS n (eto es c) (efr es c))).set c 1
theorem cyc_len {es : Es} {n : Nat} (hg : Good es n) (c : Nat) : (cyc es n c).length = es.length := by
  unfold cyc
  rw [List.length_set, ffl_len hg (unitS_len _ _ _)]
/-- A path through the forest from the end of a chord to its beginning is its cycle. -/
theorem cyc_path {es : Es} {n c : Nat} {l : List Nat} (hg : Good es n) (hc : c < es.length) (hct : ¬ Tree es n c) (hp : IsPath es (eto es c) l (efr es c)) (hn : l.Nodup) (ht : ∀ i ∈ l, Tree es n i) :
    ∀ i, i < es.length → (cyc es n c).getD i 0 = if i = c then 1 else pfl es (eto es c) l i := by
  have hul := unitS_len n (eto es c) (efr es c)
  have hfl := ffl_len hg hul
  have hcl : c ∉ l := fun h => hct (ht c h)
  have key := tree_flow_eq hg (fun i => (ffl es n (unitS n (eto es c) (efr es c))).getD i 0) (pfl es (eto es c) l) (fun i hi hti => by
    show (ffl es n _).getD i 0 = _
    rw [ffl_tree hg hul hi hti, pfl_out (n := n) l _ i (fun h => hti (ht i h))]) (fun v hv hr => by
    show outN es (fun i => (ffl es n _).getD i 0) v = _
    rw [ffl_out hg hul hv hr, unitS_at hv, pfl_outN hg l _ _ hp hn v])
  intro i hi
  unfold cyc
  rw [getD_set (by omega)]
  split
  · rfl
  · exact key i hi
/-- The way back along the entries of a search. -/
structure Back (es : Es) (st : St) (x : Nat) (l : List Nat) (b : Nat) : Prop where
  path : IsPath es x l b
  nd : l.Nodup
  ents : ∀ i ∈ l, ∃ (y q px : Nat), st.ent[y]? = some (some i) ∧ st.ord[q]? = some y ∧ st.ord[px]? = some x ∧ px < q
theorem back_step {es : Es} {n s x b i : Nat} {st : St} {l : List Nat} (hg : Good es n) (h : Inv es n s st) (hb : Back es st x l b) (hx : st.ent[x]? = some (some i)) : Back es st (oth es i x) (i :: l) b := by
  obtain ⟨hinc, p, q, hp, hq, hpq⟩ := h.ent1 x i hx
  refine ⟨⟨inc_oth hinc, by rw [oth_oth hg hinc]; exact hb.path⟩, List.nodup_cons.2 ⟨fun hi => ?_, hb.nd⟩, fun j hj => ?_⟩
  · obtain ⟨y, q2, px, h1, h2, h3, h4⟩ := hb.ents i hi
    have := ent_inj hg h hx h1
    subst this
    have e1 := pos_inj h.nd h2 h3
    omega
  · rcases List.mem_cons.1 hj with rfl | hj
    · exact ⟨x, q, p, hx, hq, hp, hpq⟩
    · obtain ⟨y, q2, px, h1, h2, h3, h4⟩ := hb.ents j hj
      have e1 := pos_inj h.nd hq h3
      exact ⟨y, q2, p, h1, h2, hp, by omega⟩
theorem path_map {es : Es} {n : Nat} (hg : Good es n) : ∀ (l : List Nat) (a b : Nat), IsPath (tes es n) a l b → IsPath es a (l.map fun j => (fst es n).getD j 0) b
  | [], a, b, h => h
  | j :: l, a, b, h => by
    obtain ⟨hj, hl⟩ := h
    obtain ⟨i, hi⟩ := fst_get (inc_mem.1 hj).1
    have e : (fst es n).getD j 0 = i := by simp [List.getD, hi]
    refine ⟨?_, ?_⟩
    · show (fst es n).getD j 0 ∈ inc es a
      rw [e]; exact (tes_inc hg hi).1 hj
    · show IsPath es (oth es ((fst es n).getD j 0) a) (l.map _) b
      rw [e, ← tes_oth hi]
      exact path_map hg l _ b hl
end Go.Proofs.Ytpgegfnhokhlmaa
set_option linter.unusedVariables false
namespace Go.Proofs.Ytpgegfnhokhlmaa

/-- Levels along the entries of a search. -/
def lvStep (es : Es) (ent : List (Option Nat)) (d : Nat → Int) (lv : List Int) (v : Nat) : List Int := match ent[v]? with
  | some (some i) => lv.set v (lv.getD (oth es i v) 0 + (if efr es i = v then d i else -(d i)))
  | _ => lv
def lvTo (es : Es) (st : St) (d : Nat → Int) (lv : List Int) (k : Nat) : List Int := ((st.ord.drop 1).take k).foldl (lvStep es st.ent d) lv
theorem lvStep_len (es : Es) (ent : List (Option Nat)) (d : Nat → Int) (lv : List Int) (v : Nat) : (lvStep es ent d lv v).length = lv.length := by
  unfold lvStep
  split
  · rw [List.length_set]
  · rfl
theorem lvTo_succ {es : Es} {st : St} {d : Nat → Int} {lv : List Int} {k v : Nat} (h : st.ord[k + 1]? = some v) : lvTo es st d lv (k + 1) = lvStep es st.ent d (lvTo es st d lv k) v := by
  unfold lvTo
  have : (st.ord.drop 1)[k]? = some v := by rw [List.getElem?_drop, Nat.add_comm]; exact h
  rw [List.take_add_one, this, List.foldl_append]
  rfl
theorem lvTo_len (es : Es) (st : St) (d : Nat → Int) (lv : List Int) (k : Nat) : (lvTo es st d lv k).length = lv.length := by
  unfold lvTo
  generalize (st.ord.drop 1).take k = l
  induction l generalizing lv with
  | nil => rfl
  | cons v l ih => rw [List.foldl_cons, ih, lvStep_len]
/-- The levels of the nodes that the search has gone through fit. -/
theorem lv_fits {es : Es} {n s : Nat} {st : St} {d : Nat → Int} {lv : List Int} (hg : Good es n) (h : Inv es n s st) (hl : lv.length = n) : ∀ k, k + 1 ≤ st.ord.length →
    (lvTo es st d lv k).getD s 0 = lv.getD s 0 ∧ ∀ (q v i : Nat), q ≤ k → 1 ≤ q → st.ord[q]? = some v → st.ent[v]? = some (some i) → (lvTo es st d lv k).getD v 0 = (lvTo es st d lv k).getD (oth es i v) 0 + (if efr es i = v then d i else -(d i)) := by
  intro k
  induction k with
  | zero => intro _; exact ⟨by simp [lvTo], fun q v i h1 h2 => absurd h1 (by omega)⟩
  | succ k ih =>
    intro hk
    obtain ⟨h1, h2⟩ := ih (by omega)
    have hx : st.ord[k + 1]? = some st.ord[k + 1] := List.getElem?_eq_getElem (by omega)
    generalize st.ord[k + 1] = x at hx
    have hxs : x ≠ s := by
      intro e
      subst e
      have := pos_inj h.nd hx h.hd
      omega
    obtain ⟨j, hj⟩ := h.ent2 x (List.mem_of_getElem? hx) hxs
    have hlen := lvTo_len es st d lv k
    have hxn := h.lt x (List.mem_of_getElem? hx)
    rw [lvTo_succ hx]
    have e : lvStep es st.ent d (lvTo es st d lv k) x = (lvTo es st d lv k).set x ((lvTo es st d lv k).getD (oth es j x) 0 + (if efr es j = x then d j else -(d j))) := by
      unfold lvStep
      rw [hj]
    rw [e]
    have hs : ∀ y, ((lvTo es st d lv k).set x ((lvTo es st d lv k).getD (oth es j x) 0 + (if efr es j = x then d j else -(d j)))).getD y 0 = if y = x then (lvTo es st d lv k).getD (oth es j x) 0 + (if efr es j = x then d j else -(d j)) else (lvTo es st d lv k).getD y 0 := fun y => getD_set (by omega)
    refine ⟨by rw [hs, if_neg (fun e => hxs e.symm)]; exact h1, fun q v i hq hq1 hv hi => ?_⟩
    obtain ⟨hinc, p, q', hp, hq', hpq⟩ := h.ent1 v i hi
    obtain rfl := pos_inj h.nd hv hq'
    by_cases e1 : q = k + 1
    · subst e1
      have : x = v := Option.some.inj (hx.symm.trans hv)
      subst this
      rw [hj] at hi
      injection hi with hi
      injection hi with hi
      subst hi
      rw [hs, hs, if_pos rfl, if_neg (oth_ne hg hinc)]
    · have hvx : v ≠ x := by
        intro e
        subst e
        have := pos_inj h.nd hv hx
        omega
      have hux : oth es i v ≠ x := by
        intro e
        rw [e] at hp
        have := pos_inj h.nd hp hx
        omega
      rw [hs, hs, if_neg hvx, if_neg hux]
      exact h2 q v i (by omega) hq1 hv hi
/-- The levels of a whole search. -/
def lvs (es : Es) (n s : Nat) (d : Nat → Int) (lv : List Int) : List Int := lvTo es (bfs es n s) d lv ((bfs es n s).ord.length - 1)
/-- All nodes are reached from node 0. -/
def Conn (es : Es) (n : Nat) : Prop := ∀ v, v < n → Rch es 0 v
theorem conn_root {es : Es} {n r : Nat} (hg : Good es n) (hc : Conn es n) : Root es n r ↔ r = 0 ∧ 0 < n := by
  constructor
  · intro h
    have hr := root_lt h
    refine ⟨?_, by omega⟩
    rcases Nat.eq_zero_or_pos r with h0 | h0
    · exact h0
    · exact absurd (hc r hr) ((root_iff hg hr).1 h 0 h0)
  · rintro ⟨rfl, h⟩
    exact (root_iff hg h).2 fun r' hr' => absurd hr' (by omega)
/-- The drop along each pipe of the forest is the difference of the levels. -/
theorem lvs_tree {es : Es} {n i : Nat} {d : Nat → Int} {lv : List Int} (hg : Good es n) (hc : Conn es n) (hl : lv.length = n) (hi : Tree es n i) : (lvs es n 0 d lv).getD (efr es i) 0 - (lvs es n 0 d lv).getD (eto es i) 0 = d i := by
  obtain ⟨r, v, hr, hv⟩ := hi
  have hr0 := (conn_root hg hc).1 hr
  obtain ⟨rfl, hn⟩ := hr0
  have hD := bfs_done (s := 0) hg hn
  obtain ⟨hinc, p, q, hp, hq, hpq⟩ := hD.inv.ent1 v i hv
  have hql := (List.getElem?_eq_some_iff.1 hq).1
  have h := (lv_fits (d := d) hg hD.inv hl ((bfs es n 0).ord.length - 1) (by omega)).2 q v i (by omega) (by omega) hq hv
  have hgi := hg i (inc_mem.1 hinc).1
  unfold lvs
  rcases (inc_mem.1 hinc).2 with he | he
  · unfold oth at h
    rw [if_pos he, if_pos he] at h
    rw [he]; omega
  · unfold oth at h
    rw [if_neg (by omega), if_neg (by omega)] at h
    rw [he]; omega
theorem lvs_root {es : Es} {n s : Nat} {d : Nat → Int} {lv : List Int} (hg : Good es n) (hs : s < n) (hl : lv.length = n) : (lvs es n s d lv).getD s 0 = lv.getD s 0 := by
  have hD := bfs_done (s := s) hg hs
  have := (List.getElem?_eq_some_iff.1 hD.inv.hd).1
  exact (lv_fits hg hD.inv hl _ (by omega)).1
theorem lvs_len (es : Es) (n s : Nat) (d : Nat → Int) (lv : List Int) : (lvs es n s d lv).length = lv.length := lvTo_len _ _ _ _ _
/-- The levels along the forest as a graph of its own are the same. -/
theorem lvs_tes {es : Es} {n : Nat} {d d' : Nat → Int} {lv lv' : List Int} {x : Int} (hg : Good es n) (hc : Conn es n) (hn : 0 < n) (hl : lv.length = n) (hl' : lv'.length = n) (h0 : lv'.getD 0 0 = lv.getD 0 0 + x)
    (hd : ∀ j i, (fst es n)[j]? = some i → d' j = d i) : ∀ v, v < n → (lvs (tes es n) n 0 d' lv').getD v 0 = (lvs es n 0 d lv).getD v 0 + x := by
  have hg' := tes_good hg
  have hD := bfs_done (s := 0) hg' hn
  have key : ∀ (q v : Nat), (bfs (tes es n) n 0).ord[q]? = some v → (lvs (tes es n) n 0 d' lv').getD v 0 = (lvs es n 0 d lv).getD v 0 + x := by
    intro q
    induction q using Nat.strongRecOn with
    | ind q ih =>
      intro v hq
      by_cases hv0 : v = 0
      · subst hv0
        rw [lvs_root hg' hn hl', lvs_root hg hn hl, h0]
      · obtain ⟨j, hj⟩ := hD.inv.ent2 v (List.mem_of_getElem? hq) hv0
        obtain ⟨hinc, p, q', hp, hq', hpq⟩ := hD.inv.ent1 v j hj
        obtain rfl := pos_inj hD.inv.nd hq hq'
        have hql := (List.getElem?_eq_some_iff.1 hq).1
        have h1 := (lv_fits (d := d') hg' hD.inv hl' ((bfs (tes es n) n 0).ord.length - 1) (by omega)).2 q v j (by omega) (by omega) hq hj
        have h2 := ih p hpq _ hp
        obtain ⟨i, hi⟩ := fst_get (inc_mem.1 hinc).1
        have hit := (fst_mem hg).1 (List.mem_of_getElem? hi)
        have h3 := lvs_tree (d := d) hg hc hl hit
        have hdi := hd j i hi
        obtain ⟨e1, e2⟩ := tes_at hi
        have hgi := hg i (tree_lt hg hit)
        unfold lvs at h2 h3 ⊢
        rw [h1, h2, hdi, e1, tes_oth hi]
        have he := ((tes_inc hg hi).1 hinc)
        rcases (inc_mem.1 he).2 with he | he
        · unfold oth
          rw [if_pos he, if_pos he]
          rw [he] at h3
          omega
        · unfold oth
          rw [if_neg (by omega), if_neg (by omega)]
          rw [he] at h3
          omega
  intro v hv
  have hr := (tes_rch (u := 0) hg hn).2 (hc v hv)
  obtain ⟨q, hq⟩ := List.getElem?_of_mem ((done_rch hg' hD v).2 hr)
  exact key q v hq
theorem fst_nodup (es : Es) (n : Nat) : (fst es n).Nodup := List.Pairwise.filter _ List.nodup_range
/-- A chord is closed by a path through the forest. -/
theorem chord_path {es : Es} {n c : Nat} (hg : Good es n) (hc : c < es.length) : ∃ l, IsPath es (eto es c) l (efr es c) ∧ l.Nodup ∧ ∀ i ∈ l, Tree es n i := by
  obtain ⟨h1, h2, h3⟩ := hg c hc
  have hg' := tes_good hg
  have hD := bfs_done (s := eto es c) hg' h2
  have hin : c ∈ inc es (eto es c) := inc_mem.2 ⟨hc, .inr rfl⟩
  have hr : Rch es (eto es c) (efr es c) := by
    have := (Rch.refl (es := es) (eto es c)).step hin
    unfold oth at this
    rwa [if_neg h3] at this
  obtain ⟨q, hq⟩ := List.getElem?_of_mem ((done_rch hg' hD _).2 ((tes_rch hg h2).2 hr))
  have key : ∀ (q x : Nat) (l : List Nat), (bfs (tes es n) n (eto es c)).ord[q]? = some x → Back (tes es n) (bfs (tes es n) n (eto es c)) x l (efr es c) → ∃ l', Back (tes es n) (bfs (tes es n) n (eto es c)) (eto es c) l' (efr es c) := by
    intro q
    induction q using Nat.strongRecOn with
    | ind q ih =>
      intro x l hx hb
      by_cases hxs : x = eto es c
      · exact ⟨l, hxs ▸ hb⟩
      · obtain ⟨j, hj⟩ := hD.inv.ent2 x (List.mem_of_getElem? hx) hxs
        obtain ⟨hinc, p, q', hp, hq', hpq⟩ := hD.inv.ent1 x j hj
        obtain rfl := pos_inj hD.inv.nd hx hq'
        exact ih p hpq _ _ hp (back_step hg' hD.inv hb hj)
  obtain ⟨l, hb⟩ := key q _ [] hq ⟨rfl, List.nodup_nil, fun i hi => absurd hi List.not_mem_nil⟩
  have hlt : ∀ j ∈ l, j < (fst es n).length := by
    intro j hj
    obtain ⟨y, q2, px, e1, _⟩ := hb.ents j hj
    have := (inc_mem.1 (hD.inv.ent1 y j e1).1).1
    rwa [tes_len] at this
  refine ⟨_, path_map hg l _ _ hb.path, ?_, fun i hi => ?_⟩
  · refine List.pairwise_map.2 (List.Pairwise.imp_of_mem ?_ hb.nd)
    intro a b ha hb' hne hab
    apply hne
    have h1 := hlt a ha
    have h2 := hlt b hb'
    simp only [List.getD, List.getElem?_eq_getElem h1, List.getElem?_eq_getElem h2, Option.getD_some] at hab
    exact (List.getElem_inj (fst_nodup es n)).1 hab
  · obtain ⟨j, hj, rfl⟩ := List.mem_map.1 hi
    have h1 := hlt j hj
    refine (fst_mem hg).1 ?_
    simp only [List.getD, List.getElem?_eq_getElem h1, Option.getD_some]
    exact List.getElem_mem h1
end Go.Proofs.Ytpgegfnhokhlmaa
set_option linter.unusedVariables false
namespace Go.Proofs.Ytpgegfnhokhlmaa

/-- The energy of a flow through a resistance. -/
def en (k f : Int) : Int := k * ((f.natAbs : Int) * (f.natAbs : Int) * (f.natAbs : Int))
def enL (ks fs : List Int) : Int := sumN fs.length fun i => en (ks.getD i 0) (fs.getD i 0)
def inR (fs : List Int) : Bool := fs.all fun f => decide (-30000 ≤ f) && decide (f ≤ 30000)
def addL (fs cs : List Int) (a : Int) : List Int := (List.range fs.length).map fun i => fs.getD i 0 + a * cs.getD i 0
def lower (ks fs cs : List Int) (a : Int) : Bool := inR (addL fs cs a) && decide (enL ks (addL fs cs a) < enL ks fs)
def moveM (ks cs : List Int) (s : Int) (fs : List Int) : Option (List Int) := if lower ks fs cs s = true then some (addL fs cs s) else if lower ks fs cs (-s) = true then some (addL fs cs (-s)) else none
/-- One cycle of a pass: the flows and the number of moves. -/
def passS (ks : List Int) (s : Int) (st : List Int × Nat) (cs : List Int) : List Int × Nat := if 5000 ≤ st.2 then st else match moveM ks cs s st.1 with
  | none => st
  | some f => (f, st.2 + 1)
def passM (ks : List Int) (css : List (List Int)) (s : Int) (st : List Int × Nat) : List Int × Nat := css.foldl (passS ks s) st
theorem addL_len (fs cs : List Int) (a : Int) : (addL fs cs a).length = fs.length := by simp [addL]
theorem addL_at {fs cs : List Int} {a : Int} {i : Nat} (hi : i < fs.length) : (addL fs cs a).getD i 0 = fs.getD i 0 + a * cs.getD i 0 := by simp [addL, List.getD, hi]
theorem passS_mono (ks : List Int) (s : Int) (st : List Int × Nat) (cs : List Int) : st.2 ≤ (passS ks s st cs).2 ∧ (passS ks s st cs).2 ≤ max 5000 st.2 ∧ ((passS ks s st cs).2 = st.2 → passS ks s st cs = st) := by
  unfold passS
  split
  · exact ⟨Nat.le_refl _, by omega, fun _ => rfl⟩
  · rename_i h
    cases hm : moveM ks cs s st.1 with
    | none => exact ⟨Nat.le_refl _, by show st.2 ≤ _; omega, fun _ => rfl⟩
    | some f =>
      refine ⟨by simp, by simp; omega, fun h => ?_⟩
      simp at h
theorem passM_mono (ks : List Int) (css : List (List Int)) (s : Int) : ∀ (st : List Int × Nat), st.2 ≤ (passM ks css s st).2 ∧ (passM ks css s st).2 ≤ max 5000 st.2 ∧ ((passM ks css s st).2 = st.2 → passM ks css s st = st) := by
  unfold passM
  induction css with
  | nil => intro st; exact ⟨Nat.le_refl _, by show st.2 ≤ _; omega, fun _ => rfl⟩
  | cons cs css ih =>
    intro st
    rw [List.foldl_cons]
    obtain ⟨a1, a2, a3⟩ := passS_mono ks s st cs
    obtain ⟨b1, b2, b3⟩ := ih (passS ks s st cs)
    refine ⟨by omega, by omega, fun h => ?_⟩
    have e1 : (passS ks s st cs).2 = st.2 := by omega
    have e2 := a3 e1
    rw [e2] at b3 ⊢
    exact b3 (by rw [e2] at h; exact h)
theorem passS_full {ks : List Int} {s : Int} {st : List Int × Nat} {cs : List Int} (h : 5000 ≤ st.2) : passS ks s st cs = st := by
  unfold passS
  rw [if_pos h]
theorem passM_full {ks : List Int} {css : List (List Int)} {s : Int} {st : List Int × Nat} (h : 5000 ≤ st.2) : passM ks css s st = st := by
  unfold passM
  induction css with
  | nil => rfl
  | cons cs css ih => rw [List.foldl_cons, passS_full h]; exact ih
/-- Passes with a step until none moves, then with half the step. -/
def relaxM (ks : List Int) (css : List (List Int)) (s : Nat) (st : List Int × Nat) : List Int × Nat :=
  if s = 0 then st else if (passM ks css s st).2 = st.2 then relaxM ks css (s / 2) (passM ks css s st) else relaxM ks css s (passM ks css s st)
termination_by (s, 5000 - st.2)
decreasing_by
  · apply Prod.Lex.left
    omega
  · rename_i h1 h2
    have hm := passM_mono ks css s st
    have h5 : ¬ 5000 ≤ st.2 := fun h => h2 (by rw [passM_full h])
    apply Prod.Lex.right
    have := hm.1
    have := hm.2.1
    omega
theorem relaxM_zero (ks : List Int) (css : List (List Int)) (st : List Int × Nat) : relaxM ks css 0 st = st := by rw [relaxM, if_pos rfl]
theorem relaxM_stay {ks : List Int} {css : List (List Int)} {s : Nat} {st : List Int × Nat} (hs : 0 < s) (h : (passM ks css s st).2 = st.2) : relaxM ks css s st = relaxM ks css (s / 2) st := by
  rw [relaxM, if_neg (by omega), if_pos h, (passM_mono ks css s st).2.2 h]
theorem relaxM_go {ks : List Int} {css : List (List Int)} {s : Nat} {st : List Int × Nat} (hs : 0 < s) (h : (passM ks css s st).2 ≠ st.2) : relaxM ks css s st = relaxM ks css s (passM ks css s st) := by
  rw [relaxM, if_neg (by omega), if_neg h]
theorem relaxM_full {ks : List Int} {css : List (List Int)} {st : List Int × Nat} (h : 5000 ≤ st.2) : ∀ s, relaxM ks css s st = st := by
  intro s
  induction s using Nat.strongRecOn with
  | ind s ih =>
    by_cases hs : s = 0
    · subst hs; exact relaxM_zero _ _ _
    · rw [relaxM_stay (by omega) (by rw [passM_full h])]
      exact ih (s / 2) (by omega)
/-- What passes keep, relaxing keeps. -/
theorem relaxM_keep {ks : List Int} {css : List (List Int)} {P : List Int × Nat → Prop} (h : ∀ (s : Int) (st : List Int × Nat), P st → P (passM ks css s st)) (s : Nat) (st : List Int × Nat) (h0 : P st) : P (relaxM ks css s st) := by
  induction s, st using relaxM.induct ks css with
  | case1 st => rw [relaxM_zero]; exact h0
  | case2 s st hs hst ih =>
    rw [relaxM_stay (by omega) hst]
    have e := (passM_mono ks css s st).2.2 hst
    rw [e] at ih
    exact ih h0
  | case3 s st hs hst ih =>
    rw [relaxM_go (by omega) hst]
    exact ih (h s st h0)
theorem passM_keep {ks : List Int} {css : List (List Int)} {P : List Int × Nat → Prop} (h : ∀ (s : Int) (st : List Int × Nat) (cs : List Int), cs ∈ css → P st → P (passS ks s st cs)) (s : Int) : ∀ (st : List Int × Nat), P st → P (passM ks css s st) := by
  unfold passM
  induction css with
  | nil => intro st h0; exact h0
  | cons cs css ih =>
    intro st h0
    rw [List.foldl_cons]
    exact ih (fun s st c hc => h s st c (List.mem_cons_of_mem _ hc)) _ (h s st cs List.mem_cons_self h0)
/-- A move adds a multiple of a cycle, and stays in range. -/
theorem moveM_some {ks cs fs f : List Int} {s : Int} (h : moveM ks cs s fs = some f) : ∃ a, f = addL fs cs a ∧ lower ks fs cs a = true := by
  unfold moveM at h
  split at h
  · rename_i h1
    injection h with h
    exact ⟨s, h.symm, h1⟩
  · split at h
    · rename_i h1
      injection h with h
      exact ⟨-s, h.symm, h1⟩
    · cases h
theorem moveM_none {ks cs fs : List Int} {s : Int} (h : moveM ks cs s fs = none) : lower ks fs cs s = false ∧ lower ks fs cs (-s) = false := by
  unfold moveM at h
  split at h
  · cases h
  · rename_i h1
    split at h
    · cases h
    · rename_i h2
      exact ⟨by simpa using h1, by simpa using h2⟩
theorem passM_stay {ks : List Int} {css : List (List Int)} {s : Int} : ∀ (st : List Int × Nat), ¬ 5000 ≤ st.2 → (passM ks css s st).2 = st.2 → ∀ cs ∈ css, moveM ks cs s st.1 = none := by
  unfold passM
  induction css with
  | nil => intro st _ _ cs hcs; exact absurd hcs List.not_mem_nil
  | cons c css ih =>
    intro st h5 h cs hcs
    rw [List.foldl_cons] at h
    obtain ⟨a1, a2, a3⟩ := passS_mono ks s st c
    have b1 := (passM_mono ks css s (passS ks s st c)).1
    unfold passM at b1
    have e : passS ks s st c = st := a3 (by omega)
    have hc : moveM ks c s st.1 = none := by
      cases hm : moveM ks c s st.1 with
      | none => rfl
      | some f =>
        exfalso
        have : passS ks s st c = (f, st.2 + 1) := by
          unfold passS
          rw [if_neg h5, hm]
        rw [this] at e
        have := congrArg Prod.snd e
        simp at this
    rcases List.mem_cons.1 hcs with rfl | hcs
    · exact hc
    · rw [e] at h
      exact ih st h5 h cs hcs
/-- Relaxed from a step of at least 1, with moves to spare: no cycle lowers the energy any more. -/
theorem relaxM_rest {ks : List Int} {css : List (List Int)} (s : Nat) (st : List Int × Nat) (hs : 0 < s) (h5 : (relaxM ks css s st).2 < 5000) : ∀ cs ∈ css, lower ks (relaxM ks css s st).1 cs 1 = false ∧ lower ks (relaxM ks css s st).1 cs (-1) = false := by
  induction s, st using relaxM.induct ks css with
  | case1 st => omega
  | case2 s st hs' hst ih =>
    have e := (passM_mono ks css s st).2.2 hst
    rw [e] at ih
    rw [relaxM_stay hs hst] at h5 ⊢
    by_cases h1 : s = 1
    · subst h1
      rw [show (1 / 2 : Nat) = 0 from rfl, relaxM_zero] at h5 ⊢
      intro cs hcs
      have := passM_stay st (by omega) hst cs hcs
      exact moveM_none this
    · exact ih (by omega) h5
  | case3 s st hs' hst ih =>
    rw [relaxM_go hs hst] at h5 ⊢
    exact ih hs h5
end Go.Proofs.Ytpgegfnhokhlmaa
set_option linter.unusedVariables false
namespace Go.Proofs.Ytpgegfnhokhlmaa

def ab (f : Int) : Int := (f.natAbs : Int)
def drp (k f : Int) : Int := k * (f * ab f)
def resL (ks fs cs : List Int) : Int := sumN fs.length fun i => cs.getD i 0 * drp (ks.getD i 0) (fs.getD i 0)
def bndL (ks fs cs : List Int) : Int := sumN fs.length fun i => if cs.getD i 0 = 0 then 0 else ks.getD i 0 * (3 * ab (fs.getD i 0) + 1)
theorem ab_pos {f : Int} (h : 0 ≤ f) : ab f = f := by unfold ab; omega
theorem ab_neg {f : Int} (h : f ≤ 0) : ab f = -f := by unfold ab; omega
theorem cube_up (a : Int) : (a + 1) * (a + 1) * (a + 1) = a * a * a + (3 * (a * a) + 3 * a + 1) := by grind
theorem cube_dn (a : Int) : (a - 1) * (a - 1) * (a - 1) = a * a * a + (-(3 * (a * a)) + 3 * a - 1) := by grind
theorem en_step {k f x : Int} (hk : 0 ≤ k) (hx : x = 1 ∨ x = -1) : en k (f + x) - en k f ≤ 3 * (x * drp k f) + k * (3 * ab f + 1) := by
  have e1 : en k (f + x) = k * (ab (f + x) * ab (f + x) * ab (f + x)) := rfl
  have e2 : en k f = k * (ab f * ab f * ab f) := rfl
  rw [e1, e2]
  unfold drp
  have key : ab (f + x) * ab (f + x) * ab (f + x) ≤ ab f * ab f * ab f + 3 * (x * (f * ab f)) + (3 * ab f + 1) := by
    rcases hx with rfl | rfl
    · by_cases h : 0 ≤ f
      · rw [ab_pos h, ab_pos (show 0 ≤ f + 1 by omega), cube_up]
        have : (1 : Int) * (f * f) = f * f := Int.one_mul _
        omega
      · rw [ab_neg (show f ≤ 0 by omega), ab_neg (show f + 1 ≤ 0 by omega)]
        have e : -(f + 1) = -f - 1 := by omega
        rw [e, cube_dn]
        have : (1 : Int) * (f * -f) = -(f * f) := by rw [Int.one_mul, Int.mul_neg]
        have : -f * -f = f * f := Int.neg_mul_neg f f
        omega
    · by_cases h : 1 ≤ f
      · rw [ab_pos (show 0 ≤ f by omega), ab_pos (show 0 ≤ f + -1 by omega)]
        have e : f + -1 = f - 1 := by omega
        rw [e, cube_dn]
        have : (-1 : Int) * (f * f) = -(f * f) := by rw [Int.neg_mul, Int.one_mul]
        omega
      · rw [ab_neg (show f ≤ 0 by omega), ab_neg (show f + -1 ≤ 0 by omega)]
        have e : -(f + -1) = -f + 1 := by omega
        rw [e, cube_up]
        have : (-1 : Int) * (f * -f) = f * f := by rw [Int.neg_mul, Int.one_mul, Int.mul_neg, Int.neg_neg]
        have : -f * -f = f * f := Int.neg_mul_neg f f
        omega
  have h := Int.mul_le_mul_of_nonneg_left key hk
  have e3 : k * (ab f * ab f * ab f + 3 * (x * (f * ab f)) + (3 * ab f + 1)) = k * (ab f * ab f * ab f) + 3 * (x * (k * (f * ab f))) + k * (3 * ab f + 1) := by grind
  rw [e3] at h
  omega
theorem sumN_le {m : Nat} {f g : Nat → Int} (h : ∀ i, i < m → f i ≤ g i) : sumN m f ≤ sumN m g := by
  induction m with
  | zero => exact Int.le_refl _
  | succ m ih =>
    rw [sumN, sumN]
    have := ih (fun i hi => h i (by omega))
    have := h m (by omega)
    omega
theorem inR_of {fs : List Int} (h : ∀ i, i < fs.length → -30000 ≤ fs.getD i 0 ∧ fs.getD i 0 ≤ 30000) : inR fs = true := by
  unfold inR
  rw [List.all_eq_true]
  intro x hx
  obtain ⟨i, hi, rfl⟩ := List.mem_iff_getElem.1 hx
  have := h i hi
  simp [List.getD, hi] at this
  simp [this]
theorem inR_at {fs : List Int} (h : inR fs = true) {i : Nat} (hi : i < fs.length) : -30000 ≤ fs.getD i 0 ∧ fs.getD i 0 ≤ 30000 := by
  unfold inR at h
  have := List.all_eq_true.1 h fs[i] (List.getElem_mem hi)
  simp at this
  simp [List.getD, hi, this]
/-- No move by one unit lowers the energy: the residual is small. -/
theorem rest_small {ks fs cs : List Int} (hk : ∀ i, i < fs.length → 0 ≤ ks.getD i 0) (hc : ∀ i, i < fs.length → cs.getD i 0 = 0 ∨ cs.getD i 0 = 1 ∨ cs.getD i 0 = -1) (hf : ∀ i, i < fs.length → ab (fs.getD i 0) < 30000)
    (h1 : lower ks fs cs 1 = false) (h2 : lower ks fs cs (-1) = false) : 3 * ab (resL ks fs cs) ≤ bndL ks fs cs := by
  have key : ∀ t : Int, (t = 1 ∨ t = -1) → lower ks fs cs t = false → 0 ≤ 3 * (t * resL ks fs cs) + bndL ks fs cs := by
    intro t ht hl
    have hr : inR (addL fs cs t) = true := by
      refine inR_of fun i hi => ?_
      rw [addL_len] at hi
      rw [addL_at hi]
      have := hf i hi
      unfold ab at this
      rcases ht with rfl | rfl <;> rcases hc i hi with e | e | e <;> rw [e] <;> omega
    unfold lower at hl
    rw [hr] at hl
    simp at hl
    have hle : enL ks (addL fs cs t) - enL ks fs ≤ 3 * (t * resL ks fs cs) + bndL ks fs cs := by
      unfold enL resL bndL
      rw [addL_len, ← sumN_sub]
      have e : 3 * (t * sumN fs.length fun i => cs.getD i 0 * drp (ks.getD i 0) (fs.getD i 0)) + (sumN fs.length fun i => if cs.getD i 0 = 0 then 0 else ks.getD i 0 * (3 * ab (fs.getD i 0) + 1)) =
          sumN fs.length fun i => 3 * (t * (cs.getD i 0 * drp (ks.getD i 0) (fs.getD i 0))) + (if cs.getD i 0 = 0 then 0 else ks.getD i 0 * (3 * ab (fs.getD i 0) + 1)) := by
        rw [sumN_add, sumN_mul, sumN_mul]
      rw [e]
      refine sumN_le fun i hi => ?_
      rw [addL_at hi]
      rcases hc i hi with e0 | e0 | e0
      · rw [e0, if_pos rfl, Int.mul_zero, Int.add_zero, Int.zero_mul, Int.mul_zero, Int.mul_zero]; omega
      · rw [e0, if_neg (by omega)]
        have := en_step (f := fs.getD i 0) (x := t * 1) (hk i hi) (by rcases ht with rfl | rfl <;> simp)
        rw [Int.mul_one] at this ⊢
        rw [Int.one_mul]
        exact this
      · rw [e0, if_neg (by omega)]
        have := en_step (f := fs.getD i 0) (x := t * -1) (hk i hi) (by rcases ht with rfl | rfl <;> simp)
        have e5 : t * (-1 * drp (ks.getD i 0) (fs.getD i 0)) = t * -1 * drp (ks.getD i 0) (fs.getD i 0) := by rw [Int.mul_assoc]
        rw [e5]
        exact this
    omega
  have k1 := key 1 (.inl rfl) h1
  have k2 := key (-1) (.inr rfl) h2
  rw [Int.one_mul] at k1
  rw [Int.neg_mul, Int.one_mul] at k2
  unfold ab
  omega
theorem unit_even {es : Es} {n c : Nat} (hg : Good es n) (hc : c < es.length) : Even es n (unitS n (eto es c) (efr es c)) := by
  intro r _
  obtain ⟨h1, h2, _⟩ := hg c hc
  unfold compSum
  have e : ∀ v, v < n → (if ((comps es n)[v]? == some (some r)) = true then (unitS n (eto es c) (efr es c)).getD v 0 else 0) = (if eto es c = v then (if ((comps es n)[eto es c]? == some (some r)) = true then 1 else 0) else 0) - (if efr es c = v then (if ((comps es n)[efr es c]? == some (some r)) = true then 1 else 0) else 0) := by
    intro v hv
    rw [unitS_at hv]
    by_cases a : eto es c = v
    · have b : ¬ efr es c = v := by omega
      simp [a, b]
    · by_cases b : efr es c = v
      · simp [a, b]
        split <;> simp
      · simp [a, b]
  rw [sumN_congr e, sumN_sub, sumN_ite _ h2, sumN_ite _ h1, comp_same hg hc]
  omega
/-- What flows out of the nodes, weighed with their levels. -/
theorem out_weigh {es : Es} {n : Nat} (hg : Good es n) (f lv : Nat → Int) : sumN es.length (fun i => f i * (lv (efr es i) - lv (eto es i))) = sumN n (fun v => lv v * outN es f v) := by
  have e : sumN n (fun v => lv v * outN es f v) = sumN n (fun v => sumN es.length (fun i => lv v * sgn es i v (f i))) := by
    refine sumN_congr fun v _ => ?_
    unfold outN
    rw [sumN_mul]
  rw [e, sumN_swap]
  refine sumN_congr fun i hi => ?_
  obtain ⟨h1, h2, h3⟩ := hg i hi
  have e2 : ∀ v, v < n → lv v * sgn es i v (f i) = (if efr es i = v then f i * lv (efr es i) else 0) - (if eto es i = v then f i * lv (eto es i) else 0) := by
    intro v _
    unfold sgn
    by_cases a : efr es i = v
    · have b : ¬ eto es i = v := by omega
      simp [a, b, Int.mul_comm]
    · by_cases b : eto es i = v
      · simp [a, b]
        rw [Int.mul_comm, Int.neg_mul]
      · simp [a, b]
  rw [sumN_congr e2, sumN_sub, sumN_ite _ h1, sumN_ite _ h2, Int.mul_sub]
/-- Along the cycle of a chord the drops add up to the gap that the levels leave. -/
theorem chord_gap {es : Es} {n c : Nat} (hg : Good es n) (hc : c < es.length) (hct : ¬ Tree es n c) (d lv : Nat → Int) (hlv : ∀ i, Tree es n i → lv (efr es i) - lv (eto es i) = d i) :
    sumN es.length (fun i => (cyc es n c).getD i 0 * d i) = lv (eto es c) - lv (efr es c) + d c := by
  have hul := unitS_len n (eto es c) (efr es c)
  have hfl := ffl_len hg hul
  have hfc := ffl_tree hg hul hc hct
  obtain ⟨h1, h2, h3⟩ := hg c hc
  have e : ∀ i, i < es.length → (cyc es n c).getD i 0 * d i = (ffl es n (unitS n (eto es c) (efr es c))).getD i 0 * (lv (efr es i) - lv (eto es i)) + (if c = i then d c else 0) := by
    intro i hi
    unfold cyc
    rw [getD_set (by omega)]
    by_cases e : i = c
    · subst e
      rw [if_pos rfl, if_pos rfl, hfc]
      omega
    · rw [if_neg e, if_neg (fun h => e h.symm)]
      by_cases ht : Tree es n i
      · rw [hlv i ht]; omega
      · rw [ffl_tree hg hul hi ht]; omega
  rw [sumN_congr e, sumN_add, sumN_ite _ hc, out_weigh hg]
  have e2 : ∀ v, v < n → lv v * outN es (fun i => (ffl es n (unitS n (eto es c) (efr es c))).getD i 0) v = (if eto es c = v then lv (eto es c) else 0) - (if efr es c = v then lv (efr es c) else 0) := by
    intro v hv
    rw [ffl_bal hg hul (unit_even hg hc) hv, unitS_at hv]
    by_cases a : eto es c = v
    · have b : ¬ efr es c = v := by omega
      simp [a, b]
    · by_cases b : efr es c = v
      · simp [a, b]
      · simp [a, b]
  rw [sumN_congr e2, sumN_sub, sumN_ite _ h2, sumN_ite _ h1]
/-- A cycle is a circulation. -/
theorem cyc_out {es : Es} {n c v : Nat} (hg : Good es n) (hc : c < es.length) (hct : ¬ Tree es n c) (hv : v < n) : outN es (fun i => (cyc es n c).getD i 0) v = 0 := by
  have hul := unitS_len n (eto es c) (efr es c)
  have hfl := ffl_len hg hul
  obtain ⟨h1, h2, h3⟩ := hg c hc
  have e : (fun i => (cyc es n c).getD i 0) = fun i => if i = c then 1 else (ffl es n (unitS n (eto es c) (efr es c))).getD i 0 := by
    funext i
    exact getD_set (by omega)
  rw [e, outN_set hc, ffl_tree hg hul hc hct, ffl_bal hg hul (unit_even hg hc) hv, unitS_at hv, Int.sub_zero]
  unfold sgn
  by_cases a : eto es c = v <;> by_cases b : efr es c = v <;> simp [a, b]
/-- The elements of a cycle are 0, 1 and -1. -/
theorem cyc_vals {es : Es} {n c i : Nat} (hg : Good es n) (hc : c < es.length) (hct : ¬ Tree es n c) (hi : i < es.length) : (cyc es n c).getD i 0 = 0 ∨ (cyc es n c).getD i 0 = 1 ∨ (cyc es n c).getD i 0 = -1 := by
  obtain ⟨l, hp, hn, ht⟩ := chord_path (n := n) hg hc
  rw [cyc_path hg hc hct hp hn ht i hi]
  split
  · exact .inr (.inl rfl)
  · have key : ∀ (l : List Nat) (a : Nat), pfl es a l i = 0 ∨ pfl es a l i = 1 ∨ pfl es a l i = -1 := by
      intro l
      induction l with
      | nil => intro a; exact .inl rfl
      | cons j l ih =>
        intro a
        rw [pfl]
        split
        · split
          · exact .inr (.inl rfl)
          · exact .inr (.inr rfl)
        · exact ih _
    exact key l _
end Go.Proofs.Ytpgegfnhokhlmaa
set_option linter.unusedVariables false
namespace Go.Proofs.Ytpgegfnhokhlmaa

theorem sumN_abs {k M : Nat} {g : Nat → Int} (h : ∀ i, i < k → (g i).natAbs ≤ M) : (sumN k g).natAbs ≤ k * M := by
  induction k with
  | zero => simp [sumN]
  | succ k ih =>
    have h1 := ih (fun i hi => h i (by omega))
    have h2 := h k (by omega)
    have e : (k + 1) * M = k * M + M := Nat.succ_mul k M
    rw [e]
    show (sumN k g + g k).natAbs ≤ _
    omega
/-- What flows out of each node, over the first k pipes. -/
def outL (es : Es) (n : Nat) (fs : List Int) (k : Nat) : List Int := (List.range n).map fun v => sumN k fun i => sgn es i v (fs.getD i 0)
theorem outL_len (es : Es) (n : Nat) (fs : List Int) (k : Nat) : (outL es n fs k).length = n := by simp [outL]
theorem outL_at {es : Es} {n : Nat} {fs : List Int} {k v : Nat} (hv : v < n) : (outL es n fs k)[v]? = some (sumN k fun i => sgn es i v (fs.getD i 0)) := by simp [outL, hv]
theorem outL_zero (es : Es) (n : Nat) (fs : List Int) : outL es n fs 0 = List.replicate n 0 := by
  apply List.ext_getElem?
  intro i
  by_cases hi : i < n <;> simp [outL, hi, sumN]
/-- The middle of a step: the flow has been added at the pipe's first end. -/
def outM (es : Es) (n : Nat) (fs : List Int) (k : Nat) : List Int := (outL es n fs k).set (efr es k) ((outL es n fs k).getD (efr es k) 0 + fs.getD k 0)
theorem outM_len (es : Es) (n : Nat) (fs : List Int) (k : Nat) : (outM es n fs k).length = n := by unfold outM; rw [List.length_set, outL_len]
theorem outM_to {es : Es} {n : Nat} {fs : List Int} {k : Nat} (hg : Good es n) (hk : k < es.length) : (outM es n fs k)[eto es k]? = some ((outL es n fs k).getD (eto es k) 0) := by
  obtain ⟨h1, h2, h3⟩ := hg k hk
  unfold outM
  rw [List.getElem?_set_ne h3, outL_at h2]
  simp [List.getD, outL_at h2]
theorem outL_step {es : Es} {n : Nat} {fs : List Int} {k : Nat} (hg : Good es n) (hk : k < es.length) : (outM es n fs k).set (eto es k) ((outL es n fs k).getD (eto es k) 0 - fs.getD k 0) = outL es n fs (k + 1) := by
  obtain ⟨h1, h2, h3⟩ := hg k hk
  apply List.ext_getElem?
  intro v
  by_cases hv : v < n
  · rw [outL_at hv]
    have e0 : sumN (k + 1) (fun i => sgn es i v (fs.getD i 0)) = sumN k (fun i => sgn es i v (fs.getD i 0)) + sgn es k v (fs.getD k 0) := rfl
    rw [e0]
    by_cases e2 : eto es k = v
    · subst e2
      rw [List.getElem?_set_self (by rw [outM_len]; exact h2)]
      simp only [List.getD, outL_at h2, Option.getD_some]
      unfold sgn
      rw [if_neg h3, if_pos rfl]
      congr 1
      omega
    · rw [List.getElem?_set_ne e2]
      unfold outM
      by_cases e1 : efr es k = v
      · subst e1
        rw [List.getElem?_set_self (by rw [outL_len]; exact h1)]
        simp only [List.getD, outL_at h1, Option.getD_some]
        unfold sgn
        rw [if_pos rfl, if_neg e2]
        congr 1
        omega
      · rw [List.getElem?_set_ne e1, outL_at hv]
        unfold sgn
        rw [if_neg e1, if_neg e2]
        congr 1
        omega
  · rw [List.getElem?_eq_none (by rw [List.length_set, outM_len]; omega), List.getElem?_eq_none (by rw [outL_len]; omega)]
theorem sgn_abs (es : Es) (i v : Nat) (x : Int) (h : efr es i ≠ eto es i) : (sgn es i v x).natAbs ≤ x.natAbs := by
  unfold sgn
  split <;> split <;> omega
theorem outL_bd {es : Es} {n : Nat} {fs : List Int} {k v : Nat} (hg : Good es n) (hk : k ≤ es.length) (hf : ∀ i, i < es.length → -30000 ≤ fs.getD i 0 ∧ fs.getD i 0 ≤ 30000) (hv : v < n) : ((outL es n fs k).getD v 0).natAbs ≤ k * 30000 := by
  simp only [List.getD, outL_at hv, Option.getD_some]
  refine sumN_abs fun i hi => ?_
  have h1 := sgn_abs es i v (fs.getD i 0) (hg i (by omega)).2.2
  have h2 := hf i (by omega)
  simp only [List.getD] at h1 h2 ⊢
  omega
def outF (es : Es) (n : Nat) (fs : List Int) : List Int := outL es n fs es.length
theorem outF_len (es : Es) (n : Nat) (fs : List Int) : (outF es n fs).length = n := outL_len _ _ _ _
theorem outF_at {es : Es} {n : Nat} {fs : List Int} {v : Nat} (hv : v < n) : (outF es n fs).getD v 0 = outN es (fun i => fs.getD i 0) v := by
  unfold outF
  simp only [List.getD, outL_at hv, Option.getD_some]
  rfl
/-- Sums over components, over the first k nodes. -/
def smL (es : Es) (n : Nat) (sup : List Int) (k : Nat) : List Int := (List.range n).map fun r => sumN k fun v => if (comps es n)[v]? == some (some r) then sup.getD v 0 else 0
theorem smL_len (es : Es) (n : Nat) (sup : List Int) (k : Nat) : (smL es n sup k).length = n := by simp [smL]
theorem smL_at {es : Es} {n : Nat} {sup : List Int} {k r : Nat} (hr : r < n) : (smL es n sup k)[r]? = some (sumN k fun v => if (comps es n)[v]? == some (some r) then sup.getD v 0 else 0) := by simp [smL, hr]
theorem smL_zero (es : Es) (n : Nat) (sup : List Int) : smL es n sup 0 = List.replicate n 0 := by
  apply List.ext_getElem?
  intro i
  by_cases hi : i < n <;> simp [smL, hi, sumN]
theorem smL_step {es : Es} {n : Nat} {sup : List Int} {k x : Nat} (hx : (comps es n)[k]? = some (some x)) (hxn : x < n) : (smL es n sup k).set x ((smL es n sup k).getD x 0 + sup.getD k 0) = smL es n sup (k + 1) := by
  apply List.ext_getElem?
  intro r
  by_cases hr : r < n
  · rw [smL_at hr]
    have e0 : sumN (k + 1) (fun v => if (comps es n)[v]? == some (some r) then sup.getD v 0 else 0) = sumN k (fun v => if (comps es n)[v]? == some (some r) then sup.getD v 0 else 0) + (if (comps es n)[k]? == some (some r) then sup.getD k 0 else 0) := rfl
    rw [e0, hx]
    by_cases e : x = r
    · subst e
      rw [List.getElem?_set_self (by rw [smL_len]; exact hxn)]
      simp [List.getD, smL_at hxn]
    · rw [List.getElem?_set_ne e, smL_at hr]
      simp [e]
  · rw [List.getElem?_eq_none (by rw [List.length_set, smL_len]; omega), List.getElem?_eq_none (by rw [smL_len]; omega)]
theorem smL_bd {es : Es} {n : Nat} {sup : List Int} {k r : Nat} {M : Nat} (hf : ∀ i, i < n → (sup.getD i 0).natAbs ≤ M) (hk : k ≤ n) (hr : r < n) : ((smL es n sup k).getD r 0).natAbs ≤ k * M := by
  simp only [List.getD, smL_at hr, Option.getD_some]
  refine sumN_abs fun i hi => ?_
  have h1 := hf i (by omega)
  simp only [List.getD] at h1 ⊢
  split
  · exact h1
  · simp
/-- Are the supplies even? -/
def evB (es : Es) (n : Nat) (sup : List Int) : Bool := (smL es n sup n).all fun x => x == 0
theorem evB_iff {es : Es} {n : Nat} {sup : List Int} (hg : Good es n) : evB es n sup = true ↔ Even es n sup := by
  unfold evB Even
  rw [List.all_eq_true]
  constructor
  · intro h r hr
    have hrn := root_lt hr
    have := h _ (List.mem_of_getElem? (smL_at (k := n) (sup := sup) (es := es) hrn))
    simpa [compSum] using this
  · intro h x hx
    obtain ⟨r, hr⟩ := List.getElem?_of_mem hx
    have hrn : r < n := by
      have := (List.getElem?_eq_some_iff.1 hr).1
      rwa [smL_len] at this
    rw [smL_at hrn] at hr
    obtain rfl := Option.some.inj hr
    by_cases hroot : Root es n r
    · have := h r hroot
      simpa [compSum] using this
    · have : sumN n (fun v => if (comps es n)[v]? == some (some r) then sup.getD v 0 else 0) = 0 := by
        apply sumN_zero
        intro v hv
        obtain ⟨x, h1, h2, h3⟩ := comps_at hg hv
        have hne : ¬ x = r := fun e => hroot (e ▸ root_of hg h2 h3)
        rw [h1]
        simp [hne]
      simpa using this
/-- What flows balance is even. -/
theorem outF_even {es : Es} {n : Nat} {fs : List Int} (hg : Good es n) : Even es n (outF es n fs) := by
  intro r hr
  unfold compSum
  have h1 := outN_sum hg (fun i => fs.getD i 0) (fun v => (comps es n)[v]? == some (some r)) (fun i hi => by rw [comp_same hg hi])
  refine Eq.trans ?_ h1
  apply sumN_congr
  intro v hv
  rw [outF_at hv]
end Go.Proofs.Ytpgegfnhokhlmaa
set_option linter.unusedVariables false
namespace Go.Proofs.Ytpgegfnhokhlmaa

theorem bw_get {es : Es} {n r j : Nat} (hj : j < (bw es n r).length) : ∃ v : Nat, (bw es n r)[j]? = some v := ⟨_, List.getElem?_eq_getElem hj⟩
theorem ff_round {es : Es} {n r j v : Nat} {sup : List Int} (hg : Good es n) (hl : sup.length = n) (hroot : isRoot es n r = true) (hb : (bw es n r)[j]? = some v) :
    ∃ i : Nat, (bfs es n r).ent[v]? = some (some i) ∧ i ∈ inc es v ∧ i < es.length ∧ v < n ∧ oth es i v < n ∧ oth es i v ≠ v ∧ FI es n sup (ffPart es n r j (ffTo es n sup r)) ∧ FI es n sup (ffPart es n r (j + 1) (ffTo es n sup r)) ∧
      v ∉ (ffPart es n r j (ffTo es n sup r)).pr ∧ oth es i v ∉ (ffPart es n r j (ffTo es n sup r)).pr ∧ ffPart es n r (j + 1) (ffTo es n sup r) = ffStep es (bfs es n r).ent (ffPart es n r j (ffTo es n sup r)) v := by
  have hr := isRoot_iff.1 hroot
  have hrn := root_lt hr
  have hD := bfs_done hg hrn
  obtain ⟨hF, hP⟩ := ff_to hg hl r (Nat.le_of_lt hrn)
  have hjl : j < (bw es n r).length := (List.getElem?_eq_some_iff.1 hb).1
  obtain ⟨h1, h2⟩ := ff_part hg hr hF hP j (by omega)
  obtain ⟨h3, _⟩ := ff_part hg hr hF hP (j + 1) (by omega)
  obtain ⟨q, hq, hqj, hq1⟩ := bw_at hb
  have hrv := (done_rch hg hD v).1 (List.mem_of_getElem? hq)
  have hvr : v ≠ r := by
    intro e
    subst e
    have := pos_inj hD.inv.nd hq hD.inv.hd
    omega
  obtain ⟨i, hi⟩ := hD.inv.ent2 v (List.mem_of_getElem? hq) hvr
  obtain ⟨hinc, p, q', hpp, hq', hpq⟩ := hD.inv.ent1 v i hi
  obtain rfl := pos_inj hD.inv.nd hq hq'
  have hru := (done_rch hg hD _).1 (List.mem_of_getElem? hpp)
  have hnp : ∀ x, Rch es r x → ¬ Past es n r x := by
    rintro x hx ⟨r', hr'1, hr'2, hr'3, _⟩
    have := roots_eq hg hr hr'2 hx hr'3
    omega
  have hv1 : v ∉ (ffPart es n r j (ffTo es n sup r)).pr := fun hh => by
    rcases (h2 v).1 hh with hh | hh
    · exact hnp v hrv hh
    · obtain ⟨q2, a1, a2, _⟩ := bw_take hh
      have := pos_inj hD.inv.nd hq a1
      omega
  have hu1 : oth es i v ∉ (ffPart es n r j (ffTo es n sup r)).pr := fun hh => by
    rcases (h2 _).1 hh with hh | hh
    · exact hnp _ hru hh
    · obtain ⟨q2, a1, a2, _⟩ := bw_take hh
      have := pos_inj hD.inv.nd hpp a1
      omega
  refine ⟨i, hi, hinc, (inc_mem.1 hinc).1, hD.inv.lt v (List.mem_of_getElem? hq), oth_lt hg (inc_mem.1 hinc).1, oth_ne hg hinc, h1, h3, hv1, hu1, ?_⟩
  unfold ffPart
  rw [List.take_add_one, hb, List.foldl_append]
  rfl
theorem fi_bd {es : Es} {n v : Nat} {sup : List Int} {a : FF} (h : FI es n sup a) (hv : v < n) : (a.z.getD v 0).natAbs ≤ absS sup :=
  Nat.le_trans (absS_le (getD_some h.lz hv)) h.bd
/-- The step's lists. -/
theorem ff_lists {es : Es} {ent : List (Option Nat)} {a : FF} {v i : Nat} (h : ent[v]? = some (some i)) :
    (ffStep es ent a v).fl = a.fl.set i (if efr es i = v then a.lf.getD v 0 else -(a.lf.getD v 0)) ∧ (ffStep es ent a v).lf = a.lf.set (oth es i v) (a.lf.getD (oth es i v) 0 + a.lf.getD v 0) ∧ (ffStep es ent a v).z = (a.z.set (oth es i v) (a.z.getD (oth es i v) 0 + a.z.getD v 0)).set v 0 := by
  unfold ffStep
  rw [h]
  exact ⟨rfl, rfl, rfl⟩
/-- The sum that a step makes is bounded. -/
theorem ff_sum {es : Es} {n r j v i : Nat} {sup : List Int} (hent : (bfs es n r).ent[v]? = some (some i)) (hun : oth es i v < n) (hne : oth es i v ≠ v) (h1 : FI es n sup (ffPart es n r j (ffTo es n sup r))) (h3 : FI es n sup (ffPart es n r (j + 1) (ffTo es n sup r)))
    (e : ffPart es n r (j + 1) (ffTo es n sup r) = ffStep es (bfs es n r).ent (ffPart es n r j (ffTo es n sup r)) v) :
    ((ffPart es n r j (ffTo es n sup r)).z.getD (oth es i v) 0 + (ffPart es n r j (ffTo es n sup r)).z.getD v 0).natAbs ≤ absS sup := by
  have h4 := fi_bd h3 hun
  rw [e, (ff_lists hent).2.2] at h4
  have h5 : ((((ffPart es n r j (ffTo es n sup r)).z.set (oth es i v) ((ffPart es n r j (ffTo es n sup r)).z.getD (oth es i v) 0 + (ffPart es n r j (ffTo es n sup r)).z.getD v 0)).set v 0).getD (oth es i v) 0) = (ffPart es n r j (ffTo es n sup r)).z.getD (oth es i v) 0 + (ffPart es n r j (ffTo es n sup r)).z.getD v 0 := by
    rw [List.getD_eq_getElem?_getD, List.getElem?_set_ne (fun hh => hne hh.symm), List.getElem?_set_self (by rw [h1.lz]; exact hun)]
    rfl
  rwa [h5] at h4
theorem ff_root {es : Es} {n r : Nat} {sup : List Int} (h : isRoot es n r = true) : ffTo es n sup (r + 1) = ffPart es n r (bw es n r).length (ffTo es n sup r) := if_pos h
theorem ff_not {es : Es} {n r : Nat} {sup : List Int} (h : isRoot es n r = false) : ffTo es n sup (r + 1) = ffTo es n sup r := if_neg (by rw [h]; decide)
theorem bw_rev {es : Es} {n r q v : Nat} (h : (bfs es n r).ord[q]? = some v) (hq : 1 ≤ q) : (bw es n r)[(bfs es n r).ord.length - 1 - q]? = some v := by
  have hl := (List.getElem?_eq_some_iff.1 h).1
  unfold bw
  rw [List.getElem?_reverse (by simp; omega), List.getElem?_drop]
  have e : 1 + ((List.drop 1 (bfs es n r).ord).length - 1 - ((bfs es n r).ord.length - 1 - q)) = q := by simp; omega
  rw [e]
  exact h
end Go.Proofs.Ytpgegfnhokhlmaa
set_option linter.unusedVariables false
namespace Go.Proofs.Ytpgegfnhokhlmaa

theorem unit_two {n a b : Nat} (ha : a < n) (hb : b < n) (hne : a ≠ b) : ((List.replicate n (0 : Int)).set a 1).set b (-1) = unitS n a b := by
  apply List.ext_getElem?
  intro v
  by_cases hv : v < n
  · have e : (unitS n a b)[v]? = some ((if a = v then 1 else 0) - (if b = v then 1 else 0)) := by simp [unitS, hv]
    rw [e]
    by_cases h2 : b = v
    · subst h2
      rw [List.getElem?_set_self (by simp; omega), if_neg hne, if_pos rfl]
      rfl
    · rw [List.getElem?_set_ne h2, if_neg h2]
      by_cases h1 : a = v
      · subst h1
        rw [List.getElem?_set_self (by simp; omega), if_pos rfl]
        rfl
      · rw [List.getElem?_set_ne h1, if_neg h1]
        simp [hv]
  · rw [List.getElem?_eq_none (by simp; omega), List.getElem?_eq_none (by rw [unitS_len]; omega)]
/-- One pipe of a path laid down. -/
def pstep (es : Es) (st : Nat × List Int) (i : Nat) : Nat × List Int := (oth es i st.1, st.2.set i (if efr es i = st.1 then 1 else -1))
def pstTo (es : Es) (a : Nat) (zs : List Int) (l : List Nat) (j : Nat) : Nat × List Int := (l.take j).foldl (pstep es) (a, zs)
theorem pstTo_succ {es : Es} {a : Nat} {zs : List Int} {l : List Nat} {j i : Nat} (h : l[j]? = some i) : pstTo es a zs l (j + 1) = pstep es (pstTo es a zs l j) i := by
  unfold pstTo
  rw [List.take_add_one, h, List.foldl_append]
  rfl
theorem pfold_len (es : Es) : ∀ (l : List Nat) (st : Nat × List Int), (l.foldl (pstep es) st).2.length = st.2.length
  | [], _ => rfl
  | i :: l, st => by
    rw [List.foldl_cons, pfold_len es l]
    show (st.2.set _ _).length = _
    rw [List.length_set]
theorem pstTo_len (es : Es) (a : Nat) (zs : List Int) (l : List Nat) (j : Nat) : (pstTo es a zs l j).2.length = zs.length := pfold_len es _ _
theorem ppath {es : Es} : ∀ (l : List Nat) (a b : Nat) (zs : List Int) (j i : Nat), IsPath es a l b → l[j]? = some i → i ∈ inc es (pstTo es a zs l j).1
  | [], _, _, _, j, i, _, h => by simp at h
  | i0 :: l, a, b, zs, 0, i, hp, h => by
    simp at h
    subst h
    exact hp.1
  | i0 :: l, a, b, zs, j + 1, i, hp, h => by
    have h' : l[j]? = some i := by simpa using h
    have := ppath l (oth es i0 a) b (zs.set i0 (if efr es i0 = a then 1 else -1)) j i hp.2 h'
    exact this
theorem pfold_end {es : Es} {n : Nat} : ∀ (l : List Nat) (a : Nat) (zs : List Int), l.Nodup → (∀ i ∈ l, i < zs.length) → ∀ x, (l.foldl (pstep es) (a, zs)).2.getD x 0 = if x ∈ l then pfl es a l x else zs.getD x 0
  | [], _, _, _, _, x => by simp
  | i :: l, a, zs, hn, hl, x => by
    have hn' := List.nodup_cons.1 hn
    have hil := hl i List.mem_cons_self
    rw [List.foldl_cons]
    show (l.foldl (pstep es) (oth es i a, zs.set i (if efr es i = a then 1 else -1))).2.getD x 0 = _
    rw [pfold_end (n := n) l _ _ hn'.2 (fun j hj => by rw [List.length_set]; exact hl j (List.mem_cons_of_mem _ hj)) x, getD_set hil]
    by_cases h1 : x ∈ l
    · have hne : ¬ x = i := fun e => hn'.1 (e ▸ h1)
      rw [if_pos h1, if_pos (List.mem_cons_of_mem _ h1), pfl, if_neg hne]
    · rw [if_neg h1]
      by_cases h2 : x = i
      · subst h2
        rw [if_pos rfl, if_pos List.mem_cons_self, pfl, if_pos rfl]
      · rw [if_neg h2, if_neg (fun h => by rcases List.mem_cons.1 h with h | h; exact h2 h; exact h1 h)]
/-- All pipes laid down: the cycle. -/
theorem pst_cyc {es : Es} {n c : Nat} {l : List Nat} (hg : Good es n) (hc : c < es.length) (hct : ¬ Tree es n c) (hp : IsPath es (eto es c) l (efr es c)) (hn : l.Nodup) (ht : ∀ i ∈ l, Tree es n i) :
    (pstTo es (eto es c) ((List.replicate es.length 0).set c 1) l l.length).2 = cyc es n c := by
  have hcl : c ∉ l := fun h => hct (ht c h)
  have hL : (pstTo es (eto es c) ((List.replicate es.length 0).set c 1) l l.length).2.length = es.length := by rw [pstTo_len]; simp
  apply List.ext_getElem?
  intro i
  by_cases hi : i < es.length
  · rw [getD_some hL hi, getD_some (cyc_len hg c) hi, cyc_path hg hc hct hp hn ht i hi]
    congr 1
    unfold pstTo
    rw [List.take_of_length_le (Nat.le_refl _), pfold_end (n := n) l _ _ hn (fun j hj => by simp; exact tree_lt hg (ht j hj)) i, getD_set (by simpa using hc)]
    by_cases h1 : i ∈ l
    · have hne : ¬ i = c := fun e => hcl (e ▸ h1)
      rw [if_pos h1, if_neg hne]
    · rw [if_neg h1, pfl_out (n := n) l _ i h1]
      by_cases h2 : i = c
      · rw [if_pos h2, if_pos h2]
      · rw [if_neg h2, if_neg h2]
        simp [List.getD, hi]
  · rw [List.getElem?_eq_none (by omega), List.getElem?_eq_none (by rw [cyc_len hg]; omega)]
end Go.Proofs.Ytpgegfnhokhlmaa
set_option linter.unusedVariables false
namespace Go.Proofs.Ytpgegfnhokhlmaa

/-- One pipe's part of the change. -/
def chT (ks fs cs : List Int) (a : Int) (i : Nat) : Int := en (ks.getD i 0) (fs.getD i 0 + cs.getD i 0 * a) - en (ks.getD i 0) (fs.getD i 0)
def chTo (ks fs cs : List Int) (a : Int) (k : Nat) : Int := sumN k fun i => chT ks fs cs a i
/-- Do the first k elements stay in range? -/
def okFs (fs cs : List Int) (a : Int) (k : Nat) : Bool := (List.range k).all fun i => decide (-30000 ≤ fs.getD i 0 + cs.getD i 0 * a) && decide (fs.getD i 0 + cs.getD i 0 * a ≤ 30000)
/-- The change, and whether all elements stay in range. -/
def chg (ks fs cs : List Int) (a : Int) : Int := if inR (addL fs cs a) = true then enL ks (addL fs cs a) - enL ks fs else 0
theorem okFs_step (fs cs : List Int) (a : Int) (k : Nat) : okFs fs cs a (k + 1) = (okFs fs cs a k && (decide (-30000 ≤ fs.getD k 0 + cs.getD k 0 * a) && decide (fs.getD k 0 + cs.getD k 0 * a ≤ 30000))) := by
  unfold okFs
  rw [List.range_succ, List.all_append]
  simp
theorem okFs_all (fs cs : List Int) (a : Int) : okFs fs cs a fs.length = inR (addL fs cs a) := by
  unfold okFs inR addL
  rw [List.all_map]
  congr 1
  funext i
  simp only [Function.comp]
  rw [Int.mul_comm]
theorem okFs_le {fs cs : List Int} {a : Int} {k j : Nat} (h : okFs fs cs a j = true) (hk : k ≤ j) : okFs fs cs a k = true := by
  unfold okFs at *
  rw [List.all_eq_true] at *
  intro i hi
  exact h i (List.mem_range.2 (Nat.lt_of_lt_of_le (List.mem_range.1 hi) hk))
theorem okFs_no {fs cs : List Int} {a : Int} {k : Nat} (hk : k < fs.length) (h : ¬ (-30000 ≤ fs.getD k 0 + cs.getD k 0 * a ∧ fs.getD k 0 + cs.getD k 0 * a ≤ 30000)) : inR (addL fs cs a) = false := by
  rw [← okFs_all]
  cases h1 : okFs fs cs a fs.length with
  | false => rfl
  | true =>
    have h2 := okFs_le h1 (show k + 1 ≤ fs.length by omega)
    rw [okFs_step] at h2
    simp only [Bool.and_eq_true, decide_eq_true_eq] at h2
    exact absurd h2.2 h
theorem chTo_all {ks fs cs : List Int} {a : Int} : chTo ks fs cs a fs.length = enL ks (addL fs cs a) - enL ks fs := by
  unfold chTo enL chT
  rw [addL_len, sumN_sub]
  congr 1
  apply sumN_congr
  intro i hi
  rw [addL_at hi, Int.mul_comm]
theorem chT_zero {ks fs cs : List Int} {a : Int} {i : Nat} (h : cs.getD i 0 = 0) : chT ks fs cs a i = 0 := by
  unfold chT
  rw [h]
  simp
theorem en_bd {k f : Int} (hk : 0 ≤ k) (hk2 : k ≤ 1000) (hf : -30000 ≤ f ∧ f ≤ 30000) : 0 ≤ en k f ∧ en k f ≤ 27000000000000000 := by
  unfold en
  have h0 : (0 : Int) ≤ (f.natAbs : Int) := by omega
  have h1 : (f.natAbs : Int) ≤ 30000 := by omega
  generalize (f.natAbs : Int) = x at *
  have a1 : 0 ≤ x * x := Int.mul_nonneg h0 h0
  have a2 : x * x ≤ 30000 * 30000 := Int.mul_le_mul h1 h1 h0 (by decide)
  have a3 : 0 ≤ x * x * x := Int.mul_nonneg a1 h0
  have a4 : x * x * x ≤ 30000 * 30000 * 30000 := Int.mul_le_mul a2 h1 h0 (by decide)
  have a5 : 0 ≤ k * (x * x * x) := Int.mul_nonneg hk a3
  have a6 : k * (x * x * x) ≤ 1000 * (30000 * 30000 * 30000) := Int.mul_le_mul hk2 a4 a3 (by decide)
  omega
/-- The program's way to multiply. -/
theorem en_prog (k f : Int) : k * ab f * f * f = en k f := by
  unfold en ab
  rcases Int.natAbs_eq f with h | h
  · generalize hx : (f.natAbs : Int) = x at *
    rw [h]
    grind
  · generalize hx : (f.natAbs : Int) = x at *
    rw [h]
    grind
theorem en_spec (k f : Int) : k * ab f * ab f * ab f = en k f := by
  unfold en ab
  grind
/-- The parts of the product. -/
theorem en_parts {k f : Int} (hk : 0 ≤ k) (hk2 : k ≤ 1000) (hf : -30000 ≤ f ∧ f ≤ 30000) :
    (0 ≤ ab f ∧ ab f ≤ 30000) ∧ (0 ≤ k * ab f ∧ k * ab f ≤ 30000000) ∧ (-900000000000 ≤ k * ab f * f ∧ k * ab f * f ≤ 900000000000) ∧ (0 ≤ k * ab f * ab f ∧ k * ab f * ab f ≤ 900000000000) := by
  have h0 : 0 ≤ ab f := by unfold ab; omega
  have h1 : ab f ≤ 30000 := by unfold ab; omega
  have e : f = ab f ∨ f = -(ab f) := by unfold ab; omega
  have a1 : 0 ≤ k * ab f := Int.mul_nonneg hk h0
  have a2 : k * ab f ≤ 1000 * 30000 := Int.mul_le_mul hk2 h1 h0 (by decide)
  have a3 : 0 ≤ k * ab f * ab f := Int.mul_nonneg a1 h0
  have a4 : k * ab f * ab f ≤ 1000 * 30000 * 30000 := Int.mul_le_mul a2 h1 h0 (by decide)
  refine ⟨⟨h0, h1⟩, ⟨a1, by omega⟩, ?_, ⟨a3, by omega⟩⟩
  generalize ab f = x at *
  rcases e with e | e
  · rw [e]; omega
  · rw [e, Int.mul_neg]; omega
theorem chTo_bd {ks fs cs : List Int} {a : Int} (hk : ∀ i, i < fs.length → 0 ≤ ks.getD i 0 ∧ ks.getD i 0 ≤ 1000) (hf : ∀ i, i < fs.length → -30000 ≤ fs.getD i 0 ∧ fs.getD i 0 ≤ 30000) : ∀ k, k ≤ fs.length → okFs fs cs a k = true →
    -(27000000000000000 * (k : Int)) ≤ chTo ks fs cs a k ∧ chTo ks fs cs a k ≤ 27000000000000000 * (k : Int) := by
  intro k
  induction k with
  | zero => intro _ _; exact ⟨by show _ ≤ (0 : Int); omega, by show (0 : Int) ≤ _; omega⟩
  | succ k ih =>
    intro h1 h2
    have h3 := ih (by omega) (okFs_le h2 (by omega))
    rw [okFs_step] at h2
    simp only [Bool.and_eq_true, decide_eq_true_eq] at h2
    have e1 := en_bd (hk k (by omega)).1 (hk k (by omega)).2 h2.2
    have e2 := en_bd (hk k (by omega)).1 (hk k (by omega)).2 (hf k (by omega))
    show _ ≤ chTo ks fs cs a k + chT ks fs cs a k ∧ chTo ks fs cs a k + chT ks fs cs a k ≤ _
    unfold chT
    omega
theorem chg_ok {ks fs cs : List Int} {a : Int} (h : inR (addL fs cs a) = true) : chg ks fs cs a = chTo ks fs cs a fs.length := by
  unfold chg
  rw [if_pos h, chTo_all]
theorem chg_no {ks fs cs : List Int} {a : Int} (h : inR (addL fs cs a) = false) : chg ks fs cs a = 0 := by
  unfold chg
  rw [if_neg (by rw [h]; decide)]
theorem lower_iff (ks fs cs : List Int) (a : Int) : lower ks fs cs a = (inR (addL fs cs a) && decide (chg ks fs cs a < 0)) := by
  unfold lower
  cases h : inR (addL fs cs a) with
  | false => rfl
  | true =>
    unfold chg
    rw [if_pos h]
    simp only [Bool.true_and]
    rw [Bool.eq_iff_iff, decide_eq_true_eq, decide_eq_true_eq]
    omega
/-- Energies, over the first k pipes. -/
def enTo (ks fs : List Int) (k : Nat) : Int := sumN k fun i => en (ks.getD i 0) (fs.getD i 0)
theorem enTo_bd {ks fs : List Int} (hk : ∀ i, i < fs.length → 0 ≤ ks.getD i 0 ∧ ks.getD i 0 ≤ 1000) (hf : ∀ i, i < fs.length → -30000 ≤ fs.getD i 0 ∧ fs.getD i 0 ≤ 30000) : ∀ k, k ≤ fs.length →
    0 ≤ enTo ks fs k ∧ enTo ks fs k ≤ 27000000000000000 * (k : Int) := by
  intro k
  induction k with
  | zero => intro _; exact ⟨Int.le_refl _, by show (0 : Int) ≤ _; omega⟩
  | succ k ih =>
    intro h1
    have h3 := ih (by omega)
    have e2 := en_bd (hk k (by omega)).1 (hk k (by omega)).2 (hf k (by omega))
    show 0 ≤ enTo ks fs k + en (ks.getD k 0) (fs.getD k 0) ∧ enTo ks fs k + en (ks.getD k 0) (fs.getD k 0) ≤ _
    omega
end Go.Proofs.Ytpgegfnhokhlmaa
set_option linter.unusedVariables false
namespace Go.Proofs.Ytpgegfnhokhlmaa

def passT (ks : List Int) (css : List (List Int)) (s : Int) (st : List Int × Nat) (k : Nat) : List Int × Nat := (css.take k).foldl (passS ks s) st
theorem passT_zero (ks : List Int) (css : List (List Int)) (s : Int) (st : List Int × Nat) : passT ks css s st 0 = st := rfl
theorem passT_succ {ks : List Int} {css : List (List Int)} {s : Int} {st : List Int × Nat} {k : Nat} {cs : List Int} (h : css[k]? = some cs) : passT ks css s st (k + 1) = passS ks s (passT ks css s st k) cs := by
  unfold passT
  rw [List.take_add_one, h, List.foldl_append]
  rfl
theorem passT_all {ks : List Int} {css : List (List Int)} {s : Int} {st : List Int × Nat} {k : Nat} (h : css.length ≤ k) : passT ks css s st k = passM ks css s st := by
  unfold passT passM
  rw [List.take_of_length_le h]
theorem passM_split (ks : List Int) (css : List (List Int)) (s : Int) (st : List Int × Nat) (k : Nat) : passM ks css s st = passM ks (css.drop k) s (passT ks css s st k) := by
  unfold passM passT
  rw [← List.foldl_append, List.take_append_drop]
theorem passT_full {ks : List Int} {css : List (List Int)} {s : Int} {st : List Int × Nat} {k : Nat} (h : 5000 ≤ (passT ks css s st k).2) : passM ks css s st = passT ks css s st k := by
  rw [passM_split ks css s st k, passM_full h]
theorem passS_up {ks cs : List Int} {s : Int} {st : List Int × Nat} (h5 : st.2 < 5000) (h : lower ks st.1 cs s = true) : passS ks s st cs = (addL st.1 cs s, st.2 + 1) := by
  unfold passS moveM
  rw [if_neg (by omega), if_pos h]
theorem passS_dn {ks cs : List Int} {s : Int} {st : List Int × Nat} (h5 : st.2 < 5000) (h : lower ks st.1 cs s = false) (h2 : lower ks st.1 cs (-s) = true) : passS ks s st cs = (addL st.1 cs (-s), st.2 + 1) := by
  unfold passS moveM
  rw [if_neg (by omega), if_neg (by rw [h]; decide), if_pos h2]
theorem passS_no {ks cs : List Int} {s : Int} {st : List Int × Nat} (h : lower ks st.1 cs s = false) (h2 : lower ks st.1 cs (-s) = false) : passS ks s st cs = st := by
  unfold passS moveM
  split
  · rfl
  · rw [if_neg (by rw [h]; decide), if_neg (by rw [h2]; decide)]
theorem lower_inR {ks fs cs : List Int} {a : Int} (h : lower ks fs cs a = true) : inR (addL fs cs a) = true := by
  unfold lower at h
  rw [Bool.and_eq_true] at h
  exact h.1
/-- What a pass keeps: the length, the range. -/
theorem passS_ok {ks cs : List Int} {s : Int} {st : List Int × Nat} {m : Nat} (h : st.1.length = m ∧ inR st.1 = true) : (passS ks s st cs).1.length = m ∧ inR (passS ks s st cs).1 = true := by
  unfold passS
  split
  · exact h
  · cases hm : moveM ks cs s st.1 with
    | none => exact h
    | some f =>
      obtain ⟨a, rfl, hl⟩ := moveM_some hm
      exact ⟨by show (addL st.1 cs a).length = m; rw [addL_len]; exact h.1, lower_inR hl⟩
theorem passM_ok {ks : List Int} {css : List (List Int)} {s : Int} {st : List Int × Nat} {m : Nat} (h : st.1.length = m ∧ inR st.1 = true) : (passM ks css s st).1.length = m ∧ inR (passM ks css s st).1 = true :=
  passM_keep (P := fun st => st.1.length = m ∧ inR st.1 = true) (fun s st cs _ h => passS_ok h) s st h
theorem relaxM_ok {ks : List Int} {css : List (List Int)} {s : Nat} {st : List Int × Nat} {m : Nat} (h : st.1.length = m ∧ inR st.1 = true) : (relaxM ks css s st).1.length = m ∧ inR (relaxM ks css s st).1 = true :=
  relaxM_keep (P := fun st => st.1.length = m ∧ inR st.1 = true) (fun s st h => passM_ok h) s st h
/-- A round of the relaxing: the step halves where nothing moved. -/
theorem relaxM_pass {ks : List Int} {css : List (List Int)} {s : Nat} {st : List Int × Nat} (hs : 0 < s) : relaxM ks css s st = relaxM ks css (if (passM ks css s st).2 = st.2 then s / 2 else s) (passM ks css s st) := by
  by_cases h : (passM ks css s st).2 = st.2
  · rw [if_pos h, relaxM_stay hs h, (passM_mono ks css s st).2.2 h]
  · rw [if_neg h, relaxM_go hs h]
end Go.Proofs.Ytpgegfnhokhlmaa
set_option linter.unusedVariables false
namespace Go.Proofs.Ytpgegfnhokhlmaa

/-- The energy after a multiple of the cycle. -/
def enA (ks fs cs : List Int) (a : Int) : Int := enL ks (addL fs cs a)
theorem en_cvx {k x : Int} (hk : 0 ≤ k) : 2 * en k x + 2 * k ≤ en k (x + 1) + en k (x - 1) := by
  have key : 2 * ((x.natAbs : Int) * (x.natAbs : Int) * (x.natAbs : Int)) + 2 ≤ ((x + 1).natAbs : Int) * ((x + 1).natAbs : Int) * ((x + 1).natAbs : Int) + ((x - 1).natAbs : Int) * ((x - 1).natAbs : Int) * ((x - 1).natAbs : Int) := by
    rcases Int.lt_trichotomy x 0 with h | h | h
    · have e0 : (x.natAbs : Int) = -x := by omega
      have e1 : ((x + 1).natAbs : Int) = -x - 1 := by omega
      have e2 : ((x - 1).natAbs : Int) = -x + 1 := by omega
      rw [e0, e1, e2, cube_up, cube_dn]
      omega
    · subst h; decide
    · have e0 : (x.natAbs : Int) = x := by omega
      have e1 : ((x + 1).natAbs : Int) = x + 1 := by omega
      have e2 : ((x - 1).natAbs : Int) = x - 1 := by omega
      rw [e0, e1, e2, cube_up, cube_dn]
      omega
  have h := Int.mul_le_mul_of_nonneg_left key hk
  unfold en
  rw [Int.mul_add, Int.mul_add, ← Int.mul_assoc, Int.mul_comm k 2, Int.mul_assoc] at h
  omega
/-- Strictly convex, where some pipe lies on the cycle. -/
theorem enA_cvx {ks fs cs : List Int} {j : Nat} (hk : ∀ i, i < fs.length → 1 ≤ ks.getD i 0) (hc : ∀ i, i < fs.length → cs.getD i 0 = 0 ∨ cs.getD i 0 = 1 ∨ cs.getD i 0 = -1) (hj : j < fs.length) (hcj : cs.getD j 0 ≠ 0) (a : Int) :
    enA ks fs cs a + enA ks fs cs a < enA ks fs cs (a + 1) + enA ks fs cs (a - 1) := by
  have e : ∀ b, enA ks fs cs b = sumN fs.length fun i => en (ks.getD i 0) (fs.getD i 0 + b * cs.getD i 0) := by
    intro b
    unfold enA enL
    rw [addL_len]
    exact sumN_congr fun i hi => by rw [addL_at hi]
  rw [e, e, e, ← sumN_add, ← sumN_add]
  have h1 : sumN fs.length (fun i => (en (ks.getD i 0) (fs.getD i 0 + a * cs.getD i 0) + en (ks.getD i 0) (fs.getD i 0 + a * cs.getD i 0)) + (if j = i then 1 else 0)) ≤ sumN fs.length (fun i => en (ks.getD i 0) (fs.getD i 0 + (a + 1) * cs.getD i 0) + en (ks.getD i 0) (fs.getD i 0 + (a - 1) * cs.getD i 0)) := by
    refine sumN_le fun i hi => ?_
    have hki := hk i hi
    rcases hc i hi with h | h | h
    · have hne : ¬ j = i := fun e => hcj (e ▸ h)
      rw [h, if_neg hne, Int.mul_zero, Int.mul_zero, Int.mul_zero]
      omega
    · have := en_cvx (x := fs.getD i 0 + a * 1) (show 0 ≤ ks.getD i 0 by omega)
      rw [h, show fs.getD i 0 + (a + 1) * 1 = fs.getD i 0 + a * 1 + 1 by omega, show fs.getD i 0 + (a - 1) * 1 = fs.getD i 0 + a * 1 - 1 by omega]
      split <;> omega
    · have := en_cvx (x := fs.getD i 0 + a * -1) (show 0 ≤ ks.getD i 0 by omega)
      rw [h, show fs.getD i 0 + (a + 1) * -1 = fs.getD i 0 + a * -1 - 1 by omega, show fs.getD i 0 + (a - 1) * -1 = fs.getD i 0 + a * -1 + 1 by omega]
      split <;> omega
  rw [sumN_add, sumN_ite _ hj] at h1
  omega
/-- The range of multiples that leave the first k flows in range. -/
def loTo (fs cs : List Int) : Nat → Int
  | 0 => -60000
  | k + 1 => if cs.getD k 0 = 0 then loTo fs cs k else max (loTo fs cs k) (-30000 - cs.getD k 0 * fs.getD k 0)
def hiTo (fs cs : List Int) : Nat → Int
  | 0 => 60000
  | k + 1 => if cs.getD k 0 = 0 then hiTo fs cs k else min (hiTo fs cs k) (30000 - cs.getD k 0 * fs.getD k 0)
theorem lohi_in {fs cs : List Int} (hc : ∀ i, i < fs.length → cs.getD i 0 = 0 ∨ cs.getD i 0 = 1 ∨ cs.getD i 0 = -1) (hf : ∀ i, i < fs.length → -30000 ≤ fs.getD i 0 ∧ fs.getD i 0 ≤ 30000) :
    ∀ k, k ≤ fs.length → -60000 ≤ loTo fs cs k ∧ loTo fs cs k ≤ 0 ∧ 0 ≤ hiTo fs cs k ∧ hiTo fs cs k ≤ 60000 := by
  intro k
  induction k with
  | zero => intro _; exact ⟨Int.le_refl _, by show (-60000 : Int) ≤ 0; omega, by show (0 : Int) ≤ 60000; omega, Int.le_refl _⟩
  | succ k ih =>
    intro hk
    have h := ih (by omega)
    have h2 := hf k (by omega)
    rcases hc k (by omega) with e | e | e
    · rw [loTo, hiTo, if_pos e, if_pos e]
      exact h
    · rw [loTo, hiTo, if_neg (by omega), if_neg (by omega), e]
      omega
    · rw [loTo, hiTo, if_neg (by omega), if_neg (by omega), e]
      omega
theorem okFs_iff {fs cs : List Int} {a : Int} (hc : ∀ i, i < fs.length → cs.getD i 0 = 0 ∨ cs.getD i 0 = 1 ∨ cs.getD i 0 = -1) (hf : ∀ i, i < fs.length → -30000 ≤ fs.getD i 0 ∧ fs.getD i 0 ≤ 30000) :
    ∀ k, k ≤ fs.length → -60000 ≤ a → a ≤ 60000 → (okFs fs cs a k = true ↔ loTo fs cs k ≤ a ∧ a ≤ hiTo fs cs k) := by
  intro k
  induction k with
  | zero => intro _ h1 h2; exact ⟨fun _ => ⟨h1, h2⟩, fun _ => rfl⟩
  | succ k ih =>
    intro hk h1 h2
    have h := ih (by omega) h1 h2
    have h3 := hf k (by omega)
    rw [okFs_step, Bool.and_eq_true, h]
    simp only [Bool.and_eq_true, decide_eq_true_eq]
    rcases hc k (by omega) with e | e | e
    · rw [loTo, hiTo, if_pos e, if_pos e, e]
      omega
    · rw [loTo, hiTo, if_neg (by omega), if_neg (by omega), e]
      omega
    · rw [loTo, hiTo, if_neg (by omega), if_neg (by omega), e]
      omega
/-- In range exactly between the two ends. -/
theorem inR_iff {fs cs : List Int} {a : Int} {j : Nat} (hc : ∀ i, i < fs.length → cs.getD i 0 = 0 ∨ cs.getD i 0 = 1 ∨ cs.getD i 0 = -1) (hf : ∀ i, i < fs.length → -30000 ≤ fs.getD i 0 ∧ fs.getD i 0 ≤ 30000) (hj : j < fs.length) (hcj : cs.getD j 0 ≠ 0) :
    inR (addL fs cs a) = true ↔ loTo fs cs fs.length ≤ a ∧ a ≤ hiTo fs cs fs.length := by
  have hb := lohi_in hc hf fs.length (Nat.le_refl _)
  by_cases h : -60000 ≤ a ∧ a ≤ 60000
  · rw [← okFs_all]
    exact okFs_iff hc hf _ (Nat.le_refl _) h.1 h.2
  · constructor
    · intro h1
      exfalso
      have := inR_at h1 (i := j) (by rw [addL_len]; exact hj)
      rw [addL_at hj] at this
      have h3 := hf j hj
      rcases hc j hj with e | e | e
      · exact hcj e
      · rw [e] at this; omega
      · rw [e] at this; omega
    · intro h1; omega
/-- The least multiple with the least energy: what a search by halves finds. -/
structure Least (E : Int → Int) (lo hi q : Int) : Prop where
  l : lo ≤ q
  r : q ≤ hi
  dn : ∀ a, lo ≤ a → a < q → E (a + 1) < E a
  up : q < hi → E q ≤ E (q + 1)
/-- Between the two hands of the search. -/
structure Hands (E : Int → Int) (lo hi x y : Int) : Prop where
  l : lo ≤ x
  m : x ≤ y
  r : y ≤ hi
  dn : ∀ a, lo ≤ a → a < x → E (a + 1) < E a
  up : y < hi → E y ≤ E (y + 1)
theorem hands_start {E : Int → Int} {lo hi : Int} (h : lo ≤ hi) : Hands E lo hi lo hi := ⟨Int.le_refl _, h, Int.le_refl _, fun a h1 h2 => absurd h1 (by omega), fun h => absurd h (by omega)⟩
theorem hands_left {E : Int → Int} {lo hi x y m : Int} (h : Hands E lo hi x y) (h1 : x ≤ m) (h2 : m < y) (he : E m ≤ E (m + 1)) : Hands E lo hi x m := ⟨h.l, h1, by have := h.r; omega, h.dn, fun _ => he⟩
theorem cvx_mono {E : Int → Int} (hE : ∀ a, E a + E a < E (a + 1) + E (a - 1)) {a : Int} (h : E (a + 1) ≤ E a) : ∀ n : Nat, E (a - n) < E (a - (n + 1)) := by
  intro n
  induction n with
  | zero =>
    have := hE a
    simp
    omega
  | succ n ih =>
    have := hE (a - (n + 1))
    rw [show a - ((n : Int) + 1) + 1 = a - n by omega] at this
    have e : a - (((n + 1 : Nat) : Int) + 1) = a - ((n : Int) + 1) - 1 := by omega
    rw [e]
    have e2 : a - ((n + 1 : Nat) : Int) = a - ((n : Int) + 1) := by omega
    rw [e2]
    omega
theorem hands_right {E : Int → Int} (hE : ∀ a, E a + E a < E (a + 1) + E (a - 1)) {lo hi x y m : Int} (h : Hands E lo hi x y) (h1 : x ≤ m) (h2 : m < y) (he : E (m + 1) < E m) : Hands E lo hi (m + 1) y := by
  refine ⟨by have := h.l; omega, by omega, h.r, fun a ha hm => ?_, h.up⟩
  by_cases e : a = m
  · subst e; exact he
  · have := cvx_mono hE (a := m) (by omega) (m - a - 1).toNat
    rw [show m - ((m - a - 1).toNat : Int) = a + 1 by omega, show m - (((m - a - 1).toNat : Int) + 1) = a by omega] at this
    exact this
theorem hands_end {E : Int → Int} {lo hi x : Int} (h : Hands E lo hi x x) : Least E lo hi x := ⟨h.l, h.r, h.dn, h.up⟩
theorem least_one {E : Int → Int} {lo hi p q : Int} (h1 : Least E lo hi p) (h2 : Least E lo hi q) : p = q := by
  rcases Int.lt_trichotomy p q with h | h | h
  · have a1 := h2.dn p h1.l h
    have a2 := h1.up (by have := h2.r; omega)
    omega
  · exact h
  · have a1 := h1.dn q h2.l h
    have a2 := h2.up (by have := h1.r; omega)
    omega
/-- The multiple that is chosen: the next one, if its energy is the same and it lies nearer to 0. -/
def pick (E : Int → Int) (hi q : Int) : Int := if q + 1 ≤ hi ∧ E (q + 1) = E q ∧ ((q + 1).natAbs : Int) < (q.natAbs : Int) then q + 1 else q
/-- Two steps behind the least one the energy is greater. -/
theorem least_two {E : Int → Int} (hE : ∀ a, E a + E a < E (a + 1) + E (a - 1)) {q : Int} (h : E (q + 1) = E q) : E q < E (q + 2) := by
  have := hE (q + 1)
  rw [show q + 1 + 1 = q + 2 by omega, show q + 1 - 1 = q by omega] at this
  omega
end Go.Proofs.Ytpgegfnhokhlmaa
set_option linter.unusedVariables false
namespace Go.Proofs.Ytpgegfnhokhlmaa

/-- The entries of a search among its first j nodes. -/
def gatP (es : Es) (n r j : Nat) : List Nat := ((bfs es n r).ent.take j).filterMap id
def gatTo (es : Es) (n : Nat) : Nat → List Nat
  | 0 => []
  | r + 1 => if isRoot es n r = true then gatTo es n r ++ gatP es n r n else gatTo es n r
theorem gatP_zero (es : Es) (n r : Nat) : gatP es n r 0 = [] := by simp [gatP]
theorem gatP_some {es : Es} {n r j i : Nat} (h : (bfs es n r).ent[j]? = some (some i)) : gatP es n r (j + 1) = gatP es n r j ++ [i] := by
  unfold gatP
  rw [List.take_add_one, h, List.filterMap_append]
  rfl
theorem gatP_none {es : Es} {n r j : Nat} (h : (bfs es n r).ent[j]? = some none) : gatP es n r (j + 1) = gatP es n r j := by
  unfold gatP
  rw [List.take_add_one, h, List.filterMap_append]
  simp
theorem gat_root {es : Es} {n r : Nat} (h : isRoot es n r = true) : gatTo es n (r + 1) = gatTo es n r ++ gatP es n r n := if_pos h
theorem gat_not {es : Es} {n r : Nat} (h : isRoot es n r = false) : gatTo es n (r + 1) = gatTo es n r := if_neg (by rw [h]; decide)
theorem gatP_mem {es : Es} {n r i : Nat} (hg : Good es n) (hr : r < n) : i ∈ gatP es n r n ↔ ∃ v : Nat, (bfs es n r).ent[v]? = some (some i) := by
  have hl := (bfs_done hg hr).inv.len
  unfold gatP
  rw [List.take_of_length_le (by omega), List.mem_filterMap]
  constructor
  · rintro ⟨o, ho, he⟩
    obtain ⟨v, hv⟩ := List.getElem?_of_mem ho
    exact ⟨v, by rw [hv, show o = some i from he]⟩
  · rintro ⟨v, hv⟩
    exact ⟨some i, List.mem_of_getElem? hv, rfl⟩
theorem gatTo_mem {es : Es} {n i : Nat} (hg : Good es n) : ∀ k, k ≤ n → (i ∈ gatTo es n k ↔ ∃ (r v : Nat), r < k ∧ Root es n r ∧ (bfs es n r).ent[v]? = some (some i))
  | 0, _ => by simp [gatTo]
  | k + 1, hk => by
    have ih := gatTo_mem (i := i) hg k (by omega)
    cases h : isRoot es n k with
    | true =>
      rw [gat_root h, List.mem_append, ih, gatP_mem hg (by omega)]
      constructor
      · rintro (⟨r, v, h1, h2, h3⟩ | ⟨v, hv⟩)
        · exact ⟨r, v, by omega, h2, h3⟩
        · exact ⟨k, v, by omega, isRoot_iff.1 h, hv⟩
      · rintro ⟨r, v, h1, h2, h3⟩
        by_cases e : r = k
        · subst e; exact .inr ⟨v, h3⟩
        · exact .inl ⟨r, v, by omega, h2, h3⟩
    | false =>
      rw [gat_not h, ih]
      constructor
      · rintro ⟨r, v, h1, h2, h3⟩
        exact ⟨r, v, by omega, h2, h3⟩
      · rintro ⟨r, v, h1, h2, h3⟩
        have e : r ≠ k := by
          intro e
          subst e
          rw [isRoot_iff.2 h2] at h
          cases h
        exact ⟨r, v, by omega, h2, h3⟩
theorem gat_mem {es : Es} {n i : Nat} (hg : Good es n) : i ∈ gatTo es n n ↔ Tree es n i := by
  rw [gatTo_mem hg n (Nat.le_refl _)]
  constructor
  · rintro ⟨r, v, _, h2, h3⟩
    exact ⟨r, v, h2, h3⟩
  · rintro ⟨r, v, h2, h3⟩
    exact ⟨r, v, root_lt h2, h2, h3⟩
theorem gatP_nodup {es : Es} {n r : Nat} (hg : Good es n) (hr : r < n) : (gatP es n r n).Nodup := by
  have hI := (bfs_done hg hr).inv
  unfold gatP
  rw [List.take_of_length_le (by have := hI.len; omega)]
  show List.Pairwise _ _
  rw [List.pairwise_filterMap, List.pairwise_iff_getElem]
  intro i j hi hj hij x hx y hy hxy
  subst hxy
  have h1 : (bfs es n r).ent[i]? = some (some x) := by rw [List.getElem?_eq_getElem hi]; exact congrArg some hx
  have h2 : (bfs es n r).ent[j]? = some (some x) := by rw [List.getElem?_eq_getElem hj]; exact congrArg some hy
  have := ent_inj hg hI h1 h2
  omega
theorem gat_nodup {es : Es} {n : Nat} (hg : Good es n) : ∀ k, k ≤ n → (gatTo es n k).Nodup
  | 0, _ => List.nodup_nil
  | k + 1, hk => by
    have ih := gat_nodup hg k (by omega)
    cases h : isRoot es n k with
    | false => rw [gat_not h]; exact ih
    | true =>
      rw [gat_root h, List.nodup_append]
      refine ⟨ih, gatP_nodup hg (by omega), fun a ha b hb hab => ?_⟩
      subst hab
      obtain ⟨r, v, h1, h2, h3⟩ := (gatTo_mem hg k (by omega)).1 ha
      obtain ⟨v', h4⟩ := (gatP_mem hg (by omega)).1 hb
      have hD := bfs_done hg (show r < n by omega)
      have hD' := bfs_done hg (show k < n by omega)
      obtain ⟨i1, p, q, hp, hq, _⟩ := hD.inv.ent1 v a h3
      obtain ⟨i2, p', q', hp', hq', _⟩ := hD'.inv.ent1 v' a h4
      have r1 : Rch es r v := (done_rch hg hD v).1 (List.mem_of_getElem? hq)
      have r2 : Rch es r (oth es a v) := (done_rch hg hD _).1 (List.mem_of_getElem? hp)
      have r3 : Rch es k v' := (done_rch hg hD' v').1 (List.mem_of_getElem? hq')
      have hk2 : Root es n k := isRoot_iff.1 h
      have hrk : r = k := by
        by_cases e : v' = v
        · subst e
          exact roots_eq hg h2 hk2 r1 r3
        · have e1 : v' = oth es a v := ends_eq hg i1 i2 e
          rw [← e1] at r2
          exact roots_eq hg h2 hk2 r2 r3
      omega
theorem fst_sorted (es : Es) (n : Nat) : (fst es n).Pairwise (· < ·) := by
  unfold fst
  exact List.Pairwise.filter _ (List.pairwise_lt_range)
theorem gat_sort {es : Es} {n : Nat} (hg : Good es n) : ((gatTo es n n).map fun i : Nat => (i : Int)).mergeSort (fun x y => decide (x ≤ y)) = (fst es n).map fun i : Nat => (i : Int) := by
  have hinj : ∀ l : List Nat, l.Nodup → (l.map fun i : Nat => (i : Int)).Nodup := by
    intro l hl
    show List.Pairwise _ _
    rw [List.pairwise_map]
    exact List.Pairwise.imp (fun h e => h (by omega)) hl
  have hn2 : (fst es n).Nodup := List.Pairwise.imp (fun h => by omega) (fst_sorted es n)
  have hp : ((gatTo es n n).map fun i : Nat => (i : Int)).Perm ((fst es n).map fun i : Nat => (i : Int)) := by
    rw [List.perm_ext_iff_of_nodup (hinj _ (gat_nodup hg n (Nat.le_refl _))) (hinj _ hn2)]
    intro a
    simp only [List.mem_map]
    constructor
    · rintro ⟨i, hi, rfl⟩
      exact ⟨i, (fst_mem hg).2 ((gat_mem hg).1 hi), rfl⟩
    · rintro ⟨i, hi, rfl⟩
      exact ⟨i, (gat_mem hg).2 ((fst_mem hg).1 hi), rfl⟩
  refine List.Perm.eq_of_pairwise (le := fun x y : Int => x ≤ y) (fun a b _ _ h1 h2 => by omega) ?_ ?_ ((List.mergeSort_perm _ _).trans hp)
  · have := List.pairwise_mergeSort (le := fun x y : Int => decide (x ≤ y)) (fun a b c h1 h2 => by simp at *; omega) (fun a b => by simp; omega) ((gatTo es n n).map fun i : Nat => (i : Int))
    exact List.Pairwise.imp (fun h => by simpa using h) this
  · rw [List.pairwise_map]
    exact List.Pairwise.imp (fun h => by omega) (fst_sorted es n)
/-- The forest's pipes among the first k. -/
def fstTo (es : Es) (n k : Nat) : List Nat := (List.range k).filter fun i => treeB es n i
theorem fstTo_in {es : Es} {n k : Nat} (h : treeB es n k = true) : fstTo es n (k + 1) = fstTo es n k ++ [k] := by
  unfold fstTo
  rw [List.range_succ, List.filter_append]
  simp [h]
theorem fstTo_out {es : Es} {n k : Nat} (h : treeB es n k = false) : fstTo es n (k + 1) = fstTo es n k := by
  unfold fstTo
  rw [List.range_succ, List.filter_append]
  simp [h]
theorem fstTo_len (es : Es) (n k : Nat) : (fstTo es n k).length ≤ k := by
  unfold fstTo
  exact Nat.le_trans (List.length_filter_le _ _) (by simp)
/-- The chords among the first k pipes. -/
def chdTo (es : Es) (n k : Nat) : List Nat := (List.range k).filter fun i => !treeB es n i
def chd (es : Es) (n : Nat) : List Nat := chdTo es n es.length
theorem chdTo_out {es : Es} {n k : Nat} (h : treeB es n k = false) : chdTo es n (k + 1) = chdTo es n k ++ [k] := by
  unfold chdTo
  rw [List.range_succ, List.filter_append]
  simp [h]
theorem chdTo_in {es : Es} {n k : Nat} (h : treeB es n k = true) : chdTo es n (k + 1) = chdTo es n k := by
  unfold chdTo
  rw [List.range_succ, List.filter_append]
  simp [h]
theorem chdTo_len (es : Es) (n k : Nat) : (chdTo es n k).length ≤ k := by
  unfold chdTo
  exact Nat.le_trans (List.length_filter_le _ _) (by simp)
theorem chd_mem {es : Es} {n i : Nat} : i ∈ chd es n ↔ i < es.length ∧ treeB es n i = false := by
  unfold chd chdTo
  rw [List.mem_filter, List.mem_range]
  simp
theorem treeB_no {es : Es} {n i : Nat} : treeB es n i = false ↔ ¬ Tree es n i := by
  rw [← treeB_iff]
  simp
end Go.Proofs.Ytpgegfnhokhlmaa
