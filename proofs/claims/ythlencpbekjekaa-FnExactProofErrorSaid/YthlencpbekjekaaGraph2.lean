/- Reachability, components, the spanning forest of a graph. No program in sight. -/
import Derived.Test.YthlencpbekjekaaGraph
set_option linter.unusedVariables false
namespace Go.Proofs.Ythlencpbekjekaa

/-- A path leads from a node to another. -/
inductive Rch (es : Es) : Nat → Nat → Prop
  | refl (v : Nat) : Rch es v v
  | step {u v i : Nat} : Rch es u v → i ∈ inc es v → Rch es u (oth es i v)
theorem Rch.trans {es : Es} {u v x : Nat} (h : Rch es u v) (k : Rch es v x) : Rch es u x := by
  induction k with
  | refl => exact h
  | step _ hi ih => exact ih.step hi
theorem Rch.symm {es : Es} {n u v : Nat} (hg : Good es n) (h : Rch es u v) : Rch es v u := by
  induction h with
  | refl => exact .refl _
  | @step x i _ hi ih =>
    have h1 : Rch es (oth es i x) x := by
      have := (Rch.refl (es := es) (oth es i x)).step (inc_oth hi)
      rwa [oth_oth hg hi] at this
    exact h1.trans ih
theorem done_rch {es : Es} {n s : Nat} {st : St} (hg : Good es n) (h : Done es n s st) (v : Nat) : v ∈ st.ord ↔ Rch es s v := by
  constructor
  · intro hv
    obtain ⟨q, hq⟩ := List.getElem?_of_mem hv
    have key : ∀ (q v : Nat), st.ord[q]? = some v → Rch es s v := by
      intro q
      induction q using Nat.strongRecOn with
      | ind q ih =>
        intro v hq
        by_cases hs : v = s
        · subst hs; exact .refl _
        · obtain ⟨i, hi⟩ := h.inv.ent2 v (List.mem_of_getElem? hq) hs
          obtain ⟨hinc, p, q', hp, hq', hpq⟩ := h.inv.ent1 v i hi
          have hqq : q' = q := by
            have h1 := (List.getElem?_eq_some_iff.1 hq)
            have h2 := (List.getElem?_eq_some_iff.1 hq')
            obtain ⟨a1, a2⟩ := h1
            obtain ⟨b1, b2⟩ := h2
            exact (List.getElem_inj h.inv.nd).1 (b2.trans a2.symm)
          subst hqq
          have := (ih p hpq _ hp).step (inc_oth hinc)
          rwa [oth_oth hg hinc] at this
    exact key q v hq
  · intro hr
    induction hr with
    | refl => exact List.mem_of_getElem? h.inv.hd
    | step _ hi ih => exact h.clo _ ih _ hi
theorem rch_lt {es : Es} {n u v : Nat} (hg : Good es n) (h : Rch es u v) (hu : u < n) : v < n := by
  induction h with
  | refl => exact hu
  | step _ hi _ => exact oth_lt hg (inc_mem.1 hi).1

/-- The components found from the nodes below k. -/
def paint (l : List (Option Nat)) (vs : List Nat) (k : Nat) : List (Option Nat) := vs.foldl (fun l v => l.set v (some k)) l
def compTo (es : Es) (n : Nat) : Nat → List (Option Nat)
  | 0 => List.replicate n none
  | k + 1 => if ((compTo es n k).getD k none).isSome then compTo es n k else paint (compTo es n k) (bfs es n k).ord k
def comps (es : Es) (n : Nat) : List (Option Nat) := compTo es n n
theorem paint_len (l : List (Option Nat)) (vs : List Nat) (k : Nat) : (paint l vs k).length = l.length := by
  unfold paint
  induction vs generalizing l with
  | nil => rfl
  | cons v vs ih => rw [List.foldl_cons, ih, List.length_set]
theorem paint_at (l : List (Option Nat)) (vs : List Nat) (k v : Nat) (hv : v < l.length) : (paint l vs k)[v]? = if v ∈ vs then some (some k) else l[v]? := by
  unfold paint
  induction vs generalizing l with
  | nil => simp
  | cons u vs ih =>
    rw [List.foldl_cons, ih _ (by rw [List.length_set]; exact hv)]
    by_cases h1 : v ∈ vs
    · simp [h1]
    · by_cases h2 : u = v
      · subst h2
        simp [h1, hv]
      · have h3 : ¬ v = u := fun h => h2 h.symm
        simp [h1, h2, h3]
theorem compTo_len (es : Es) (n k : Nat) : (compTo es n k).length = n := by
  induction k with
  | zero => simp [compTo]
  | succ k ih =>
    unfold compTo
    split
    · exact ih
    · rw [paint_len, ih]
/-- r is the least node from which v is reached. -/
def Lst (es : Es) (r v : Nat) : Prop := Rch es r v ∧ ∀ r', r' < r → ¬ Rch es r' v
theorem lst_eq {es : Es} {r r' v : Nat} (h : Lst es r v) (h' : Lst es r' v) : r = r' := by
  rcases Nat.lt_trichotomy r r' with h1 | h1 | h1
  · exact absurd h.1 (h'.2 r h1)
  · exact h1
  · exact absurd h'.1 (h.2 r' h1)
theorem compTo_at {es : Es} {n : Nat} (hg : Good es n) : ∀ k, k ≤ n → ∀ v, v < n → (∃ r, (compTo es n k)[v]? = some (some r) ∧ r < k ∧ Lst es r v) ∨ ((compTo es n k)[v]? = some none ∧ ∀ r, r < k → ¬ Rch es r v) := by
  intro k
  induction k with
  | zero =>
    intro _ v hv
    right
    exact ⟨by simp [compTo, hv], fun r hr => absurd hr (by omega)⟩
  | succ k ih =>
    intro hk v hv
    have hl := compTo_len es n k
    have hkk := ih (by omega) k (by omega)
    have hvv := ih (by omega) v hv
    have hD := bfs_done (es := es) (n := n) (s := k) hg (by omega)
    unfold compTo
    by_cases hs : ((compTo es n k).getD k none).isSome = true
    · rw [if_pos hs]
      rcases hkk with ⟨r, hr, hrk, hl⟩ | ⟨hn, _⟩
      · rcases hvv with ⟨r', h1, h2, h3⟩ | ⟨h1, h2⟩
        · exact .inl ⟨r', h1, by omega, h3⟩
        · refine .inr ⟨h1, fun x hx hxv => ?_⟩
          by_cases e : x = k
          · subst e
            exact h2 r hrk (hl.1.trans hxv)
          · exact h2 x (by omega) hxv
      · simp [List.getD, hn] at hs
    · rw [if_neg hs, paint_at _ _ _ _ (by omega)]
      have hno : ∀ r, r < k → ¬ Rch es r k := by
        rcases hkk with ⟨r, hr, _⟩ | ⟨_, h⟩
        · simp [List.getD, hr] at hs
        · exact h
      by_cases hm : v ∈ (bfs es n k).ord
      · rw [if_pos hm]
        have hkv := (done_rch hg hD v).1 hm
        exact .inl ⟨k, rfl, by omega, hkv, fun r hr hrv => hno r hr (hrv.trans (hkv.symm hg))⟩
      · rw [if_neg hm]
        have hkv : ¬ Rch es k v := fun h => hm ((done_rch hg hD v).2 h)
        rcases hvv with ⟨r', h1, h2, h3⟩ | ⟨h1, h2⟩
        · exact .inl ⟨r', h1, by omega, h3⟩
        · refine .inr ⟨h1, fun x hx hxv => ?_⟩
          by_cases e : x = k
          · subst e; exact hkv hxv
          · exact h2 x (by omega) hxv
theorem comps_at {es : Es} {n : Nat} (hg : Good es n) {v : Nat} (hv : v < n) : ∃ r, (comps es n)[v]? = some (some r) ∧ r < n ∧ Lst es r v := by
  rcases compTo_at hg n (Nat.le_refl _) v hv with h | ⟨_, h⟩
  · exact h
  · exact absurd (Rch.refl v) (h v hv)
theorem comps_len (es : Es) (n : Nat) : (comps es n).length = n := compTo_len es n n
/-- The least node of a component. -/
def Root (es : Es) (n r : Nat) : Prop := (comps es n)[r]? = some (some r)
theorem root_iff {es : Es} {n r : Nat} (hg : Good es n) (hr : r < n) : Root es n r ↔ ∀ r', r' < r → ¬ Rch es r' r := by
  obtain ⟨x, hx, _, hl⟩ := comps_at hg hr
  unfold Root
  constructor
  · intro h
    rw [hx] at h
    injection h with h
    injection h with h
    subst h
    exact hl.2
  · intro h
    have : x = r := lst_eq hl ⟨.refl _, h⟩
    rw [hx, this]
theorem root_lt {es : Es} {n r : Nat} (h : Root es n r) : r < n := by
  have := (List.getElem?_eq_some_iff.1 h).1
  rwa [comps_len] at this
theorem root_of {es : Es} {n v r : Nat} (hg : Good es n) (hr : r < n) (h : Lst es r v) : Root es n r :=
  (root_iff hg hr).2 fun r' hr' hh => h.2 r' hr' (hh.trans h.1)
theorem roots_eq {es : Es} {n r r' v : Nat} (hg : Good es n) (h : Root es n r) (h' : Root es n r') (hv : Rch es r v) (hv' : Rch es r' v) : r = r' := by
  have h1 := (root_iff hg (root_lt h)).1 h
  have h2 := (root_iff hg (root_lt h')).1 h'
  rcases Nat.lt_trichotomy r r' with e | e | e
  · exact absurd (hv.trans (hv'.symm hg)) (h2 r e)
  · exact e
  · exact absurd (hv'.trans (hv.symm hg)) (h1 r' e)
theorem has_root {es : Es} {n v : Nat} (hg : Good es n) (hv : v < n) : ∃ r, Root es n r ∧ Rch es r v := by
  obtain ⟨r, _, hr, hl⟩ := comps_at hg hv
  exact ⟨r, root_of hg hr hl, hl.1⟩

/-- A pipe by which the searches from the roots enter a node. -/
def Tree (es : Es) (n i : Nat) : Prop := ∃ (r v : Nat), Root es n r ∧ (bfs es n r).ent[v]? = some (some i)
theorem pos_inj {l : List Nat} (h : l.Nodup) {p q v : Nat} (hp : l[p]? = some v) (hq : l[q]? = some v) : p = q := by
  obtain ⟨a1, a2⟩ := List.getElem?_eq_some_iff.1 hp
  obtain ⟨b1, b2⟩ := List.getElem?_eq_some_iff.1 hq
  exact (List.getElem_inj h).1 (a2.trans b2.symm)
/-- No pipe is the entry of two nodes. -/
theorem ent_inj {es : Es} {n s u v i : Nat} {st : St} (hg : Good es n) (h : Inv es n s st) (hu : st.ent[u]? = some (some i)) (hv : st.ent[v]? = some (some i)) : u = v := by
  obtain ⟨iu, p, q, hp, hq, hpq⟩ := h.ent1 u i hu
  obtain ⟨iv, p', q', hp', hq', hpq'⟩ := h.ent1 v i hv
  by_cases e : v = u
  · exact e.symm
  · have e1 : v = oth es i u := ends_eq hg iu iv e
    have e2 : u = oth es i v := ends_eq hg iv iu (fun h => e h.symm)
    rw [← e1] at hp
    rw [← e2] at hp'
    have h1 := pos_inj h.nd hp hq'
    have h2 := pos_inj h.nd hq hp'
    omega
theorem tree_lt {es : Es} {n i : Nat} (hg : Good es n) (h : Tree es n i) : i < es.length := by
  obtain ⟨r, v, hr, hv⟩ := h
  exact (inc_mem.1 ((bfs_done hg (root_lt hr)).inv.ent1 v i hv).1).1
end Go.Proofs.Ythlencpbekjekaa
