/- The forest as a graph of its own, paths in it, and the cycles of chords. No program in sight. -/
import Derived.Test.YthlencpbekjekaaGraph5
set_option linter.unusedVariables false
namespace Go.Proofs.Ythlencpbekjekaa

def treeB (es : Es) (n i : Nat) : Bool := (List.range n).any fun r => isRoot es n r && (bfs es n r).ent.contains (some i)
theorem treeB_iff {es : Es} {n i : Nat} : treeB es n i = true ↔ Tree es n i := by
  unfold treeB Tree
  rw [List.any_eq_true]
  constructor
  · rintro ⟨r, hr, h⟩
    rw [Bool.and_eq_true] at h
    have hm := List.contains_iff_mem.1 h.2
    obtain ⟨v, hv⟩ := List.getElem?_of_mem hm
    exact ⟨r, v, isRoot_iff.1 h.1, hv⟩
  · rintro ⟨r, v, hr, hv⟩
    refine ⟨r, List.mem_range.2 (root_lt hr), ?_⟩
    rw [Bool.and_eq_true]
    exact ⟨isRoot_iff.2 hr, List.contains_iff_mem.2 (List.mem_of_getElem? hv)⟩
/-- The pipes of the forest, increasing. -/
def fst (es : Es) (n : Nat) : List Nat := (List.range es.length).filter fun i => treeB es n i
theorem fst_mem {es : Es} {n i : Nat} (hg : Good es n) : i ∈ fst es n ↔ Tree es n i := by
  unfold fst
  rw [List.mem_filter, List.mem_range, treeB_iff]
  exact ⟨fun h => h.2, fun h => ⟨tree_lt hg h, h⟩⟩
/-- The forest as a graph. -/
def tes (es : Es) (n : Nat) : Es := (fst es n).map fun i => es.getD i (0, 0)
theorem tes_len (es : Es) (n : Nat) : (tes es n).length = (fst es n).length := by simp [tes]
theorem tes_at {es : Es} {n j i : Nat} (h : (fst es n)[j]? = some i) : efr (tes es n) j = efr es i ∧ eto (tes es n) j = eto es i := by
  have e : (tes es n).getD j (0, 0) = es.getD i (0, 0) := by
    unfold tes
    simp [List.getD, h]
  unfold efr eto
  rw [e]
  exact ⟨rfl, rfl⟩
theorem fst_get {es : Es} {n j : Nat} (hj : j < (tes es n).length) : ∃ i, (fst es n)[j]? = some i := by
  rw [tes_len] at hj
  exact ⟨_, List.getElem?_eq_getElem hj⟩
theorem tes_good {es : Es} {n : Nat} (hg : Good es n) : Good (tes es n) n := by
  intro j hj
  obtain ⟨i, hi⟩ := fst_get hj
  obtain ⟨h1, h2⟩ := tes_at hi
  rw [h1, h2]
  exact hg i (tree_lt hg ((fst_mem hg).1 (List.mem_of_getElem? hi)))
theorem tes_inc {es : Es} {n j i v : Nat} (hg : Good es n) (h : (fst es n)[j]? = some i) : j ∈ inc (tes es n) v ↔ i ∈ inc es v := by
  obtain ⟨h1, h2⟩ := tes_at h
  have hj := (List.getElem?_eq_some_iff.1 h).1
  rw [inc_mem, inc_mem, h1, h2, tes_len]
  have := tree_lt hg ((fst_mem hg).1 (List.mem_of_getElem? h))
  exact ⟨fun h => ⟨this, h.2⟩, fun h => ⟨hj, h.2⟩⟩
theorem tes_oth {es : Es} {n j i : Nat} (h : (fst es n)[j]? = some i) (v : Nat) : oth (tes es n) j v = oth es i v := by
  obtain ⟨h1, h2⟩ := tes_at h
  unfold oth
  rw [h1, h2]
theorem tes_rch {es : Es} {n u v : Nat} (hg : Good es n) (hu : u < n) : Rch (tes es n) u v ↔ Rch es u v := by
  have hg' := tes_good hg
  constructor
  · intro h
    induction h with
    | refl => exact .refl _
    | @step x j _ hj ih =>
      obtain ⟨i, hi⟩ := fst_get (inc_mem.1 hj).1
      rw [tes_oth hi]
      exact ih.step ((tes_inc hg hi).1 hj)
  · have key : ∀ r, Root es n r → ∀ (q v : Nat), (bfs es n r).ord[q]? = some v → Rch (tes es n) r v := by
      intro r hr
      have hD := bfs_done hg (root_lt hr)
      intro q
      induction q using Nat.strongRecOn with
      | ind q ih =>
        intro v hq
        by_cases hs : v = r
        · subst hs; exact .refl _
        · obtain ⟨i, hi⟩ := hD.inv.ent2 v (List.mem_of_getElem? hq) hs
          obtain ⟨hinc, p, q', hp, hq', hpq⟩ := hD.inv.ent1 v i hi
          obtain rfl := pos_inj hD.inv.nd hq hq'
          obtain ⟨j, hj⟩ := List.getElem?_of_mem ((fst_mem hg).2 ⟨r, v, hr, hi⟩)
          have h1 := (ih p hpq _ hp).step ((tes_inc hg hj).2 (inc_oth hinc))
          rwa [tes_oth hj, oth_oth hg hinc] at h1
    intro h
    obtain ⟨r, hr, hru⟩ := has_root hg hu
    have hD := bfs_done hg (root_lt hr)
    have hrv := hru.trans h
    obtain ⟨q1, h1⟩ := List.getElem?_of_mem ((done_rch hg hD u).2 hru)
    obtain ⟨q2, h2⟩ := List.getElem?_of_mem ((done_rch hg hD v).2 hrv)
    exact ((key r hr q1 u h1).symm hg').trans (key r hr q2 v h2)

/-- A list of pipes leads from a to b. -/
def IsPath (es : Es) : Nat → List Nat → Nat → Prop
  | a, [], b => a = b
  | a, i :: l, b => i ∈ inc es a ∧ IsPath es (oth es i a) l b
/-- One unit sent along a path. -/
def pfl (es : Es) : Nat → List Nat → Nat → Int
  | _, [], _ => 0
  | a, i :: l, j => if j = i then (if efr es i = a then 1 else -1) else pfl es (oth es i a) l j
theorem pfl_out {es : Es} {n : Nat} : ∀ (l : List Nat) (a : Nat) (j : Nat), j ∉ l → pfl es a l j = 0
  | [], _, _, _ => rfl
  | i :: l, a, j, h => by
    have hne : ¬ j = i := fun e => h (List.mem_cons.2 (.inl e))
    rw [pfl, if_neg hne]
    exact pfl_out (n := n) l _ j (fun hh => h (List.mem_cons_of_mem _ hh))
theorem unit_sgn {es : Es} {n i a v : Nat} (hg : Good es n) (hi : i ∈ inc es a) : sgn es i v (if efr es i = a then 1 else -1) = (if a = v then 1 else 0) - (if oth es i a = v then 1 else 0) := by
  obtain ⟨hil, he⟩ := inc_mem.1 hi
  obtain ⟨h1, h2, h3⟩ := hg i hil
  unfold sgn oth
  rcases he with he | he
  · subst he
    rw [if_pos rfl, if_pos rfl]
  · subst he
    rw [if_neg h3, if_neg h3]
    by_cases a : efr es i = v
    · rw [if_pos a, if_neg (by omega), if_pos a, if_neg (by omega)]; rfl
    · rw [if_neg a, if_neg a]
      split <;> rfl
theorem pfl_outN {es : Es} {n : Nat} (hg : Good es n) : ∀ (l : List Nat) (a b : Nat), IsPath es a l b → l.Nodup → ∀ v, outN es (pfl es a l) v = (if a = v then 1 else 0) - (if b = v then 1 else 0)
  | [], a, b, h, _, v => by
    have h : a = b := h
    subst h
    have : outN es (pfl es a []) v = 0 := sumN_zero fun i _ => by
      show sgn es i v 0 = 0
      exact sgn_zero _ _ _
    rw [this]; omega
  | i :: l, a, b, h, hn, v => by
    obtain ⟨hi, hl⟩ := h
    have hil := (inc_mem.1 hi).1
    have hn' := List.nodup_cons.1 hn
    have e : pfl es a (i :: l) = fun j => if j = i then (if efr es i = a then 1 else -1) else pfl es (oth es i a) l j := by funext j; rfl
    rw [e, outN_set hil, pfl_outN hg l _ b hl hn'.2 v, pfl_out (n := n) l _ i hn'.1, Int.sub_zero, unit_sgn hg hi]
    omega
/-- A supply of one at a node, of minus one at another. -/
def unitS (n a b : Nat) : List Int := (List.range n).map fun v => (if a = v then 1 else 0) - (if b = v then 1 else 0)
theorem unitS_len (n a b : Nat) : (unitS n a b).length = n := by simp [unitS]
theorem unitS_at {n a b v : Nat} (hv : v < n) : (unitS n a b).getD v 0 = (if a = v then 1 else 0) - (if b = v then 1 else 0) := by simp [unitS, List.getD, hv]
/-- The cycle of a chord. -/
def cyc (es : Es) (n c : Nat) : List Int := (ffl es n (unitS n (eto es c) (efr es c))).set c 1
theorem cyc_len {es : Es} {n : Nat} (hg : Good es n) (c : Nat) : (cyc es n c).length = es.length := by
  unfold cyc
  rw [List.length_set, ffl_len hg (unitS_len _ _ _)]
/-- A path through the forest from the end of a chord to its beginning is its cycle. -/
theorem cyc_path {es : Es} {n c : Nat} {l : List Nat} (hg : Good es n) (hc : c < es.length) (hct : ¬ Tree es n c) (hp : IsPath es (eto es c) l (efr es c)) (hn : l.Nodup) (ht : ∀ i ∈ l, Tree es n i) :
    ∀ i, i < es.length → (cyc es n c).getD i 0 = if i = c then 1 else pfl es (eto es c) l i := by
  have hul := unitS_len n (eto es c) (efr es c)
  have hfl := ffl_len hg hul
  have hcl : c ∉ l := fun h => hct (ht c h)
  have key := tree_flow_eq hg (fun i => (ffl es n (unitS n (eto es c) (efr es c))).getD i 0) (pfl es (eto es c) l) (fun i hi hti => by
    show (ffl es n _).getD i 0 = _
    rw [ffl_tree hg hul hi hti, pfl_out (n := n) l _ i (fun h => hti (ht i h))]) (fun v hv hr => by
    show outN es (fun i => (ffl es n _).getD i 0) v = _
    rw [ffl_out hg hul hv hr, unitS_at hv, pfl_outN hg l _ _ hp hn v])
  intro i hi
  unfold cyc
  rw [getD_set (by omega)]
  split
  · rfl
  · exact key i hi
/-- The way back along the entries of a search. -/
structure Back (es : Es) (st : St) (x : Nat) (l : List Nat) (b : Nat) : Prop where
  path : IsPath es x l b
  nd : l.Nodup
  ents : ∀ i ∈ l, ∃ (y q px : Nat), st.ent[y]? = some (some i) ∧ st.ord[q]? = some y ∧ st.ord[px]? = some x ∧ px < q
theorem back_step {es : Es} {n s x b i : Nat} {st : St} {l : List Nat} (hg : Good es n) (h : Inv es n s st) (hb : Back es st x l b) (hx : st.ent[x]? = some (some i)) : Back es st (oth es i x) (i :: l) b := by
  obtain ⟨hinc, p, q, hp, hq, hpq⟩ := h.ent1 x i hx
  refine ⟨⟨inc_oth hinc, by rw [oth_oth hg hinc]; exact hb.path⟩, List.nodup_cons.2 ⟨fun hi => ?_, hb.nd⟩, fun j hj => ?_⟩
  · obtain ⟨y, q2, px, h1, h2, h3, h4⟩ := hb.ents i hi
    have := ent_inj hg h hx h1
    subst this
    have e1 := pos_inj h.nd h2 h3
    omega
  · rcases List.mem_cons.1 hj with rfl | hj
    · exact ⟨x, q, p, hx, hq, hp, hpq⟩
    · obtain ⟨y, q2, px, h1, h2, h3, h4⟩ := hb.ents j hj
      have e1 := pos_inj h.nd hq h3
      exact ⟨y, q2, p, h1, h2, hp, by omega⟩
theorem path_map {es : Es} {n : Nat} (hg : Good es n) : ∀ (l : List Nat) (a b : Nat), IsPath (tes es n) a l b → IsPath es a (l.map fun j => (fst es n).getD j 0) b
  | [], a, b, h => h
  | j :: l, a, b, h => by
    obtain ⟨hj, hl⟩ := h
    obtain ⟨i, hi⟩ := fst_get (inc_mem.1 hj).1
    have e : (fst es n).getD j 0 = i := by simp [List.getD, hi]
    refine ⟨?_, ?_⟩
    · show (fst es n).getD j 0 ∈ inc es a
      rw [e]; exact (tes_inc hg hi).1 hj
    · show IsPath es (oth es ((fst es n).getD j 0) a) (l.map _) b
      rw [e, ← tes_oth hi]
      exact path_map hg l _ b hl
end Go.Proofs.Ythlencpbekjekaa
