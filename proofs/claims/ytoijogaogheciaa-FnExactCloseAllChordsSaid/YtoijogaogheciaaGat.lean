/- The forest's pipes as they are gathered: sorted, they are the forest. No program in sight. -/
import Derived.Test.YtoijogaogheciaaGraph6
set_option linter.unusedVariables false
namespace Go.Proofs.Ytoijogaogheciaa

/-- The entries of a search among its first j nodes. -/
def gatP (es : Es) (n r j : Nat) : List Nat := ((bfs es n r).ent.take j).filterMap id
def gatTo (es : Es) (n : Nat) : Nat → List Nat
  | 0 => []
  | r + 1 => if isRoot es n r = true then gatTo es n r ++ gatP es n r n else gatTo es n r
theorem gatP_zero (es : Es) (n r : Nat) : gatP es n r 0 = [] := by simp [gatP]
theorem gatP_some {es : Es} {n r j i : Nat} (h : (bfs es n r).ent[j]? = some (some i)) : gatP es n r (j + 1) = gatP es n r j ++ [i] := by
  unfold gatP
  rw [List.take_add_one, h, List.filterMap_append]
  rfl
theorem gatP_none {es : Es} {n r j : Nat} (h : (bfs es n r).ent[j]? = some none) : gatP es n r (j + 1) = gatP es n r j := by
  unfold gatP
  rw [List.take_add_one, h, List.filterMap_append]
  simp
theorem gat_root {es : Es} {n r : Nat} (h : isRoot es n r = true) : gatTo es n (r + 1) = gatTo es n r ++ gatP es n r n := if_pos h
theorem gat_not {es : Es} {n r : Nat} (h : isRoot es n r = false) : gatTo es n (r + 1) = gatTo es n r := if_neg (by rw [h]; decide)
theorem gatP_mem {es : Es} {n r i : Nat} (hg : Good es n) (hr : r < n) : i ∈ gatP es n r n ↔ ∃ v : Nat, (bfs es n r).ent[v]? = some (some i) := by
  have hl := (bfs_done hg hr).inv.len
  unfold gatP
  rw [List.take_of_length_le (by omega), List.mem_filterMap]
  constructor
  · rintro ⟨o, ho, he⟩
    obtain ⟨v, hv⟩ := List.getElem?_of_mem ho
    exact ⟨v, by rw [hv, show o = some i from he]⟩
  · rintro ⟨v, hv⟩
    exact ⟨some i, List.mem_of_getElem? hv, rfl⟩
theorem gatTo_mem {es : Es} {n i : Nat} (hg : Good es n) : ∀ k, k ≤ n → (i ∈ gatTo es n k ↔ ∃ (r v : Nat), r < k ∧ Root es n r ∧ (bfs es n r).ent[v]? = some (some i))
  | 0, _ => by simp [gatTo]
  | k + 1, hk => by
    have ih := gatTo_mem (i := i) hg k (by omega)
    cases h : isRoot es n k with
    | true =>
      rw [gat_root h, List.mem_append, ih, gatP_mem hg (by omega)]
      constructor
      · rintro (⟨r, v, h1, h2, h3⟩ | ⟨v, hv⟩)
        · exact ⟨r, v, by omega, h2, h3⟩
        · exact ⟨k, v, by omega, isRoot_iff.1 h, hv⟩
      · rintro ⟨r, v, h1, h2, h3⟩
        by_cases e : r = k
        · subst e; exact .inr ⟨v, h3⟩
        · exact .inl ⟨r, v, by omega, h2, h3⟩
    | false =>
      rw [gat_not h, ih]
      constructor
      · rintro ⟨r, v, h1, h2, h3⟩
        exact ⟨r, v, by omega, h2, h3⟩
      · rintro ⟨r, v, h1, h2, h3⟩
        have e : r ≠ k := by
          intro e
          subst e
          rw [isRoot_iff.2 h2] at h
          cases h
        exact ⟨r, v, by omega, h2, h3⟩
theorem gat_mem {es : Es} {n i : Nat} (hg : Good es n) : i ∈ gatTo es n n ↔ Tree es n i := by
  rw [gatTo_mem hg n (Nat.le_refl _)]
  constructor
  · rintro ⟨r, v, _, h2, h3⟩
    exact ⟨r, v, h2, h3⟩
  · rintro ⟨r, v, h2, h3⟩
    exact ⟨r, v, root_lt h2, h2, h3⟩
theorem gatP_nodup {es : Es} {n r : Nat} (hg : Good es n) (hr : r < n) : (gatP es n r n).Nodup := by
  have hI := (bfs_done hg hr).inv
  unfold gatP
  rw [List.take_of_length_le (by have := hI.len; omega)]
  show List.Pairwise _ _
  rw [List.pairwise_filterMap, List.pairwise_iff_getElem]
  intro i j hi hj hij x hx y hy hxy
  subst hxy
  have h1 : (bfs es n r).ent[i]? = some (some x) := by rw [List.getElem?_eq_getElem hi]; exact congrArg some hx
  have h2 : (bfs es n r).ent[j]? = some (some x) := by rw [List.getElem?_eq_getElem hj]; exact congrArg some hy
  have := ent_inj hg hI h1 h2
  omega
theorem gat_nodup {es : Es} {n : Nat} (hg : Good es n) : ∀ k, k ≤ n → (gatTo es n k).Nodup
  | 0, _ => List.nodup_nil
  | k + 1, hk => by
    have ih := gat_nodup hg k (by omega)
    cases h : isRoot es n k with
    | false => rw [gat_not h]; exact ih
    | true =>
      rw [gat_root h, List.nodup_append]
      refine ⟨ih, gatP_nodup hg (by omega), fun a ha b hb hab => ?_⟩
      subst hab
      obtain ⟨r, v, h1, h2, h3⟩ := (gatTo_mem hg k (by omega)).1 ha
      obtain ⟨v', h4⟩ := (gatP_mem hg (by omega)).1 hb
      have hD := bfs_done hg (show r < n by omega)
      have hD' := bfs_done hg (show k < n by omega)
      obtain ⟨i1, p, q, hp, hq, _⟩ := hD.inv.ent1 v a h3
      obtain ⟨i2, p', q', hp', hq', _⟩ := hD'.inv.ent1 v' a h4
      have r1 : Rch es r v := (done_rch hg hD v).1 (List.mem_of_getElem? hq)
      have r2 : Rch es r (oth es a v) := (done_rch hg hD _).1 (List.mem_of_getElem? hp)
      have r3 : Rch es k v' := (done_rch hg hD' v').1 (List.mem_of_getElem? hq')
      have hk2 : Root es n k := isRoot_iff.1 h
      have hrk : r = k := by
        by_cases e : v' = v
        · subst e
          exact roots_eq hg h2 hk2 r1 r3
        · have e1 : v' = oth es a v := ends_eq hg i1 i2 e
          rw [← e1] at r2
          exact roots_eq hg h2 hk2 r2 r3
      omega
theorem fst_sorted (es : Es) (n : Nat) : (fst es n).Pairwise (· < ·) := by
  unfold fst
  exact List.Pairwise.filter _ (List.pairwise_lt_range)
theorem gat_sort {es : Es} {n : Nat} (hg : Good es n) : ((gatTo es n n).map fun i : Nat => (i : Int)).mergeSort (fun x y => decide (x ≤ y)) = (fst es n).map fun i : Nat => (i : Int) := by
  have hinj : ∀ l : List Nat, l.Nodup → (l.map fun i : Nat => (i : Int)).Nodup := by
    intro l hl
    show List.Pairwise _ _
    rw [List.pairwise_map]
    exact List.Pairwise.imp (fun h e => h (by omega)) hl
  have hn2 : (fst es n).Nodup := List.Pairwise.imp (fun h => by omega) (fst_sorted es n)
  have hp : ((gatTo es n n).map fun i : Nat => (i : Int)).Perm ((fst es n).map fun i : Nat => (i : Int)) := by
    rw [List.perm_ext_iff_of_nodup (hinj _ (gat_nodup hg n (Nat.le_refl _))) (hinj _ hn2)]
    intro a
    simp only [List.mem_map]
    constructor
    · rintro ⟨i, hi, rfl⟩
      exact ⟨i, (fst_mem hg).2 ((gat_mem hg).1 hi), rfl⟩
    · rintro ⟨i, hi, rfl⟩
      exact ⟨i, (gat_mem hg).2 ((fst_mem hg).1 hi), rfl⟩
  refine List.Perm.eq_of_pairwise (le := fun x y : Int => x ≤ y) (fun a b _ _ h1 h2 => by omega) ?_ ?_ ((List.mergeSort_perm _ _).trans hp)
  · have := List.pairwise_mergeSort (le := fun x y : Int => decide (x ≤ y)) (fun a b c h1 h2 => by simp at *; omega) (fun a b => by simp; omega) ((gatTo es n n).map fun i : Nat => (i : Int))
    exact List.Pairwise.imp (fun h => by simpa using h) this
  · rw [List.pairwise_map]
    exact List.Pairwise.imp (fun h => by omega) (fst_sorted es n)
/-- The forest's pipes among the first k. -/
def fstTo (es : Es) (n k : Nat) : List Nat := (List.range k).filter fun i => treeB es n i
theorem fstTo_in {es : Es} {n k : Nat} (h : treeB es n k = true) : fstTo es n (k + 1) = fstTo es n k ++ [k] := by
  unfold fstTo
  rw [List.range_succ, List.filter_append]
  simp [h]
theorem fstTo_out {es : Es} {n k : Nat} (h : treeB es n k = false) : fstTo es n (k + 1) = fstTo es n k := by
  unfold fstTo
  rw [List.range_succ, List.filter_append]
  simp [h]
theorem fstTo_len (es : Es) (n k : Nat) : (fstTo es n k).length ≤ k := by
  unfold fstTo
  exact Nat.le_trans (List.length_filter_le _ _) (by simp)
/-- The chords among the first k pipes. -/
def chdTo (es : Es) (n k : Nat) : List Nat := (List.range k).filter fun i => !treeB es n i
def chd (es : Es) (n : Nat) : List Nat := chdTo es n es.length
theorem chdTo_out {es : Es} {n k : Nat} (h : treeB es n k = false) : chdTo es n (k + 1) = chdTo es n k ++ [k] := by
  unfold chdTo
  rw [List.range_succ, List.filter_append]
  simp [h]
theorem chdTo_in {es : Es} {n k : Nat} (h : treeB es n k = true) : chdTo es n (k + 1) = chdTo es n k := by
  unfold chdTo
  rw [List.range_succ, List.filter_append]
  simp [h]
theorem chdTo_len (es : Es) (n k : Nat) : (chdTo es n k).length ≤ k := by
  unfold chdTo
  exact Nat.le_trans (List.length_filter_le _ _) (by simp)
theorem chd_mem {es : Es} {n i : Nat} : i ∈ chd es n ↔ i < es.length ∧ treeB es n i = false := by
  unfold chd chdTo
  rw [List.mem_filter, List.mem_range]
  simp
theorem treeB_no {es : Es} {n i : Nat} : treeB es n i = false ↔ ¬ Tree es n i := by
  rw [← treeB_iff]
  simp
end Go.Proofs.Ytoijogaogheciaa
