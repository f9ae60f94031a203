/- Levels along the forest: bounds; the shift to the root's level. No program in sight. -/
import Derived.Test.YtpgegfnhokhlmaaGreatKG
set_option linter.unusedVariables false
namespace Go.Proofs.YtpgegfnhokhlmaaGreat

/-- The drop of a pipe for a flow list. -/
def dF (ks fs : List Int) (i : Nat) : Int := drp (ks.getD i 0) (fs.getD i 0)
theorem lvTo_bd {es : Es} {n s : Nat} {st : St} {d : Nat → Int} {lv : List Int} {D M : Nat} (hg : Good es n) (h : Inv es n s st) (hl : lv.length = n) (hd : ∀ i, i < es.length → (d i).natAbs ≤ D) (hm : ∀ v, v < n → (lv.getD v 0).natAbs ≤ M) :
    ∀ k, k + 1 ≤ st.ord.length → ∀ v, v < n → ((lvTo es st d lv k).getD v 0).natAbs ≤ M + k * D := by
  intro k
  induction k with
  | zero => intro _ v hv; have := hm v hv; simpa [lvTo] using this
  | succ k ih =>
    intro hk v hv
    have h1 := ih (by omega)
    have hx : st.ord[k + 1]? = some st.ord[k + 1] := List.getElem?_eq_getElem (by omega)
    generalize st.ord[k + 1] = x at hx
    have hxs : x ≠ s := by
      intro e
      subst e
      have := pos_inj h.nd hx h.hd
      omega
    obtain ⟨j, hj⟩ := h.ent2 x (List.mem_of_getElem? hx) hxs
    obtain ⟨hinc, p, q, hp, hq, hpq⟩ := h.ent1 x j hj
    have hon := h.lt _ (List.mem_of_getElem? hp)
    have hjl := (inc_mem.1 hinc).1
    have hlen := lvTo_len es st d lv k
    have hxn := h.lt x (List.mem_of_getElem? hx)
    rw [lvTo_succ hx]
    have e : lvStep es st.ent d (lvTo es st d lv k) x = (lvTo es st d lv k).set x ((lvTo es st d lv k).getD (oth es j x) 0 + (if efr es j = x then d j else -(d j))) := by
      unfold lvStep
      rw [hj]
    rw [e, getD_set (by omega)]
    have h2 := h1 v hv
    have h3 := h1 _ hon
    have h4 := hd j hjl
    have e5 : M + (k + 1) * D = M + k * D + D := by rw [Nat.add_mul]; omega
    rw [e5]
    split
    · split <;> omega
    · omega
/-- A number added to the first j levels. -/
def shTo (lv : List Int) (x : Int) (j : Nat) : List Int := (List.range lv.length).map fun i => if i < j then lv.getD i 0 + x else lv.getD i 0
theorem shTo_len (lv : List Int) (x : Int) (j : Nat) : (shTo lv x j).length = lv.length := by simp [shTo]
theorem shTo_at {lv : List Int} {x : Int} {i j : Nat} (hi : i < lv.length) : (shTo lv x j)[i]? = some (if i < j then lv.getD i 0 + x else lv.getD i 0) := by simp [shTo, hi]
theorem shTo_zero (lv : List Int) (x : Int) : shTo lv x 0 = lv := by
  apply List.ext_getElem?
  intro i
  by_cases hi : i < lv.length
  · rw [shTo_at hi, if_neg (by omega), getD_some rfl hi]
  · rw [List.getElem?_eq_none (by rw [shTo_len]; omega), List.getElem?_eq_none (by omega)]
theorem shTo_next {lv : List Int} {x : Int} {j : Nat} (hj : j < lv.length) : (shTo lv x j).getD j 0 = lv.getD j 0 ∧ (shTo lv x j).set j (lv.getD j 0 + x) = shTo lv x (j + 1) := by
  constructor
  · rw [List.getD_eq_getElem?_getD, shTo_at hj, if_neg (by omega)]
    rfl
  · apply List.ext_getElem?
    intro i
    by_cases hi : i < lv.length
    · rw [shTo_at hi]
      by_cases e : j = i
      · subst e
        rw [List.getElem?_set_self (by rw [shTo_len]; exact hj), if_pos (by omega)]
      · rw [List.getElem?_set_ne e, shTo_at hi]
        by_cases h2 : i < j
        · rw [if_pos h2, if_pos (by omega)]
        · rw [if_neg h2, if_neg (by omega)]
    · rw [List.getElem?_eq_none (by rw [List.length_set, shTo_len]; omega), List.getElem?_eq_none (by rw [shTo_len]; omega)]
/-- The forest levels with the root 0 at a level. -/
def lvR (es : Es) (ks : List Int) (n : Nat) (fs : List Int) (x : Int) : List Int := shTo (lvs es n 0 (dF ks fs) (List.replicate n 0)) x n
theorem lvR_len (es : Es) (ks : List Int) (n : Nat) (fs : List Int) (x : Int) : (lvR es ks n fs x).length = n := by unfold lvR; rw [shTo_len, lvs_len]; simp
theorem lvR_at {es : Es} {ks : List Int} {n : Nat} {fs : List Int} {x : Int} {v : Nat} (hv : v < n) : (lvR es ks n fs x).getD v 0 = (lvs es n 0 (dF ks fs) (List.replicate n 0)).getD v 0 + x := by
  unfold lvR
  rw [List.getD_eq_getElem?_getD, shTo_at (by rw [lvs_len]; simpa using hv), if_pos hv]
  rfl
/-- The reference's way: along the forest as a network of its own, the root's level first. -/
theorem lvR_tes {es : Es} {ks : List Int} {n : Nat} {fs : List Int} {x : Int} (hg : Good es n) (hc : Conn es n) (hn : 0 < n) : lvs (tes es n) n 0 (fun j => dF ks fs ((fst es n).getD j 0)) ((List.replicate n 0).set 0 x) = lvR es ks n fs x := by
  apply List.ext_getElem?
  intro v
  by_cases hv : v < n
  · have h1 := lvs_tes (d := dF ks fs) (d' := fun j => dF ks fs ((fst es n).getD j 0)) (lv := List.replicate n 0) (lv' := (List.replicate n 0).set 0 x) (x := x) hg hc hn (by simp) (by simp) (by
      rw [getD_set (by simpa using hn), if_pos rfl]
      simp [List.getD, hn]) (fun j i h => by simp [List.getD, h]) v hv
    rw [← lvR_at hv] at h1
    rw [getD_some (show (lvs (tes es n) n 0 (fun j => dF ks fs ((fst es n).getD j 0)) ((List.replicate n 0).set 0 x)).length = n by rw [lvs_len]; simp) hv, getD_some (lvR_len es ks n fs x) hv, h1]
  · rw [List.getElem?_eq_none (by rw [lvs_len]; simp; omega), List.getElem?_eq_none (by rw [lvR_len]; omega)]
theorem lvs_bd {es : Es} {n : Nat} {d : Nat → Int} {D : Nat} (hg : Good es n) (hn : 0 < n) (hd : ∀ i, i < es.length → (d i).natAbs ≤ D) {v : Nat} (hv : v < n) : ((lvs es n 0 d (List.replicate n 0)).getD v 0).natAbs ≤ n * D := by
  have hD := bfs_done (s := 0) hg hn
  have hL : (bfs es n 0).ord.length ≤ n := nodup_len hD.inv.nd hD.inv.lt
  have hL1 : 1 ≤ (bfs es n 0).ord.length := by have := (List.getElem?_eq_some_iff.1 hD.inv.hd).1; omega
  have := lvTo_bd (d := d) (lv := List.replicate n 0) (D := D) (M := 0) hg hD.inv (by simp) hd (fun v hv => by simp [List.getD, hv]) ((bfs es n 0).ord.length - 1) (by omega) v hv
  have h2 : ((bfs es n 0).ord.length - 1) * D ≤ n * D := Nat.mul_le_mul_right _ (by omega)
  unfold lvs
  omega
end Go.Proofs.YtpgegfnhokhlmaaGreat
