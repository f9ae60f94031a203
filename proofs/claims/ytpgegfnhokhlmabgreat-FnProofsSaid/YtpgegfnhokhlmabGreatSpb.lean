/- Flows of the open network, spread over the whole one: where they stand, their sums, what flows out of the nodes. No program in sight. -/
import Derived.Test.YtpgegfnhokhlmabGreatSpread
import Derived.Test.YtpgegfnhokhlmabGreatKG
import Derived.Test.YtpgegfnhokhlmabGreatKS
set_option linter.unusedVariables false
namespace Go.Proofs.YtpgegfnhokhlmabGreat

theorem list_ext_get {xs ys : List Int} {n : Nat} (h1 : xs.length = n) (h2 : ys.length = n) (h : ∀ i, i < n → xs.getD i 0 = ys.getD i 0) : xs = ys := by
  refine List.ext_getElem (by omega) fun i a b => ?_
  have := h i (by omega)
  simpa [List.getD, a, b] using this
theorem outF_ext {es es' : Es} {n : Nat} {fs gs : List Int} (h : ∀ v, v < n → outN es (fun i => fs.getD i 0) v = outN es' (fun i => gs.getD i 0) v) : outF es n fs = outF es' n gs :=
  list_ext_get (outF_len _ _ _) (outF_len _ _ _) fun v hv => by rw [outF_at hv, outF_at hv, h v hv]
theorem outF_is {es : Es} {n : Nat} {fs zs : List Int} (hl : zs.length = n) (h : ∀ v, v < n → outN es (fun i => fs.getD i 0) v = zs.getD v 0) : outF es n fs = zs :=
  list_ext_get (outF_len _ _ _) hl fun v hv => by rw [outF_at hv, h v hv]
theorem flB_of {m : Nat} {fs : List Int} (h1 : fs.length = m) (h2 : inR fs = true) : flB m fs = true := by
  unfold flB
  rw [Bool.and_eq_true]
  exact ⟨decide_eq_true h1, h2⟩
theorem spr_inR {m : Nat} {l : List (Int × Int)} (h : ∀ x ∈ l, -30000 ≤ x.2 ∧ x.2 ≤ 30000) : inR (spr m l) = true := by
  have key : ∀ (l : List (Int × Int)) (a : List Int), (∀ x ∈ l, -30000 ≤ x.2 ∧ x.2 ≤ 30000) → (∀ y ∈ a, -30000 ≤ y ∧ y ≤ 30000) → ∀ y ∈ l.foldl (fun a x => a.set x.1.toNat x.2) a, -30000 ≤ y ∧ y ≤ 30000 := by
    intro l
    induction l with
    | nil => intro a _ ha; exact ha
    | cons x l ih =>
      intro a hl ha
      rw [List.foldl_cons]
      refine ih _ (fun y hy => hl y (List.mem_cons_of_mem _ hy)) (fun y hy => ?_)
      rcases List.mem_or_eq_of_mem_set hy with hy | rfl
      · exact ha y hy
      · exact hl x List.mem_cons_self
  unfold inR
  rw [List.all_eq_true]
  intro y hy
  have := key l _ h (fun y hy => by rw [(List.mem_replicate.1 hy).2]; omega) y hy
  simp [this]
theorem opI_mem {zs : List Int} {m : Nat} {x : Int} : x ∈ opI zs m ↔ ∃ i : Nat, i < m ∧ zs.getD i 0 ≠ 0 ∧ x = (i : Int) := by
  unfold opI
  rw [List.mem_map]
  constructor
  · rintro ⟨i, hi, rfl⟩
    rw [List.mem_filter] at hi
    exact ⟨i, List.mem_range.1 hi.1, by simpa using hi.2, rfl⟩
  · rintro ⟨i, h1, h2, rfl⟩
    exact ⟨i, List.mem_filter.2 ⟨List.mem_range.2 h1, by simpa using h2⟩, rfl⟩
theorem opI_nodup (zs : List Int) (m : Nat) : (opI zs m).Nodup := by
  unfold opI
  refine List.pairwise_map.2 (List.Pairwise.imp (fun {a b} hab he => hab (Int.ofNat.inj he)) (List.Pairwise.filter _ List.nodup_range))
/-- The number of open pipes before pipe k. -/
def opN (zs : List Int) (k : Nat) : Nat := (opI zs k).length
theorem opN_step {zs : List Int} {k : Nat} {z : Int} (hz : zs[k]? = some z) : opN zs (k + 1) = if z = 0 then opN zs k else opN zs k + 1 := by
  unfold opN
  rw [opI_step hz]
  split <;> simp
theorem opI_pre {zs : List Int} {k m : Nat} (hm : m ≤ zs.length) (hk : k ≤ m) : ∃ r, opI zs m = opI zs k ++ r := by
  induction m with
  | zero => exact ⟨[], by rw [show k = 0 by omega]; simp⟩
  | succ m ih =>
    by_cases h : k = m + 1
    · exact ⟨[], by rw [h]; simp⟩
    · obtain ⟨r, hr⟩ := ih (by omega) (by omega)
      have hz : zs[m]? = some zs[m] := List.getElem?_eq_getElem (by omega)
      rw [opI_step hz, hr]
      split
      · exact ⟨r, rfl⟩
      · exact ⟨r ++ [(m : Int)], by rw [List.append_assoc]⟩
theorem opI_get {zs : List Int} {k m : Nat} {z : Int} (hm : m ≤ zs.length) (hk : k < m) (hz : zs[k]? = some z) (h0 : z ≠ 0) : (opI zs m)[opN zs k]? = some (k : Int) := by
  obtain ⟨r, hr⟩ := opI_pre (k := k + 1) hm (by omega)
  rw [hr, opI_step hz, if_neg h0, List.append_assoc, List.getElem?_append_right (show (opI zs k).length ≤ opN zs k from Nat.le_refl _)]
  unfold opN
  simp
theorem opP_pre {ps : List Pp} {zs : List Int} {k m : Nat} (hm : m ≤ zs.length) (hp : m ≤ ps.length) (hk : k ≤ m) : ∃ r, opP ps zs m = opP ps zs k ++ r := by
  induction m with
  | zero => exact ⟨[], by rw [show k = 0 by omega]; simp⟩
  | succ m ih =>
    by_cases h : k = m + 1
    · exact ⟨[], by rw [h]; simp⟩
    · obtain ⟨r, hr⟩ := ih (by omega) (by omega) (by omega)
      have hz : zs[m]? = some zs[m] := List.getElem?_eq_getElem (by omega)
      have hpp : ps[m]? = some ps[m] := List.getElem?_eq_getElem (by omega)
      rw [opP_step hpp hz, hr]
      split
      · exact ⟨r, rfl⟩
      · exact ⟨r ++ [ps[m]], by rw [List.append_assoc]⟩
theorem opP_num {ps : List Pp} {zs : List Int} {k : Nat} (hz : k ≤ zs.length) (hp : k ≤ ps.length) : (opP ps zs k).length = opN zs k := by
  induction k with
  | zero => simp [opP, opN, opI]
  | succ k ih =>
    have hzz : zs[k]? = some zs[k] := List.getElem?_eq_getElem (by omega)
    have hpp : ps[k]? = some ps[k] := List.getElem?_eq_getElem (by omega)
    have := ih (by omega) (by omega)
    rw [opP_step hpp hzz, opN_step hzz]
    split
    · exact this
    · simp [this]
theorem opP_get {ps : List Pp} {zs : List Int} {k m : Nat} {z : Int} {p : Pp} (hm : m ≤ zs.length) (hp : m ≤ ps.length) (hk : k < m) (hz : zs[k]? = some z) (hpp : ps[k]? = some p) (h0 : z ≠ 0) : (opP ps zs m)[opN zs k]? = some p := by
  obtain ⟨r, hr⟩ := opP_pre (k := k + 1) hm hp (by omega)
  have e := opP_num (ps := ps) (zs := zs) (k := k) (by omega) (by omega)
  rw [hr, opP_step hpp hz, if_neg h0, List.append_assoc, List.getElem?_append_right (by omega), e]
  simp
/-- What a spread list holds. -/
theorem spr_take {ix fs : List Int} {m : Nat} (hnd : ix.Nodup) (hr : ∀ x ∈ ix, 0 ≤ x ∧ x < m) (hl : ix.length = fs.length) : ∀ j, j ≤ ix.length →
    (∀ t, t < j → (spr m ((ix.zip fs).take j)).getD (ix.getD t 0).toNat 0 = fs.getD t 0) ∧ ∀ i, (∀ t, t < j → (ix.getD t 0).toNat ≠ i) → (spr m ((ix.zip fs).take j)).getD i 0 = 0 := by
  intro j
  induction j with
  | zero =>
    intro _
    refine ⟨fun t ht => by omega, fun i _ => ?_⟩
    simp only [List.take_zero, spr, List.foldl_nil]
    rw [List.getD_eq_getElem?_getD, List.getElem?_replicate]
    split <;> rfl
  | succ j ih =>
    intro hj
    obtain ⟨h1, h2⟩ := ih (by omega)
    have ex : ix[j]? = some ix[j] := List.getElem?_eq_getElem (by omega)
    have ey : fs[j]? = some fs[j] := List.getElem?_eq_getElem (by omega)
    have gx : ix.getD j 0 = ix[j] := by rw [List.getD_eq_getElem?_getD, ex]; rfl
    have gy : fs.getD j 0 = fs[j] := by rw [List.getD_eq_getElem?_getD, ey]; rfl
    have hb := hr ix[j] (List.getElem_mem (by omega))
    rw [spr_step ex ey]
    have hne : ∀ t, t < j → (ix.getD t 0).toNat ≠ (ix.getD j 0).toNat := by
      intro t ht he
      have et : ix.getD t 0 = ix[t] := by simp [List.getD, show t < ix.length by omega]
      have hbt := hr ix[t] (List.getElem_mem (by omega))
      rw [et, gx] at he
      have he2 : ix[t] = ix[j] := by omega
      have := (List.getElem_inj hnd).1 he2
      omega
    refine ⟨fun t ht => ?_, fun i hi => ?_⟩
    · by_cases htj : t = j
      · subst htj
        rw [gx, gy, List.getD_eq_getElem?_getD, List.getElem?_set_self (by rw [spr_len]; omega)]
        rfl
      · have := hne t (by omega)
        rw [gx] at this
        rw [List.getD_eq_getElem?_getD, List.getElem?_set_ne (fun h => this h.symm), ← List.getD_eq_getElem?_getD, h1 t (by omega)]
    · have := hi j (by omega)
      rw [gx] at this
      rw [List.getD_eq_getElem?_getD, List.getElem?_set_ne this, ← List.getD_eq_getElem?_getD, h2 i (fun t ht => hi t (by omega))]
theorem spr_all {ix fs : List Int} {m : Nat} (hl : ix.length = fs.length) : spr m (ix.zip fs) = spr m ((ix.zip fs).take ix.length) := by
  rw [List.take_of_length_le (by rw [List.length_zip]; omega)]
section
variable {zs fl : List Int} {m : Nat}
theorem spr_open {k : Nat} {z : Int} (hm : m ≤ zs.length) (hl : (opI zs m).length = fl.length) (hk : k < m) (hz : zs[k]? = some z) (h0 : z ≠ 0) : (spr m ((opI zs m).zip fl)).getD k 0 = fl.getD (opN zs k) 0 := by
  have hg := opI_get hm hk hz h0
  have hlt : opN zs k < (opI zs m).length := by
    rcases Nat.lt_or_ge (opN zs k) (opI zs m).length with h | h
    · exact h
    · rw [List.getElem?_eq_none h] at hg; cases hg
  have := (spr_take (m := m) (fs := fl) (opI_nodup zs m) (op_in zs m) hl (opI zs m).length (Nat.le_refl _)).1 (opN zs k) hlt
  rw [← spr_all hl] at this
  rw [show (opI zs m).getD (opN zs k) 0 = (k : Int) by rw [List.getD_eq_getElem?_getD, hg]; rfl] at this
  simpa using this
theorem spr_shut {k : Nat} {z : Int} (hl : (opI zs m).length = fl.length) (hz : zs[k]? = some z) (h0 : z = 0) : (spr m ((opI zs m).zip fl)).getD k 0 = 0 := by
  have := (spr_take (m := m) (fs := fl) (opI_nodup zs m) (op_in zs m) hl (opI zs m).length (Nat.le_refl _)).2 k (fun t ht he => by
    have et : (opI zs m).getD t 0 = (opI zs m)[t] := by simp [List.getD, ht]
    obtain ⟨i, h1, h2, h3⟩ := opI_mem.1 (List.getElem_mem ht)
    rw [et, h3] at he
    have he' : i = k := by omega
    subst he'
    rw [List.getD_eq_getElem?_getD, hz] at h2
    exact h2 h0)
  rw [← spr_all hl] at this
  exact this
/-- A sum over the whole network is one over the open pipes. -/
theorem spr_sum {G : Nat → Int → Int} (hG : ∀ i, G i 0 = 0) (hm : zs.length = m) (hl : (opI zs m).length = fl.length) : ∀ k, k ≤ m → sumN k (fun i => G i ((spr m ((opI zs m).zip fl)).getD i 0)) = sumN (opN zs k) (fun j => G ((opI zs m).getD j 0).toNat (fl.getD j 0)) := by
  intro k
  induction k with
  | zero => intro _; simp [opN, opI, sumN]
  | succ k ih =>
    intro hk
    have hz : zs[k]? = some zs[k] := List.getElem?_eq_getElem (by omega)
    rw [sumN, ih (by omega), opN_step hz]
    by_cases h0 : zs[k] = 0
    · rw [if_pos h0, spr_shut hl hz h0, hG, Int.add_zero]
    · rw [if_neg h0, sumN, spr_open (by omega) hl (by omega) hz h0]
      rw [show (opI zs m).getD (opN zs k) 0 = (k : Int) by rw [List.getD_eq_getElem?_getD, opI_get (by omega) (by omega) hz h0]; rfl]
      rfl
theorem es_open {ps : List Pp} (hm : zs.length = m) (hp : ps.length = m) {j : Nat} (hj : j < (opI zs m).length) : (esOf (opP ps zs m)).getD j (0, 0) = (esOf ps).getD ((opI zs m).getD j 0).toNat (0, 0) := by
  have et : (opI zs m).getD j 0 = (opI zs m)[j] := by simp [List.getD, hj]
  obtain ⟨i, h1, h2, h3⟩ := opI_mem.1 (List.getElem_mem hj)
  have hz : zs[i]? = some zs[i] := List.getElem?_eq_getElem (by omega)
  have hpp : ps[i]? = some ps[i] := List.getElem?_eq_getElem (by omega)
  rw [List.getD_eq_getElem?_getD, hz] at h2
  have hg := opI_get (m := m) (by omega) h1 hz h2
  have hlt : opN zs i < (opI zs m).length := by
    rcases Nat.lt_or_ge (opN zs i) (opI zs m).length with h | h
    · exact h
    · rw [List.getElem?_eq_none h] at hg; cases hg
  have e2 : (opI zs m)[opN zs i] = (i : Int) := by
    rw [List.getElem?_eq_getElem hlt] at hg
    exact Option.some.inj hg
  have hji : j = opN zs i := (List.getElem_inj (opI_nodup zs m)).1 (h3.trans e2.symm)
  have hq := opP_get (ps := ps) (m := m) (by omega) (by omega) h1 hz hpp h2
  rw [et, h3]
  subst hji
  simp only [esOf, List.getD_eq_getElem?_getD, List.getElem?_map, hq]
  rw [show ((i : Int)).toNat = i from rfl, hpp]
theorem spr_outF {ps : List Pp} {n : Nat} (hm : zs.length = m) (hp : ps.length = m) (hl : (opI zs m).length = fl.length) : outF (esOf ps) n (spr m ((opI zs m).zip fl)) = outF (esOf (opP ps zs m)) n fl := by
  refine outF_ext fun v hv => ?_
  unfold outN
  rw [esOf_len, esOf_len, hp, opP_num (by omega) (by omega)]
  rw [spr_sum (G := fun i x => sgn (esOf ps) i v x) (fun i => sgn_zero _ _ _) hm hl m (Nat.le_refl _)]
  refine sumN_congr fun j hj => ?_
  have := es_open hm hp (j := j) hj
  unfold sgn efr eto
  rw [this]
end
end Go.Proofs.YtpgegfnhokhlmabGreat
