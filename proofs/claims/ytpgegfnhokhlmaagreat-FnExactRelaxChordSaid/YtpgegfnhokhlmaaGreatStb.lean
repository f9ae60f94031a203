/- The flows of the forest are bounded by the sum of the supplies. No program in sight. -/
import Derived.Test.YtpgegfnhokhlmaaGreatKV
set_option linter.unusedVariables false
namespace Go.Proofs.YtpgegfnhokhlmaaGreat

def BdF (sup : List Int) (a : FF) : Prop := ∀ i, (a.fl.getD i 0).natAbs ≤ absS sup
theorem bdf_step {es : Es} {n v : Nat} {sup : List Int} {a : FF} {ent : List (Option Nat)} (h : FI es n sup a) (hb : BdF sup a) (hv : v < n) (hp : v ∉ a.pr) : BdF sup (ffStep es ent a v) := by
  have h1 := fi_bd h hv
  have h2 := h.same v hv hp
  unfold ffStep
  split
  · intro k
    show ((a.fl.set _ _).getD k 0).natAbs ≤ _
    rename_i i _
    by_cases hi : i < a.fl.length
    · rw [getD_set hi]
      split
      · split <;> rw [h2] <;> omega
      · exact hb k
    · rw [List.set_eq_of_length_le (by omega)]
      exact hb k
  · exact hb
theorem bdf_part {es : Es} {n r : Nat} {sup : List Int} {a : FF} (hg : Good es n) (hr : Root es n r) (h : FI es n sup a) (hb : BdF sup a) (hp : ∀ v, v ∈ a.pr ↔ Past es n r v) :
    ∀ j, j ≤ (bw es n r).length → BdF sup (ffPart es n r j a) := by
  have hD := bfs_done hg (root_lt hr)
  intro j
  induction j with
  | zero => intro _; simpa [ffPart] using hb
  | succ j ih =>
    intro hj
    obtain ⟨h1, h2⟩ := ff_part hg hr h hp j (by omega)
    have h3 := ih (by omega)
    have hbw : (bw es n r)[j]? = some (bw es n r)[j] := List.getElem?_eq_getElem (by omega)
    generalize (bw es n r)[j] = v at hbw
    have e : ffPart es n r (j + 1) a = ffStep es (bfs es n r).ent (ffPart es n r j a) v := by
      unfold ffPart
      rw [List.take_add_one, hbw, List.foldl_append]
      rfl
    obtain ⟨q, hq, hqj, hq1⟩ := bw_at hbw
    have hrv := (done_rch hg hD v).1 (List.mem_of_getElem? hq)
    have hnp : ∀ x, Rch es r x → ¬ Past es n r x := by
      rintro x hx ⟨r', hr'1, hr'2, hr'3, _⟩
      have := roots_eq hg hr hr'2 hx hr'3
      omega
    have hv1 : v ∉ (ffPart es n r j a).pr := fun hh => by
      rcases (h2 v).1 hh with hh | hh
      · exact hnp v hrv hh
      · obtain ⟨q2, a1, a2, _⟩ := bw_take hh
        have := pos_inj hD.inv.nd hq a1
        omega
    rw [e]
    exact bdf_step h1 h3 (hD.inv.lt v (List.mem_of_getElem? hq)) hv1
theorem bdf_to {es : Es} {n : Nat} {sup : List Int} (hg : Good es n) (hl : sup.length = n) : ∀ r, r ≤ n → BdF sup (ffTo es n sup r) := by
  intro r
  induction r with
  | zero =>
    intro _ i
    show ((List.replicate es.length (0 : Int)).getD i 0).natAbs ≤ _
    have : (List.replicate es.length (0 : Int)).getD i 0 = 0 := by
      simp only [List.getD, List.getElem?_replicate]
      split <;> rfl
    rw [this]
    omega
  | succ r ih =>
    intro hr
    obtain ⟨h1, h2⟩ := ff_to hg hl r (by omega)
    have h3 := ih (by omega)
    unfold ffTo
    by_cases hR : isRoot es n r = true
    · rw [if_pos hR]
      exact bdf_part hg (isRoot_iff.1 hR) h1 h3 h2 _ (Nat.le_refl _)
    · rw [if_neg hR]
      exact h3
theorem ffl_bd {es : Es} {n i : Nat} {sup : List Int} (hg : Good es n) (hl : sup.length = n) : ((ffl es n sup).getD i 0).natAbs ≤ absS sup := bdf_to hg hl n (Nat.le_refl _) i
/-- One step of the flows from supplies to others: the flows added up. -/
def stX (es : Es) (n : Nat) (fs ts : List Int) : List Int := addL (addL fs (ffl es n ts) 1) (ffl es n (outF es n fs)) (-1)
theorem evB_out {es : Es} {n : Nat} {fs : List Int} (hg : Good es n) : evB es n (outF es n fs) = true := (evB_iff hg).2 (outF_even hg)
def stK (es : Es) (n : Nat) (fs ts : List Int) : Int :=
  if evB es n ts = true then
    if flB n (outF es n fs) = true then
      if inR (ffl es n ts) = true then
        if inR (ffl es n (outF es n fs)) = true then
          if inR (stX es n fs ts) = true then 0 else 2
        else 2
      else 2
    else 2
  else 5
noncomputable def stC (ns : List Nd) (ps : List Pp) (n m : Nat) (fs ts : List Int) : Int := if codeF ns ps m fs = 0 then (if flB n ts = true then stK (esOf ps) n fs ts else 3) else codeF ns ps m fs
noncomputable def stL (ns : List Nd) (ps : List Pp) (n m : Nat) (fs ts : List Int) : List Int := if stC ns ps n m fs ts = 0 then (rlx ps n (stX (esOf ps) n fs ts) 1).1 else []
section
variable {ns : List Nd} {ps : List Pp} {n m : Nat} {fs ts : List Int} {es : Es}
theorem stL_bad {k : Int} (h : stC ns ps n m fs ts = k) (hk : k ≠ 0) : stL ns ps n m fs ts = [] := by unfold stL; rw [h, if_neg hk]
theorem stL_ok (h : stC ns ps n m fs ts = 0) : stL ns ps n m fs ts = (rlx ps n (stX (esOf ps) n fs ts) 1).1 := by unfold stL; rw [if_pos h]
theorem st_code (h : codeF ns ps m fs ≠ 0) : stC ns ps n m fs ts = codeF ns ps m fs := by unfold stC; rw [if_neg h]
theorem st_sup (h : codeF ns ps m fs = 0) (h1 : flB n ts = false) : stC ns ps n m fs ts = 3 := by unfold stC; rw [if_pos h, if_neg (by rw [h1]; decide)]
theorem st_k {k : Int} (h : codeF ns ps m fs = 0) (h1 : flB n ts = true) (h2 : stK (esOf ps) n fs ts = k) : stC ns ps n m fs ts = k := by unfold stC; rw [if_pos h, if_pos h1, h2]
theorem stk_5 (h : evB es n ts = false) : stK es n fs ts = 5 := by unfold stK; rw [if_neg (by rw [h]; decide)]
theorem stk_2a (h : evB es n ts = true) (h1 : flB n (outF es n fs) = false) : stK es n fs ts = 2 := by unfold stK; rw [if_pos h, if_neg (by rw [h1]; decide)]
theorem stk_2b (h : evB es n ts = true) (h1 : flB n (outF es n fs) = true) (h2 : inR (ffl es n ts) = false) : stK es n fs ts = 2 := by unfold stK; rw [if_pos h, if_pos h1, if_neg (by rw [h2]; decide)]
theorem stk_2c (h : evB es n ts = true) (h1 : flB n (outF es n fs) = true) (h2 : inR (ffl es n ts) = true) (h3 : inR (ffl es n (outF es n fs)) = false) : stK es n fs ts = 2 := by unfold stK; rw [if_pos h, if_pos h1, if_pos h2, if_neg (by rw [h3]; decide)]
theorem stk_2d (h : evB es n ts = true) (h1 : flB n (outF es n fs) = true) (h2 : inR (ffl es n ts) = true) (h3 : inR (ffl es n (outF es n fs)) = true) (h4 : inR (stX es n fs ts) = false) : stK es n fs ts = 2 := by unfold stK; rw [if_pos h, if_pos h1, if_pos h2, if_pos h3, if_neg (by rw [h4]; decide)]
theorem stk_0 (h : evB es n ts = true) (h1 : flB n (outF es n fs) = true) (h2 : inR (ffl es n ts) = true) (h3 : inR (ffl es n (outF es n fs)) = true) (h4 : inR (stX es n fs ts) = true) : stK es n fs ts = 0 := by unfold stK; rw [if_pos h, if_pos h1, if_pos h2, if_pos h3, if_pos h4]
theorem stX_len (es : Es) (n : Nat) (fs ts : List Int) : (stX es n fs ts).length = fs.length := by unfold stX; rw [addL_len, addL_len]
theorem stX_at {i : Nat} (hi : i < fs.length) : (stX es n fs ts).getD i 0 = fs.getD i 0 + ((ffl es n ts).getD i 0 - (ffl es n (outF es n fs)).getD i 0) := by
  unfold stX
  rw [addL_at (by rw [addL_len]; exact hi), addL_at hi]
  omega
theorem out_nat (hg : Good es n) (hf : ∀ i, i < es.length → (fs.getD i 0).natAbs ≤ 30000) (hm : es.length ≤ 40) {v : Nat} (hv : v < n) : ((outF es n fs).getD v 0).natAbs ≤ 1200000 := by
  rw [outF_at hv]
  have key : ∀ k, k ≤ es.length → (sumN k fun i => sgn es i v (fs.getD i 0)).natAbs ≤ 30000 * k := by
    intro k
    induction k with
    | zero => intro _; show (0 : Int).natAbs ≤ _; omega
    | succ k ih =>
      intro hk
      have h1 := ih (by omega)
      have h2 := hf k (by omega)
      have h3 : (sgn es k v (fs.getD k 0)).natAbs ≤ 30000 := by
        unfold sgn
        split <;> split <;> omega
      show ((sumN k fun i => sgn es i v (fs.getD i 0)) + sgn es k v (fs.getD k 0)).natAbs ≤ _
      omega
  refine Nat.le_trans (key es.length (Nat.le_refl _)) ?_
  omega
end
theorem stK_zero {es : Es} {n : Nat} {fs ts : List Int} (h : stK es n fs ts = 0) : inR (stX es n fs ts) = true := by
  unfold stK at h
  by_cases h1 : evB es n ts = true
  · rw [if_pos h1] at h
    by_cases h2 : flB n (outF es n fs) = true
    · rw [if_pos h2] at h
      by_cases h3 : inR (ffl es n ts) = true
      · rw [if_pos h3] at h
        by_cases h4 : inR (ffl es n (outF es n fs)) = true
        · rw [if_pos h4] at h
          by_cases h5 : inR (stX es n fs ts) = true
          · exact h5
          · rw [if_neg h5] at h; exact absurd h (by decide)
        · rw [if_neg h4] at h; exact absurd h (by decide)
      · rw [if_neg h3] at h; exact absurd h (by decide)
    · rw [if_neg h2] at h; exact absurd h (by decide)
  · rw [if_neg h1] at h; exact absurd h (by decide)
theorem stL_len {ns : List Nd} {ps : List Pp} {n m : Nat} {fs ts : List Int} (hm : m ≤ 1048576) : (stL ns ps n m fs ts).length ≤ 1048576 := by
  by_cases hc : stC ns ps n m fs ts = 0
  · rw [stL_ok hc]
    by_cases h0 : codeF ns ps m fs = 0
    · have hf : flB m fs = true := by
        rcases codeF_in ns ps m fs with ⟨_, _, h2⟩ | h1 | h1
        · exact h2
        · rw [h1] at h0; exact absurd h0 (by decide)
        · rw [h1] at h0; exact absurd h0 (by decide)
      unfold stC at hc
      rw [if_pos h0] at hc
      by_cases h1 : flB n ts = true
      · rw [if_pos h1] at hc
        rw [(rlx_ok (m := m) (by rw [stX_len]; exact flB_len hf) (stK_zero hc)).1]
        exact hm
      · rw [if_neg h1] at hc; exact absurd hc (by decide)
    · rw [st_code h0] at hc; exact absurd hc h0
  · rw [stL_bad rfl hc]; simp
theorem flB_abs2 {n : Nat} {zs : List Int} (hn : n ≤ 24) (h : flB n zs = true) : absS zs ≤ 720000 := by
  have h1 := absS_bd (allB_nat (flB_all h))
  rw [flB_len h] at h1
  omega
/-- The first k numbers of one list, the rest of another. -/
def mixL (xs fs : List Int) (k : Nat) : List Int := xs.take k ++ fs.drop k
section
variable {xs fs : List Int} {k : Nat}
theorem mix_zero (xs fs : List Int) : mixL xs fs 0 = fs := by simp [mixL]
theorem mix_all (h : xs.length = fs.length) : mixL xs fs fs.length = xs := by simp [mixL, ← h]
theorem mix_len (h : xs.length = fs.length) (hk : k ≤ fs.length) : (mixL xs fs k).length = fs.length := by simp [mixL, h]; omega
theorem mix_at (h : xs.length = fs.length) (hk : k < fs.length) : (mixL xs fs k).getD k 0 = fs.getD k 0 := by
  unfold mixL
  simp only [List.getD]
  rw [List.getElem?_append_right (by simp; omega)]
  simp [show min k xs.length = k by omega]
theorem mix_set (h : xs.length = fs.length) (hk : k < fs.length) : (mixL xs fs k).set k (xs.getD k 0) = mixL xs fs (k + 1) := by
  have hx : xs[k]? = some (xs.getD k 0) := by simp [List.getD, show k < xs.length by omega]
  have hf : fs.drop k = fs[k] :: fs.drop (k + 1) := List.drop_eq_getElem_cons hk
  unfold mixL
  rw [List.take_add_one, hx, hf]
  rw [List.set_append]
  have hl : (xs.take k).length = k := by simp; omega
  rw [if_neg (by rw [hl]; omega), hl, Nat.sub_self, List.set_cons_zero, List.append_assoc]
  rfl
end
end Go.Proofs.YtpgegfnhokhlmaaGreat
