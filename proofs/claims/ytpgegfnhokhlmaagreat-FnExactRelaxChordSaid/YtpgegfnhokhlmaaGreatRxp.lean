/- The relaxed chord, plain: the amount, its bounds. No program in sight. -/
import Derived.Test.YtpgegfnhokhlmaaGreatBst
set_option linter.unusedVariables false
namespace Go.Proofs.YtpgegfnhokhlmaaGreat

noncomputable def rxB (ks fs cs : List Int) : Int := pick (enA ks fs cs) (hiTo fs cs fs.length) (bstQ (enA ks fs cs) (loTo fs cs fs.length) (hiTo fs cs fs.length))
noncomputable def rxL (ns : List Nd) (ps : List Pp) (n m : Nat) (fs : List Int) (x : Int) : List Int := if codeH ns ps n m fs x = 0 then addL fs (cyc (esOf ps) n x.toNat) (rxB (ksL ps) fs (cyc (esOf ps) n x.toNat)) else []
theorem rxL_bad {ns : List Nd} {ps : List Pp} {n m : Nat} {fs : List Int} {x k : Int} (h : codeH ns ps n m fs x = k) (hk : k ≠ 0) : rxL ns ps n m fs x = [] := by unfold rxL; rw [h, if_neg hk]
theorem rxL_ok {ns : List Nd} {ps : List Pp} {n m ci : Nat} {fs : List Int} (h : codeH ns ps n m fs (ci : Int) = 0) : rxL ns ps n m fs ci = addL fs (cyc (esOf ps) n ci) (rxB (ksL ps) fs (cyc (esOf ps) n ci)) := by unfold rxL; rw [if_pos h]; rfl
/-- The search ends: there is a least one. -/
theorem least_ex {E : Int → Int} (hE : ∀ a, E a + E a < E (a + 1) + E (a - 1)) {lo hi : Int} : ∀ (k : Nat) (x y : Int), (y - x).toNat ≤ k → Hands E lo hi x y → ∃ q, Least E lo hi q := by
  intro k
  induction k with
  | zero =>
    intro x y hk h
    have := h.m
    obtain rfl : x = y := by omega
    exact ⟨x, hands_end h⟩
  | succ k ih =>
    intro x y hk h
    by_cases he : x < y
    · by_cases hh : E x ≤ E (x + 1)
      · exact ⟨x, hands_end (hands_left h (Int.le_refl _) he hh)⟩
      · exact ih (x + 1) y (by omega) (hands_right hE h (Int.le_refl _) he (by omega))
    · have := h.m
      obtain rfl : x = y := by omega
      exact ⟨x, hands_end h⟩
theorem bstQ_least {E : Int → Int} (hE : ∀ a, E a + E a < E (a + 1) + E (a - 1)) {lo hi : Int} (h : lo ≤ hi) : Least E lo hi (bstQ E lo hi) := by
  obtain ⟨q, hq⟩ := least_ex hE (hi - lo).toNat lo hi (Nat.le_refl _) (hands_start h)
  rw [bstQ_eq hq]
  exact hq
theorem pick_in {E : Int → Int} {lo hi q : Int} (h : Least E lo hi q) : lo ≤ pick E hi q ∧ pick E hi q ≤ hi := by
  have := h.l
  have := h.r
  unfold pick
  split <;> omega
theorem cyc_self {es : Es} {n c : Nat} (hg : Good es n) (hc : c < es.length) : (cyc es n c).getD c 0 = 1 := by
  unfold cyc
  rw [getD_set (by rw [ffl_len hg (unitS_len _ _ _)]; exact hc), if_pos rfl]
theorem cyc_okR {ns : List Nd} {ps : List Pp} {n m ci : Nat} (hok : NetOk ns ps) (hn : ns.length = n) (hm : ps.length = m) (hc : ci < m) (hct : ¬ Tree (esOf ps) n ci) : (cyc (esOf ps) n ci).length = m ∧ CyV m (cyc (esOf ps) n ci) ∧ (cyc (esOf ps) n ci).getD ci 0 = 1 := by
  have hg : Good (esOf ps) n := by rw [← hn]; exact net_good hok
  exact ⟨by rw [cyc_len hg, esOf_len, hm], fun i hi => cyc_vals hg (by rw [esOf_len]; omega) hct (by rw [esOf_len]; omega), cyc_self hg (by rw [esOf_len]; omega)⟩
theorem flB_r {m : Nat} {fs : List Int} (h : flB m fs = true) : inR fs = true := flB_all h
end Go.Proofs.YtpgegfnhokhlmaaGreat
