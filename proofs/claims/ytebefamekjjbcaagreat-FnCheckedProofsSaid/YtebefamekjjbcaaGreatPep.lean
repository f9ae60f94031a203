/- The plain law of the errors of pipes: 0 in the forest of an accepted proof, and minus the residual for a chord. No program in sight. -/
import Derived.Test.YtebefamekjjbcaaGreatChk0
import Derived.Test.YtebefamekjjbcaaGreatChd
import Derived.Test.YtebefamekjjbcaaGreatRes
import Derived.Test.YtebefamekjjbcaaGreatPErr2
set_option linter.unusedVariables false
namespace Go.Proofs.YtebefamekjjbcaaGreat

section
variable {ns : List Nd} {ps : List Pp} {n m : Nat} {zs fs ls : List Int}
theorem ck_parts (hc : codeC ns ps n zs = 0) (h : ckV ns ps n m zs fs ls = 0) : flB m fs = true ∧ outF (esOf ps) n fs = zs ∧ lvB n ls = true ∧ lvR (esOf ps) (ksL ps) n fs (ls.getD 0 0) = ls := by
  cases h1 : flB m fs
  · rw [ck_1 hc h1] at h; exact absurd h (by decide)
  · by_cases h2 : outF (esOf ps) n fs = zs
    · cases h3 : lvB n ls
      · rw [ck_3 hc h1 h2 h3] at h; exact absurd h (by decide)
      · by_cases h4 : lvR (esOf ps) (ksL ps) n fs (ls.getD 0 0) = ls
        · exact ⟨rfl, h2, rfl, h4⟩
        · rw [ck_4 hc h1 h2 h3 h4] at h; exact absurd h (by decide)
    · rw [ck_2 hc h1 h2] at h; exact absurd h (by decide)
/-- A proof that is not of the first fault bears flows that balance the supplies. -/
theorem ck_bal (hc : codeC ns ps n zs = 0) (h : ckV ns ps n m zs fs ls ≠ 1) : flB m fs = true ∧ outF (esOf ps) n fs = zs := by
  cases h1 : flB m fs
  · exact absurd (ck_1 hc h1) h
  · by_cases h2 : outF (esOf ps) n fs = zs
    · exact ⟨rfl, h2⟩
    · exact absurd (ck_2 hc h1 h2) h
theorem lv_gap {x : Int} (hn : ns.length = n) (hok : NetOk ns ps) (hcon : conB (esOf ps) n = true) (hl : lvR (esOf ps) (ksL ps) n fs x = ls) {i : Nat} (hi : Tree (esOf ps) n i) : ls.getD (efr (esOf ps) i) 0 - ls.getD (eto (esOf ps) i) 0 = dF (ksL ps) fs i := by
  have hg : Good (esOf ps) n := by rw [← hn]; exact net_good hok
  have hn1 : 0 < n := by have := hok.1; omega
  have hcn := (conB_iff hg hn1).1 hcon
  have hie := tree_lt hg hi
  obtain ⟨h1, h2, _⟩ := hg i hie
  rw [← hl, lvR_at h1, lvR_at h2]
  have := lvs_tree (d := dF (ksL ps) fs) (lv := List.replicate n 0) hg hcn (by simp) hi
  omega
theorem pe_dF (i : Nat) : peV ps fs ls i = ls.getD (efr (esOf ps) i) 0 - ls.getD (eto (esOf ps) i) 0 - dF (ksL ps) fs i := rfl
theorem pe_tree {x : Int} (hn : ns.length = n) (hok : NetOk ns ps) (hcon : conB (esOf ps) n = true) (hl : lvR (esOf ps) (ksL ps) n fs x = ls) {i : Nat} (hi : Tree (esOf ps) n i) : peV ps fs ls i = 0 := by
  rw [pe_dF, lv_gap hn hok hcon hl hi]
  omega
theorem pe_chord {x : Int} (hn : ns.length = n) (hok : NetOk ns ps) (hfl : fs.length = ps.length) (hcon : conB (esOf ps) n = true) (hl : lvR (esOf ps) (ksL ps) n fs x = ls) {c : Nat} (hc : c < ps.length) (hct : ¬ Tree (esOf ps) n c) : peV ps fs ls c = -resL (ksL ps) fs (cyc (esOf ps) n c) := by
  have hg : Good (esOf ps) n := by rw [← hn]; exact net_good hok
  have h1 := chord_gap hg (show c < (esOf ps).length by rw [esOf_len]; exact hc) hct (dF (ksL ps) fs) (fun v => ls.getD v 0) (fun i hi => lv_gap hn hok hcon hl hi)
  have h2 : resL (ksL ps) fs (cyc (esOf ps) n c) = sumN (esOf ps).length (fun i => (cyc (esOf ps) n c).getD i 0 * dF (ksL ps) fs i) := by
    unfold resL
    rw [hfl, esOf_len]
    rfl
  rw [h2, h1, pe_dF]
  omega
/-- A greatest error bounds every one. -/
theorem mxE_ge : ∀ k i, i < k → ab (peV ps fs ls i) ≤ mxE ps fs ls k := by
  intro k
  induction k with
  | zero => intro i hi; omega
  | succ k ih =>
    intro i hi
    rw [mxE]
    by_cases e : i = k
    · subst e; omega
    · have := ih i (by omega); omega
end
end Go.Proofs.YtebefamekjjbcaaGreat
