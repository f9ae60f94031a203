/- The code of flows and a chord (checkChord, l10Code), by walks over their text. Condition: at most 2^20 flows. -/
import Derived.Test.YtebefamekjjbcaaGreatStb
set_option linter.unusedVariables false
set_option maxRecDepth 100000
namespace Go.Proofs.YtebefamekjjbcaaGreat
open Go.ChangeShapes Go.WideShapes Go.ChangeAt Go.RowKit Go.Joins Go.Deep
attribute [local go_sem ↓] Go.wp_at_zero Go.wp_at_succ

/-- x is a chord. -/
def chB (es : Es) (n : Nat) (x : Int) : Bool := (cN (chd es n)).contains x
noncomputable def codeH (ns : List Nd) (ps : List Pp) (n m : Nat) (fs : List Int) (x : Int) : Int := if codeF ns ps m fs = 0 then (if chB (esOf ps) n x = true then 0 else 4) else codeF ns ps m fs
section
variable {ns : List Nd} {ps : List Pp} {n m : Nat} {fs : List Int} {x : Int}
theorem codeH_bad (h : codeF ns ps m fs ≠ 0) : codeH ns ps n m fs x = codeF ns ps m fs := by unfold codeH; rw [if_neg h]
theorem codeH_4 (h : codeF ns ps m fs = 0) (hx : chB (esOf ps) n x = false) : codeH ns ps n m fs x = 4 := by unfold codeH; rw [if_pos h, if_neg (by rw [hx]; decide)]
theorem codeH_0 (h : codeF ns ps m fs = 0) (hx : chB (esOf ps) n x = true) : codeH ns ps n m fs x = 0 := by unfold codeH; rw [if_pos h, if_pos hx]
theorem codeF_ok2 (h : codeF ns ps m fs = 0) : NetOk ns ps ∧ flB m fs = true := by
  rcases codeF_in ns ps m fs with ⟨_, h1, h2⟩ | h1 | h1
  · exact ⟨h1, h2⟩
  · rw [h1] at h; exact absurd h (by decide)
  · rw [h1] at h; exact absurd h (by decide)
theorem codeH_zero (h : codeH ns ps n m fs x = 0) : NetOk ns ps ∧ flB m fs = true ∧ ∃ ci : Nat, x = (ci : Int) ∧ ci < ps.length ∧ ¬ Tree (esOf ps) n ci := by
  by_cases h0 : codeF ns ps m fs = 0
  · obtain ⟨h1, h2⟩ := codeF_ok2 h0
    cases hx : chB (esOf ps) n x
    · rw [codeH_4 h0 hx] at h; exact absurd h (by decide)
    · unfold chB at hx
      obtain ⟨ci, hc, rfl⟩ := cN_lt (List.contains_iff_mem.1 hx)
      have h3 := chd_chord hc
      rw [esOf_len] at h3
      exact ⟨h1, h2, ci, rfl, h3.1, h3.2⟩
  · rw [codeH_bad h0] at h; exact absurd h h0
end
end Go.Proofs.YtebefamekjjbcaaGreat
