/- What checkProof, l12Form, pipeError, l12Error do, by walks over their text. Conditions: lengths of at most 1048576; a valid network, flows, levels. -/
import Derived.Test.YtebefamekjjbcaaGreatKS
import Derived.Test.YtebefamekjjbcaaGreatKA
import Derived.Deep.DeepCutAuto
set_option linter.unusedVariables false
set_option maxRecDepth 100000
namespace Go.Proofs.YtebefamekjjbcaaGreat
open Go.ChangeShapes Go.WideShapes Go.ChangeAt Go.RowKit Go.Joins Go.Deep
attribute [local go_sem ↓] Go.wp_at_zero Go.wp_at_succ

/-- The resistance of a pipe. -/
def kOf (ps : List Pp) (i : Nat) : Int := ((ps.map Pp.k).getD i 0)
theorem kOf_at {ps : List Pp} {i : Nat} {p : Pp} (h : ps[i]? = some p) : kOf ps i = p.k := by simp [kOf, List.getD, h]
/-- The error of a pipe. -/
def peV (ps : List Pp) (fs ls : List Int) (i : Nat) : Int := ls.getD (efr (esOf ps) i) 0 - ls.getD (eto (esOf ps) i) 0 - drp (kOf ps i) (fs.getD i 0)
/-- The code of a network and a proof. -/
noncomputable def codeQ (ns : List Nd) (ps : List Pp) (m n : Nat) (fs ls : List Int) : Int := if codeF ns ps m fs = 0 then (if lvB n ls = true then 0 else 3) else codeF ns ps m fs
theorem codeQ_1 {ns : List Nd} {ps : List Pp} {m n : Nat} {fs ls : List Int} {k : Int} (h : codeF ns ps m fs = k) (hk : k ≠ 0) : codeQ ns ps m n fs ls = k := by
  unfold codeQ
  rw [h, if_neg hk]
theorem codeQ_3 {ns : List Nd} {ps : List Pp} {m n : Nat} {fs ls : List Int} (h : codeF ns ps m fs = 0) (hl : lvB n ls = false) : codeQ ns ps m n fs ls = 3 := by
  unfold codeQ
  rw [if_pos h, if_neg (by rw [hl]; decide)]
theorem codeQ_0 {ns : List Nd} {ps : List Pp} {m n : Nat} {fs ls : List Int} (h : codeF ns ps m fs = 0) (hl : lvB n ls = true) : codeQ ns ps m n fs ls = 0 := by
  unfold codeQ
  rw [if_pos h, if_pos hl]
theorem codeQ_in (ns : List Nd) (ps : List Pp) (m n : Nat) (fs ls : List Int) : (codeQ ns ps m n fs ls = 0 ∧ NetOk ns ps ∧ flB m fs = true ∧ lvB n ls = true) ∨ codeQ ns ps m n fs ls = 1 ∨ codeQ ns ps m n fs ls = 3 := by
  rcases codeF_in ns ps m fs with ⟨h, h1, h2⟩ | h | h
  · cases hl : lvB n ls
    · exact .inr (.inr (codeQ_3 h hl))
    · exact .inl ⟨codeQ_0 h hl, h1, h2, rfl⟩
  · exact .inr (.inl (codeQ_1 h (by omega)))
  · exact .inr (.inr (codeQ_1 h (by omega)))
end Go.Proofs.YtebefamekjjbcaaGreat
