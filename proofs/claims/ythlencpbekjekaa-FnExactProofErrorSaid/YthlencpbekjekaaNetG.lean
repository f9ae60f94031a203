/- A network's pipes as a graph; what pipesAt, otherEnd, l02At, l02Other do, by walks over their text. Condition: a valid network. -/
import Derived.Test.YthlencpbekjekaaBox
import Derived.Test.YthlencpbekjekaaNil
import Derived.Test.YthlencpbekjekaaGraph7
import Derived.IntWalk
set_option linter.unusedVariables false
set_option maxRecDepth 100000
namespace Go.Proofs.Ythlencpbekjekaa
open Go.ChangeShapes Go.WideShapes Go.ChangeAt Go.RowKit Go.Joins Go.Deep

/-- The ends of the pipes. -/
def esOf (ps : List Pp) : Es := ps.map fun p => (p.fr.toNat, p.to.toNat)
/-- Natural numbers as they lie in memory. -/
def cN (l : List Nat) : List Int := l.map fun i : Nat => (i : Int)
theorem esOf_len (ps : List Pp) : (esOf ps).length = ps.length := by simp [esOf]
theorem pipe_ok {ns : List Nd} {ps : List Pp} {i : Nat} {p : Pp} (h : NetOk ns ps) (hp : ps[i]? = some p) : (p.fr = (efr (esOf ps) i : Int)) ∧ (p.to = (eto (esOf ps) i : Int)) ∧ efr (esOf ps) i < ns.length ∧ eto (esOf ps) i < ns.length ∧ efr (esOf ps) i ≠ eto (esOf ps) i ∧ (1 ≤ p.k ∧ p.k ≤ 1000) ∧ (1 ≤ p.l ∧ p.l ≤ 30000) := by
  have h1 := h.2.2.2.2 p (List.mem_of_getElem? hp)
  unfold pipeB at h1
  simp only [Bool.and_eq_true, inB_iff, decide_eq_true_eq] at h1
  have e : (esOf ps).getD i (0, 0) = (p.fr.toNat, p.to.toNat) := by simp [esOf, List.getD, hp]
  unfold efr eto
  rw [e]
  obtain ⟨a, b, c, d, _, f⟩ := h1
  refine ⟨by show p.fr = ((p.fr.toNat : Nat) : Int); omega, by show p.to = ((p.to.toNat : Nat) : Int); omega, by show p.fr.toNat < _; omega, by show p.to.toNat < _; omega, by show p.fr.toNat ≠ p.to.toNat; omega, d, f⟩
theorem net_good {ns : List Nd} {ps : List Pp} (h : NetOk ns ps) : Good (esOf ps) ns.length := by
  intro i hi
  rw [esOf_len] at hi
  have hp : ps[i]? = some ps[i] := List.getElem?_eq_getElem hi
  obtain ⟨_, _, h1, h2, h3, _⟩ := pipe_ok h hp
  exact ⟨h1, h2, h3⟩
theorem cN_len (l : List Nat) : (cN l).length = l.length := by simp [cN]
theorem cN_at {l : List Nat} {k v : Nat} (h : l[k]? = some v) : (cN l)[k]? = some (v : Int) := by simp [cN, h]
theorem cN_get {l : List Nat} {k : Nat} {z : Int} (h : (cN l)[k]? = some z) : ∃ v : Nat, l[k]? = some v ∧ z = v := by
  simp [cN] at h
  obtain ⟨v, h1, h2⟩ := h
  exact ⟨v, h1, h2.symm⟩
/-- The pipes at a node, the first k of all. -/
def incTo (es : Es) (v k : Nat) : List Nat := (List.range k).filter fun i => efr es i == v || eto es i == v
theorem incTo_step (es : Es) (v k : Nat) : incTo es v (k + 1) = if (efr es k == v || eto es k == v) = true then incTo es v k ++ [k] else incTo es v k := by
  unfold incTo
  rw [List.range_succ, List.filter_append]
  by_cases h : (efr es k == v || eto es k == v) = true
  · rw [if_pos h]; simp [h]
  · rw [if_neg h]; simp at h; simp [h]
theorem incTo_len (es : Es) (v k : Nat) : (incTo es v k).length ≤ k := by
  unfold incTo
  exact Nat.le_trans (List.length_filter_le _ _) (by simp)
theorem inc_ways (es : Es) (v k : Nat) : ((((efr es k : Int)) == (v : Int)) = true ∧ incTo es v (k + 1) = incTo es v k ++ [k]) ∨ ((((efr es k : Int)) == (v : Int)) = false ∧ (((eto es k : Int)) == (v : Int)) = true ∧ incTo es v (k + 1) = incTo es v k ++ [k]) ∨
    ((((efr es k : Int)) == (v : Int)) = false ∧ (((eto es k : Int)) == (v : Int)) = false ∧ incTo es v (k + 1) = incTo es v k) := by
  have key : ∀ a b : Nat, (((a : Int)) == (b : Int)) = (a == b) := by
    intro a b
    rw [Bool.eq_iff_iff, beq_iff_eq, beq_iff_eq]
    omega
  rw [key, key, incTo_step]
  by_cases h1 : (efr es k == v) = true
  · left; simp [h1]
  · have h1' : (efr es k == v) = false := by simpa using h1
    by_cases h2 : (eto es k == v) = true
    · right; left; simp [h1', h2]
    · have h2' : (eto es k == v) = false := by simpa using h2
      right; right; simp [h1', h2']
theorem othI {es : Es} {i v : Nat} : (oth es i v : Int) = if ((efr es i : Int) == (v : Int)) = true then (eto es i : Int) else (efr es i : Int) := by
  unfold oth
  by_cases h : efr es i = v
  · simp [h]
  · have : ¬ (efr es i : Int) = v := by omega
    simp [h, this]
theorem oth_sum {es : Es} {n i v : Nat} (hg : Good es n) (hi : i ∈ inc es v) : (oth es i v : Int) = (efr es i : Int) + (eto es i : Int) - (v : Int) := by
  obtain ⟨hil, he⟩ := inc_mem.1 hi
  have := hg i hil
  unfold oth
  split <;> omega
end Go.Proofs.Ythlencpbekjekaa
