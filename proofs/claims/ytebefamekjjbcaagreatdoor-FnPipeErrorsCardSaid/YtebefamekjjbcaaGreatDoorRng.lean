/- What rootRange and l08Range do at the root 0, by walks over their text. Conditions: a valid (and connected) network, flows in range. -/
import Derived.Test.YtebefamekjjbcaaGreatDoorLvS
import Derived.Test.YtebefamekjjbcaaGreatDoorCon
set_option linter.unusedVariables false
set_option maxRecDepth 100000
namespace Go.Proofs.YtebefamekjjbcaaGreatDoor
open Go.ChangeShapes Go.WideShapes Go.ChangeAt Go.RowKit Go.Joins Go.Deep
attribute [local go_sem ↓] Go.wp_at_zero Go.wp_at_succ

def nLo (ns : List Nd) (i : Nat) : Int := (ns.map Nd.lo).getD i 0
def nHi (ns : List Nd) (i : Nat) : Int := (ns.map Nd.hi).getD i 0
theorem nLo_at {ns : List Nd} {i : Nat} {x : Nd} (h : ns[i]? = some x) : nLo ns i = x.lo := by simp [nLo, List.getD, h]
theorem nHi_at {ns : List Nd} {i : Nat} {x : Nd} (h : ns[i]? = some x) : nHi ns i = x.hi := by simp [nHi, List.getD, h]
theorem node_bd {ns : List Nd} {ps : List Pp} (h : NetOk ns ps) {i : Nat} {x : Nd} (hx : ns[i]? = some x) : (0 ≤ x.lo ∧ x.lo ≤ 100000000) ∧ 0 ≤ x.hi ∧ x.hi ≤ 100000000 := by
  have hi := (List.getElem?_eq_some_iff.1 hx).1
  have h1 := (h.2.2.2.1 i x hi hx).1
  unfold nodeB at h1
  simp only [Bool.and_eq_true, decide_eq_true_eq] at h1
  omega
/-- The range that the first k nodes leave for the root's level. -/
def rLo (ns : List Nd) (lv : List Int) : Nat → Int
  | 0 => nLo ns 0
  | k + 1 => max (rLo ns lv k) (nLo ns k - lv.getD k 0)
def rHi (ns : List Nd) (lv : List Int) : Nat → Int
  | 0 => nHi ns 0
  | k + 1 => min (rHi ns lv k) (nHi ns k - lv.getD k 0)
theorem rng_bd {ns : List Nd} {ps : List Pp} {lv : List Int} {n : Nat} (h : NetOk ns ps) (hn : ns.length = n) (hl : ∀ v, v < n → (lv.getD v 0).natAbs ≤ 21600000000000) : ∀ k, k ≤ n → (rLo ns lv k).natAbs ≤ 21600100000000 ∧ (rHi ns lv k).natAbs ≤ 21600100000000 := by
  have h0 : ns[0]? = some (ns[0]'(by have := h.1; omega)) := List.getElem?_eq_getElem _
  intro k
  induction k with
  | zero =>
    intro _
    have := node_bd h h0
    unfold rLo rHi
    rw [nLo_at h0, nHi_at h0]
    omega
  | succ k ih =>
    intro hk
    have h1 := ih (by omega)
    have hx : ns[k]? = some (ns[k]'(by omega)) := List.getElem?_eq_getElem _
    have h2 := node_bd h hx
    have h3 := hl k (by omega)
    unfold rLo rHi
    rw [nLo_at hx, nHi_at hx]
    omega
theorem lvR_bd {ns : List Nd} {ps : List Pp} {fs : List Int} {n : Nat} (hok : NetOk ns ps) (hn : ns.length = n) (hl : fs.length = ps.length) (hr : inR fs = true) : ∀ v, v < n → ((lvR (esOf ps) (ksL ps) n fs 0).getD v 0).natAbs ≤ 21600000000000 := by
  intro v hv
  have hg : Good (esOf ps) n := by rw [← hn]; exact net_good hok
  rw [lvR_at hv, Int.add_zero]
  have h1 := lvs_bd (n := n) hg (by omega) (dF_bd hok hl hr) hv
  have h2 : n * 900000000000 ≤ 24 * 900000000000 := Nat.mul_le_mul_right _ (by have := hok.2.1; omega)
  omega
theorem lvR_zero {ns : List Nd} {ps : List Pp} {fs : List Int} {n : Nat} {x : Int} (hok : NetOk ns ps) (hn : ns.length = n) (h0 : 0 < n) : (lvR (esOf ps) (ksL ps) n fs x).getD 0 0 = x := by
  have hg : Good (esOf ps) n := by rw [← hn]; exact net_good hok
  rw [lvR_at h0, lvs_root hg h0 (by simp)]
  simp [List.getD, h0]
/-- The range's ends. -/
def rngL (ns : List Nd) (ps : List Pp) (n : Nat) (fs : List Int) : Int := rLo ns (lvR (esOf ps) (ksL ps) n fs 0) n
def rngH (ns : List Nd) (ps : List Pp) (n : Nat) (fs : List Int) : Int := rHi ns (lvR (esOf ps) (ksL ps) n fs 0) n
/-- The range, and a code: 7 where it is empty. -/
def rngC (ns : List Nd) (ps : List Pp) (n : Nat) (fs : List Int) : Int := if rngH ns ps n fs < rngL ns ps n fs then 7 else 0
def rngA (ns : List Nd) (ps : List Pp) (n : Nat) (fs : List Int) : Int := if rngC ns ps n fs = 0 then rngL ns ps n fs else 0
def rngB (ns : List Nd) (ps : List Pp) (n : Nat) (fs : List Int) : Int := if rngC ns ps n fs = 0 then rngH ns ps n fs else 0
theorem rng_no {ns : List Nd} {ps : List Pp} {n : Nat} {fs : List Int} (h : rngH ns ps n fs < rngL ns ps n fs) : rngC ns ps n fs = 7 ∧ rngA ns ps n fs = 0 ∧ rngB ns ps n fs = 0 := by
  have e : rngC ns ps n fs = 7 := by unfold rngC; rw [if_pos h]
  refine ⟨e, ?_, ?_⟩
  · unfold rngA; rw [e, if_neg (by decide)]
  · unfold rngB; rw [e, if_neg (by decide)]
theorem rng_ok {ns : List Nd} {ps : List Pp} {n : Nat} {fs : List Int} (h : ¬ rngH ns ps n fs < rngL ns ps n fs) : rngC ns ps n fs = 0 ∧ rngA ns ps n fs = rngL ns ps n fs ∧ rngB ns ps n fs = rngH ns ps n fs := by
  have e : rngC ns ps n fs = 0 := by unfold rngC; rw [if_neg h]
  refine ⟨e, ?_, ?_⟩
  · unfold rngA; rw [e, if_pos rfl]
  · unfold rngB; rw [e, if_pos rfl]
end Go.Proofs.YtebefamekjjbcaaGreatDoor
