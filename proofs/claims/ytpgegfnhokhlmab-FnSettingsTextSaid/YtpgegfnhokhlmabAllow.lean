/- What isFlowList, l05List, isAllowed, l16Allowed, IsAllowed, checkSettings, l16Code, SwitchCount do, by walks over their text. Conditions: lengths of at most 1048576. -/
import Derived.Test.YtpgegfnhokhlmabSett
import Derived.Test.YtpgegfnhokhlmabKA
set_option linter.unusedVariables false
set_option maxRecDepth 100000
namespace Go.Proofs.Ytpgegfnhokhlmab
open Go.ChangeShapes Go.WideShapes Go.ChangeAt Go.RowKit Go.Joins Go.Deep

/-- A setting allows a flow. -/
def okA (s f : Int) : Bool := !(s == 0 && f != 0) && !(s == 2 && decide (f < 0))
theorem okA_ways (s f : Int) : ((s == 0) = true ∧ (f != 0) = true ∧ okA s f = false) ∨ ((s == 0) = true ∧ (s == 2) = false ∧ (f != 0) = false ∧ okA s f = true) ∨ ((s == 0) = false ∧ (s == 2) = true ∧ f < 0 ∧ okA s f = false) ∨ ((s == 0) = false ∧ (s == 2) = true ∧ ¬ f < 0 ∧ okA s f = true) ∨ ((s == 0) = false ∧ (s == 2) = false ∧ okA s f = true) := by
  by_cases h0 : s = 0
  · subst h0
    cases hf : (f != 0) <;> simp [okA, hf]
  · by_cases h2 : s = 2
    · subst h2
      by_cases hf : f < 0 <;> simp [okA, hf]
    · simp [okA, h0, h2]
def alB (zs fs : List Int) : Bool := (zs.zip fs).all fun p => okA p.1 p.2
theorem zip_at {zs fs : List Int} {k : Nat} {s f : Int} (hz : zs[k]? = some s) (hf : fs[k]? = some f) : (zs.zip fs)[k]? = some (s, f) := by
  rw [List.getElem?_zip_eq_some]
  exact ⟨hz, hf⟩
theorem al_no {zs fs : List Int} {k : Nat} {s f : Int} (hz : zs[k]? = some s) (hf : fs[k]? = some f) (h : okA s f = false) : alB zs fs = false := by
  unfold alB
  rw [List.all_eq_false]
  exact ⟨(s, f), List.mem_of_getElem? (zip_at hz hf), by simp [h]⟩
theorem al_step {zs fs : List Int} {k : Nat} {s f : Int} (hp : ((zs.zip fs).take k).all (fun p => okA p.1 p.2) = true) (hz : zs[k]? = some s) (hf : fs[k]? = some f) (h : okA s f = true) : ((zs.zip fs).take (k + 1)).all (fun p => okA p.1 p.2) = true := by
  rw [List.take_add_one, List.all_append, hp, zip_at hz hf]
  simp [h]
theorem setB_len {m : Nat} {zs : List Int} (h : setB m zs = true) : zs.length = m := by
  unfold setB at h
  simp at h
  exact h.1
/-- What IsAllowed says. -/
def AllowP (ns : List Nd) (ps : List Pp) (m : Nat) (zs fs : List Int) : Prop := (NetOk ns ps ∧ setB m zs = true) ∧ flB m fs = true ∧ alB zs fs = true
theorem ret_no {w w' : World} {p : Prop} (h : ¬ p) (hb : Below w.heap.size w w') : RetEq w p (.returned (.bool false)) w' := ⟨false, ⟨(fun h => by cases h), fun k => absurd k h⟩, rfl, hb⟩
end Go.Proofs.Ytpgegfnhokhlmab
