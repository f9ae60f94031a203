/- What spreadFlows, l16Spread, OpenNetwork, SpreadFlows of the program and of the reference do, by walks over their text. Conditions: lengths of at most 1048576. -/
import Derived.Test.YtpgegfnhokhlmabOpen
import Derived.RegionTactic
import Derived.BigRegion
set_option linter.unusedVariables false
set_option maxRecDepth 100000
namespace Go.Proofs.Ytpgegfnhokhlmab
open Go.ChangeShapes Go.WideShapes Go.ChangeAt Go.RowKit Go.Joins Go.Deep

/-- Numbers laid into a list of zeros. -/
def spr (m : Nat) (l : List (Int × Int)) : List Int := l.foldl (fun a x => a.set x.1.toNat x.2) (List.replicate m 0)
theorem spr_step {m k : Nat} {ix fs : List Int} {x y : Int} (hx : ix[k]? = some x) (hy : fs[k]? = some y) : spr m ((ix.zip fs).take (k + 1)) = (spr m ((ix.zip fs).take k)).set x.toNat y := by
  have e : (ix.zip fs)[k]? = some (x, y) := by rw [List.getElem?_zip_eq_some]; exact ⟨hx, hy⟩
  unfold spr
  rw [List.take_add_one, e, List.foldl_append]
  rfl
theorem spr_len (m : Nat) (l : List (Int × Int)) : (spr m l).length = m := by
  unfold spr
  have : ∀ (l : List (Int × Int)) (a : List Int), (l.foldl (fun a x => a.set x.1.toNat x.2) a).length = a.length := by
    intro l
    induction l with
    | nil => intro a; rfl
    | cons x l ih => intro a; rw [List.foldl_cons, ih, List.length_set]
  rw [this, List.length_replicate]
theorem op_len {ps : List Pp} {zs : List Int} {m : Nat} (hp : ps.length = m) (hz : zs.length = m) : (opP ps zs m).length = (opI zs m).length := by
  have key : ∀ k, k ≤ m → (opP ps zs k).length = (opI zs k).length := by
    intro k
    induction k with
    | zero => intro _; rfl
    | succ k ih =>
      intro hk
      have h1 : ps[k]? = some (ps[k]'(by omega)) := List.getElem?_eq_getElem _
      have h2 : zs[k]? = some (zs[k]'(by omega)) := List.getElem?_eq_getElem _
      rw [opP_step h1 h2, opI_step h2]
      split
      · exact ih (by omega)
      · simp [ih (by omega)]
  exact key m (Nat.le_refl _)
theorem op_in (zs : List Int) (m : Nat) : ∀ x ∈ opI zs m, 0 ≤ x ∧ x < m := by
  intro x hx
  unfold opI at hx
  obtain ⟨i, hi, rfl⟩ := List.mem_map.1 hx
  have := List.mem_range.1 (List.mem_filter.1 hi).1
  omega
theorem codeS_net' {ns : List Nd} {ps : List Pp} {m : Nat} {zs : List Int} (h : codeS ns ps m zs = 0) : NetOk ns ps := by
  by_cases hn : NetOk ns ps
  · exact hn
  · rw [codeS_net hn] at h; omega
/-- What SpreadFlows returns. -/
noncomputable def spF (ns : List Nd) (ps : List Pp) (m : Nat) (zs fs : List Int) : List Int × Int :=
  if codeS ns ps m zs = 0 then (if flB (opP ps zs m).length fs = true then (spr m ((opI zs m).zip fs), 0) else ([], 3)) else ([], codeS ns ps m zs)
theorem spF_code {ns : List Nd} {ps : List Pp} {m : Nat} {zs fs : List Int} {k : Int} (h : codeS ns ps m zs = k) (hk : k ≠ 0) : spF ns ps m zs fs = ([], k) := by
  unfold spF
  rw [if_neg (by omega), h]
theorem spF_bad {ns : List Nd} {ps : List Pp} {m : Nat} {zs fs : List Int} (h : codeS ns ps m zs = 0) (h2 : flB (opP ps zs m).length fs = false) : spF ns ps m zs fs = ([], 3) := by
  unfold spF
  rw [if_pos h, if_neg (by rw [h2]; simp)]
theorem spF_ok {ns : List Nd} {ps : List Pp} {m : Nat} {zs fs : List Int} (h : codeS ns ps m zs = 0) (h2 : flB (opP ps zs m).length fs = true) : spF ns ps m zs fs = (spr m ((opI zs m).zip fs), 0) := by
  unfold spF
  rw [if_pos h, if_pos h2]
end Go.Proofs.Ytpgegfnhokhlmab
