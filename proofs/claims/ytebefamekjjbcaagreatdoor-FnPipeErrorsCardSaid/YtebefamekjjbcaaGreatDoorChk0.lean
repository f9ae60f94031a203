/- What l12Small does; the verdict on a proof, by walks over its text. Condition: lists of at most 2^20 numbers. -/
import Derived.Test.YtebefamekjjbcaaGreatDoorSlEq
set_option linter.unusedVariables false
set_option maxRecDepth 100000
namespace Go.Proofs.YtebefamekjjbcaaGreatDoor
open Go.ChangeShapes Go.WideShapes Go.ChangeAt Go.RowKit Go.Joins Go.Deep
attribute [local go_sem ↓] Go.wp_at_zero Go.wp_at_succ

theorem slEqB_any (A B : Option Addr) (n m c d : Nat) (xs ys : List Int) (w : World) (ha : Ints w A n xs) (hb : Ints w B m ys) (hn : n ≤ 1048576) :
    Calls Tryz.prog 39 #[.slice A n c, .slice B m d] w fun e w' => e = .returned (.bool (decide (xs = ys))) ∧ Below w.heap.size w w' := by
  refine (slEq_any A B n m c d xs ys w ha hb hn).mono ?_
  rintro e w' ⟨rfl, hq⟩
  exact ⟨rfl, hq.below w.heap.size⟩
/-- The residual of a cycle is within its bound. -/
def smB (ks fs cs : List Int) : Bool := decide (3 * ab (resL ks fs cs) ≤ bndL ks fs cs)
def smAll (ks fs : List Int) (css : List (List Int)) : Bool := css.all (smB ks fs)
theorem all_no2 {α : Type} {p : α → Bool} {l : List α} {k : Nat} {x : α} (h : l[k]? = some x) (hp : p x = false) : l.all p = false := by
  rw [List.all_eq_false]
  obtain ⟨hk, rfl⟩ := List.getElem?_eq_some_iff.1 h
  exact ⟨_, List.getElem_mem hk, by rw [hp]; decide⟩
theorem all_next {α : Type} {p : α → Bool} {l : List α} {k : Nat} {x : α} (h : l[k]? = some x) (ha : (l.take k).all p = true) (hp : p x = true) : (l.take (k + 1)).all p = true := by
  rw [List.take_add_one, h, List.all_append, ha]
  simp [hp]
section
variable (ns : List Nd) (ps : List Pp) (n m : Nat) (zs fs ls : List Int)
/-- What is wrong with a proof: 1 the flows, 2 the levels, 3 a cycle, 0 nothing. -/
noncomputable def ckV : Int :=
  if codeC ns ps n zs = 0 then
    if flB m fs = true then
      if outF (esOf ps) n fs = zs then
        if lvB n ls = true then
          if lvR (esOf ps) (ksL ps) n fs (ls.getD 0 0) = ls then
            if smAll (ksL ps) fs (cssL (esOf ps) n) = true then 0 else 3
          else 2
        else 2
      else 1
    else 1
  else 0
end
section
variable {ns : List Nd} {ps : List Pp} {n m : Nat} {zs fs ls : List Int}
theorem ck_code (h : codeC ns ps n zs ≠ 0) : ckV ns ps n m zs fs ls = 0 := by unfold ckV; rw [if_neg h]
theorem ck_1 (h : codeC ns ps n zs = 0) (h1 : flB m fs = false) : ckV ns ps n m zs fs ls = 1 := by unfold ckV; rw [if_pos h, if_neg (by rw [h1]; decide)]
theorem ck_2 (h : codeC ns ps n zs = 0) (h1 : flB m fs = true) (h2 : ¬ outF (esOf ps) n fs = zs) : ckV ns ps n m zs fs ls = 1 := by unfold ckV; rw [if_pos h, if_pos h1, if_neg h2]
theorem ck_3 (h : codeC ns ps n zs = 0) (h1 : flB m fs = true) (h2 : outF (esOf ps) n fs = zs) (h3 : lvB n ls = false) : ckV ns ps n m zs fs ls = 2 := by unfold ckV; rw [if_pos h, if_pos h1, if_pos h2, if_neg (by rw [h3]; decide)]
theorem ck_4 (h : codeC ns ps n zs = 0) (h1 : flB m fs = true) (h2 : outF (esOf ps) n fs = zs) (h3 : lvB n ls = true) (h4 : ¬ lvR (esOf ps) (ksL ps) n fs (ls.getD 0 0) = ls) : ckV ns ps n m zs fs ls = 2 := by unfold ckV; rw [if_pos h, if_pos h1, if_pos h2, if_pos h3, if_neg h4]
theorem ck_5 (h : codeC ns ps n zs = 0) (h1 : flB m fs = true) (h2 : outF (esOf ps) n fs = zs) (h3 : lvB n ls = true) (h4 : lvR (esOf ps) (ksL ps) n fs (ls.getD 0 0) = ls) : ckV ns ps n m zs fs ls = if smAll (ksL ps) fs (cssL (esOf ps) n) = true then 0 else 3 := by unfold ckV; rw [if_pos h, if_pos h1, if_pos h2, if_pos h3, if_pos h4]
theorem lvB_at {i : Nat} (h : lvB n ls = true) (hi : i < n) : -1000000000000000000 ≤ ls.getD i 0 ∧ ls.getD i 0 ≤ 1000000000000000000 := all_at (lvB_all h) (getD_some (lvB_len h) hi)
theorem flB_inR2 (h : flB m fs = true) : inR fs = true := flB_all h
end
end Go.Proofs.YtebefamekjjbcaaGreatDoor
