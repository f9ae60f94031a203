/- What operatingPoint and l13Point do, by walks over their text. Conditions: at most 2^20 supplies (and, for the reference, a valid and connected network and supplies in range). -/
import Derived.Test.YtebefamekjjbcaaGreatDoorRng
set_option linter.unusedVariables false
set_option maxRecDepth 100000
namespace Go.Proofs.YtebefamekjjbcaaGreatDoor
open Go.ChangeShapes Go.WideShapes Go.ChangeAt Go.RowKit Go.Joins Go.Deep
attribute [local go_sem ↓] Go.wp_at_zero Go.wp_at_succ

/-- A flow above its pipe's limit, among the first k. -/
def limL (ps : List Pp) (i : Nat) : Int := (ps.map Pp.l).getD i 0
theorem limL_at {ps : List Pp} {i : Nat} {p : Pp} (h : ps[i]? = some p) : limL ps i = p.l := by simp [limL, List.getD, h]
def ovTo (ps : List Pp) (fs : List Int) (k : Nat) : Bool := (List.range k).any fun i => decide (limL ps i < ab (fs.getD i 0))
theorem ovTo_step (ps : List Pp) (fs : List Int) (k : Nat) : ovTo ps fs (k + 1) = (ovTo ps fs k || decide (limL ps k < ab (fs.getD k 0))) := by
  unfold ovTo
  rw [List.range_succ, List.any_append]
  simp
theorem ovTo_yes {ps : List Pp} {fs : List Int} {i k : Nat} (hi : i < k) (h : limL ps i < ab (fs.getD i 0)) : ovTo ps fs k = true := by
  unfold ovTo
  rw [List.any_eq_true]
  exact ⟨i, List.mem_range.2 hi, by simpa using h⟩
section
variable (ns : List Nd) (ps : List Pp) (n : Nat) (zs : List Int)
/-- The point behind the checks: the code, the step that fails, the flows, the levels. -/
noncomputable def ptC : Int := if fofC ns ps n zs = 0 then (if ovTo ps (slvL ns ps n zs) ps.length = true then 7 else rngC ns ps n (slvL ns ps n zs)) else fofC ns ps n zs
noncomputable def ptS : Int := if fofC ns ps n zs = 0 then (if ovTo ps (slvL ns ps n zs) ps.length = true then 2 else if rngC ns ps n (slvL ns ps n zs) = 0 then 0 else 3) else 1
noncomputable def ptF : List Int := if ptC ns ps n zs = 0 then slvL ns ps n zs else []
noncomputable def ptL (hi : Bool) : List Int := if ptC ns ps n zs = 0 then lvR (esOf ps) (ksL ps) n (slvL ns ps n zs) (if hi = true then rngH ns ps n (slvL ns ps n zs) else rngL ns ps n (slvL ns ps n zs)) else []
noncomputable def opC : Int := if codeC ns ps n zs = 0 then ptC ns ps n zs else codeC ns ps n zs
noncomputable def opS : Int := if codeC ns ps n zs = 0 then ptS ns ps n zs else 0
noncomputable def opF : List Int := if codeC ns ps n zs = 0 then ptF ns ps n zs else []
noncomputable def opL (hi : Bool) : List Int := if codeC ns ps n zs = 0 then ptL ns ps n zs hi else []
end
section
variable {ns : List Nd} {ps : List Pp} {n : Nat} {zs : List Int}
theorem pt_1 (h : fofC ns ps n zs ≠ 0) : ptC ns ps n zs = fofC ns ps n zs ∧ ptS ns ps n zs = 1 ∧ ptF ns ps n zs = [] ∧ ∀ hi, ptL ns ps n zs hi = [] := by
  have e : ptC ns ps n zs = fofC ns ps n zs := by unfold ptC; rw [if_neg h]
  refine ⟨e, by unfold ptS; rw [if_neg h], ?_, fun hi => ?_⟩
  · unfold ptF; rw [e, if_neg h]
  · unfold ptL; rw [e, if_neg h]
theorem pt_2 (h : fofC ns ps n zs = 0) (ho : ovTo ps (slvL ns ps n zs) ps.length = true) : ptC ns ps n zs = 7 ∧ ptS ns ps n zs = 2 ∧ ptF ns ps n zs = [] ∧ ∀ hi, ptL ns ps n zs hi = [] := by
  have e : ptC ns ps n zs = 7 := by unfold ptC; rw [if_pos h, if_pos ho]
  refine ⟨e, by unfold ptS; rw [if_pos h, if_pos ho], ?_, fun hi => ?_⟩
  · unfold ptF; rw [e, if_neg (by decide)]
  · unfold ptL; rw [e, if_neg (by decide)]
theorem pt_3 (h : fofC ns ps n zs = 0) (ho : ovTo ps (slvL ns ps n zs) ps.length = false) (hr : rngH ns ps n (slvL ns ps n zs) < rngL ns ps n (slvL ns ps n zs)) : ptC ns ps n zs = 7 ∧ ptS ns ps n zs = 3 ∧ ptF ns ps n zs = [] ∧ ∀ hi, ptL ns ps n zs hi = [] := by
  have e : ptC ns ps n zs = 7 := by unfold ptC; rw [if_pos h, if_neg (by rw [ho]; decide), (rng_no hr).1]
  refine ⟨e, by unfold ptS; rw [if_pos h, if_neg (by rw [ho]; decide), (rng_no hr).1]; rfl, ?_, fun hi => ?_⟩
  · unfold ptF; rw [e, if_neg (by decide)]
  · unfold ptL; rw [e, if_neg (by decide)]
theorem pt_0 (h : fofC ns ps n zs = 0) (ho : ovTo ps (slvL ns ps n zs) ps.length = false) (hr : ¬ rngH ns ps n (slvL ns ps n zs) < rngL ns ps n (slvL ns ps n zs)) : ptC ns ps n zs = 0 ∧ ptS ns ps n zs = 0 ∧ ptF ns ps n zs = slvL ns ps n zs ∧ ∀ hi, ptL ns ps n zs hi = lvR (esOf ps) (ksL ps) n (slvL ns ps n zs) (if hi = true then rngH ns ps n (slvL ns ps n zs) else rngL ns ps n (slvL ns ps n zs)) := by
  have e : ptC ns ps n zs = 0 := by unfold ptC; rw [if_pos h, if_neg (by rw [ho]; decide), (rng_ok hr).1]
  refine ⟨e, by unfold ptS; rw [if_pos h, if_neg (by rw [ho]; decide), (rng_ok hr).1]; rfl, ?_, fun hi => ?_⟩
  · unfold ptF; rw [if_pos e]
  · unfold ptL; rw [if_pos e]
theorem op_no (h : codeC ns ps n zs ≠ 0) : opC ns ps n zs = codeC ns ps n zs ∧ opS ns ps n zs = 0 ∧ opF ns ps n zs = [] ∧ ∀ hi, opL ns ps n zs hi = [] := by
  refine ⟨by unfold opC; rw [if_neg h], by unfold opS; rw [if_neg h], by unfold opF; rw [if_neg h], fun hi => by unfold opL; rw [if_neg h]⟩
theorem op_pt (h : codeC ns ps n zs = 0) : opC ns ps n zs = ptC ns ps n zs ∧ opS ns ps n zs = ptS ns ps n zs ∧ opF ns ps n zs = ptF ns ps n zs ∧ ∀ hi, opL ns ps n zs hi = ptL ns ps n zs hi := by
  refine ⟨by unfold opC; rw [if_pos h], by unfold opS; rw [if_pos h], by unfold opF; rw [if_pos h], fun hi => by unfold opL; rw [if_pos h]⟩
end
/-- A call returns a proof of its own, its two rows apart, a step and a code. -/
def RetPt (w : World) (fl lv : List Int) (s k : Int) (e : Ending) (w' : World) : Prop :=
  ∃ A c B d, e = .returned (.tuple #[.agg #[.slice A fl.length c, .slice B lv.length d], .int .i64 s, .int .i64 k]) ∧ Own w' w.heap.size A fl.length c fl ∧ Own w' w.heap.size B lv.length d lv ∧ Ap A B ∧ Below w.heap.size w w'
theorem retPt_nil {w w' : World} {fl lv : List Int} {s k s' k' : Int} (hf : fl = []) (hl : lv = []) (hs : s = s') (hk : k = k') (hb : Below w.heap.size w w') : RetPt w fl lv s k (.returned (.tuple #[.agg #[.slice none 0 0, .slice none 0 0], .int .i64 s', .int .i64 k'])) w' := by
  subst hf hl hs hk
  exact ⟨none, 0, none, 0, rfl, own_nil _ _, own_nil _ _, (fun g h => by cases h), hb⟩
theorem retPt_of {w w' : World} {fl lv fl' lv' : List Int} {s k s' k' : Int} {A B : Option Addr} {n c m d : Nat} (hn : fl'.length = n) (hm : lv'.length = m) (hf : fl = fl') (hl : lv = lv') (hs : s = s') (hk : k = k') (h1 : Own w' w.heap.size A n c fl') (h2 : Own w' w.heap.size B m d lv') (ha : Ap A B) (hb : Below w.heap.size w w') : RetPt w fl lv s k (.returned (.tuple #[.agg #[.slice A n c, .slice B m d], .int .i64 s', .int .i64 k'])) w' := by
  subst hf hl hs hk hn hm
  exact ⟨A, c, B, d, rfl, h1, h2, ha, hb⟩
theorem ap_late {w w' : World} {B B' : Nat} {A A' : Option Addr} {n c n' c' : Nat} {zs zs' : List Int} (h : Own w B A n c zs) (h' : Own w' B' A' n' c' zs') (hB : w.heap.size ≤ B') : Ap A A' := by
  intro g h1 h2
  have e1 := (h.lt g h1).2
  have e2 := (h'.lt g h2).1
  omega
end Go.Proofs.YtebefamekjjbcaaGreatDoor
