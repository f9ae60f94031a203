/- What (*planner).follow does, by a walk over its text. Condition: a planner within its bounds, an hour of it, a state, 0 or 1. -/
import Derived.Test.YtiofjnohdmminaaPln
set_option linter.unusedVariables false
set_option maxRecDepth 100000
namespace Go.Proofs.Ytiofjnohdmminaa
open Go.ChangeShapes Go.WideShapes Go.ChangeAt Go.RowKit Go.Joins Go.Deep

/-- What follow returns. -/
def folV (s u d c m on long x : Int) : Value :=
  if okS u d m on long x then .tuple #[stV x (nxt (capO u d) on long x), .int .i64 (stepC s c on x), .bool true] else .tuple #[stV 0 0, .int .i64 0, .bool false]
theorem fol_no {s u d c m on long x : Int} (h : ¬ okS u d m on long x) : folV s u d c m on long x = .tuple #[.agg #[.int .i64 0, .int .i64 0], .int .i64 0, .bool false] := by
  unfold folV; rw [if_neg h]; rfl
theorem fol_yes {s u d c m on long x : Int} (h : okS u d m on long x) : folV s u d c m on long x = .tuple #[.agg #[.int .i64 x, .int .i64 (nxt (capO u d) on long x)], .int .i64 (stepC s c on x), .bool true] := by
  unfold folV; rw [if_pos h]; rfl
theorem bp_eq {f : Func} {a : Act} {w : World} {v : Value} {R : World → Prop} (hr : (results f a.tmps).run Try.prog w = .ok v w) (hd : a.defers = []) (h : R w) : bodyPost Try.prog f (fun e w' => e = .returned v ∧ R w') Exit.ret a w := bodyPost_ret hr hd ⟨rfl, h⟩
set_option maxHeartbeats 4000000 in
theorem follow_any {pb kb : Nat} {bm : Nat → Nat} {A C : Option Addr} {n ca cc ck : Nat} {s u d : Int} {cs ms : List Int} {j : Nat} {c m on long x : Int} (w : World) (h : Pln w pb kb bm A C n ca cc ck s u d cs ms) (hj : j < n)
    (hc : cs[j]? = some c) (hm : ms[j]? = some m) (hst : St on long) (hx : x = 0 ∨ x = 1) :
    Calls Try.prog 72 #[.pointer (some ⟨pb, 0, none⟩), .int .i64 j, stV on long, .int .i64 x] w fun e w' => e = .returned (folV s u d c m on long x) ∧ Below w.heap.size w w' := by
  obtain ⟨hon, hl1, hl2⟩ := hst
  have hs := h.fit.hs
  have hu := h.fit.hu
  have hd := h.fit.hd
  obtain ⟨b1, o1, c', rfl, hb1, hc', _, hcc⟩ := h.ic.at_ hj
  obtain ⟨b2, o2, m', rfl, hb2, hm', _, hmm⟩ := h.im.at_ hj
  obtain rfl : c' = c := Option.some.inj (hc'.symm.trans hc)
  obtain rfl : m' = m := Option.some.inj (hm'.symm.trans hm)
  have hcm := h.fit.hl (c', m') (by
    obtain ⟨c2, m2, e1, e2, _, e3⟩ := h.at_ hj
    obtain rfl : c2 = c' := Option.some.inj (e1.symm.trans hc)
    obtain rfl : m2 = m' := Option.some.inj (e2.symm.trans hm)
    exact e3)
  obtain ⟨⟨hc1, hc2⟩, hm01⟩ := hcm
  simp only at hc1 hc2 hm01
  have pl := h.box.lt
  have p0 : w.cell? ⟨pb, 0, none⟩ = some (.int .i64 s) := h.box.cell 0
  have p1 : w.cell? ⟨pb, 1, none⟩ = some (.int .i64 u) := h.box.cell 1
  have p2 : w.cell? ⟨pb, 2, none⟩ = some (.int .i64 d) := h.box.cell 2
  have p3 : w.cell? ⟨pb, 3, none⟩ = some (.slice (some ⟨b1, o1, none⟩) n ca) := h.box.cell 3
  have p4 : w.cell? ⟨pb, 4, none⟩ = some (.slice (some ⟨b2, o2, none⟩) n cc) := h.box.cell 4
  have j0 : (0 : Int) ≤ (j : Int) := by omega
  have j1 : (j : Int) < (n : Int) := by omega
  unfold stV
  clear h hc hm hc' hm'
  rcases hon with rfl | rfl <;> rcases hx with rfl | rfl <;> rcases hm01 with rfl | rfl
  all_goals
    rcases Classical.em (okS u d _ _ long _) with hok | hok
    · rw [fol_yes hok]
      (simp [okS, capO] at hok) <;>
      ((try simp [nxt, stepC, capO]) <;>
       (go_enter Try.func72, Try.ntmps72
        go_wp2_with fail
        all_goals refine bp_eq (by simp [results, Try.results72, go_sem] <;> omega) rfl ?_
        all_goals repeat (first | exact Below.refl _ _ | refine Below.setCell ?_ (by simp <;> omega) _ | refine Below.alloc ?_ (by simp <;> omega) _)))
    · rw [fol_no hok]
      (simp [okS, capO] at hok) <;>
       (go_enter Try.func72, Try.ntmps72
        go_wp2_with fail
        all_goals refine bp_eq (by simp [results, Try.results72, go_sem] <;> omega) rfl ?_
        all_goals repeat (first | exact Below.refl _ _ | refine Below.setCell ?_ (by simp <;> omega) _ | refine Below.alloc ?_ (by simp <;> omega) _))
end Go.Proofs.Ytiofjnohdmminaa
