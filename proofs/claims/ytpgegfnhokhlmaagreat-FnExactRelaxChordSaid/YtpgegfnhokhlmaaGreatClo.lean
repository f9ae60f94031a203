/- What the closure of bestAmount does, by a walk over its text. Conditions: a valid network, flows in range, a cycle's numbers, an amount of at most a million. -/
import Derived.Test.YtpgegfnhokhlmaaGreatChd
set_option linter.unusedVariables false
set_option maxRecDepth 100000
namespace Go.Proofs.YtpgegfnhokhlmaaGreat
open Go.ChangeShapes Go.WideShapes Go.ChangeAt Go.RowKit Go.Joins Go.Deep
attribute [local go_sem ↓] Go.wp_at_zero Go.wp_at_succ

set_option maxHeartbeats 4000000 in
theorem clo_any (A B C D : Option Addr) (n c m d e1 e2 g1 g2 g3 : Nat) (a : Int) (fs cs : List Int) (ns : List Nd) (ps : List Pp) (w : World) (h : IsNet w A n c ns B m d ps) (hok : NetOk ns ps) (hf : Ints w C m fs) (hfr : inR fs = true) (hc : Ints w D m cs) (hcv : CyV m cs) (ha : -1000000 ≤ a ∧ a ≤ 1000000)
    (l1 : g1 < w.heap.size) (l2 : g2 < w.heap.size) (l3 : g3 < w.heap.size) (x0 : w.cell? ⟨g1, 0, none⟩ = some (.slice A n c)) (x1 : w.cell? ⟨g1, 1, none⟩ = some (.slice B m d)) (y0 : w.cell? ⟨g2, 0, none⟩ = some (.slice C m e1)) (z0 : w.cell? ⟨g3, 0, none⟩ = some (.slice D m e2)) :
    Calls Tryz.prog 125 #[.int .i64 a, .pointer (some ⟨g1, 0, none⟩), .pointer (some ⟨g2, 0, none⟩), .pointer (some ⟨g3, 0, none⟩)] w fun e w' => e = .returned (.int .i64 (chg (ksL ps) fs cs a)) ∧ Below w.heap.size w w' := by
  go_enter Tryz.func125, Tryz.ntmps125
  go_wp2_with (go_at_call 126; refine (change_any _ _ _ _ _ _ _ _ _ _ a fs cs ns ps _ h hok hf hfr hc hcv ha).mono ?_; rintro e5 w5 ⟨rfl, hb5⟩)
  go_ret
  exact ⟨rfl, hb5⟩
end Go.Proofs.YtpgegfnhokhlmaaGreat
