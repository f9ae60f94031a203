/- What the marks of a proof do, by walks over their text. Conditions: lengths of at most 1048576. -/
import Derived.Test.YtpgegfnhokhlmaaGreatKA
set_option linter.unusedVariables false
set_option maxRecDepth 100000
namespace Go.Proofs.YtpgegfnhokhlmaaGreat
open Go.ChangeShapes Go.WideShapes Go.ChangeAt Go.RowKit Go.Joins Go.Deep

set_option maxHeartbeats 2000000 in
theorem markProof_any (C D : Nat) (A B : Option Addr) (n c m d : Nat) (k : Int) (zs ys : List Int) (w : World) (h1 : Own w C A n c zs) (h2 : Own w D B m d ys) (a1 : ∀ g, A = some ⟨g, 0, none⟩ → B.map (·.block) ≠ some g) (a2 : ∀ g, B = some ⟨g, 0, none⟩ → A.map (·.block) ≠ some g) (hn : n ≤ 1048576) (hm : m ≤ 1048576) (hk0 : 0 ≤ k) (hk1 : k ≤ 100000000000) :
    Calls Tryz.prog 41 #[.agg #[.slice A n c, .slice B m d], .int .i64 k] w fun e w' => e = .returned (.int .i64 (k + (n : Int) + (m : Int))) ∧ Own w' C A n c (marks k n) ∧ Own w' D B m d (marks (k + (n : Int)) m) ∧ ∃ u, w.grownBy u (A.map (·.block)) ∧ u.grownBy w' (B.map (·.block)) := by
  have bx := box_new w #[.slice A n c, .slice B m d] 51
  have o1 := h1.alloc (.cells #[.slice A n c, .slice B m d] 51)
  have o2 := h2.alloc (.cells #[.slice A n c, .slice B m d] 51)
  have hr1 := h1.lt
  have hr2 := h2.lt
  have hgr := alloc_grown (w := w) (.cells #[.slice A n c, .slice B m d] 51) (A.map (·.block))
  go_enter Tryz.func41, Tryz.ntmps41
  go_wp2_with fail
  generalize w.alloc (.cells #[.slice A n c, .slice B m d] 51) = V at *
  refine (markInts_any _ _ _ _ _ _ _ o1 hn hk0 (by omega)).mono ?_
  rintro e1 w1 ⟨rfl, m1, g1⟩
  have o3 := o2.grown g1 (fun g hg hh => a2 g hg hh)
  have b1 := bx.grown g1 (fun hh => by have := (hr1 _ hh).2; omega)
  have yl := b1.lt
  have y1 : w1.cell? ⟨w.heap.size, 1, none⟩ = some (.slice B m d) := b1.cell 1
  have y0 : w1.cell? ⟨w.heap.size, 0, none⟩ = some (.slice A n c) := b1.cell 0
  clear bx o1 o2 b1
  go_wp2_with fail
  refine (markInts_any _ _ _ _ _ _ _ o3 hm (by omega) (by omega)).mono ?_
  rintro e2 w2 ⟨rfl, m2, g2⟩
  have m3 := m1.grown g2 (fun g hg hh => a1 g hg hh)
  clear o3 m1
  go_wp2_with fail
  go_ret
  exact ⟨rfl, m3, m2, w1, hgr.trans g1, g2⟩
set_option maxHeartbeats 2000000 in
theorem heldProof_any (A B : Option Addr) (n c m d : Nat) (w : World) {k : Int} (h1 : Ints w A n (marks k n)) (h2 : Ints w B m (marks (k + (n : Int)) m)) (hn : n ≤ 1048576) (hm : m ≤ 1048576) (hk0 : 0 ≤ k) (hk1 : k ≤ 100000000000) :
    Calls Tryz.prog 42 #[.agg #[.slice A n c, .slice B m d], .int .i64 k] w fun e w' => e = .returned (.int .i64 (k + (n : Int) + (m : Int))) ∧ Below w.heap.size w w' := by
  have bx := box_new w #[.slice A n c, .slice B m d] 51
  have o1 := h1.alloc (.cells #[.slice A n c, .slice B m d] 51)
  have o2 := h2.alloc (.cells #[.slice A n c, .slice B m d] 51)
  have hV : Below w.heap.size w (w.alloc (.cells #[.slice A n c, .slice B m d] 51)) := (Below.refl _ _).alloc (Nat.le_refl _) _
  have t1 : ¬ k + (n : Int) < 0 := by omega
  have t2 : ¬ k + (n : Int) + (m : Int) < 0 := by omega
  go_enter Tryz.func42, Tryz.ntmps42
  go_wp2_with fail
  generalize w.alloc (.cells #[.slice A n c, .slice B m d] 51) = V at *
  have yl := bx.lt
  have y1 : V.cell? ⟨w.heap.size, 1, none⟩ = some (.slice B m d) := bx.cell 1
  have y0 : V.cell? ⟨w.heap.size, 0, none⟩ = some (.slice A n c) := bx.cell 0
  refine (heldInts_any _ _ _ _ _ o1 hn hk0 (by omega)).mono ?_
  rintro e1 w1 ⟨rfl, rfl⟩
  go_wp2_with fail
  refine (heldInts_any _ _ _ _ _ o2 hm (by omega) (by omega)).mono ?_
  rintro e2 w2 ⟨rfl, rfl⟩
  go_wp2_with fail
  go_ret
  exact ⟨rfl, hV⟩
end Go.Proofs.YtpgegfnhokhlmaaGreat
