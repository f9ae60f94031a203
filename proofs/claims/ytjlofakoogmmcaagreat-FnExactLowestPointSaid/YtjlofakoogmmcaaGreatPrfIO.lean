/- Proofs that come in and are copied and compared. Conditions: lengths of at most 1048576. -/
import Derived.Test.YtjlofakoogmmcaaGreatKA
set_option linter.unusedVariables false
set_option maxRecDepth 100000
namespace Go.Proofs.YtjlofakoogmmcaaGreat
open Go.ChangeShapes Go.WideShapes Go.ChangeAt Go.RowKit Go.Joins Go.Deep
attribute [local go_sem ↓] Go.wp_at_zero Go.wp_at_succ

/-- A call returns a proof whose lists lie in new memory. -/
def RetPr (w : World) (xs ys : List Int) (e : Ending) (w' : World) : Prop :=
  ∃ A c B d, e = .returned (.agg #[.slice A xs.length c, .slice B ys.length d]) ∧ Own w' w.heap.size A xs.length c xs ∧ Own w' w.heap.size B ys.length d ys ∧ Below w.heap.size w w'
theorem Own.lw_ {w : World} {B : Nat} {A : Option Addr} {n c : Nat} {zs : List Int} (h : Own w B A n c zs) {a : Addr} (ha : a.block < B) (u : Value) : Own (w.setCell a u) B A n c zs := ⟨ownsRow_setCell_below h.1 ha u, h.2⟩
set_option maxHeartbeats 1000000 in
theorem eqProofA_any (A B A' B' : Option Addr) (c d c' d' : Nat) (xs ys : List Int) (w : World) (h : Ints w A xs.length xs) (k : Ints w B ys.length ys) (h' : Ints w A' xs.length xs) (k' : Ints w B' ys.length ys) (hn : xs.length ≤ 1048576) (hm : ys.length ≤ 1048576) :
    Calls Tryz.prog 29 #[.agg #[.slice A xs.length c, .slice B ys.length d], .agg #[.slice A' xs.length c', .slice B' ys.length d']] w fun e w' => e = .returned (.bool true) ∧ Below w.heap.size w w' := by
  have hw0 : ∀ a ta b tb, Below w.heap.size w ((w.alloc (.cells a ta)).alloc (.cells b tb)) := fun a ta b tb => ((Below.refl _ _).alloc (Nat.le_refl _) _).alloc (by simp) _
  go_enter Tryz.func29, Tryz.ntmps29
  go_wp2_with fail
  refine (eqInts_any _ _ _ _ _ _ _ _ _ (h.below (hw0 _ _ _ _)) (h'.below (hw0 _ _ _ _)) hn).mono ?_
  rintro e w1 ⟨rfl, hq1⟩
  obtain ⟨m1, rfl⟩ := hq1
  go_wp2_with fail
  refine (eqInts_any _ _ _ _ _ _ _ _ _ ((k.below (hw0 _ _ _ _)).drewN _) ((k'.below (hw0 _ _ _ _)).drewN _) hm).mono ?_
  rintro e w2 ⟨rfl, hq2⟩
  go_wp2_with fail
  go_ret
  exact ⟨rfl, bthen (below_drewN (hw0 _ _ _ _) _) (hq2.below _) (by simp; omega)⟩
end Go.Proofs.YtjlofakoogmmcaaGreat
