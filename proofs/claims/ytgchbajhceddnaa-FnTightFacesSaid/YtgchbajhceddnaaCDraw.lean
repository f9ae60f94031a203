/- The draws of compressors, flows, ratios and levels: what they do, by walks over their text. Condition: a code of at most 4096 bytes. -/
import Derived.Test.YtgchbajhceddnaaDraw
import Derived.Test.YtgchbajhceddnaaFaceOps
set_option linter.unusedVariables false
set_option maxRecDepth 100000
namespace Go.Proofs.Ytgchbajhceddnaa
open Go.ChangeShapes Go.WideShapes Go.ChangeAt Go.RowKit Go.Joins Go.Deep

/-- A cell of another block than B stands behind a draw. -/
theorem gcell {w w' : World} {B : Nat} (h : w.grownBy w' (some B)) (b o : Nat) (hb : b < w.heap.size) (hne : b ≠ B) : w'.cell? ⟨b, o, none⟩ = w.cell? ⟨b, o, none⟩ :=
  World.cell?_of_block (a := ⟨b, o, none⟩) (h.block b hb (fun e => hne (by injection e)))
theorem gfrozen {w w' : World} {B : Nat} (h : w.grownBy w' (some B)) (b o : Nat) (hb : b < w.heap.size) (hne : b ≠ B) : w'.frozen? ⟨b, o, none⟩ = w.frozen? ⟨b, o, none⟩ :=
  World.frozen?_of_block (a := ⟨b, o, none⟩) (h.block b hb (fun e => hne (by injection e)))
/-- A call draws some number in a range. -/
def RetDraw (w : World) (B : Nat) (A : Option Addr) (n c : Nat) (zs : List Int) (lo hi : Int) (e : Ending) (w' : World) : Prop :=
  ∃ x : Int, lo ≤ x ∧ x ≤ hi ∧ e = .returned (.int .i64 x) ∧ Src w' B A n c zs ∧ w.grownBy w' (some B)
set_option maxHeartbeats 4000000 in
theorem drawRatio_any (B : Nat) (A : Option Addr) (n c : Nat) (zs : List Int) (w : World) (h : Src w B A n c zs) (hn : n ≤ 4096) :
    Calls Try.prog 67 #[.pointer (some ⟨B, 0, none⟩)] w (RetDraw w B A n c zs (0) 3001) := by
  have hlt := h.lt
  go_enter Try.func67, Try.ntmps67
  go_wp2_with fail
  refine (next_any _ _ _ _ _ _ _ h hn (by omega) (by omega)).mono ?_
  rintro e w1 ⟨x, hx0, hx1, rfl, hs1, hg1⟩
  cases t : (x == 0)
  · go_wp2_with fail
    refine (next_any _ _ _ _ _ _ _ hs1 hn (by omega) (by omega)).mono ?_
    rintro e w2 ⟨y, hy0, hy1, rfl, hs2, hg2⟩
    go_wp2_with fail
    go_ret
    exact ⟨_, by omega, by omega, rfl, hs2, hg1.trans hg2⟩
  · have hlt1 := hs1.lt
    go_wp2_with fail
    have hga : w1.grownBy (w1.alloc (.cells #[.int .i64 999, .int .i64 1000, .int .i64 3000, .int .i64 3001] 2)) (some B) := grown_alloc (World.grownBy.refl _ _) _
    refine (next_any _ _ _ _ _ _ _ (hs1.alloc _) hn (by omega) (by omega)).mono ?_
    rintro e w2 ⟨y, hy0, hy1, rfl, hs2, hg2⟩
    have hy2 : y < 4 := by omega
    have hcell : ∀ j : Nat, j < 4 → w2.cell? ⟨w1.heap.size, j, none⟩ = #[.int .i64 999, .int .i64 1000, .int .i64 3000, .int .i64 3001][j]? := by
      intro j hj
      rw [gcell hg2 _ _ (by simp) (by omega)]
      exact cell_of_row _ _ j _ _ (0, 0) (heap_alloc_new _ _)
    obtain ⟨v, hv, hv1, hv2⟩ : ∃ v : Int, w2.cell? ⟨w1.heap.size, y.toNat, none⟩ = some (.int .i64 v) ∧ 0 ≤ v ∧ v ≤ 3001 := by
      obtain ⟨j, rfl⟩ := Int.eq_ofNat_of_zero_le hy0
      rw [Int.toNat_natCast, hcell j (by omega)]
      match j, (show j < 4 by omega) with
      | 0, _ => exact ⟨999, rfl, by omega, by omega⟩
      | 1, _ => exact ⟨1000, rfl, by omega, by omega⟩
      | 2, _ => exact ⟨3000, rfl, by omega, by omega⟩
      | 3, _ => exact ⟨3001, rfl, by omega, by omega⟩
    clear hcell
    go_wp2_with fail
    go_ret
    exact ⟨v, hv1, hv2, rfl, hs2, (hg1.trans hga).trans hg2⟩
set_option maxHeartbeats 4000000 in
theorem drawFlow_any (B : Nat) (A : Option Addr) (n c : Nat) (zs : List Int) (w : World) (h : Src w B A n c zs) (hn : n ≤ 4096) :
    Calls Try.prog 68 #[.pointer (some ⟨B, 0, none⟩)] w (RetDraw w B A n c zs (-1) 30001) := by
  have hlt := h.lt
  go_enter Try.func68, Try.ntmps68
  go_wp2_with fail
  refine (next_any _ _ _ _ _ _ _ h hn (by omega) (by omega)).mono ?_
  rintro e w1 ⟨x, hx0, hx1, rfl, hs1, hg1⟩
  cases t : (x == 0)
  · go_wp2_with fail
    refine (next_any _ _ _ _ _ _ _ hs1 hn (by omega) (by omega)).mono ?_
    rintro e w2 ⟨y, hy0, hy1, rfl, hs2, hg2⟩
    go_wp2_with fail
    go_ret
    exact ⟨_, by omega, by omega, rfl, hs2, hg1.trans hg2⟩
  · have hlt1 := hs1.lt
    go_wp2_with fail
    have hga : w1.grownBy (w1.alloc (.cells #[.int .i64 (-1), .int .i64 0, .int .i64 30000, .int .i64 30001] 2)) (some B) := grown_alloc (World.grownBy.refl _ _) _
    refine (next_any _ _ _ _ _ _ _ (hs1.alloc _) hn (by omega) (by omega)).mono ?_
    rintro e w2 ⟨y, hy0, hy1, rfl, hs2, hg2⟩
    have hy2 : y < 4 := by omega
    have hcell : ∀ j : Nat, j < 4 → w2.cell? ⟨w1.heap.size, j, none⟩ = #[.int .i64 (-1), .int .i64 0, .int .i64 30000, .int .i64 30001][j]? := by
      intro j hj
      rw [gcell hg2 _ _ (by simp) (by omega)]
      exact cell_of_row _ _ j _ _ (0, 0) (heap_alloc_new _ _)
    obtain ⟨v, hv, hv1, hv2⟩ : ∃ v : Int, w2.cell? ⟨w1.heap.size, y.toNat, none⟩ = some (.int .i64 v) ∧ -1 ≤ v ∧ v ≤ 30001 := by
      obtain ⟨j, rfl⟩ := Int.eq_ofNat_of_zero_le hy0
      rw [Int.toNat_natCast, hcell j (by omega)]
      match j, (show j < 4 by omega) with
      | 0, _ => exact ⟨(-1), rfl, by omega, by omega⟩
      | 1, _ => exact ⟨0, rfl, by omega, by omega⟩
      | 2, _ => exact ⟨30000, rfl, by omega, by omega⟩
      | 3, _ => exact ⟨30001, rfl, by omega, by omega⟩
    clear hcell
    go_wp2_with fail
    go_ret
    exact ⟨v, hv1, hv2, rfl, hs2, (hg1.trans hga).trans hg2⟩
end Go.Proofs.Ytgchbajhceddnaa
