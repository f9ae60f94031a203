/- The draw of a lift: what it does, by a walk over its text. Condition: a code of at most 4096 bytes. -/
import Derived.Test.YtgchbajhceddnaaLDraw
set_option linter.unusedVariables false
set_option maxRecDepth 100000
namespace Go.Proofs.Ytgchbajhceddnaa
open Go.ChangeShapes Go.WideShapes Go.ChangeAt Go.RowKit Go.Joins Go.Deep

/-- A call draws a compressor and three numbers. -/
def RetDC4 (w : World) (e : Ending) (w' : World) : Prop :=
  ∃ (A1 : Option Addr) (n1 c1 : Nat) (fs : List Fc) (fu le q x y : Int), e = .returned (.tuple #[.agg #[.slice A1 n1 c1, .int .i64 fu, .int .i64 le], .int .i64 q, .int .i64 x, .int .i64 y]) ∧ Faces w' A1 n1 fs ∧ n1 ≤ 9 ∧ I64 fu ∧ I64 le ∧ -1 ≤ q ∧ q ≤ 30001 ∧ Below w.heap.size w w'
theorem dc4_close {w w4 : World} {A3 : Option Addr} {n3 c3 : Nat} {fs : List Fc} {fu le q x y : Int} {u0 u1 u2 : Value} (hF : Faces w4 A3 n3 fs) (hn : n3 ≤ 9) (h1 : I64 fu) (h2 : I64 le) (hx0 : -1 ≤ q) (hx1 : q ≤ 30001) (hne : ∀ b o, A3 = some ⟨b, o, none⟩ → w.heap.size + 1 < b)
    (hw4 : Below w.heap.size w w4) : RetDC4 w (.returned (.tuple #[.agg #[.slice A3 n3 c3, .int .i64 fu, .int .i64 le], .int .i64 q, .int .i64 x, .int .i64 y])) (((w4.setCell ⟨w.heap.size, 0, none⟩ u0).setCell ⟨w.heap.size, 1, none⟩ u1).setCell ⟨w.heap.size, 2, none⟩ u2) := by
  have hs : ∀ (i : Nat) (u : Value) (V : World), Faces V A3 n3 fs → Faces (V.setCell ⟨w.heap.size, i, none⟩ u) A3 n3 fs := fun i u V h => h.grown (grown_set V w.heap.size i u) (fun b o hA => fun hE => by have := hne b o hA; injection hE with hE; omega)
  exact ⟨A3, n3, c3, fs, fu, le, q, x, y, rfl, hs _ _ _ (hs _ _ _ (hs _ _ _ hF)), hn, h1, h2, hx0, hx1, ((hw4.setCell (p := ⟨w.heap.size, 0, none⟩) (Nat.le_refl _) _).setCell (p := ⟨w.heap.size, 1, none⟩) (Nat.le_refl _) _).setCell (p := ⟨w.heap.size, 2, none⟩) (Nat.le_refl _) _⟩
set_option maxHeartbeats 8000000 in
theorem drawLift_any (A : Option Addr) (n c : Nat) (zs : List Int) (w : World) (h : Byts w A n zs) (hn : n ≤ 4096) :
    Calls Try.prog 45 #[.slice A n c] w (RetDC4 w) := by
  have hR0 : (w.alloc (.cells #[.slice none 0 0, .int .i64 0, .int .i64 0] 32)).heap[w.heap.size]? = some (.cells #[.slice none 0 0, .int .i64 0, .int .i64 0] 32 (0, 0)) := heap_alloc_new _ _
  have hw0 : Below w.heap.size w (w.alloc (.cells #[.slice none 0 0, .int .i64 0, .int .i64 0] 32)) := (Below.refl _ _).alloc (Nat.le_refl _) _
  have hy0 := h.below hw0
  go_enter Try.func45, Try.ntmps45
  go_wp2_with fail
  refine (from_any _ _ _ _ _ hy0 hn).mono ?_
  rintro e w1 ⟨rfl, hs1, hb1⟩
  have hw1 := bthen hw0 hb1 hw0.size
  have hR1 := (hb1.block w.heap.size (by simp)).trans hR0
  have hz1 : w.heap.size + 1 < w1.heap.size := by have := hs1.lt; simp at this; omega
  rw [show (w.alloc (.cells #[.slice none 0 0, .int .i64 0, .int .i64 0] 32)).heap.size = w.heap.size + 1 by simp] at hs1
  clear hw0 hb1 hR0 hy0
  go_wp2_with fail
  refine (l14Draw_any _ _ _ _ _ _ hs1 hn).mono ?_
  rintro e w2 ⟨A3, n3, c3, fs, fu, le, rfl, hF2, hn3, hfu, hle, hne, hs2, hg2⟩
  have hw2 := hw1.grown hg2 (by omega) (fun k hk => by injection hk with hk; omega)
  have hR2 := gheap hg2 hR1 (by omega)
  have hz2 : w.heap.size + 1 < w2.heap.size := Nat.lt_of_lt_of_le hz1 hg2.size
  clear hw1 hs1 hR1 hg2
  go_wp2_with fail
  have hF3 := hF2.alloc (.cells #[.slice A3 n3 c3, .int .i64 fu, .int .i64 le] 32)
  have hs3 := hs2.alloc (.cells #[.slice A3 n3 c3, .int .i64 fu, .int .i64 le] 32)
  have hR3 := aheap hR2 (.cells #[.slice A3 n3 c3, .int .i64 fu, .int .i64 le] 32)
  have hw3 := hw2.alloc (by omega) (.cells #[.slice A3 n3 c3, .int .i64 fu, .int .i64 le] 32)
  have hC3 : (w2.alloc (.cells #[.slice A3 n3 c3, .int .i64 fu, .int .i64 le] 32)).heap[w2.heap.size]? = some (.cells #[.slice A3 n3 c3, .int .i64 fu, .int .i64 le] 32 (0, 0)) := heap_alloc_new _ _
  have hz3 : w2.heap.size < (w2.alloc (.cells #[.slice A3 n3 c3, .int .i64 fu, .int .i64 le] 32)).heap.size := by simp
  generalize w2.alloc (.cells #[.slice A3 n3 c3, .int .i64 fu, .int .i64 le] 32) = W at *
  have hF3' := fun (w' : World) hg => hF3.grown (w' := w') (row := some (w.heap.size + 1)) hg (fun b o hA => by have := hne b o hA; simp; omega)
  clear hF2 hs2 hw2 hR2 hF3
  refine (drawFlow_any _ _ _ _ _ _ hs3 hn).mono ?_
  rintro e w4 ⟨q, hq0, hq1, rfl, hs4, hg4⟩
  go_wp2_with fail
  refine (drawLevels_any _ _ _ _ _ _ hs4 hn).mono ?_
  rintro e w5 ⟨x, y, rfl, hs5, hg5⟩
  have hg := hg4.trans hg5
  have hw5 := hw3.grown hg (by omega) (fun k hk => by injection hk with hk; omega)
  have hF5 := hF3' _ hg
  obtain ⟨m0, m1, m2, mf0, mf1, mf2⟩ := heap_cells (gheap hg hC3 (by omega))
  obtain ⟨r0, r1, r2, s0, s1, s2⟩ := heap_cells (gheap hg hR3 (by omega))
  have HF := Lib.hid hF5
  have HW := Lib.hid hw5
  clear hF3' hs3 hs4 hs5 hg4 hg5 hg hC3 hR3 hF5 hw5 hw3
  have HN := Lib.hid hne
  clear hne
  go_wp2_with fail
  refine bodyPost_ret (v := .tuple #[.agg #[.slice A3 n3 c3, .int .i64 fu, .int .i64 le], .int .i64 q, .int .i64 x, .int .i64 y]) (by simp [results, Try.results45, go_sem, r0, r1, r2]) rfl ?_
  exact dc4_close HF.out hn3 hfu hle hq0 hq1 (fun b o hA => Nat.lt_of_lt_of_le hz1 (HN.out b o hA)) HW.out
end Go.Proofs.Ytgchbajhceddnaa
