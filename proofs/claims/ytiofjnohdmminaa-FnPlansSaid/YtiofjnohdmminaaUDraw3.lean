/- The draw of a unit, a plan and costs: what it does, by a walk over its text. Condition: a code of at most 4096 bytes. -/
import Derived.Test.YtiofjnohdmminaaUDraw2
set_option linter.unusedVariables false
set_option maxRecDepth 100000
namespace Go.Proofs.Ytiofjnohdmminaa
open Go.ChangeShapes Go.WideShapes Go.ChangeAt Go.RowKit Go.Joins Go.Deep
attribute [local go_sem ↓] Go.wp_at_zero Go.wp_at_succ

/-- What stands while a draw goes on: the source, the result's cells, the unit's cells, the frame. -/
def US (w W : World) (A : Option Addr) (n c : Nat) (zs : List Int) (C : Nat) (s u d : Int) : Prop :=
  Src W (w.heap.size + 1) A n c zs ∧ W.heap[w.heap.size]? = some (.cells #[.int .i64 0, .int .i64 0, .int .i64 0] 25 (0, 0)) ∧ W.heap[C]? = some (.cells #[.int .i64 s, .int .i64 u, .int .i64 d] 25 (0, 0)) ∧ Below w.heap.size w W
structure USCells (w W : World) (C : Nat) (s u d : Int) : Prop where
  r0 : W.cell? ⟨w.heap.size, 0, none⟩ = some (.int .i64 0)
  r1 : W.cell? ⟨w.heap.size, 1, none⟩ = some (.int .i64 0)
  r2 : W.cell? ⟨w.heap.size, 2, none⟩ = some (.int .i64 0)
  s0 : W.frozen? ⟨w.heap.size, 0, none⟩ = false
  s1 : W.frozen? ⟨w.heap.size, 1, none⟩ = false
  s2 : W.frozen? ⟨w.heap.size, 2, none⟩ = false
  m0 : W.cell? ⟨C, 0, none⟩ = some (.int .i64 s)
  m1 : W.cell? ⟨C, 1, none⟩ = some (.int .i64 u)
  m2 : W.cell? ⟨C, 2, none⟩ = some (.int .i64 d)
section
variable {w W W' : World} {A : Option Addr} {n c : Nat} {zs : List Int} {C : Nat} {s u d : Int}
theorem US.cells (h : US w W A n c zs C s u d) : USCells w W C s u d := by
  obtain ⟨m0, m1, m2, _, _, _⟩ := heap_cells h.2.2.1
  obtain ⟨r0, r1, r2, s0, s1, s2⟩ := heap_cells h.2.1
  exact ⟨r0, r1, r2, s0, s1, s2, m0, m1, m2⟩
theorem US.drew (h : US w W A n c zs C s u d) : US w W.drew A n c zs C s u d := ⟨h.1, h.2.1, h.2.2.1, h.2.2.2.drew⟩
theorem US.grown (h : US w W A n c zs C s u d) (hg : W.grownBy W' (some (w.heap.size + 1))) (hs : Src W' (w.heap.size + 1) A n c zs) (hL : C ≠ w.heap.size + 1) : US w W' A n c zs C s u d :=
  ⟨hs, gheap hg h.2.1 (by omega), gheap hg h.2.2.1 hL, h.2.2.2.grown hg h.2.2.2.size (fun k hk => by injection hk with hk; omega)⟩
end
theorem m16 {x : Int} {L : Nat} (h0 : 0 ≤ x) (h1 : x = 0 ∨ x < 16) (hL : L ≤ 100) : 0 ≤ IntKind.i64.wrap ((L : Int) + IntKind.i64.wrap (x.tdiv 15)) ∧ IntKind.i64.wrap ((L : Int) + IntKind.i64.wrap (x.tdiv 15)) ≤ 300 := by
  have e : x.tdiv 15 = x / 15 := Int.tdiv_eq_ediv_of_nonneg h0
  rw [e, IntWalk.i64_in (x / 15) (by omega), IntWalk.i64_in ((L : Int) + x / 15) (by omega)]
  omega
/-- A call draws a unit and two lists. -/
def RetUII (w : World) (e : Ending) (w' : World) : Prop :=
  ∃ (s u d : Int) (A2 A3 : Option Addr) (c2 c3 : Nat) (S T : List Int), e = .returned (.tuple #[.agg #[.int .i64 s, .int .i64 u, .int .i64 d], .slice A2 S.length c2, .slice A3 T.length c3]) ∧ I64 s ∧ I64 u ∧ I64 d ∧ Own w' w.heap.size A2 S.length c2 S ∧ Own w' w.heap.size A3 T.length c3 T ∧ S.length ≤ 300 ∧ T.length ≤ 300 ∧ Below w.heap.size w w'
theorem Own.set3 {w W : World} {A2 : Option Addr} {m c2 : Nat} {S : List Int} (h : Own W w.heap.size A2 m c2 S) (hB : ∀ g, A2.map (·.block) = some g → w.heap.size < g) (u0 u1 u2 : Value) :
    Own (((W.setCell ⟨w.heap.size, 0, none⟩ u0).setCell ⟨w.heap.size, 1, none⟩ u1).setCell ⟨w.heap.size, 2, none⟩ u2) w.heap.size A2 m c2 S := by
  have k : ∀ g, A2 = some ⟨g, 0, none⟩ → some w.heap.size ≠ some g := fun g hg hE => by
    have := hB g (by rw [hg]; rfl)
    injection hE with hE
    omega
  exact ((h.grown (grown_set W _ 0 u0) k).grown (grown_set _ _ 1 u1) k).grown (grown_set _ _ 2 u2) k
theorem uii_close {w V w5 w6 : World} {A : Option Addr} {n c : Nat} {zs : List Int} {C : Nat} {s u d : Int} {A4 A6 : Option Addr} {c4 c6 : Nat} {S T : List Int} {u0 u1 u2 : Value}
    (ho : Own V w.heap.size A4 S.length c4 S) (hB : ∀ g, A4.map (·.block) = some g → w.heap.size + 1 < g) (hS : S.length ≤ 100) (is : I64 s) (iu : I64 u) (id : I64 d) (hg5 : V.drew.grownBy w5 (some (w.heap.size + 1)))
    (h5 : US w w5 A n c zs C s u d) (ho6 : Own w6 w5.heap.size A6 T.length c6 T) (hT : T.length ≤ 300) (hd6 : DS w5 w6 (w.heap.size + 1) A n c zs) (h6 : US w w6 A n c zs C s u d) :
    RetUII w (.returned (.tuple #[.agg #[.int .i64 s, .int .i64 u, .int .i64 d], .slice A4 S.length c4, .slice A6 T.length c6])) (((w6.setCell ⟨w.heap.size, 0, none⟩ u0).setCell ⟨w.heap.size, 1, none⟩ u1).setCell ⟨w.heap.size, 2, none⟩ u2) := by
  have k : ∀ g, A4 = some ⟨g, 0, none⟩ → some (w.heap.size + 1) ≠ some g := fun g hg hE => by
    have := hB g (by rw [hg]; rfl)
    injection hE with hE
    omega
  have hz : w.heap.size + 1 < w5.heap.size := h5.1.lt
  have o1 := ((ho.drew.grown hg5 k).grown hd6.2.2 k).set3 (fun g hg => by have := hB g hg; omega) u0 u1 u2
  have o2 := (ho6.mono (B' := w.heap.size) (by omega)).set3 (fun g hg => by have := (ho6.lt g hg).1; omega) u0 u1 u2
  exact ⟨s, u, d, A4, A6, c4, c6, S, T, rfl, is, iu, id, o1, o2, by omega, hT, ((h6.2.2.2.setCell (p := ⟨w.heap.size, 0, none⟩) (Nat.le_refl _) _).setCell (p := ⟨w.heap.size, 1, none⟩) (Nat.le_refl _) _).setCell (p := ⟨w.heap.size, 2, none⟩) (Nat.le_refl _) _⟩
set_option maxHeartbeats 8000000 in
theorem drawPlanCost_any (A : Option Addr) (n c : Nat) (zs : List Int) (w : World) (h : Byts w A n zs) (hn : n ≤ 4096) :
    Calls Try.prog 40 #[.slice A n c] w (RetUII w) := by
  have hR0 : (w.alloc (.cells #[.int .i64 0, .int .i64 0, .int .i64 0] 25)).heap[w.heap.size]? = some (.cells #[.int .i64 0, .int .i64 0, .int .i64 0] 25 (0, 0)) := heap_alloc_new _ _
  have hw0 : Below w.heap.size w (w.alloc (.cells #[.int .i64 0, .int .i64 0, .int .i64 0] 25)) := (Below.refl _ _).alloc (Nat.le_refl _) _
  have hy0 := h.below hw0
  go_enter Try.func40, Try.ntmps40
  go_wp2_with fail
  refine (from_any _ _ _ _ _ hy0 hn).mono ?_
  rintro e w1 ⟨rfl, hs1, hb1⟩
  have hw1 := bthen hw0 hb1 hw0.size
  have hR1 := (hb1.block w.heap.size (by simp)).trans hR0
  have hz1 : w.heap.size + 1 < w1.heap.size := by have := hs1.lt; simp at this; omega
  rw [show (w.alloc (.cells #[.int .i64 0, .int .i64 0, .int .i64 0] 25)).heap.size = w.heap.size + 1 by simp] at hs1
  clear hw0 hb1 hR0 hy0
  go_wp2_with fail
  refine (drawUnit_any _ _ _ _ _ _ hs1 hn).mono ?_
  rintro e w2 ⟨s, u, d, rfl, is, iu, id, hd2⟩
  have hw2 := hw1.grown hd2.2.2 (by omega) (fun k hk => by injection hk with hk; omega)
  have hR2 := gheap hd2.2.2 hR1 (by omega)
  have hz2 : w.heap.size + 1 < w2.heap.size := Nat.lt_of_lt_of_le hz1 hd2.size
  clear hw1 hs1 hR1
  go_wp2_with fail
  have hu3 : US w (w2.alloc (.cells #[.int .i64 s, .int .i64 u, .int .i64 d] 25)) A n c zs w2.heap.size s u d := ⟨hd2.2.1.alloc _, aheap hR2 _, heap_alloc_new _ _, hw2.alloc (by omega) _⟩
  generalize w2.alloc (.cells #[.int .i64 s, .int .i64 u, .int .i64 d] 25) = W at *
  clear hd2 hw2 hR2
  refine (next_any _ _ _ _ _ _ _ hu3.1 hn (by omega) (by omega)).mono ?_
  rintro e w3 ⟨m, hm0, hm1, rfl, hs3, hg3⟩
  have hu4 := US.grown hu3 hg3 hs3 (by omega)
  clear hu3 hs3 hg3
  go_wp2_with fail
  refine (drawBits_any _ _ _ _ _ _ _ hu4.1 hn hm0 (by omega)).mono ?_
  rintro e V ⟨A4, c4, S, rfl, ho4, hS, hd4⟩
  have hu := US.grown hu4 hd4.2.2 hd4.2.1 (by omega)
  have ho := ho4.mono hu4.2.2.2.size
  have hB4 : ∀ g, A4.map (·.block) = some g → w.heap.size + 1 < g := fun g hg => by
    have h1 := (ho4.lt g hg).1
    have h2 := hu4.1.lt
    omega
  clear hu4 hd4 ho4
  have HU := Lib.hid hu
  have HO := Lib.hid ho
  have HB := Lib.hid hB4
  obtain ⟨r0, r1, r2, s0, s1, s2, m0, m1, m2⟩ := hu.cells
  have hzw : w.heap.size < V.heap.size := heap_lt' hu.2.1
  have hzc : w2.heap.size < V.heap.size := heap_lt' hu.2.2.1
  clear hu ho hB4
  go_wp2_with fail
  go_region_with (first
    | (go_at_call 66; refine (next_any (w.heap.size + 1) A n c zs 16 V.drew HU.out.1 hn (by omega) (by omega)).mono ?_; rintro e w5 ⟨x, hx0, hx1, rfl, hs5, hg5⟩; have HU5 := Lib.hid (US.grown HU.out.drew hg5 hs5 (by omega)); obtain ⟨q0, q1, q2, v0, v1, v2, n0, n1, n2⟩ := HU5.out.cells)
    | (go_at_call 68; refine (drawCosts_any _ _ _ _ _ _ w5 HU5.out.1 hn (m16 hx0 hx1 hS).1 (m16 hx0 hx1 hS).2).mono ?_; rintro e w6 ⟨A6, c6, T, rfl, ho6, hT, hd6⟩; have HU6 := Lib.hid (US.grown HU5.out hd6.2.2 hd6.2.1 (by omega)); obtain ⟨q0, q1, q2, v0, v1, v2, n0, n1, n2⟩ := HU6.out.cells))
  all_goals go_wp2_with fail
  all_goals
    refine bodyPost_ret (v := .tuple #[.agg #[.int .i64 s, .int .i64 u, .int .i64 d], .slice A4 S.length c4, .slice A6 T.length c6]) (by simp [results, Try.results40, go_sem, q0, q1, q2]) rfl ?_
    exact uii_close HO.out HB.out hS is iu id hg5 HU5.out ho6 hT hd6 HU6.out
end Go.Proofs.Ytiofjnohdmminaa
