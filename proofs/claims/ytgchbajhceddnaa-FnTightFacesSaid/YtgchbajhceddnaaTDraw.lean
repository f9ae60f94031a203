/- The draw of a point at the rim of an envelope: what it does, by a walk over its text. Condition: a code of at most 4096 bytes. -/
import Derived.Test.YtgchbajhceddnaaLDraw2
import Derived.Test.YtgchbajhceddnaaRatioR
set_option linter.unusedVariables false
set_option maxRecDepth 100000
namespace Go.Proofs.Ytgchbajhceddnaa
open Go.ChangeShapes Go.WideShapes Go.ChangeAt Go.RowKit Go.Joins Go.Deep
attribute [local go_sem ↓] Go.wp_at_zero Go.wp_at_succ

/-- What stands while a draw goes on: the source, the result's cells, the compressor's cells, its faces. -/
def CS (w W : World) (A : Option Addr) (n c : Nat) (zs : List Int) (C : Nat) (A3 : Option Addr) (n3 c3 : Nat) (fs : List Fc) (fu le : Int) : Prop :=
  Src W (w.heap.size + 1) A n c zs ∧ W.heap[w.heap.size]? = some (.cells #[.slice none 0 0, .int .i64 0, .int .i64 0] 32 (0, 0)) ∧ W.heap[C]? = some (.cells #[.slice A3 n3 c3, .int .i64 fu, .int .i64 le] 32 (0, 0)) ∧ Faces W A3 n3 fs ∧ Below w.heap.size w W
def FB (w W : World) (A3 : Option Addr) (n3 : Nat) (fs : List Fc) : Prop := Faces W A3 n3 fs ∧ Below w.heap.size w W
structure CSCells (w W : World) (C : Nat) (A3 : Option Addr) (n3 c3 : Nat) (fu le : Int) : Prop where
  r0 : W.cell? ⟨w.heap.size, 0, none⟩ = some (.slice none 0 0)
  r1 : W.cell? ⟨w.heap.size, 1, none⟩ = some (.int .i64 0)
  r2 : W.cell? ⟨w.heap.size, 2, none⟩ = some (.int .i64 0)
  s0 : W.frozen? ⟨w.heap.size, 0, none⟩ = false
  s1 : W.frozen? ⟨w.heap.size, 1, none⟩ = false
  s2 : W.frozen? ⟨w.heap.size, 2, none⟩ = false
  m0 : W.cell? ⟨C, 0, none⟩ = some (.slice A3 n3 c3)
  m1 : W.cell? ⟨C, 1, none⟩ = some (.int .i64 fu)
  m2 : W.cell? ⟨C, 2, none⟩ = some (.int .i64 le)
section
variable {w W W' : World} {A : Option Addr} {n c : Nat} {zs : List Int} {C : Nat} {A3 : Option Addr} {n3 c3 : Nat} {fs : List Fc} {fu le : Int}
theorem CS.cells (h : CS w W A n c zs C A3 n3 c3 fs fu le) : CSCells w W C A3 n3 c3 fu le := by
  obtain ⟨m0, m1, m2, _, _, _⟩ := heap_cells h.2.2.1
  obtain ⟨r0, r1, r2, s0, s1, s2⟩ := heap_cells h.2.1
  exact ⟨r0, r1, r2, s0, s1, s2, m0, m1, m2⟩
theorem CS.below (h : CS w W A n c zs C A3 n3 c3 fs fu le) (hb : Below W.heap.size W W') : CS w W' A n c zs C A3 n3 c3 fs fu le :=
  ⟨h.1.below hb, (hb.block _ (heap_lt' h.2.1)).trans h.2.1, (hb.block _ (heap_lt' h.2.2.1)).trans h.2.2.1, h.2.2.2.1.below hb, bthen h.2.2.2.2 hb h.2.2.2.2.size⟩
theorem CS.alloc (h : CS w W A n c zs C A3 n3 c3 fs fu le) (o : Obj) : CS w (W.alloc o) A n c zs C A3 n3 c3 fs fu le := h.below ((Below.refl _ _).alloc (Nat.le_refl _) _)
theorem CS.drew (h : CS w W A n c zs C A3 n3 c3 fs fu le) : CS w W.drew A n c zs C A3 n3 c3 fs fu le := ⟨h.1, h.2.1, h.2.2.1, h.2.2.2.1, h.2.2.2.2.drew⟩
theorem CS.grown (h : CS w W A n c zs C A3 n3 c3 fs fu le) (hg : W.grownBy W' (some (w.heap.size + 1))) (hs : Src W' (w.heap.size + 1) A n c zs) (hL : C ≠ w.heap.size + 1 ∧ ∀ b o, A3 = some ⟨b, o, none⟩ → w.heap.size + 1 < b) : CS w W' A n c zs C A3 n3 c3 fs fu le ∧ FB w W' A3 n3 fs := by
  have h1 := h.2.2.2.1.grown hg (fun b o hA => fun hE => by have := hL.2 b o hA; injection hE with hE; omega)
  have h2 := h.2.2.2.2.grown hg h.2.2.2.2.size (fun k hk => by injection hk with hk; omega)
  exact ⟨⟨hs, gheap hg h.2.1 (by omega), gheap hg h.2.2.1 hL.1, h1, h2⟩, h1, h2⟩
theorem FB.alloc (h : FB w W A3 n3 fs) (o : Obj) : FB w (W.alloc o) A3 n3 fs := ⟨h.1.alloc o, h.2.alloc h.2.size o⟩
theorem cs_set (h : FB w W A3 n3 fs) (hne : ∀ b o, A3 = some ⟨b, o, none⟩ → w.heap.size + 1 < b) (i : Nat) (u : Value) : FB w (W.setCell ⟨w.heap.size, i, none⟩ u) A3 n3 fs :=
  ⟨h.1.grown (grown_set W w.heap.size i u) (fun b o hA => fun hE => by have := hne b o hA; injection hE with hE; omega), h.2.setCell (p := ⟨w.heap.size, i, none⟩) (Nat.le_refl _) u⟩
end
/-- A call draws a compressor and two numbers. -/
def RetDC3 (w : World) (e : Ending) (w' : World) : Prop :=
  ∃ (A1 : Option Addr) (n1 c1 : Nat) (fs : List Fc) (fu le q x : Int), e = .returned (.tuple #[.agg #[.slice A1 n1 c1, .int .i64 fu, .int .i64 le], .int .i64 q, .int .i64 x]) ∧ Faces w' A1 n1 fs ∧ n1 ≤ 9 ∧ I64 fu ∧ I64 le ∧ -1 ≤ q ∧ q ≤ 30001 ∧ Below w.heap.size w w'
theorem cs_close3 {w W : World} {A3 : Option Addr} {n3 c3 : Nat} {fs : List Fc} {fu le q x : Int} (h : FB w W A3 n3 fs) (hn : n3 ≤ 9) (h1 : I64 fu) (h2 : I64 le) (hx0 : -1 ≤ q) (hx1 : q ≤ 30001) :
    RetDC3 w (.returned (.tuple #[.agg #[.slice A3 n3 c3, .int .i64 fu, .int .i64 le], .int .i64 q, .int .i64 x])) W := ⟨A3, n3, c3, fs, fu, le, q, x, rfl, h.1, hn, h1, h2, hx0, hx1, h.2⟩
theorem nextTwo (B : Nat) (A : Option Addr) (n c : Nat) (zs : List Int) (W : World) (hs : Src W B A n c zs) (hn : n ≤ 4096) :
    Calls Try.prog 69 #[.pointer (some ⟨B, 0, none⟩), .int .i64 2] W fun e w' => ∃ j : Nat, j < 2 ∧ e = .returned (.int .i64 (j : Int)) ∧ Src w' B A n c zs ∧ W.grownBy w' (some B) := by
  refine (next_any _ _ _ _ _ _ _ hs hn (by omega) (by omega)).mono ?_
  rintro e w1 ⟨x, hx0, hx1, rfl, hs1, hg1⟩
  obtain ⟨j, rfl⟩ := Int.eq_ofNat_of_zero_le hx0
  exact ⟨j, by omega, rfl, hs1, hg1⟩
def pk2 (lo hi : Int) (j : Nat) : Int := if j = 0 then lo else hi
theorem pk2_pick {lo hi : Int} {j : Nat} (h : j < 2) : ∀ h', ([.int .i64 lo, .int .i64 hi] : List Value)[j]'h' = .int .i64 (pk2 lo hi j) := by
  intro h'
  match j, h with
  | 0, _ => rfl
  | 1, _ => rfl
set_option maxHeartbeats 8000000 in
theorem drawTight_any (A : Option Addr) (n c : Nat) (zs : List Int) (w : World) (h : Byts w A n zs) (hn : n ≤ 4096) :
    Calls Try.prog 41 #[.slice A n c] w (RetDC3 w) := by
  have hR0 : (w.alloc (.cells #[.slice none 0 0, .int .i64 0, .int .i64 0] 32)).heap[w.heap.size]? = some (.cells #[.slice none 0 0, .int .i64 0, .int .i64 0] 32 (0, 0)) := heap_alloc_new _ _
  have hw0 : Below w.heap.size w (w.alloc (.cells #[.slice none 0 0, .int .i64 0, .int .i64 0] 32)) := (Below.refl _ _).alloc (Nat.le_refl _) _
  have hy0 := h.below hw0
  go_enter Try.func41, Try.ntmps41
  go_wp2_with fail
  refine (from_any _ _ _ _ _ hy0 hn).mono ?_
  rintro e w1 ⟨rfl, hs1, hb1⟩
  have hw1 := bthen hw0 hb1 hw0.size
  have hR1 := (hb1.block w.heap.size (by simp)).trans hR0
  have hz1 : w.heap.size + 1 < w1.heap.size := by have := hs1.lt; simp at this; omega
  rw [show (w.alloc (.cells #[.slice none 0 0, .int .i64 0, .int .i64 0] 32)).heap.size = w.heap.size + 1 by simp] at hs1
  clear hw0 hb1 hR0 hy0
  go_wp2_with fail
  refine (l14Draw_any _ _ _ _ _ _ hs1 hn).mono ?_
  rintro e w2 ⟨A3, n3, c3, fs, fu, le, rfl, hF2, hn3, hfu, hle, hne, hs2, hg2⟩
  have hw2 := hw1.grown hg2 (by omega) (fun k hk => by injection hk with hk; omega)
  have hR2 := gheap hg2 hR1 (by omega)
  have hz2 : w.heap.size + 1 < w2.heap.size := Nat.lt_of_lt_of_le hz1 hg2.size
  clear hw1 hs1 hR1 hg2
  go_wp2_with fail
  have hc3 : CS w (w2.alloc (.cells #[.slice A3 n3 c3, .int .i64 fu, .int .i64 le] 32)) A n c zs w2.heap.size A3 n3 c3 fs fu le := ⟨hs2.alloc _, aheap hR2 _, heap_alloc_new _ _, hF2.alloc _, hw2.alloc (by omega) _⟩
  generalize w2.alloc (.cells #[.slice A3 n3 c3, .int .i64 fu, .int .i64 le] 32) = W at *
  have hN : ∀ b o, A3 = some ⟨b, o, none⟩ → w.heap.size + 1 < b := fun b o hA => Nat.lt_of_lt_of_le hz1 (hne b o hA)
  have HN := Lib.hid hN
  have hL : w2.heap.size ≠ w.heap.size + 1 ∧ ∀ b o, A3 = some ⟨b, o, none⟩ → w.heap.size + 1 < b := ⟨by omega, hN⟩
  have HL := Lib.hid hL
  clear hne hN hL hF2 hs2 hw2 hR2
  refine (drawFlow_any _ _ _ _ _ _ hc3.1 hn).mono ?_
  rintro e w4 ⟨q, hq0, hq1, rfl, hs4, hg4⟩
  have hc4 := (CS.grown hc3 hg4 hs4 HL.out).1
  clear hc3 hg4 hs4
  obtain ⟨r0, r1, r2, s0, s1, s2, m0, m1, m2⟩ := hc4.cells
  have HC4 := Lib.hid hc4
  clear hc4
  go_wp2_with fail
  clear r0 r1 r2 s0 s1 s2 m0 m1 m2
  refine (sRr_any _ _ _ _ _ _ _ _ HC4.out.2.2.2.1 (by omega)).mono ?_
  rintro e V ⟨rfl, hb5⟩
  have hc := HC4.out.below hb5
  clear HC4 hb5
  cases t0 : (rrCode n3 fs fu le q != 0)
  · go_wp2_with fail
    refine (next_any _ _ _ _ _ _ _ hc.1 hn (by omega) (by omega)).mono ?_
    rintro e V1 ⟨y, hy0, hy1, rfl, hs6, hg6⟩
    have hc1 := (CS.grown hc hg6 hs6 HL.out).1
    clear hc hg6 hs6 V
    have hc := hc1
    clear hc1
    revert hc
    generalize V1 = V
    intro hc
    cases t1 : (y == 0)
    · go_wp2_with fail
      have HC := Lib.hid hc
      have hzw : w.heap.size < V.heap.size := heap_lt' HC.out.2.1
      have hzc : w2.heap.size < V.heap.size := heap_lt' HC.out.2.2.1
      have hzs : w.heap.size + 1 < V.heap.size := HC.out.1.lt
      obtain ⟨m0, m1, m2, mf0, mf1, mf2⟩ := heap_cells hc.2.2.1
      obtain ⟨r0, r1, r2, s0, s1, s2⟩ := heap_cells hc.2.1
      clear hc
      go_region_with (first | (go_at_call 69; refine (nextTwo (w.heap.size + 1) A n c zs V.drew HC.out.1 hn).mono ?_; rintro e w7 ⟨j7, hj7, rfl, hs7, hg7⟩; have pk := pk2_pick (lo := rrLo n3 fs fu le q) (hi := rrHi n3 fs fu le q) hj7; have i7 : (0 : Int) ≤ (j7 : Int) := Int.natCast_nonneg _; have k7 : (j7 : Int) < 2 := (by omega); have HD := Lib.hid (CS.grown HC.out.drew hg7 hs7 HL.out).2; have y7a : w.heap.size < w7.heap.size := Nat.lt_of_lt_of_le hzw hg7.size; have y7b : w2.heap.size < w7.heap.size := Nat.lt_of_lt_of_le hzc hg7.size; have q0 := (gcell hg7 w.heap.size 0 (by exact hzw) (by omega)).trans r0; have n0 := (gcell hg7 w2.heap.size 0 (by exact hzc) (by omega)).trans m0; have v0 := (gfrozen hg7 w.heap.size 0 (by exact hzw) (by omega)).trans s0; have q1 := (gcell hg7 w.heap.size 1 (by exact hzw) (by omega)).trans r1; have n1 := (gcell hg7 w2.heap.size 1 (by exact hzc) (by omega)).trans m1; have v1 := (gfrozen hg7 w.heap.size 1 (by exact hzw) (by omega)).trans s1; have q2 := (gcell hg7 w.heap.size 2 (by exact hzw) (by omega)).trans r2; have n2 := (gcell hg7 w2.heap.size 2 (by exact hzc) (by omega)).trans m2; have v2 := (gfrozen hg7 w.heap.size 2 (by exact hzw) (by omega)).trans s2) | (go_at_call 69; refine (nextTwo (w.heap.size + 1) A n c zs (V.alloc (.cells #[.int .i64 (rrLo n3 fs fu le q), .int .i64 (rrHi n3 fs fu le q)] 2)).drew (HC.out.1.alloc _) hn).mono ?_; rintro e w7 ⟨j7, hj7, rfl, hs7, hg7⟩; have pk := pk2_pick (lo := rrLo n3 fs fu le q) (hi := rrHi n3 fs fu le q) hj7; have i7 : (0 : Int) ≤ (j7 : Int) := Int.natCast_nonneg _; have k7 : (j7 : Int) < 2 := (by omega); have HD := Lib.hid (CS.grown (HC.out.alloc _).drew hg7 hs7 HL.out).2; have zz : w.heap.size < (V.alloc (.cells #[.int .i64 (rrLo n3 fs fu le q), .int .i64 (rrHi n3 fs fu le q)] 2)).drew.heap.size := (by simp; omega); have zc : w2.heap.size < (V.alloc (.cells #[.int .i64 (rrLo n3 fs fu le q), .int .i64 (rrHi n3 fs fu le q)] 2)).drew.heap.size := (by simp; omega); have ar := (HC.out.alloc (.cells #[.int .i64 (rrLo n3 fs fu le q), .int .i64 (rrHi n3 fs fu le q)] 2)).cells; have u7 := fun i => gcell hg7 V.heap.size i (by simp) (by omega); have y7 : V.heap.size < w7.heap.size := (by have := hg7.size; simp at this; omega); have q0 := (gcell hg7 w.heap.size 0 zz (by omega)).trans ar.r0; have n0 := (gcell hg7 w2.heap.size 0 zc (by omega)).trans ar.m0; have v0 := (gfrozen hg7 w.heap.size 0 zz (by omega)).trans ar.s0; have q1 := (gcell hg7 w.heap.size 1 zz (by omega)).trans ar.r1; have n1 := (gcell hg7 w2.heap.size 1 zc (by omega)).trans ar.m1; have v1 := (gfrozen hg7 w.heap.size 1 zz (by omega)).trans ar.s1; have q2 := (gcell hg7 w.heap.size 2 zz (by omega)).trans ar.r2; have n2 := (gcell hg7 w2.heap.size 2 zc (by omega)).trans ar.m2; have v2 := (gfrozen hg7 w.heap.size 2 zz (by omega)).trans ar.s2; clear ar; have y7a : w.heap.size < w7.heap.size := Nat.lt_trans hzw y7; have y7b : w2.heap.size < w7.heap.size := Nat.lt_trans hzc y7))
      all_goals go_wp2_with fail
      all_goals
        refine bodyPost_ret (v := .tuple #[.agg #[.slice A3 n3 c3, .int .i64 fu, .int .i64 le], .int .i64 q, .int .i64 (pk2 (rrLo n3 fs fu le q) (rrHi n3 fs fu le q) j7)]) (by simp [results, Try.results41, go_sem, q0, q1, q2, y7a]) rfl ?_
        refine cs_close3 (fs := fs) ?_ hn3 hfu hle hq0 hq1
        repeat (first | exact HD.out | refine cs_set ?_ HN.out _ _ | refine FB.alloc ?_ _)

    · go_wp2_with fail
      have HC := Lib.hid hc
      have hzw : w.heap.size < V.heap.size := heap_lt' HC.out.2.1
      have hzc : w2.heap.size < V.heap.size := heap_lt' HC.out.2.2.1
      obtain ⟨m0, m1, m2, mf0, mf1, mf2⟩ := heap_cells hc.2.2.1
      obtain ⟨r0, r1, r2, s0, s1, s2⟩ := heap_cells hc.2.1
      clear hc
      go_region_with (go_at_call 67; refine (drawRatio_any (w.heap.size + 1) A n c zs V.drew HC.out.1 hn).mono ?_; rintro e w7 ⟨x, hx0, hx1, rfl, hs7, hg7⟩; have q0 := (gcell hg7 w.heap.size 0 (by exact hzw) (by omega)).trans r0; have n0 := (gcell hg7 w2.heap.size 0 (by exact hzc) (by omega)).trans m0; have v0 := (gfrozen hg7 w.heap.size 0 (by exact hzw) (by omega)).trans s0; have q1 := (gcell hg7 w.heap.size 1 (by exact hzw) (by omega)).trans r1; have n1 := (gcell hg7 w2.heap.size 1 (by exact hzc) (by omega)).trans m1; have v1 := (gfrozen hg7 w.heap.size 1 (by exact hzw) (by omega)).trans s1; have q2 := (gcell hg7 w.heap.size 2 (by exact hzw) (by omega)).trans r2; have n2 := (gcell hg7 w2.heap.size 2 (by exact hzc) (by omega)).trans m2; have v2 := (gfrozen hg7 w.heap.size 2 (by exact hzw) (by omega)).trans s2)
      all_goals go_wp2_with fail
      all_goals
        refine bodyPost_ret (v := .tuple #[.agg #[.slice A3 n3 c3, .int .i64 fu, .int .i64 le], .int .i64 q, .int .i64 x]) (by simp [results, Try.results41, go_sem, q0, q1, q2]) rfl ?_
        exact cs_close3 (cs_set (cs_set (cs_set (CS.grown HC.out.drew hg7 hs7 HL.out).2 HN.out 0 _) HN.out 1 _) HN.out 2 _) hn3 hfu hle hq0 hq1

  · go_wp2_with fail
    have HC := Lib.hid hc
    have hzw : w.heap.size < V.heap.size := heap_lt' HC.out.2.1
    have hzc : w2.heap.size < V.heap.size := heap_lt' HC.out.2.2.1
    obtain ⟨m0, m1, m2, mf0, mf1, mf2⟩ := heap_cells hc.2.2.1
    obtain ⟨r0, r1, r2, s0, s1, s2⟩ := heap_cells hc.2.1
    clear hc
    go_region_with (go_at_call 67; refine (drawRatio_any (w.heap.size + 1) A n c zs V.drew HC.out.1 hn).mono ?_; rintro e w7 ⟨x, hx0, hx1, rfl, hs7, hg7⟩; have q0 := (gcell hg7 w.heap.size 0 (by exact hzw) (by omega)).trans r0; have n0 := (gcell hg7 w2.heap.size 0 (by exact hzc) (by omega)).trans m0; have v0 := (gfrozen hg7 w.heap.size 0 (by exact hzw) (by omega)).trans s0; have q1 := (gcell hg7 w.heap.size 1 (by exact hzw) (by omega)).trans r1; have n1 := (gcell hg7 w2.heap.size 1 (by exact hzc) (by omega)).trans m1; have v1 := (gfrozen hg7 w.heap.size 1 (by exact hzw) (by omega)).trans s1; have q2 := (gcell hg7 w.heap.size 2 (by exact hzw) (by omega)).trans r2; have n2 := (gcell hg7 w2.heap.size 2 (by exact hzc) (by omega)).trans m2; have v2 := (gfrozen hg7 w.heap.size 2 (by exact hzw) (by omega)).trans s2)
    all_goals go_wp2_with fail
    all_goals
      refine bodyPost_ret (v := .tuple #[.agg #[.slice A3 n3 c3, .int .i64 fu, .int .i64 le], .int .i64 q, .int .i64 x]) (by simp [results, Try.results41, go_sem, q0, q1, q2]) rfl ?_
      exact cs_close3 (cs_set (cs_set (cs_set (CS.grown HC.out.drew hg7 hs7 HL.out).2 HN.out 0 _) HN.out 1 _) HN.out 2 _) hn3 hfu hle hq0 hq1

end Go.Proofs.Ytgchbajhceddnaa
