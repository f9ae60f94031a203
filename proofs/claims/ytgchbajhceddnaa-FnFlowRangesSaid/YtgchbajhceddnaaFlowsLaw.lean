/- The walk of the law FnFlowRanges. No condition. -/
import Derived.Test.YtgchbajhceddnaaCDraw3
import Derived.Test.YtgchbajhceddnaaFlowR
import Derived.Test.YtgchbajhceddnaaEnvelope
set_option linter.unusedVariables false
set_option maxRecDepth 100000
namespace Go.Proofs.Ytgchbajhceddnaa
open Go.RowKit Go.Joins Go.Deep
attribute [local go_sem ↓] Go.wp_at_zero Go.wp_at_succ

theorem fr_none {n : Nat} {fs : List Fc} {fu le q r : Int} (h : frCode n fs fu le r = 7) (h0 : 0 ≤ q) (h1 : q ≤ 30000) : possR n fs fu le q r = false := by
  unfold frCode at h
  split at h
  · split at h
    · omega
    · rename_i h2
      have hb : possB fs le q r = false := by
        rw [Bool.eq_false_iff]
        intro hp
        have := (poss_flow h1).1 hp
        omega
      simp [possR, hb]
  · rename_i h2
    rcases code_ne h2 with h3 | h3 <;> omega
theorem fr_some {n : Nat} {fs : List Fc} {fu le q r : Int} (h : frCode n fs fu le r = 0) (h0 : 0 ≤ q) (h1 : q ≤ 30000) : possR n fs fu le q r = (decide (frLo n fs fu le r ≤ q) && decide (q ≤ frHi n fs fu le r)) := by
  have e1 : frLo n fs fu le r = floLo fs le r := by simp [frLo, h]
  have e2 : frHi n fs fu le r = floHi fs le r := by simp [frHi, h]
  rw [e1, e2]
  have hp0 : pointCode n fs fu le 0 r = 0 := by
    unfold frCode at h
    split at h
    · assumption
    · rename_i h2
      rcases code_ne h2 with h3 | h3 <;> omega
  obtain ⟨p1, p2⟩ := pointCode_ok hp0
  have hr := pt0 p2
  have hp : pointCode n fs fu le q r = 0 := by
    have : pointB q r = true := by simp [pointB, inB_iff]; omega
    simp [pointCode, p1, this]
  have hpf := poss_flow (fs := fs) (le := le) (q := q) (r := r) h1
  simp only [possR, hp, beq_self_eq_true, Bool.true_and]
  rw [Bool.eq_iff_iff, hpf]
  simp
set_option maxHeartbeats 8000000 in
theorem law_FnFlowRanges (A : Option Addr) (n c : Nat) (zs : List Int) (w : World) (h0 : Byts w A n zs ∧ n ≤ c ∧ c ≤ maxLen) :
    Calls Try.prog 10 #[.slice A n c] w fun e w' => e = .returned (.bool true) ∧ Below w.heap.size w w' := by
  obtain ⟨h, hnc, hcm⟩ := h0
  unfold maxLen at hcm
  by_cases hbig : 4096 < n
  · have hg := fun W => big_any A n c W (by omega)
    simp only [hbig, decide_true] at hg
    have HG := Lib.hid hg
    clear hg
    go_enter Try.func10, Try.ntmps10
    go_wp2_with (go_at_call 36; refine (HG.out _).mono ?_; rintro e w' ⟨rfl, rfl⟩)
    go_ret
    exact ⟨rfl, Below.refl _ _⟩
  have hg := fun W => big_any A n c W (by omega)
  simp only [hbig, decide_false] at hg
  have HG := Lib.hid hg
  have hn : n ≤ 4096 := by omega
  clear hg hbig
  go_enter Try.func10, Try.ntmps10
  go_wp2_with (go_at_call 36; refine (HG.out _).mono ?_; rintro e w' ⟨rfl, rfl⟩)
  refine (drawFlowRange_any _ _ _ _ _ h hn).mono ?_
  rintro e w1 ⟨A1, n1, c1, fs, fu, le, r, rfl, hF1, hn1, hfu, hle, hx0, hx1, hw1⟩
  go_wp2_with fail
  have hX : (w1.alloc (.cells #[.slice A1 n1 c1, .int .i64 fu, .int .i64 le] 32)).heap[w1.heap.size]? = some (.cells #[.slice A1 n1 c1, .int .i64 fu, .int .i64 le] 32 (0, 0)) := heap_alloc_new _ _
  have hF0 := hF1.alloc (.cells #[.slice A1 n1 c1, .int .i64 fu, .int .i64 le] 32)
  have hy0 := (h.below hw1).below ((Below.refl w1.heap.size w1).alloc (Nat.le_refl _) (.cells #[.slice A1 n1 c1, .int .i64 fu, .int .i64 le] 32))
  have hW := hw1.alloc hw1.size (.cells #[.slice A1 n1 c1, .int .i64 fu, .int .i64 le] 32)
  have hXW : w1.heap.size < (w1.alloc (.cells #[.slice A1 n1 c1, .int .i64 fu, .int .i64 le] 32)).heap.size := by simp
  generalize w1.alloc (.cells #[.slice A1 n1 c1, .int .i64 fu, .int .i64 le] 32) = W at *
  generalize w1.heap.size = X at *
  obtain ⟨hX0, hX1, hX2, _, _, _⟩ := heap_cells hX
  have hB1 : Below W.heap.size W W := Below.refl _ _
  have x0 := hX0
  have x1 := hX1
  have x2 := hX2
  clear hX hF1 hw1
  go_wp2_with fail
  refine (fr_any _ _ _ _ _ _ _ _ (hF0.below hB1) (by omega)).mono ?_
  rintro e w2 ⟨rfl, hb2⟩
  have hB2 := bthen hB1 hb2 hB1.size
  clear hB1 hb2 x0 x1 x2
  have x0 : w2.cell? ⟨X, 0, none⟩ = some (.slice A1 n1 c1) := (hB2.cell hXW).trans hX0
  have x1 : w2.cell? ⟨X, 1, none⟩ = some (.int .i64 fu) := (hB2.cell hXW).trans hX1
  have x2 : w2.cell? ⟨X, 2, none⟩ = some (.int .i64 le) := (hB2.cell hXW).trans hX2
  go_wp2_with fail
  refine (sFr_any _ _ _ _ _ _ _ _ (hF0.below hB2) (by omega)).mono ?_
  rintro e w3 ⟨rfl, hb3⟩
  have hB3 := bthen hB2 hb3 hB2.size
  clear hB2 hb3 x0 x1 x2
  have x0 : w3.cell? ⟨X, 0, none⟩ = some (.slice A1 n1 c1) := (hB3.cell hXW).trans hX0
  have x1 : w3.cell? ⟨X, 1, none⟩ = some (.int .i64 fu) := (hB3.cell hXW).trans hX1
  have x2 : w3.cell? ⟨X, 2, none⟩ = some (.int .i64 le) := (hB3.cell hXW).trans hX2
  go_wp2_with fail
  refine (roll_any _ _ _ _ _ _ (hy0.below hB3) hn (by omega) (by omega)).mono ?_
  rintro e w4 ⟨rfl, hd4, hb4⟩
  have hB4 := bthen hB3 hb4 hB3.size
  have hD : W.heap.size ≤ w3.heap.size := hB3.size
  clear hB3 hb4 x0 x1 x2
  go_wp2_with fail
  refine (below_any _ _ _ _ _ _ _ hd4 hn (by omega) (by omega)).mono ?_
  rintro e w5 ⟨q, hq0, hq1, rfl, hd5, hg5⟩
  have hB5 := hB4.grown hg5 hB4.size (fun k hk => by injection hk with hk; omega)
  clear hB4 hg5 hd4 hd5
  have x0 : w5.cell? ⟨X, 0, none⟩ = some (.slice A1 n1 c1) := (hB5.cell hXW).trans hX0
  have x1 : w5.cell? ⟨X, 1, none⟩ = some (.int .i64 fu) := (hB5.cell hXW).trans hX1
  have x2 : w5.cell? ⟨X, 2, none⟩ = some (.int .i64 le) := (hB5.cell hXW).trans hX2
  by_cases t7 : frCode n1 fs fu le r = 7
  · have e7 : (frCode n1 fs fu le r == 7) = true := by simp [t7]
    have hp := fr_none t7 hq0 (by omega)
    clear t7
    go_wp2_with fail
    refine (poss_any _ _ _ _ _ _ _ _ _ (hF0.below hB5) (by omega)).mono ?_
    rintro e w6 ⟨rfl, hb6⟩
    go_wp2_with fail
    go_ret
    exact ⟨rfl, bthen hW (bthen hB5 hb6 hB5.size) hW.size⟩
  · have e7 : (frCode n1 fs fu le r == 7) = false := by simp [t7]
    clear t7
    by_cases t0 : frCode n1 fs fu le r = 0
    · have e0 : (frCode n1 fs fu le r != 0) = false := by simp [t0]
      have hp := fr_some t0 hq0 (by omega)
      clear t0
      by_cases u1 : frLo n1 fs fu le r ≤ q <;> by_cases u2 : q ≤ frHi n1 fs fu le r
      all_goals
        simp only [u1, u2, decide_true, decide_false, Bool.and_self, Bool.and_true, Bool.and_false] at hp
        go_wp2_with fail
        refine (poss_any _ _ _ _ _ _ _ _ _ (hF0.below hB5) (by omega)).mono ?_
        rintro e w6 ⟨rfl, hb6⟩
        go_wp2_with fail
        go_ret
        exact ⟨rb (by first | rfl | (simp; done) | (simp; omega)), bthen hW (bthen hB5 hb6 hB5.size) hW.size⟩
    · have e0 : (frCode n1 fs fu le r != 0) = true := by simp [t0]
      clear t0
      go_wp2_with fail
      go_ret
      exact ⟨rfl, bthen hW hB5 hW.size⟩
end Go.Proofs.Ytgchbajhceddnaa
