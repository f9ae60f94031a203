/- The walk of the law FnEnvelopes. No condition. -/
import Derived.Test.YtgchbajhceddnaaCDraw3
import Derived.Test.YtgchbajhceddnaaRatioR
import Derived.Test.YtgchbajhceddnaaEnvelope
set_option linter.unusedVariables false
set_option maxRecDepth 100000
namespace Go.Proofs.Ytgchbajhceddnaa
open Go.RowKit Go.Joins Go.Deep
attribute [local go_sem ↓] Go.wp_at_zero Go.wp_at_succ

theorem rr_pt {n : Nat} {fs : List Fc} {fu le q : Int} (h : rrCode n fs fu le q = 0) : pointCode n fs fu le q 1000 = 0 ∧ ratLo fs q ≤ ratHi fs q ∧ le ≤ q := by
  unfold rrCode at h
  split at h
  · rename_i h0
    split at h
    · rename_i h1; exact ⟨h0, h1.1, h1.2⟩
    · omega
  · rename_i h2
    rcases code_ne h2 with h3 | h3 <;> omega
theorem rr_code {n : Nat} {fs : List Fc} {fu le q r : Int} (h : pointCode n fs fu le q 1000 = 0) (h0 : 1000 ≤ r) (h1 : r ≤ 3000) : pointCode n fs fu le q r = 0 := by
  obtain ⟨p1, p2⟩ := pointCode_ok h
  have hq := pt1000 p2
  have : pointB q r = true := by simp [pointB, inB_iff]; omega
  simp [pointCode, p1, this]
theorem rr_none {n : Nat} {fs : List Fc} {fu le q r : Int} (h : rrCode n fs fu le q = 7) (h0 : 1000 ≤ r) (h1 : r ≤ 3000) : possR n fs fu le q r = false := by
  unfold rrCode at h
  split at h
  · split at h
    · omega
    · rename_i h2
      have hb : possB fs le q r = false := by
        rw [Bool.eq_false_iff]
        intro hp
        have := (poss_ratio h0 h1).1 hp
        exact h2 ⟨by omega, this.2.2⟩
      simp [possR, hb]
  · rename_i h2
    rcases code_ne h2 with h3 | h3 <;> omega
theorem rr_some {n : Nat} {fs : List Fc} {fu le q r : Int} (h : rrCode n fs fu le q = 0) (h0 : 1000 ≤ r) (h1 : r ≤ 3000) : possR n fs fu le q r = (decide (rrLo n fs fu le q ≤ r) && decide (r ≤ rrHi n fs fu le q)) := by
  have e1 : rrLo n fs fu le q = ratLo fs q := by simp [rrLo, h]
  have e2 : rrHi n fs fu le q = ratHi fs q := by simp [rrHi, h]
  obtain ⟨p0, p1, p2⟩ := rr_pt h
  rw [e1, e2]
  simp only [possR, rr_code p0 h0 h1, beq_self_eq_true, Bool.true_and]
  rw [Bool.eq_iff_iff, poss_ratio h0 h1]
  simp
  omega
theorem rr_ends {n : Nat} {fs : List Fc} {fu le q : Int} (h : rrCode n fs fu le q = 0) : possR n fs fu le q (rrLo n fs fu le q) = true ∧ possR n fs fu le q (rrHi n fs fu le q) = true := by
  have e1 : rrLo n fs fu le q = ratLo fs q := by simp [rrLo, h]
  have e2 : rrHi n fs fu le q = ratHi fs q := by simp [rrHi, h]
  obtain ⟨p0, p1, p2⟩ := rr_pt h
  have hr := rat_range p1
  rw [rr_some h (by omega) (by omega), rr_some h (by omega) (by omega), e1, e2]
  simp
  omega
set_option maxHeartbeats 8000000 in
theorem law_FnEnvelopes (A : Option Addr) (n c : Nat) (zs : List Int) (w : World) (h0 : Byts w A n zs ∧ n ≤ c ∧ c ≤ maxLen) :
    Calls Try.prog 11 #[.slice A n c] w fun e w' => e = .returned (.bool true) ∧ Below w.heap.size w w' := by
  obtain ⟨h, hnc, hcm⟩ := h0
  unfold maxLen at hcm
  by_cases hbig : 4096 < n
  · have hg := fun W => big_any A n c W (by omega)
    simp only [hbig, decide_true] at hg
    have HG := Lib.hid hg
    clear hg
    go_enter Try.func11, Try.ntmps11
    go_wp2_with (go_at_call 36; refine (HG.out _).mono ?_; rintro e w' ⟨rfl, rfl⟩)
    go_ret
    exact ⟨rfl, Below.refl _ _⟩
  have hg := fun W => big_any A n c W (by omega)
  simp only [hbig, decide_false] at hg
  have HG := Lib.hid hg
  have hn : n ≤ 4096 := by omega
  clear hg hbig
  go_enter Try.func11, Try.ntmps11
  go_wp2_with (go_at_call 36; refine (HG.out _).mono ?_; rintro e w' ⟨rfl, rfl⟩)
  refine (drawRatioRange_any _ _ _ _ _ h hn).mono ?_
  rintro e w1 ⟨A1, n1, c1, fs, fu, le, q, rfl, hF1, hn1, hfu, hle, hx0, hx1, hw1⟩
  go_wp2_with fail
  have hX : (w1.alloc (.cells #[.slice A1 n1 c1, .int .i64 fu, .int .i64 le] 32)).heap[w1.heap.size]? = some (.cells #[.slice A1 n1 c1, .int .i64 fu, .int .i64 le] 32 (0, 0)) := heap_alloc_new _ _
  have hF0 := hF1.alloc (.cells #[.slice A1 n1 c1, .int .i64 fu, .int .i64 le] 32)
  have hy0 := (h.below hw1).below ((Below.refl w1.heap.size w1).alloc (Nat.le_refl _) (.cells #[.slice A1 n1 c1, .int .i64 fu, .int .i64 le] 32))
  have hW := hw1.alloc hw1.size (.cells #[.slice A1 n1 c1, .int .i64 fu, .int .i64 le] 32)
  have hXW : w1.heap.size < (w1.alloc (.cells #[.slice A1 n1 c1, .int .i64 fu, .int .i64 le] 32)).heap.size := by simp
  generalize w1.alloc (.cells #[.slice A1 n1 c1, .int .i64 fu, .int .i64 le] 32) = W at *
  generalize w1.heap.size = X at *
  obtain ⟨hX0, hX1, hX2, _, _, _⟩ := heap_cells hX
  have hB1 : Below W.heap.size W W := Below.refl _ _
  have x0 := hX0
  have x1 := hX1
  have x2 := hX2
  clear hX hF1 hw1
  go_wp2_with fail
  refine (rr_any _ _ _ _ _ _ _ _ (hF0.below hB1) (by omega)).mono ?_
  rintro e w2 ⟨rfl, hb2⟩
  have hB2 := bthen hB1 hb2 hB1.size
  clear hB1 hb2 x0 x1 x2
  have x0 : w2.cell? ⟨X, 0, none⟩ = some (.slice A1 n1 c1) := (hB2.cell hXW).trans hX0
  have x1 : w2.cell? ⟨X, 1, none⟩ = some (.int .i64 fu) := (hB2.cell hXW).trans hX1
  have x2 : w2.cell? ⟨X, 2, none⟩ = some (.int .i64 le) := (hB2.cell hXW).trans hX2
  go_wp2_with fail
  refine (sRr_any _ _ _ _ _ _ _ _ (hF0.below hB2) (by omega)).mono ?_
  rintro e w3 ⟨rfl, hb3⟩
  have hB3 := bthen hB2 hb3 hB2.size
  clear hB2 hb3 x0 x1 x2
  have x0 : w3.cell? ⟨X, 0, none⟩ = some (.slice A1 n1 c1) := (hB3.cell hXW).trans hX0
  have x1 : w3.cell? ⟨X, 1, none⟩ = some (.int .i64 fu) := (hB3.cell hXW).trans hX1
  have x2 : w3.cell? ⟨X, 2, none⟩ = some (.int .i64 le) := (hB3.cell hXW).trans hX2
  have kB : Kept (Below W.heap.size W w3.drew) := ⟨hB3.drew⟩
  have hz3 : X < w3.heap.size := Nat.lt_of_lt_of_le hXW hB3.size
  go_wp2_with fail
  go_region_held3 (fun w' => X < w'.heap.size ∧ w'.cell? ⟨X, 0, none⟩ = some (.slice A1 n1 c1) ∧ w'.cell? ⟨X, 1, none⟩ = some (.int .i64 fu) ∧ w'.cell? ⟨X, 2, none⟩ = some (.int .i64 le) ∧ Kept (Below W.heap.size W w'))
    (first | go_keep | (go_split_ands; refine ⟨by have := hb8.size; omega, ?_, ?_, ?_, ⟨bthen (Kept.out ‹Kept (Below _ _ _)›) hb8 (Kept.out ‹Kept (Below _ _ _)›).size⟩⟩ <;> (rw [hb8.cell (by simp; omega)]; assumption)))
    (first | (go_at_call 20; go_split_ands; refine (isComp_any _ _ _ _ _ _ _ (hF0.below (Kept.out ‹Kept (Below _ _ _)›)) (by omega)).mono ?_; rintro e w6 ⟨rfl, hb8⟩) | (go_at_call 18; go_split_ands; refine (sIsComp_any _ _ _ _ _ _ _ (hF0.below (Kept.out ‹Kept (Below _ _ _)›)) (by omega)).mono ?_; rintro e w7 ⟨rfl, hb8⟩))
  rename_i hh
  obtain ⟨hz7, y0, y1, y2, ⟨hB7⟩⟩ := hh
  clear kB hB3 x0 x1 x2 hb8
  go_wp2_with fail
  refine (roll_any _ _ _ _ _ _ (hy0.below hB7) hn (by omega) (by omega)).mono ?_
  rintro e w4 ⟨rfl, hd4, hb4⟩
  have hB4 := bthen hB7 hb4 hB7.size
  have hD : W.heap.size ≤ w7.heap.size := hB7.size
  clear hB7 hb4 y0 y1 y2
  go_wp2_with fail
  refine (below_any _ _ _ _ _ _ _ hd4 hn (by omega) (by omega)).mono ?_
  rintro e w5 ⟨r0, hq0, hq1, rfl, hd5, hg5⟩
  have hB5 := hB4.grown hg5 hB4.size (fun k hk => by injection hk with hk; omega)
  clear hB4 hg5 hd4 hd5
  have x0 : w5.cell? ⟨X, 0, none⟩ = some (.slice A1 n1 c1) := (hB5.cell hXW).trans hX0
  have x1 : w5.cell? ⟨X, 1, none⟩ = some (.int .i64 fu) := (hB5.cell hXW).trans hX1
  have x2 : w5.cell? ⟨X, 2, none⟩ = some (.int .i64 le) := (hB5.cell hXW).trans hX2
  by_cases t7 : rrCode n1 fs fu le q = 7
  · have e7 : (rrCode n1 fs fu le q == 7) = true := by simp [t7]
    have hp := rr_none (r := 1000 + r0) t7 (by omega) (by omega)
    clear t7
    go_wp2_with fail
    refine (poss_any _ _ _ _ _ _ _ _ _ (hF0.below hB5) (by omega)).mono ?_
    rintro e w6 ⟨rfl, hb6⟩
    go_wp2_with fail
    go_ret
    exact ⟨rfl, bthen hW (bthen hB5 hb6 hB5.size) hW.size⟩
  · have e7 : (rrCode n1 fs fu le q == 7) = false := by simp [t7]
    clear t7
    by_cases t0 : rrCode n1 fs fu le q = 0
    · have e0 : (rrCode n1 fs fu le q != 0) = false := by simp [t0]
      have hp := rr_some (r := 1000 + r0) t0 (by omega) (by omega)
      have he := rr_ends t0
      clear t0
      obtain ⟨he1, he2⟩ := he
      by_cases u1 : rrLo n1 fs fu le q ≤ 1000 + r0 <;> by_cases u2 : 1000 + r0 ≤ rrHi n1 fs fu le q
      all_goals
        simp only [u1, u2, decide_true, decide_false, Bool.and_self, Bool.and_true, Bool.and_false] at hp
        go_wp2_with fail
        refine (poss_any _ _ _ _ _ _ _ _ _ (hF0.below hB5) (by omega)).mono ?_
        rintro e w6 ⟨rfl, hb6⟩
        have hB6 := bthen hB5 hb6 hB5.size
        have y0 : w6.cell? ⟨X, 0, none⟩ = some (.slice A1 n1 c1) := (hB6.cell hXW).trans hX0
        have y1 : w6.cell? ⟨X, 1, none⟩ = some (.int .i64 fu) := (hB6.cell hXW).trans hX1
        have y2 : w6.cell? ⟨X, 2, none⟩ = some (.int .i64 le) := (hB6.cell hXW).trans hX2
        go_wp2_with fail
        refine (poss_any _ _ _ _ _ _ _ _ _ (hF0.below hB6) (by omega)).mono ?_
        rintro e w8 ⟨rfl, hb8⟩
        have hB8 := bthen hB6 hb8 hB6.size
        have z0 : w8.cell? ⟨X, 0, none⟩ = some (.slice A1 n1 c1) := (hB8.cell hXW).trans hX0
        have z1 : w8.cell? ⟨X, 1, none⟩ = some (.int .i64 fu) := (hB8.cell hXW).trans hX1
        have z2 : w8.cell? ⟨X, 2, none⟩ = some (.int .i64 le) := (hB8.cell hXW).trans hX2
        go_wp2_with fail
        refine (poss_any _ _ _ _ _ _ _ _ _ (hF0.below hB8) (by omega)).mono ?_
        rintro e w9 ⟨rfl, hb9⟩
        go_wp2_with fail
        go_ret
        exact ⟨rb (by first | rfl | (simp; done) | (simp; omega)), bthen hW (bthen hB8 hb9 hB8.size) hW.size⟩
    · have e0 : (rrCode n1 fs fu le q != 0) = true := by simp [t0]
      clear t0
      go_wp2_with fail
      go_ret
      exact ⟨rfl, bthen hW hB5 hW.size⟩
end Go.Proofs.Ytgchbajhceddnaa
