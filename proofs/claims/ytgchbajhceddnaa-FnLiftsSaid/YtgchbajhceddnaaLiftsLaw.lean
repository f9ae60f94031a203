/- The walk of the law FnLifts. No condition. -/
import Derived.Test.YtgchbajhceddnaaLDraw2
import Derived.Test.YtgchbajhceddnaaLift
set_option linter.unusedVariables false
set_option maxRecDepth 100000
namespace Go.Proofs.Ytgchbajhceddnaa
open Go.RowKit Go.Joins Go.Deep
attribute [local go_sem ↓] Go.wp_at_zero Go.wp_at_succ

theorem lifts_ok {n : Nat} {fs : List Fc} {fu le q b a : Int} (h : liftCode n fs fu le q b a = 0) :
    needCode b a = 0 ∧ needVal b a = ratio b a ∧ 1000 ≤ ratio b a ∧ ratio b a ≤ 3000 ∧ 1 ≤ b ∧ b ≤ 100000000 ∧ 0 ≤ a ∧ a ≤ 100000000 ∧ ratio b a ≤ liftR n fs fu le q b a ∧ fuelCode n fs fu le q (liftR n fs fu le q b a) = 0 ∧ fuelVal n fs fu le q (liftR n fs fu le q b a) = liftF n fs fu le q b a ∧ 1000000 * a ≤ ratio b a * ratio b a * b ∧ (ratio b a = 1000 ∨ (ratio b a - 1) * (ratio b a - 1) * b < 1000000 * a) := by
  rcases lift_ways n fs fu le q b a with ⟨h1, hk⟩ | ⟨h1, h2, hk⟩ | ⟨h1, h2, h3, hk⟩ | ⟨h1, h2, h3, h4, hk⟩ | ⟨h1, h2, h3, h4, h5, hk⟩ | ⟨h1, h2, h3, h4, h5, h6, hk⟩ | ⟨h1, h2, h3, h4, h5, h6, hk⟩
  all_goals try omega
  obtain ⟨b1, b2, b3, b4⟩ := levels_bd h3
  have hl := ratio_least b a
  have hb := liftTop_bd (b := b) (a := a) h5.1 h4
  have e1 : liftR n fs fu le q b a = liftTop fs q b a := by simp [liftR, hk]
  have hge : ratio b a ≤ liftTop fs q b a := by unfold liftTop; split <;> omega
  have hq := pt1000 h2
  have hpb : pointB q (liftTop fs q b a) = true := by simp [pointB, inB_iff]; omega
  have hpc : pointCode n fs fu le q (liftTop fs q b a) = 0 := by simp [pointCode, h1, hpb]
  have hps : possB fs le q (liftTop fs q b a) = true := (poss_ratio hb.1 hb.2.1).2 ⟨hb.2.2, h6, h5.2⟩
  rw [e1]
  refine ⟨by simp [needCode, h3, h4], by simp [needVal, h3, h4], hl.1, h4, b1, b2, b3, b4, hge, by simp [fuelCode, hpc, hps], by simp [fuelVal, hpc, hps, liftF, hk], hl.2.2.1 h4, ?_⟩
  by_cases e : ratio b a = 1000
  · exact .inl e
  · refine .inr ?_
    have := hl.2.2.2 (ratio b a - 1) (by have := hl.1; omega) (by omega)
    unfold Lifts at this
    omega
set_option maxHeartbeats 8000000 in
theorem law_FnLifts (A : Option Addr) (n c : Nat) (zs : List Int) (w : World) (h0 : Byts w A n zs ∧ n ≤ c ∧ c ≤ maxLen) :
    Calls Try.prog 14 #[.slice A n c] w fun e w' => e = .returned (.bool true) ∧ Below w.heap.size w w' := by
  obtain ⟨h, hnc, hcm⟩ := h0
  unfold maxLen at hcm
  by_cases hbig : 4096 < n
  · have hg := fun W => big_any A n c W (by omega)
    simp only [hbig, decide_true] at hg
    have HG := Lib.hid hg
    clear hg
    go_enter Try.func14, Try.ntmps14
    go_wp2_with (go_at_call 36; refine (HG.out _).mono ?_; rintro e w' ⟨rfl, rfl⟩)
    go_ret
    exact ⟨rfl, Below.refl _ _⟩
  have hg := fun W => big_any A n c W (by omega)
  simp only [hbig, decide_false] at hg
  have HG := Lib.hid hg
  have hn : n ≤ 4096 := by omega
  clear hg hbig
  go_enter Try.func14, Try.ntmps14
  go_wp2_with (go_at_call 36; refine (HG.out _).mono ?_; rintro e w' ⟨rfl, rfl⟩)
  refine (drawLift_any _ _ _ _ _ h hn).mono ?_
  rintro e w1 ⟨A1, n1, c1, fs, fu, le, q, x, y, rfl, hF1, hn1, hfu, hle, hx0, hx1, hw1⟩
  go_wp2_with fail
  have hX : (w1.alloc (.cells #[.slice A1 n1 c1, .int .i64 fu, .int .i64 le] 32)).heap[w1.heap.size]? = some (.cells #[.slice A1 n1 c1, .int .i64 fu, .int .i64 le] 32 (0, 0)) := heap_alloc_new _ _
  have hF0 := hF1.alloc (.cells #[.slice A1 n1 c1, .int .i64 fu, .int .i64 le] 32)
  have hy0 := (h.below hw1).below ((Below.refl w1.heap.size w1).alloc (Nat.le_refl _) (.cells #[.slice A1 n1 c1, .int .i64 fu, .int .i64 le] 32))
  have hW := hw1.alloc hw1.size (.cells #[.slice A1 n1 c1, .int .i64 fu, .int .i64 le] 32)
  have hXW : w1.heap.size < (w1.alloc (.cells #[.slice A1 n1 c1, .int .i64 fu, .int .i64 le] 32)).heap.size := by simp
  generalize w1.alloc (.cells #[.slice A1 n1 c1, .int .i64 fu, .int .i64 le] 32) = W at *
  generalize w1.heap.size = X at *
  obtain ⟨hX0, hX1, hX2, _, _, _⟩ := heap_cells hX
  have hB1 : Below W.heap.size W W := Below.refl _ _
  have x0 := hX0
  have x1 := hX1
  have x2 := hX2
  clear hX hF1 hw1
  go_wp2_with fail
  refine (lift_any _ _ _ _ _ _ _ _ _ _ (hF0.below hB1) (by omega)).mono ?_
  rintro e w2 ⟨rfl, hb2⟩
  have hB2 := bthen hB1 hb2 hB1.size
  clear hB1 hb2 x0 x1 x2
  have x0 : w2.cell? ⟨X, 0, none⟩ = some (.slice A1 n1 c1) := (hB2.cell hXW).trans hX0
  have x1 : w2.cell? ⟨X, 1, none⟩ = some (.int .i64 fu) := (hB2.cell hXW).trans hX1
  have x2 : w2.cell? ⟨X, 2, none⟩ = some (.int .i64 le) := (hB2.cell hXW).trans hX2
  go_wp2_with fail
  refine (sLift_any _ _ _ _ _ _ _ _ _ _ (hF0.below hB2) (by omega)).mono ?_
  rintro e w3 ⟨rfl, hb3⟩
  have hB3 := bthen hB2 hb3 hB2.size
  clear hB2 hb3 x0 x1 x2
  have x0 : w3.cell? ⟨X, 0, none⟩ = some (.slice A1 n1 c1) := (hB3.cell hXW).trans hX0
  have x1 : w3.cell? ⟨X, 1, none⟩ = some (.int .i64 fu) := (hB3.cell hXW).trans hX1
  have x2 : w3.cell? ⟨X, 2, none⟩ = some (.int .i64 le) := (hB3.cell hXW).trans hX2
  go_wp2_with fail
  refine (needed_any _ _ _).mono ?_
  rintro e w' ⟨rfl, rfl⟩
  go_wp2_with fail
  refine (sNeeded_any _ _ _).mono ?_
  rintro e w' ⟨rfl, rfl⟩
  by_cases t0 : liftCode n1 fs fu le q x y = 0
  · have e0 : (liftCode n1 fs fu le q x y != 0) = false := by simp [t0]
    obtain ⟨f1, f2, f3, f4, f5, f6, f7, f8, f9, f10, f11, f12, f13⟩ := lifts_ok t0
    have T0 := Lib.hid t0
    clear t0
    have g1 : (needCode x y == 0) = true := by simp [f1]
    have g2 : (fuelCode n1 fs fu le q (liftR n1 fs fu le q x y) == 0) = true := by simp [f10]
    have g3 : (fuelVal n1 fs fu le q (liftR n1 fs fu le q x y) == liftF n1 fs fu le q x y) = true := by simp [f11]
    have p1 := prod_bd (b := x) (r := ratio x y) (by omega) f6 (by omega) (by omega)
    have p2 := prod_bd (b := x) (r := ratio x y - 1) (by omega) f6 (by omega) (by omega)
    have HR := Lib.hid f2
    have HF := Lib.hid f11
    clear f1 f10 f11
    by_cases t1 : ratio x y = 1000
    · have u1 : (ratio x y == 1000) = true := by simp [t1]
      clear t1
      go_wp2_with fail
      refine (fuel_any _ _ _ _ _ _ _ _ _ (hF0.below hB3) (by omega)).mono ?_
      rintro e w4 ⟨rfl, hb4⟩
      go_wp2_with fail
      go_ret
      exact ⟨rb (by first | rfl | (simp; done) | (simp; omega)), bthen hW (bthen hB3 hb4 hB3.size) hW.size⟩
    · have u1 : (ratio x y == 1000) = false := by simp [t1]
      have u2 : (ratio x y - 1) * (ratio x y - 1) * x < 1000000 * y := f13.resolve_left t1
      clear t1 f13
      go_wp2_with fail
      refine (fuel_any _ _ _ _ _ _ _ _ _ (hF0.below hB3) (by omega)).mono ?_
      rintro e w4 ⟨rfl, hb4⟩
      go_wp2_with fail
      go_ret
      exact ⟨rb (by first | rfl | (simp; done) | (simp; omega)), bthen hW (bthen hB3 hb4 hB3.size) hW.size⟩
  · have e0 : (liftCode n1 fs fu le q x y != 0) = true := by simp [t0]
    clear t0
    go_wp2_with fail
    go_ret
    exact ⟨rfl, bthen hW hB3 hW.size⟩
end Go.Proofs.Ytgchbajhceddnaa
