/- The walk of the law FnTightFaces. No condition. -/
import Derived.Test.YtgchbajhceddnaaTDraw
import Derived.Test.YtgchbajhceddnaaTight
import Derived.Test.YtgchbajhceddnaaPoss
import Derived.Test.YtgchbajhceddnaaIntWalks
set_option linter.unusedVariables false
set_option maxRecDepth 100000
namespace Go.Proofs.Ytgchbajhceddnaa
open Go.RowKit Go.Joins Go.Deep
attribute [local go_sem ↓] Go.wp_at_zero Go.wp_at_succ

theorem tight_mem {fs : List Fc} {q r : Int} : ∀ (k : Nat), tightTo fs q r k ≠ [] → ∃ (i : Nat) (f : Fc), fs[i]? = some f ∧ f.p * q + f.q * r = f.r
  | 0, h => absurd rfl h
  | k + 1, h => by
    by_cases h0 : tightTo fs q r k = []
    · rw [tightTo, h0] at h
      cases hk : fs[k]? with
      | none => rw [hk] at h; exact absurd rfl h
      | some f =>
        rw [hk] at h
        by_cases ht : f.p * q + f.q * r = f.r
        · exact ⟨k, f, hk, ht⟩
        · simp [ht] at h
    · exact tight_mem k h0
theorem tight_out {n : Nat} {fs : List Fc} {fu le q r : Int} (hc : pointCode n fs fu le q r = 0) (ht : tightOf n fs fu le q r ≠ []) :
    possR n fs fu le (q - 1) r = false ∨ possR n fs fu le (q + 1) r = false ∨ possR n fs fu le q (r - 1) = false ∨ possR n fs fu le q (r + 1) = false := by
  simp only [tightOf, hc, if_true] at ht
  obtain ⟨i, f, hf, he⟩ := tight_mem _ ht
  obtain ⟨p1, _⟩ := pointCode_ok hc
  have hv : faceB f = true := by
    simp only [compB, Bool.and_eq_true] at p1
    exact List.all_eq_true.1 p1.2.2.2 f (List.mem_of_getElem? hf)
  have hnz : ¬ (f.p = 0 ∧ f.q = 0) := by
    simp only [faceB, Bool.and_eq_true] at hv
    have := hv.2.2.1
    simp at this
    omega
  have no : ∀ a b : Int, ¬ f.p * a + f.q * b ≤ f.r → possR n fs fu le a b = false := by
    intro a b h
    have := poss_no (le := le) hf h
    simp [possR, this]
  have e1 : f.p * (q - 1) = f.p * q - f.p := by rw [Int.mul_sub, Int.mul_one]
  have e2 : f.p * (q + 1) = f.p * q + f.p := by rw [Int.mul_add, Int.mul_one]
  have e3 : f.q * (r - 1) = f.q * r - f.q := by rw [Int.mul_sub, Int.mul_one]
  have e4 : f.q * (r + 1) = f.q * r + f.q := by rw [Int.mul_add, Int.mul_one]
  by_cases c1 : f.p < 0
  · exact .inl (no _ _ (by omega))
  · by_cases c2 : 0 < f.p
    · exact .inr (.inl (no _ _ (by omega)))
    · by_cases c3 : f.q < 0
      · exact .inr (.inr (.inl (no _ _ (by omega))))
      · exact .inr (.inr (.inr (no _ _ (by omega))))
set_option maxHeartbeats 8000000 in
theorem law_FnTightFaces (A : Option Addr) (n c : Nat) (zs : List Int) (w : World) (h0 : Byts w A n zs ∧ n ≤ c ∧ c ≤ maxLen) :
    Calls Try.prog 12 #[.slice A n c] w fun e w' => e = .returned (.bool true) ∧ Below w.heap.size w w' := by
  obtain ⟨h, hnc, hcm⟩ := h0
  unfold maxLen at hcm
  by_cases hbig : 4096 < n
  · have hg := fun W => big_any A n c W (by omega)
    simp only [hbig, decide_true] at hg
    have HG := Lib.hid hg
    clear hg
    go_enter Try.func12, Try.ntmps12
    go_wp2_with (go_at_call 36; refine (HG.out _).mono ?_; rintro e w' ⟨rfl, rfl⟩)
    go_ret
    exact ⟨rfl, Below.refl _ _⟩
  have hg := fun W => big_any A n c W (by omega)
  simp only [hbig, decide_false] at hg
  have HG := Lib.hid hg
  have hn : n ≤ 4096 := by omega
  clear hg hbig
  go_enter Try.func12, Try.ntmps12
  go_wp2_with (go_at_call 36; refine (HG.out _).mono ?_; rintro e w' ⟨rfl, rfl⟩)
  refine (drawTight_any _ _ _ _ _ h hn).mono ?_
  rintro e w1 ⟨A1, n1, c1, fs, fu, le, q, r, rfl, hF1, hn1, hfu, hle, hx0, hx1, hw1⟩
  go_wp2_with fail
  have hX : (w1.alloc (.cells #[.slice A1 n1 c1, .int .i64 fu, .int .i64 le] 32)).heap[w1.heap.size]? = some (.cells #[.slice A1 n1 c1, .int .i64 fu, .int .i64 le] 32 (0, 0)) := heap_alloc_new _ _
  have hF0 := hF1.alloc (.cells #[.slice A1 n1 c1, .int .i64 fu, .int .i64 le] 32)
  have hy0 := (h.below hw1).below ((Below.refl w1.heap.size w1).alloc (Nat.le_refl _) (.cells #[.slice A1 n1 c1, .int .i64 fu, .int .i64 le] 32))
  have hW := hw1.alloc hw1.size (.cells #[.slice A1 n1 c1, .int .i64 fu, .int .i64 le] 32)
  have hXW : w1.heap.size < (w1.alloc (.cells #[.slice A1 n1 c1, .int .i64 fu, .int .i64 le] 32)).heap.size := by simp
  generalize w1.alloc (.cells #[.slice A1 n1 c1, .int .i64 fu, .int .i64 le] 32) = W at *
  generalize w1.heap.size = X at *
  obtain ⟨hX0, hX1, hX2, _, _, _⟩ := heap_cells hX
  have hB1 : Below W.heap.size W W := Below.refl _ _
  have x0 := hX0
  have x1 := hX1
  have x2 := hX2
  clear hX hF1 hw1
  have hTl : (tightOf n1 fs fu le q r).length ≤ 1048576 := by
    have h1 := hF0.len
    have h2 := tightTo_le fs q r fs.length
    unfold tightOf
    split
    · omega
    · simp
  go_wp2_with fail
  refine (tight_any _ _ _ _ _ _ _ _ _ (hF0.below hB1) (by omega)).mono ?_
  rintro e w2 ⟨A2, c2, rfl, ho2, hb2⟩
  have hB2 := bthen hB1 hb2 hB1.size
  clear hB1 x0 x1 x2
  have x0 : w2.cell? ⟨X, 0, none⟩ = some (.slice A1 n1 c1) := (hB2.cell hXW).trans hX0
  have x1 : w2.cell? ⟨X, 1, none⟩ = some (.int .i64 fu) := (hB2.cell hXW).trans hX1
  have x2 : w2.cell? ⟨X, 2, none⟩ = some (.int .i64 le) := (hB2.cell hXW).trans hX2
  go_wp2_with fail
  refine (sTight_any _ _ _ _ _ _ _ _ _ (hF0.below hB2) (by omega)).mono ?_
  rintro e w3 ⟨A3, c3, rfl, ho3, hb3⟩
  have hB3 := bthen hB2 hb3 hB2.size
  clear hB2 x0 x1 x2
  have x0 : w3.cell? ⟨X, 0, none⟩ = some (.slice A1 n1 c1) := (hB3.cell hXW).trans hX0
  have x1 : w3.cell? ⟨X, 1, none⟩ = some (.int .i64 fu) := (hB3.cell hXW).trans hX1
  have x2 : w3.cell? ⟨X, 2, none⟩ = some (.int .i64 le) := (hB3.cell hXW).trans hX2
  have ho2' := ho2.below hb3
  clear hb2 hb3
  go_wp2_with fail
  refine (likeInts_any _ _ _ _ _ _ _ _ _ ho2'.ints ho3.ints hTl).mono ?_
  rintro e w4 ⟨rfl, hq4⟩
  have hB4 := bthen hB3 (hq4.below _) hB3.size
  clear hB3 hq4 x0 x1 x2 ho2 ho2' ho3
  have x0 : w4.cell? ⟨X, 0, none⟩ = some (.slice A1 n1 c1) := (hB4.cell hXW).trans hX0
  have x1 : w4.cell? ⟨X, 1, none⟩ = some (.int .i64 fu) := (hB4.cell hXW).trans hX1
  have x2 : w4.cell? ⟨X, 2, none⟩ = some (.int .i64 le) := (hB4.cell hXW).trans hX2
  go_wp2_with fail
  refine (fuel_any _ _ _ _ _ _ _ _ _ (hF0.below hB4) (by omega)).mono ?_
  rintro e w5 ⟨rfl, hb5⟩
  have hB5 := bthen hB4 hb5 hB4.size
  clear hB4 hb5 x0 x1 x2
  have x0 : w5.cell? ⟨X, 0, none⟩ = some (.slice A1 n1 c1) := (hB5.cell hXW).trans hX0
  have x1 : w5.cell? ⟨X, 1, none⟩ = some (.int .i64 fu) := (hB5.cell hXW).trans hX1
  have x2 : w5.cell? ⟨X, 2, none⟩ = some (.int .i64 le) := (hB5.cell hXW).trans hX2
  go_wp2_with fail
  refine (sFuelFor_any _ _ _ _ _ _ _ _ _ (hF0.below hB5) (by omega)).mono ?_
  rintro e w6 ⟨rfl, hb6⟩
  have hB6 := bthen hB5 hb6 hB5.size
  clear hB5 hb6 x0 x1 x2
  have x0 : w6.cell? ⟨X, 0, none⟩ = some (.slice A1 n1 c1) := (hB6.cell hXW).trans hX0
  have x1 : w6.cell? ⟨X, 1, none⟩ = some (.int .i64 fu) := (hB6.cell hXW).trans hX1
  have x2 : w6.cell? ⟨X, 2, none⟩ = some (.int .i64 le) := (hB6.cell hXW).trans hX2
  have hz6 : W.heap.size ≤ w6.heap.size := hB6.size
  by_cases c0 : pointCode n1 fs fu le q r = 0
  case neg =>
    have d0 : (pointCode n1 fs fu le q r != 0) = true := by simp [c0]
    clear c0
    go_wp2_with fail
    go_ret
    exact ⟨rfl, bthen hW hB6 hW.size⟩
  have d0 : (pointCode n1 fs fu le q r != 0) = false := by simp [c0]
  by_cases c1 : (tightOf n1 fs fu le q r).length = 0
  case pos =>
    have d1 : (((tightOf n1 fs fu le q r).length : Int) == 0) = true := by simp [c1]
    clear c0 c1
    go_wp2_with fail
    go_ret
    exact ⟨rfl, bthen hW hB6 hW.size⟩
  have d1 : (((tightOf n1 fs fu le q r).length : Int) == 0) = false := by simp; intro h; rw [h] at c1; exact c1 rfl
  have hout := Lib.hid (tight_out c0 (fun h => c1 (by rw [h]; rfl)))
  clear c0 c1
  by_cases c2 : q < 1
  · go_wp2_with fail
    go_ret
    exact ⟨rfl, bthen hW hB6 hW.size⟩
  by_cases c3 : 30000 ≤ q
  · go_wp2_with fail
    go_ret
    exact ⟨rfl, bthen hW hB6 hW.size⟩
  by_cases c4 : r ≤ 1000
  · go_wp2_with fail
    go_ret
    exact ⟨rfl, bthen hW hB6 hW.size⟩
  by_cases c5 : 3000 ≤ r
  · go_wp2_with fail
    go_ret
    exact ⟨rfl, bthen hW hB6 hW.size⟩
  go_wp2_with fail
  refine (poss_any _ _ _ _ _ _ _ _ _ (hF0.below hB6) (by omega)).mono ?_
  rintro e w7 ⟨rfl, hb7⟩
  have hB7 := bthen hB6 hb7 hB6.size
  clear hb7 x0 x1 x2
  have x0 : w7.cell? ⟨X, 0, none⟩ = some (.slice A1 n1 c1) := (hB7.cell hXW).trans hX0
  have x1 : w7.cell? ⟨X, 1, none⟩ = some (.int .i64 fu) := (hB7.cell hXW).trans hX1
  have x2 : w7.cell? ⟨X, 2, none⟩ = some (.int .i64 le) := (hB7.cell hXW).trans hX2
  cases p7 : possR n1 fs fu le (q - 1) (r)
  · go_wp2_with fail
    go_ret
    exact ⟨rfl, bthen hW hB7 hW.size⟩
  go_wp2_with fail
  refine (poss_any _ _ _ _ _ _ _ _ _ (hF0.below hB7) (by omega)).mono ?_
  rintro e w8 ⟨rfl, hb8⟩
  have hB8 := bthen hB7 hb8 hB7.size
  clear hb8 x0 x1 x2
  have x0 : w8.cell? ⟨X, 0, none⟩ = some (.slice A1 n1 c1) := (hB8.cell hXW).trans hX0
  have x1 : w8.cell? ⟨X, 1, none⟩ = some (.int .i64 fu) := (hB8.cell hXW).trans hX1
  have x2 : w8.cell? ⟨X, 2, none⟩ = some (.int .i64 le) := (hB8.cell hXW).trans hX2
  cases p8 : possR n1 fs fu le (q + 1) (r)
  · go_wp2_with fail
    go_ret
    exact ⟨rfl, bthen hW hB8 hW.size⟩
  go_wp2_with fail
  refine (poss_any _ _ _ _ _ _ _ _ _ (hF0.below hB8) (by omega)).mono ?_
  rintro e w9 ⟨rfl, hb9⟩
  have hB9 := bthen hB8 hb9 hB8.size
  clear hb9 x0 x1 x2
  have x0 : w9.cell? ⟨X, 0, none⟩ = some (.slice A1 n1 c1) := (hB9.cell hXW).trans hX0
  have x1 : w9.cell? ⟨X, 1, none⟩ = some (.int .i64 fu) := (hB9.cell hXW).trans hX1
  have x2 : w9.cell? ⟨X, 2, none⟩ = some (.int .i64 le) := (hB9.cell hXW).trans hX2
  cases p9 : possR n1 fs fu le (q) (r - 1)
  · go_wp2_with fail
    go_ret
    exact ⟨rfl, bthen hW hB9 hW.size⟩
  have p10 : possR n1 fs fu le q (r + 1) = false := by
    rcases hout.out with h | h | h | h
    · rw [p7] at h; cases h
    · rw [p8] at h; cases h
    · rw [p9] at h; cases h
    · exact h
  go_wp2_with fail
  refine (poss_any _ _ _ _ _ _ _ _ _ (hF0.below hB9) (by omega)).mono ?_
  rintro e w10 ⟨rfl, hb10⟩
  go_wp2_with fail
  go_ret
  exact ⟨rfl, bthen hW (bthen hB9 hb10 hB9.size) hW.size⟩
end Go.Proofs.Ytgchbajhceddnaa
