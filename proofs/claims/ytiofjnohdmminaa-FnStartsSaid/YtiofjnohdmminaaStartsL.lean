/- The walk of the law FnStarts. No condition. -/
import Derived.Test.YtiofjnohdmminaaBig
import Derived.Test.YtiofjnohdmminaaUDraw3
import Derived.Test.YtiofjnohdmminaaPlanCost
import Derived.Test.YtiofjnohdmminaaRules
import Derived.Test.YtiofjnohdmminaaUnit
set_option linter.unusedVariables false
set_option maxRecDepth 100000
namespace Go.Proofs.Ytiofjnohdmminaa
open Go.RowKit Go.Joins Go.Deep
attribute [local go_sem ↓] Go.wp_at_zero Go.wp_at_succ

theorem brk_ge (zs : List Int) (u d : Int) : ∀ f a i, -1 ≤ brk zs u d f a i
  | 0, _, _ => by simp [brk]
  | f + 1, a, i => by
    rw [brk]
    split
    · exact brk_ge zs u d f _ _
    · split
      · omega
      · exact brk_ge zs u d f _ _
theorem keeps_first {s u d : Int} {zs : List Int} (h : planCode s u d zs.length zs = 0) : keepsB s u d zs = (firstB s u d zs == -1) := by
  have := brk_ge zs u d (zs.length - 1) 0 0
  simp only [keepsB, firstB, h, beq_self_eq_true, Bool.true_and, if_true]
  rw [Bool.eq_iff_iff]
  simp
  omega
theorem getD_rep (m k : Nat) : (List.replicate m (0 : Int)).getD k 0 = 0 := by
  rw [List.getD_eq_getElem?_getD, List.getElem?_replicate]
  split <;> rfl
theorem cost_starts {s : Int} {zs : List Int} (m : Nat) : ∀ k, k ≤ zs.length → costTo s zs (List.replicate m 0) k = s * ((startsTo zs k).length : Int)
  | 0, _ => by simp [costTo, startsTo]
  | k + 1, hk => by
    have ih := cost_starts (s := s) (zs := zs) m k (by omega)
    have e1 : zs[k]? = some zs[k] := List.getElem?_eq_getElem (by omega)
    have e2 : zs.getD k 0 = zs[k] := by rw [List.getD_eq_getElem?_getD, e1]; rfl
    rw [costTo, startsTo, ih, getD_rep, e1, e2, List.length_append]
    by_cases c1 : zs[k] = 1
    · by_cases c0 : k = 0
      · subst c0
        simp [c1, Int.mul_add]
      · have e3 : zs[k - 1]? = some zs[k - 1] := List.getElem?_eq_getElem (by omega)
        have e4 : zs.getD (k - 1) 0 = zs[k - 1] := by rw [List.getD_eq_getElem?_getD, e3]; rfl
        rw [e3, e4]
        by_cases c2 : zs[k - 1] = 0
        · simp [c0, c1, c2, Int.mul_add]
        · simp [c0, c1, c2]
    · simp [c1]
theorem zero_all (m : Nat) : allB (List.replicate m 0) (-1000000) 1000000 = true := by
  unfold allB
  rw [List.all_eq_true]
  intro x hx
  rw [(List.mem_replicate.1 hx).2]
  rfl
theorem starts_cost {s u d : Int} {S T : List Int} (h : costCode s u d S.length T.length S T = 0) :
    startsCode S = 0 ∧ unitB s u d = true ∧ costCode s u d S.length T.length S (List.replicate T.length 0) = 0 ∧ costVal s u d S.length T.length S (List.replicate T.length 0) = s * ((startsOf S).length : Int) ∧ 0 ≤ s ∧ s ≤ 1000000 ∧ (startsOf S).length ≤ 48 := by
  unfold costCode at h
  cases h1 : unitB s u d
  · simp [h1] at h
  cases h2 : inB (S.length : Int) 1 48
  · simp [h1, h2] at h
  cases h3 : inB (T.length : Int) 1 48
  · simp [h1, h2, h3] at h
  cases h4 : allB S 0 1
  · simp [h1, h2, h3, h4] at h
  cases h5 : allB T (-1000000) 1000000
  · simp [h1, h2, h3, h4, h5] at h
  cases h6 : ((S.length : Int) != T.length)
  case true => simp [h1, h2, h3, h4, h5, h6] at h
  have hs : startsCode S = 0 := by simp [startsCode, h2, h4]
  have hc : costCode s u d S.length T.length S (List.replicate T.length 0) = 0 := by simp [costCode, h1, h2, h3, h4, h6, zero_all]
  have hu : 0 ≤ s ∧ s ≤ 1000000 := by
    simp only [unitB, Bool.and_eq_true, inB_iff] at h1
    exact h1.1
  have hl : (startsOf S).length ≤ 48 := by
    have a1 := startsTo_le S S.length
    have a2 := (inB_iff _ _ _).1 h2
    simp only [startsOf, hs, if_true]
    omega
  refine ⟨hs, rfl, hc, ?_, hu.1, hu.2, hl⟩
  simp only [costVal, hc, if_true, startsOf, hs]
  exact cost_starts _ _ (Nat.le_refl _)
set_option maxHeartbeats 8000000 in
theorem law_FnStarts (A : Option Addr) (n c : Nat) (zs : List Int) (w : World) (h0 : Byts w A n zs ∧ n ≤ c ∧ c ≤ maxLen) :
    Calls Try.prog 12 #[.slice A n c] w fun e w' => e = .returned (.bool true) ∧ Below w.heap.size w w' := by
  obtain ⟨h, hnc, hcm⟩ := h0
  unfold maxLen at hcm
  by_cases hbig : 4096 < n
  · have hg := fun W => big_any A n c W (by omega)
    simp only [hbig, decide_true] at hg
    have HG := Lib.hid hg
    clear hg
    go_enter Try.func12, Try.ntmps12
    go_wp2_with (go_at_call 39; refine (HG.out _).mono ?_; rintro e w' ⟨rfl, rfl⟩)
    go_ret
    exact ⟨rfl, Below.refl _ _⟩
  have hg := fun W => big_any A n c W (by omega)
  simp only [hbig, decide_false] at hg
  have HG := Lib.hid hg
  have hn : n ≤ 4096 := by omega
  clear hg hbig
  go_enter Try.func12, Try.ntmps12
  go_wp2_with (go_at_call 39; refine (HG.out _).mono ?_; rintro e w' ⟨rfl, rfl⟩)
  refine (drawPlanCost_any _ _ _ _ _ h hn).mono ?_
  rintro e w1 ⟨s, u, d, A2, A3, c2, c3, S, T, rfl, is, iu, id, oS1, oT1, hS, hT, hw1⟩
  go_wp2_with fail
  have hX : (w1.alloc (.cells #[.int .i64 s, .int .i64 u, .int .i64 d] 25)).heap[w1.heap.size]? = some (.cells #[.int .i64 s, .int .i64 u, .int .i64 d] 25 (0, 0)) := heap_alloc_new _ _
  have oS := oS1.alloc (.cells #[.int .i64 s, .int .i64 u, .int .i64 d] 25)
  have oT := oT1.alloc (.cells #[.int .i64 s, .int .i64 u, .int .i64 d] 25)
  have hy0 := (h.below hw1).below ((Below.refl w1.heap.size w1).alloc (Nat.le_refl _) (.cells #[.int .i64 s, .int .i64 u, .int .i64 d] 25))
  have hW := hw1.alloc hw1.size (.cells #[.int .i64 s, .int .i64 u, .int .i64 d] 25)
  have hXW : w1.heap.size < (w1.alloc (.cells #[.int .i64 s, .int .i64 u, .int .i64 d] 25)).heap.size := by simp
  generalize w1.alloc (.cells #[.int .i64 s, .int .i64 u, .int .i64 d] 25) = W at *
  generalize w1.heap.size = X at *
  obtain ⟨hX0, hX1, hX2, _, _, _⟩ := heap_cells hX
  have hB1 : Below W.heap.size W W := Below.refl _ _
  have x0 := hX0
  have x1 := hX1
  have x2 := hX2
  have iS := oS.ints
  have iT := oT.ints
  clear hX oS1 oT1 oS oT hw1
  go_wp2_with fail
  refine (planCost_any _ _ _ _ _ _ _ _ _ _ _ _ (iS.below hB1) (iT.below hB1) (by omega) (by omega)).mono ?_
  rintro e w2 ⟨rfl, hb2⟩
  have hB2 := bthen hB1 hb2 hB1.size
  clear hB1 hb2 x0 x1 x2
  have x0 : w2.cell? ⟨X, 0, none⟩ = some (.int .i64 s) := (hB2.cell hXW).trans hX0
  have x1 : w2.cell? ⟨X, 1, none⟩ = some (.int .i64 u) := (hB2.cell hXW).trans hX1
  have x2 : w2.cell? ⟨X, 2, none⟩ = some (.int .i64 d) := (hB2.cell hXW).trans hX2
  go_wp2_with fail
  refine (sPlanCost_any _ _ _ _ _ _ _ _ _ _ _ _ (iS.below hB2) (iT.below hB2) (by omega) (by omega)).mono ?_
  rintro e w3 ⟨rfl, hb3⟩
  have hB3 := bthen hB2 hb3 hB2.size
  clear hB2 hb3 x0 x1 x2
  have x0 : w3.cell? ⟨X, 0, none⟩ = some (.int .i64 s) := (hB3.cell hXW).trans hX0
  have x1 : w3.cell? ⟨X, 1, none⟩ = some (.int .i64 u) := (hB3.cell hXW).trans hX1
  have x2 : w3.cell? ⟨X, 2, none⟩ = some (.int .i64 d) := (hB3.cell hXW).trans hX2
  go_wp2_with fail
  refine (firstBroken_any _ _ _ _ _ _ _ (iS.below hB3) (by omega)).mono ?_
  rintro e w4 ⟨rfl, hb4⟩
  have hB4 := bthen hB3 hb4 hB3.size
  clear hB3 hb4 x0 x1 x2
  have x0 : w4.cell? ⟨X, 0, none⟩ = some (.int .i64 s) := (hB4.cell hXW).trans hX0
  have x1 : w4.cell? ⟨X, 1, none⟩ = some (.int .i64 u) := (hB4.cell hXW).trans hX1
  have x2 : w4.cell? ⟨X, 2, none⟩ = some (.int .i64 d) := (hB4.cell hXW).trans hX2
  go_wp2_with fail
  refine (sFirstBroken_any _ _ _ _ _ _ _ (iS.below hB4) (by omega)).mono ?_
  rintro e w5 ⟨rfl, hb5⟩
  have hB5 := bthen hB4 hb5 hB4.size
  clear hB4 hb5 x0 x1 x2
  have x0 : w5.cell? ⟨X, 0, none⟩ = some (.int .i64 s) := (hB5.cell hXW).trans hX0
  have x1 : w5.cell? ⟨X, 1, none⟩ = some (.int .i64 u) := (hB5.cell hXW).trans hX1
  have x2 : w5.cell? ⟨X, 2, none⟩ = some (.int .i64 d) := (hB5.cell hXW).trans hX2
  have hk : (planCode s u d S.length S == 0) = false ∨ (planCode s u d S.length S == 0) = true ∧ keepsB s u d S = (firstB s u d S == -1) := by
    cases t : (planCode s u d S.length S == 0)
    · exact .inl rfl
    · exact .inr ⟨rfl, keeps_first (by simpa using t)⟩
  have rest : ∀ w6, Below W.heap.size W w6 → True := fun _ _ => trivial
  clear rest
  rcases hk with hk | ⟨hk, hk2⟩
  · go_wp2_with fail
    refine (starts_any _ _ _ _ (iS.below hB5) (by omega)).mono ?_
    rintro e w7 ⟨A7, c7, rfl, o7, hb7⟩
    have hB7 := bthen hB5 hb7 hB5.size
    clear hB5 hb7 x0 x1 x2 o7
    have x0 : w7.cell? ⟨X, 0, none⟩ = some (.int .i64 s) := (hB7.cell hXW).trans hX0
    have x1 : w7.cell? ⟨X, 1, none⟩ = some (.int .i64 u) := (hB7.cell hXW).trans hX1
    have x2 : w7.cell? ⟨X, 2, none⟩ = some (.int .i64 d) := (hB7.cell hXW).trans hX2
    by_cases t0 : costCode s u d S.length T.length S T = 0
    case neg =>
      have e0 : (costCode s u d S.length T.length S T != 0) = true := by simp [t0]
      clear t0
      go_wp2_with fail
      go_ret
      exact ⟨rfl, bthen hW hB7 hW.size⟩
    have e0 : (costCode s u d S.length T.length S T != 0) = false := by simp [t0]
    obtain ⟨f1, f2, f3, f4, f5, f6, f7⟩ := starts_cost t0
    have g1 : (startsCode S == 0) = true := by simp [f1]
    have g3 : (costCode s u d S.length T.length S (List.replicate T.length 0) == 0) = true := by simp [f3]
    have HF := Lib.hid f4
    have hmul : 0 ≤ s * ((startsOf S).length : Int) ∧ s * ((startsOf S).length : Int) ≤ 48000000 := by
      have a1 : s * ((startsOf S).length : Int) ≤ 1000000 * 48 := Int.mul_le_mul f6 (by omega) (by omega) (by omega)
      exact ⟨Int.mul_nonneg f5 (by omega), by omega⟩
    clear t0 f1 f3 f4
    have hX7 : X < w7.heap.size := Nat.lt_of_lt_of_le hXW hB7.size
    have hmk := fun W => run_make_row' (P := Try.prog) 36 2 (.int .i64 0) 8 Try.underlying36 info_i64 rfl .i64 .i64 T.length (by omega) (by omega) W
    go_wp2_with fail
    clear hmk
    have hb8 : Below w7.heap.size w7 (w7.alloc (.cells (madeCells #[.int .i64 0] T.length) 2)) := (Below.refl _ _).alloc (Nat.le_refl _) _
    have hB8 := bthen hB7 hb8 hB7.size
    refine (planCost_any _ _ _ _ _ _ _ _ _ _ _ _ (iS.below hB8) (own_zeros w7 T.length (by omega)).ints (by omega) (by omega)).mono ?_
    rintro e w9 ⟨rfl, hb9⟩
    have hB9 := bthen hB8 hb9 hB8.size
    clear hB7 hB8 hb8 hb9 x0 x1 x2
    have x0 : w9.cell? ⟨X, 0, none⟩ = some (.int .i64 s) := (hB9.cell hXW).trans hX0
    have x1 : w9.cell? ⟨X, 1, none⟩ = some (.int .i64 u) := (hB9.cell hXW).trans hX1
    have x2 : w9.cell? ⟨X, 2, none⟩ = some (.int .i64 d) := (hB9.cell hXW).trans hX2
    rw [HF.out]
    go_wp2_with fail
    refine (isUnit_any _ _ _ _).mono ?_
    rintro e w10 ⟨rfl, hb10⟩
    go_wp2_with fail
    go_ret
    exact ⟨rb (by first | rfl | (simp; done) | (simp [f2]; done)), bthen hW (bthen hB9 hb10 hB9.size) hW.size⟩
  · go_wp2_with fail
    refine (keepsRules_any _ _ _ _ _ _ _ (iS.below hB5) (by omega)).mono ?_
    rintro e w6 ⟨rfl, hb6⟩
    have hB6 := bthen hB5 hb6 hB5.size
    clear hB5 hb6 x0 x1 x2
    have x0 : w6.cell? ⟨X, 0, none⟩ = some (.int .i64 s) := (hB6.cell hXW).trans hX0
    have x1 : w6.cell? ⟨X, 1, none⟩ = some (.int .i64 u) := (hB6.cell hXW).trans hX1
    have x2 : w6.cell? ⟨X, 2, none⟩ = some (.int .i64 d) := (hB6.cell hXW).trans hX2
    rw [hk2]
    clear hk2
    go_wp2_with fail
    refine (starts_any _ _ _ _ (iS.below hB6) (by omega)).mono ?_
    rintro e w7 ⟨A7, c7, rfl, o7, hb7⟩
    have hB7 := bthen hB6 hb7 hB6.size
    clear hB6 hb7 x0 x1 x2 o7
    have x0 : w7.cell? ⟨X, 0, none⟩ = some (.int .i64 s) := (hB7.cell hXW).trans hX0
    have x1 : w7.cell? ⟨X, 1, none⟩ = some (.int .i64 u) := (hB7.cell hXW).trans hX1
    have x2 : w7.cell? ⟨X, 2, none⟩ = some (.int .i64 d) := (hB7.cell hXW).trans hX2
    by_cases t0 : costCode s u d S.length T.length S T = 0
    case neg =>
      have e0 : (costCode s u d S.length T.length S T != 0) = true := by simp [t0]
      clear t0
      go_wp2_with fail
      go_ret
      exact ⟨rfl, bthen hW hB7 hW.size⟩
    have e0 : (costCode s u d S.length T.length S T != 0) = false := by simp [t0]
    obtain ⟨f1, f2, f3, f4, f5, f6, f7⟩ := starts_cost t0
    have g1 : (startsCode S == 0) = true := by simp [f1]
    have g3 : (costCode s u d S.length T.length S (List.replicate T.length 0) == 0) = true := by simp [f3]
    have HF := Lib.hid f4
    have hmul : 0 ≤ s * ((startsOf S).length : Int) ∧ s * ((startsOf S).length : Int) ≤ 48000000 := by
      have a1 : s * ((startsOf S).length : Int) ≤ 1000000 * 48 := Int.mul_le_mul f6 (by omega) (by omega) (by omega)
      exact ⟨Int.mul_nonneg f5 (by omega), by omega⟩
    clear t0 f1 f3 f4
    have hX7 : X < w7.heap.size := Nat.lt_of_lt_of_le hXW hB7.size
    have hmk := fun W => run_make_row' (P := Try.prog) 36 2 (.int .i64 0) 8 Try.underlying36 info_i64 rfl .i64 .i64 T.length (by omega) (by omega) W
    go_wp2_with fail
    clear hmk
    have hb8 : Below w7.heap.size w7 (w7.alloc (.cells (madeCells #[.int .i64 0] T.length) 2)) := (Below.refl _ _).alloc (Nat.le_refl _) _
    have hB8 := bthen hB7 hb8 hB7.size
    refine (planCost_any _ _ _ _ _ _ _ _ _ _ _ _ (iS.below hB8) (own_zeros w7 T.length (by omega)).ints (by omega) (by omega)).mono ?_
    rintro e w9 ⟨rfl, hb9⟩
    have hB9 := bthen hB8 hb9 hB8.size
    clear hB7 hB8 hb8 hb9 x0 x1 x2
    have x0 : w9.cell? ⟨X, 0, none⟩ = some (.int .i64 s) := (hB9.cell hXW).trans hX0
    have x1 : w9.cell? ⟨X, 1, none⟩ = some (.int .i64 u) := (hB9.cell hXW).trans hX1
    have x2 : w9.cell? ⟨X, 2, none⟩ = some (.int .i64 d) := (hB9.cell hXW).trans hX2
    rw [HF.out]
    go_wp2_with fail
    refine (isUnit_any _ _ _ _).mono ?_
    rintro e w10 ⟨rfl, hb10⟩
    go_wp2_with fail
    go_ret
    exact ⟨rb (by first | rfl | (simp; done) | (simp [f2]; done)), bthen hW (bthen hB9 hb10 hB9.size) hW.size⟩
end Go.Proofs.Ytiofjnohdmminaa
