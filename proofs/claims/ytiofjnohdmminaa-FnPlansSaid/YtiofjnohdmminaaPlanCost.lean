/- What PlanCost of the program and of the reference do, by walks over their text. Conditions: at most 1048576 hours. -/
import Derived.Test.YtiofjnohdmminaaCost
set_option linter.unusedVariables false
set_option maxRecDepth 100000
namespace Go.Proofs.Ytiofjnohdmminaa
open Go.RowKit Go.Joins

def costCode (s u d : Int) (n m : Nat) (zs cs : List Int) : Int :=
  if unitB s u d = false then 1 else if inB n 1 48 = false then 3 else if inB m 1 48 = false then 3 else if allB zs 0 1 = false then 2 else if allB cs (-1000000) 1000000 = false then 2 else if ((n : Int) != m) = true then 5 else 0
def costVal (s u d : Int) (n m : Nat) (zs cs : List Int) : Int := if costCode s u d n m zs cs = 0 then costTo s zs cs n else 0

set_option maxHeartbeats 2000000 in
theorem sPlanCost_any (s u d : Int) (A C : Option Addr) (n m c e : Nat) (zs cs : List Int) (w : World) (h : Ints w A n zs) (k0 : Ints w C m cs) (hn : n ≤ 1048576) (hm : m ≤ 1048576) :
    Calls Try.prog 31 #[.agg #[.int .i64 s, .int .i64 u, .int .i64 d], .slice A n c, .slice C m e] w fun e w' => e = .returned (.tuple #[.int .i64 (costVal s u d n m zs cs), .int .i64 (costCode s u d n m zs cs)]) ∧ Below w.heap.size w w' := by
  rcases (orB (orB (orB (orB (orB (orB trivial))))) : unitB s u d = false ∨ unitB s u d = true ∧ (inB n 1 48 = false ∨ inB n 1 48 = true ∧ (inB m 1 48 = false ∨ inB m 1 48 = true ∧ (allB zs 0 1 = false ∨ allB zs 0 1 = true ∧ (allB cs (-1000000) 1000000 = false ∨ allB cs (-1000000) 1000000 = true ∧ (((n : Int) != m) = false ∨ ((n : Int) != m) = true ∧ True))))))
    with h1 | ⟨h1, h2 | ⟨h2, h3 | ⟨h3, h4 | ⟨h4, h5 | ⟨h5, h6 | ⟨h6, _⟩⟩⟩⟩⟩⟩
  case inr.inr.inr.inr.inr.inl =>
    obtain rfl : n = m := by have : (n : Int) = m := by simpa using h6
                             omega
    have hu : 0 ≤ s ∧ s ≤ 1000000 := by
      have := h1
      unfold unitB at this
      simp only [Bool.and_eq_true] at this
      exact (inB_iff _ _ _).1 this.1
    have hn48 : n ≤ 48 := by have := (inB_iff _ _ _).1 h2; omega
    have HC := Lib.hid h5
    have HV := Lib.hid (show costVal s u d n n zs cs = costTo s zs cs n by simp [costVal, costCode, *])
    have HK := Lib.hid (show costCode s u d n n zs cs = 0 by simp [costCode, *])
    go_enter Try.func31, Try.ntmps31
    go_wp2_with fail
    refine (sIsUnit_any _ _ _ _).mono ?_
    rintro e w1 ⟨rfl, hb1⟩
    obtain ⟨hc1, hf1⟩ := bcell hb1
    have hz : w.heap.size < w1.heap.size := by have := hb1.size; simp at this; omega
    have hI := (h.alloc (.cells #[.int .i64 s, .int .i64 u, .int .i64 d] 25)).below hb1
    have hJ := (k0.alloc (.cells #[.int .i64 s, .int .i64 u, .int .i64 d] 25)).below hb1
    have hw1 : Below w.heap.size w w1 := bthen ((Below.refl _ _).alloc (Nat.le_refl _) _) hb1 (by simp)
    go_wp2_with (first | (go_at_call 51; refine (hours_any _ _ _ _ (by assumption)).mono ?_; rintro e w' ⟨rfl, rfl⟩) | (go_at_call 52; refine (bits_any _ _ _ _ _ hI hn).mono ?_; rintro e w' ⟨rfl, rfl⟩) | (go_at_call 59; refine (costs_any _ _ _ _ _ hJ (by assumption)).mono ?_; rintro e w' ⟨rfl, rfl⟩) | fail)
    refine (sCost_any _ _ _ _ _ _ _ _ _ _ _ hI hJ hn48 hu.1 hu.2 HC).mono ?_
    rintro e w2 ⟨rfl, hb2⟩
    go_wp2_with fail
    go_ret2
    exact ⟨ri2 HV.out.symm HK.out.symm, bthen hw1 hb2 (by omega)⟩
  all_goals
    go_enter Try.func31, Try.ntmps31
    go_wp2_with fail
    refine (sIsUnit_any _ _ _ _).mono ?_
    rintro e w1 ⟨rfl, hb1⟩
    have hI := (h.alloc (.cells #[.int .i64 s, .int .i64 u, .int .i64 d] 25)).below hb1
    have hJ := (k0.alloc (.cells #[.int .i64 s, .int .i64 u, .int .i64 d] 25)).below hb1
    have hw1 : Below w.heap.size w w1 := bthen ((Below.refl _ _).alloc (Nat.le_refl _) _) hb1 (by simp)
    go_wp2_with (first | (go_at_call 51; refine (hours_any _ _ _ _ (by assumption)).mono ?_; rintro e w' ⟨rfl, rfl⟩) | (go_at_call 52; refine (bits_any _ _ _ _ _ hI hn).mono ?_; rintro e w' ⟨rfl, rfl⟩) | (go_at_call 59; refine (costs_any _ _ _ _ _ hJ (by assumption)).mono ?_; rintro e w' ⟨rfl, rfl⟩))
    go_ret2
    exact ⟨ri2 (by first | (simp [costVal, costCode, h1, h2, h3, h4, h5, h6]; done) | (simp [costVal, costCode, h1, h2, h3, h4, h5]; done) | (simp [costVal, costCode, h1, h2, h3, h4]; done) | (simp [costVal, costCode, h1, h2, h3]; done) | (simp [costVal, costCode, h1, h2]; done) | (simp [costVal, costCode, h1]; done))
      (by first | (simp [costCode, h1, h2, h3, h4, h5, h6]; done) | (simp [costCode, h1, h2, h3, h4, h5]; done) | (simp [costCode, h1, h2, h3, h4]; done) | (simp [costCode, h1, h2, h3]; done) | (simp [costCode, h1, h2]; done) | (simp [costCode, h1]; done)), hw1⟩
set_option maxHeartbeats 2000000 in
theorem planCost_any (s u d : Int) (A C : Option Addr) (n m c e : Nat) (zs cs : List Int) (w : World) (h : Ints w A n zs) (k0 : Ints w C m cs) (hn : n ≤ 1048576) (hm : m ≤ 1048576) :
    Calls Try.prog 32 #[.agg #[.int .i64 s, .int .i64 u, .int .i64 d], .slice A n c, .slice C m e] w fun e w' => e = .returned (.tuple #[.int .i64 (costVal s u d n m zs cs), .int .i64 (costCode s u d n m zs cs)]) ∧ Below w.heap.size w w' := by
  rcases (orB (orB (orB (orB (orB (orB trivial))))) : unitB s u d = false ∨ unitB s u d = true ∧ (inB n 1 48 = false ∨ inB n 1 48 = true ∧ (inB m 1 48 = false ∨ inB m 1 48 = true ∧ (allB zs 0 1 = false ∨ allB zs 0 1 = true ∧ (allB cs (-1000000) 1000000 = false ∨ allB cs (-1000000) 1000000 = true ∧ (((n : Int) != m) = false ∨ ((n : Int) != m) = true ∧ True))))))
    with h1 | ⟨h1, h2 | ⟨h2, h3 | ⟨h3, h4 | ⟨h4, h5 | ⟨h5, h6 | ⟨h6, _⟩⟩⟩⟩⟩⟩
  case inr.inr.inr.inr.inr.inl =>
    obtain rfl : n = m := by have : (n : Int) = m := by simpa using h6
                             omega
    have hu : 0 ≤ s ∧ s ≤ 1000000 := by
      have := h1
      unfold unitB at this
      simp only [Bool.and_eq_true] at this
      exact (inB_iff _ _ _).1 this.1
    have hn48 : n ≤ 48 := by have := (inB_iff _ _ _).1 h2; omega
    have HC := Lib.hid h5
    have HV := Lib.hid (show costVal s u d n n zs cs = costTo s zs cs n by simp [costVal, costCode, *])
    have HK := Lib.hid (show costCode s u d n n zs cs = 0 by simp [costCode, *])
    go_enter Try.func32, Try.ntmps32
    go_wp2_with fail
    refine (isUnit_any _ _ _ _).mono ?_
    rintro e w1 ⟨rfl, hb1⟩
    obtain ⟨hc1, hf1⟩ := bcell hb1
    have hz : w.heap.size < w1.heap.size := by have := hb1.size; simp at this; omega
    have hI := (h.alloc (.cells #[.int .i64 s, .int .i64 u, .int .i64 d] 25)).below hb1
    have hJ := (k0.alloc (.cells #[.int .i64 s, .int .i64 u, .int .i64 d] 25)).below hb1
    have hw1 : Below w.heap.size w w1 := bthen ((Below.refl _ _).alloc (Nat.le_refl _) _) hb1 (by simp)
    go_wp2_with (first | (go_at_call 53; refine (areHours_any _ _ _ _ (by assumption)).mono ?_; rintro e w' ⟨rfl, rfl⟩) | (go_at_call 54; ((with_reducible refine (allWithin_any _ _ _ zs 0 1 _ hI hn).mono ?_)); rintro e w' ⟨rfl, rfl⟩) | (go_at_call 54; ((with_reducible refine (allWithin_any _ _ _ cs (-1000000) 1000000 _ hJ (by assumption)).mono ?_)); rintro e w' ⟨rfl, rfl⟩) | fail)
    refine (cost_any _ _ _ _ _ _ _ _ _ _ _ hI hJ hn48 hu.1 hu.2 HC).mono ?_
    rintro e w2 ⟨rfl, hb2⟩
    go_wp2_with fail
    go_ret2
    exact ⟨ri2 HV.out.symm HK.out.symm, bthen hw1 hb2 (by omega)⟩
  all_goals
    go_enter Try.func32, Try.ntmps32
    go_wp2_with fail
    refine (isUnit_any _ _ _ _).mono ?_
    rintro e w1 ⟨rfl, hb1⟩
    have hI := (h.alloc (.cells #[.int .i64 s, .int .i64 u, .int .i64 d] 25)).below hb1
    have hJ := (k0.alloc (.cells #[.int .i64 s, .int .i64 u, .int .i64 d] 25)).below hb1
    have hw1 : Below w.heap.size w w1 := bthen ((Below.refl _ _).alloc (Nat.le_refl _) _) hb1 (by simp)
    go_wp2_with (first | (go_at_call 53; refine (areHours_any _ _ _ _ (by assumption)).mono ?_; rintro e w' ⟨rfl, rfl⟩) | (go_at_call 54; ((with_reducible refine (allWithin_any _ _ _ zs 0 1 _ hI hn).mono ?_)); rintro e w' ⟨rfl, rfl⟩) | (go_at_call 54; ((with_reducible refine (allWithin_any _ _ _ cs (-1000000) 1000000 _ hJ (by assumption)).mono ?_)); rintro e w' ⟨rfl, rfl⟩))
    go_ret2
    exact ⟨ri2 (by first | (simp [costVal, costCode, h1, h2, h3, h4, h5, h6]; done) | (simp [costVal, costCode, h1, h2, h3, h4, h5]; done) | (simp [costVal, costCode, h1, h2, h3, h4]; done) | (simp [costVal, costCode, h1, h2, h3]; done) | (simp [costVal, costCode, h1, h2]; done) | (simp [costVal, costCode, h1]; done))
      (by first | (simp [costCode, h1, h2, h3, h4, h5, h6]; done) | (simp [costCode, h1, h2, h3, h4, h5]; done) | (simp [costCode, h1, h2, h3, h4]; done) | (simp [costCode, h1, h2, h3]; done) | (simp [costCode, h1, h2]; done) | (simp [costCode, h1]; done)), hw1⟩
end Go.Proofs.Ytiofjnohdmminaa
