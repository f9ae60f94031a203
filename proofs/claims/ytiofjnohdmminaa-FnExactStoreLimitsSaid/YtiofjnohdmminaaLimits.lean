/- What StoreLimits of the program and of the reference and the law on it do, by walks over their text. No condition but that the arguments are integers of their kind. -/
import Derived.Test.YtiofjnohdmminaaStore
set_option linter.unusedVariables false
namespace Go.Proofs.Ytiofjnohdmminaa
open Go.RowKit Go.Joins
attribute [local go_sem ↓] Go.wp_at_zero Go.wp_at_succ

/-- The limit of a direction: a rate, the room, and the whole room. -/
def lim (r q m : Int) : Int := if (r * q + m - 1) / m < q then (r * q + m - 1) / m else q
theorem lim_eq (r q m : Int) : (if q < (r * q + m - 1) / m then q else (r * q + m - 1) / m) = lim r q m := by
  unfold lim; split <;> split <;> omega
theorem mul_bd {r q : Int} (h1 : 0 ≤ r) (h2 : r ≤ 30000) (h3 : 0 ≤ q) (h4 : q ≤ 1000000000) : 0 ≤ r * q ∧ r * q ≤ 30000000000000 :=
  ⟨Int.mul_nonneg h1 h3, by have := Int.mul_le_mul h2 h4 h3 (by omega : (0:Int) ≤ 30000); omega⟩
theorem store_bd {l h n i o : Int} (hs : storeB l h n i o = true) : 0 ≤ l ∧ l < h ∧ h ≤ 1000000000 ∧ l ≤ n ∧ n ≤ h ∧ 0 ≤ i ∧ i ≤ 30000 ∧ 0 ≤ o ∧ o ≤ 30000 := by
  simp only [storeB, Bool.and_eq_true, decide_eq_true_eq, inB_iff] at hs
  omega

theorem limit_any (r q m : Int) (w : World) (h1 : 0 ≤ r) (h2 : r ≤ 30000) (h3 : 0 ≤ q) (h4 : q ≤ 1000000000) (h5 : 1 ≤ m) (h6 : m ≤ 1000000000) :
    Calls Try.prog 69 #[.int .i64 r, .int .i64 q, .int .i64 m] w fun e w' => e = .returned (.int .i64 (lim r q m)) ∧ w = w' := by
  obtain ⟨b1, b2⟩ := mul_bd h1 h2 h3 h4
  go_enter Try.func69, Try.ntmps69
  go_wp2
  all_goals
    go_ret
    exact ⟨ri (by unfold lim; split <;> omega), rfl⟩
theorem in_limit (l h n i o : Int) (w : World) (hs : storeB l h n i o = true) :
    Calls Try.prog 48 #[.agg #[.int .i64 l, .int .i64 h, .int .i64 n, .int .i64 i, .int .i64 o]] w fun e w' => e = .returned (.int .i64 (lim i (h - n) (h - l))) ∧ Below w.heap.size w w' := by
  have hb := store_bd hs
  clear hs
  go_enter Try.func48, Try.ntmps48
  go_wp2_with (go_at_call 69; refine (limit_any _ _ _ _ (by omega) (by omega) (by omega) (by omega) (by omega) (by omega)).mono ?_; rintro e w' ⟨rfl, rfl⟩)
  go_ret
  exact ⟨rfl, (Below.refl _ _).alloc (Nat.le_refl _) _⟩
theorem out_limit (l h n i o : Int) (w : World) (hs : storeB l h n i o = true) :
    Calls Try.prog 49 #[.agg #[.int .i64 l, .int .i64 h, .int .i64 n, .int .i64 i, .int .i64 o]] w fun e w' => e = .returned (.int .i64 (lim o (n - l) (h - l))) ∧ Below w.heap.size w w' := by
  have hb := store_bd hs
  clear hs
  go_enter Try.func49, Try.ntmps49
  go_wp2_with (go_at_call 69; refine (limit_any _ _ _ _ (by omega) (by omega) (by omega) (by omega) (by omega) (by omega)).mono ?_; rintro e w' ⟨rfl, rfl⟩)
  go_ret
  exact ⟨rfl, (Below.refl _ _).alloc (Nat.le_refl _) _⟩
theorem storeLimits_any (l u n i o : Int) (w : World) (hs : storeB l u n i o = true) :
    Calls Try.prog 50 #[.agg #[.int .i64 l, .int .i64 u, .int .i64 n, .int .i64 i, .int .i64 o]] w fun e w' => e = .returned (.tuple #[.int .i64 (lim i (u - n) (u - l)), .int .i64 (lim o (n - l) (u - l))]) ∧ Below w.heap.size w w' := by
  obtain ⟨a1, a2, a3, a4, a5, a6, a7, a8, a9⟩ := store_bd hs
  obtain ⟨b1, b2⟩ := mul_bd a6 a7 (show 0 ≤ u - n by omega) (by omega)
  obtain ⟨b3, b4⟩ := mul_bd a8 a9 (show 0 ≤ n - l by omega) (by omega)
  clear hs
  go_enter Try.func50, Try.ntmps50
  go_wp2
  go_quiet (fail)
  all_goals go_wp2
  all_goals
    go_ret2
    exact ⟨ri2 (by unfold lim; split <;> omega) (by unfold lim; split <;> omega), below_drewN ((Below.refl _ _).alloc (Nat.le_refl _) _) _⟩
theorem sStoreLimits_any (l u n i o : Int) (w : World) :
    Calls Try.prog 21 #[.agg #[.int .i64 l, .int .i64 u, .int .i64 n, .int .i64 i, .int .i64 o]] w fun e w' => (e = if storeB l u n i o = true then .returned (.tuple #[.int .i64 (lim i (u - n) (u - l)), .int .i64 (lim o (n - l) (u - l)), .int .i64 0]) else .returned (.tuple #[.int .i64 0, .int .i64 0, .int .i64 1])) ∧ Below w.heap.size w w' := by
  cases hs : storeB l u n i o
  · go_enter Try.func21, Try.ntmps21
    go_wp2_with fail
    refine (sIsStore_any _ _ _ _ _ _).mono ?_
    rintro e w1 ⟨rfl, hb1⟩
    go_wp2_with fail
    go_ret3
    exact ⟨rfl, bthen ((Below.refl _ _).alloc (Nat.le_refl _) _) hb1 (by simp)⟩
  · go_enter Try.func21, Try.ntmps21
    go_wp2_with fail
    refine (sIsStore_any _ _ _ _ _ _).mono ?_
    rintro e w1 ⟨rfl, hb1⟩
    obtain ⟨hc, hf⟩ := bcell hb1
    have hz : w.heap.size < w1.heap.size := by have := hb1.size; simp at this; omega
    have hw1 : Below w.heap.size w w1 := bthen ((Below.refl _ _).alloc (Nat.le_refl _) _) hb1 (by simp)
    have hw1d := hw1.drew
    go_wp2_with fail
    go_region_held3 (fun w' => w.heap.size < w'.heap.size ∧ w'.cell? ⟨w.heap.size, 0, none⟩ = some (.int .i64 l) ∧ w'.cell? ⟨w.heap.size, 1, none⟩ = some (.int .i64 u) ∧ w'.cell? ⟨w.heap.size, 2, none⟩ = some (.int .i64 n) ∧ w'.cell? ⟨w.heap.size, 3, none⟩ = some (.int .i64 i) ∧ w'.cell? ⟨w.heap.size, 4, none⟩ = some (.int .i64 o) ∧ Below w.heap.size w w')
      (first | go_keep | (go_split_ands; refine ⟨by have := hb2.size; omega, ?_, ?_, ?_, ?_, ?_, bthen ‹_› hb2 (by omega)⟩ <;> (rw [hb2.cell (by simp; omega)]; assumption)))
      (first | (go_at_call 48; refine (in_limit l u n i o _ hs).mono ?_; rintro e w2 ⟨rfl, hb2⟩) | (go_at_call 49; refine (out_limit l u n i o _ hs).mono ?_; rintro e w2 ⟨rfl, hb2⟩))
    go_wp2
    go_ret3
    refine ⟨rfl, ?_⟩
    rename_i hh
    exact hh.2.2.2.2.2.2
theorem storeLimitsX_any (l u n i o : Int) (w : World) :
    Calls Try.prog 22 #[.agg #[.int .i64 l, .int .i64 u, .int .i64 n, .int .i64 i, .int .i64 o]] w fun e w' => (e = if storeB l u n i o = true then .returned (.tuple #[.int .i64 (lim i (u - n) (u - l)), .int .i64 (lim o (n - l) (u - l)), .int .i64 0]) else .returned (.tuple #[.int .i64 0, .int .i64 0, .int .i64 1])) ∧ Below w.heap.size w w' := by
  cases hs : storeB l u n i o
  · go_enter Try.func22, Try.ntmps22
    go_wp2_with fail
    refine (isStore_any _ _ _ _ _ _).mono ?_
    rintro e w1 ⟨rfl, hb1⟩
    go_wp2_with fail
    go_ret3
    exact ⟨rfl, bthen ((Below.refl _ _).alloc (Nat.le_refl _) _) hb1 (by simp)⟩
  · go_enter Try.func22, Try.ntmps22
    go_wp2_with fail
    refine (isStore_any _ _ _ _ _ _).mono ?_
    rintro e w1 ⟨rfl, hb1⟩
    obtain ⟨hc, hf⟩ := bcell hb1
    have hz : w.heap.size < w1.heap.size := by have := hb1.size; simp at this; omega
    have hw1 : Below w.heap.size w w1 := bthen ((Below.refl _ _).alloc (Nat.le_refl _) _) hb1 (by simp)
    go_wp2_with fail
    refine (storeLimits_any _ _ _ _ _ _ hs).mono ?_
    rintro e w2 ⟨rfl, hb2⟩
    go_wp2_with fail
    go_ret3
    exact ⟨rfl, bthen hw1 hb2 (by omega)⟩
set_option maxHeartbeats 1000000 in
theorem law_FnExactStoreLimits (l u n i o : Int) (w : World) (_h : I64 l ∧ I64 u ∧ I64 n ∧ I64 i ∧ I64 o) :
    Calls Try.prog 5 #[.agg #[.int .i64 l, .int .i64 u, .int .i64 n, .int .i64 i, .int .i64 o]] w fun e w' => e = .returned (.bool true) ∧ Below w.heap.size w w' := by
  have hl (w : World) := sStoreLimits_any l u n i o w
  have hr (w : World) := storeLimitsX_any l u n i o w
  generalize he : (if storeB l u n i o = true then Ending.returned (.tuple #[.int .i64 (lim i (u - n) (u - l)), .int .i64 (lim o (n - l) (u - l)), .int .i64 0]) else .returned (.tuple #[.int .i64 0, .int .i64 0, .int .i64 1])) = E at hl hr
  obtain ⟨a, b, c, rfl⟩ : ∃ a b c : Int, E = .returned (.tuple #[.int .i64 a, .int .i64 b, .int .i64 c]) := by
    rw [← he]; split <;> exact ⟨_, _, _, rfl⟩
  clear he
  have HL := Lib.hid hl
  have HR := Lib.hid hr
  clear hl hr
  go_enter Try.func5, Try.ntmps5
  go_wp2_with fail
  refine (toStore_any _ _ _ _ _ _).mono ?_
  rintro e w1 ⟨rfl, hb1⟩
  obtain ⟨hc, hf⟩ := bcell hb1
  have hz : w.heap.size < w1.heap.size := by have := hb1.size; simp at this; omega
  go_wp2_with fail
  refine (HL.out _).mono ?_
  rintro e w2 ⟨rfl, hb2⟩
  obtain ⟨hc2, hf2⟩ := bcell hb2
  have hz2 : w.heap.size < w2.heap.size := by have := hb2.size; omega
  go_wp2_with fail
  refine (toStore_any _ _ _ _ _ _).mono ?_
  rintro e w3 ⟨rfl, hb3⟩
  go_wp2_with fail
  refine (HR.out _).mono ?_
  rintro e w4 ⟨rfl, hb4⟩
  go_wp2_with fail
  go_ret
  refine ⟨rfl, ?_⟩
  have h0 : Below w.heap.size w (w.alloc (.cells #[.int .i64 l, .int .i64 u, .int .i64 n, .int .i64 i, .int .i64 o] 29)) := (Below.refl _ _).alloc (Nat.le_refl _) _
  exact (((h0.trans (hb1.mono (by simp))).trans (hb2.mono (by omega))).trans (hb3.mono (by omega))).trans (hb4.mono (by have := hb3.size; omega))
end Go.Proofs.Ytiofjnohdmminaa
