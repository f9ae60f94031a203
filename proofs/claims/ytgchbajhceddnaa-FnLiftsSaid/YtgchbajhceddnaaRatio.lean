/- What NeededRatio of the program and of the reference and the law on it do, by walks over their text. No condition but that the arguments are integers of their kind. -/
import Derived.Test.YtgchbajhceddnaaNum
import Derived.LoopTactic
set_option linter.unusedVariables false
set_option maxRecDepth 100000
namespace Go.Proofs.Ytgchbajhceddnaa
open Go.RowKit Go.Joins

/-- The ratio r lifts the level b to the level a. -/
def Lifts (b a r : Int) : Prop := 1000000 * a ≤ r * r * b
/-- R is the least ratio from 1000 on that lifts b to a, or 3001. -/
def Least (b a R : Int) : Prop := 1000 ≤ R ∧ R ≤ 3001 ∧ (R ≤ 3000 → Lifts b a R) ∧ ∀ r, 1000 ≤ r → r < R → ¬ Lifts b a r
/-- The least ratio, searched one by one. -/
def ratioFrom (b a : Int) : Nat → Int → Int
  | 0, r => r
  | f + 1, r => if 1000000 * a ≤ r * r * b then r else ratioFrom b a f (r + 1)
def ratio (b a : Int) : Int := ratioFrom b a 2001 1000
theorem ratioFrom_least (b a : Int) : ∀ (f : Nat) (r : Int), 1000 ≤ r → r + f = 3001 → (∀ x, 1000 ≤ x → x < r → ¬ Lifts b a x) → Least b a (ratioFrom b a f r) := by
  intro f
  induction f with
  | zero =>
    intro r h1 h2 h3
    refine ⟨h1, ?_, ?_, h3⟩
    · show r ≤ 3001; omega
    · intro h; exact absurd h (by show ¬ r ≤ 3000; omega)
  | succ f ih =>
    intro r h1 h2 h3
    rw [ratioFrom]
    split
    · rename_i h
      exact ⟨h1, by omega, fun _ => h, h3⟩
    · rename_i h
      refine ih (r + 1) (by omega) (by omega) fun x hx1 hx2 => ?_
      by_cases e : x = r
      · subst e; exact h
      · exact h3 x hx1 (by omega)
theorem ratio_least (b a : Int) : Least b a (ratio b a) := ratioFrom_least b a 2001 1000 (by omega) (by omega) (fun x h1 h2 => by omega)
theorem least_one {b a R S : Int} (h : Least b a R) (k : Least b a S) : R = S := by
  obtain ⟨h1, h2, h3, h4⟩ := h
  obtain ⟨k1, k2, k3, k4⟩ := k
  rcases Int.lt_trichotomy R S with hlt | he | hgt
  · exact absurd (h3 (by omega)) (k4 R h1 hlt)
  · exact he
  · exact absurd (k3 (by omega)) (h4 S k1 hgt)
theorem sq_mono {r s : Int} (h0 : 0 ≤ r) (h : r ≤ s) : r * r ≤ s * s := Int.mul_le_mul h h h0 (by omega)
theorem lifts_mono {b a r s : Int} (hb : 0 ≤ b) (h0 : 0 ≤ r) (h : r ≤ s) (hl : Lifts b a r) : Lifts b a s :=
  Int.le_trans hl (Int.mul_le_mul_of_nonneg_right (sq_mono h0 h) hb)
theorem prod_bd {b r : Int} (hb : 0 ≤ b) (hb2 : b ≤ 100000000) (h0 : 0 ≤ r) (h1 : r ≤ 3001) : 0 ≤ r * r ∧ r * r ≤ 9006001 ∧ 0 ≤ r * r * b ∧ r * r * b ≤ 900600100000000 := by
  have e1 : 0 ≤ r * r := Int.mul_nonneg h0 h0
  have e2 : r * r ≤ 9006001 := by have := sq_mono h0 h1; omega
  refine ⟨e1, e2, Int.mul_nonneg e1 hb, ?_⟩
  have := Int.mul_le_mul e2 hb2 hb (by omega : (0 : Int) ≤ 9006001)
  omega

set_option maxHeartbeats 1000000 in
theorem sRatio_any (b a : Int) (w : World) (hb1 : 1 ≤ b) (hb2 : b ≤ 100000000) (ha1 : 0 ≤ a) (ha2 : a ≤ 100000000) :
    Calls Try.prog 47 #[.int .i64 b, .int .i64 a] w fun e w' => e = .returned (.int .i64 (ratio b a)) ∧ w = w' := by
  go_enter Try.func47, Try.ntmps47
  go_wp2
  go_loop [5, 6] (fun lo hi => ∃ l h : Int, 1000 ≤ l ∧ l ≤ h ∧ h ≤ 3001 ∧ lo = .int .i64 l ∧ hi = .int .i64 h ∧ Hid (h ≤ 3000 → Lifts b a h) ∧ Hid (∀ r, 1000 ≤ r → r < l → ¬ Lifts b a r)) (fun lo hi => (intOf hi - intOf lo).toNat)
  case atStart => exact ⟨1000, 3001, by omega, by omega, by omega, rfl, rfl, (fun h => by omega), (fun r h1 h2 => by omega)⟩
  case round =>
    obtain ⟨l, h, h1, h2, h3, rfl, rfl, HH, HL⟩ := hrel
    by_cases hlt : l < h
    · obtain ⟨m, hm⟩ : ∃ m, (l + h) / 2 = m := ⟨_, rfl⟩
      have hm1 : l ≤ m := by omega
      have hm2 : m < h := by omega
      obtain ⟨p1, p2, p3, p4⟩ := prod_bd (b := b) (r := m) (by omega) hb2 (by omega) (by omega)
      by_cases ht : 1000000 * a ≤ m * m * b
      · go_wp2
        go_round
        case rel => exact ⟨l, m, by omega, by omega, by omega, rfl, by rw [hm], (fun _ => ht), HL⟩
        case measure => simp [intOf]; omega
      · go_wp2
        go_round
        case rel => exact ⟨m + 1, h, by omega, by omega, by omega, rfl, rfl, HH, (fun r hr1 hr2 hr3 => ht (lifts_mono (by omega) (by omega) (by omega) hr3))⟩
        case measure => simp [intOf]; omega
    · go_wp2
      go_ret
      obtain rfl : l = h := by omega
      exact ⟨ri (least_one ⟨h1, h3, HH.out, HL.out⟩ (ratio_least b a)), rfl⟩
set_option maxHeartbeats 1000000 in
theorem neededRatio_any (b a : Int) (w : World) (hb1 : 1 ≤ b) (hb2 : b ≤ 100000000) (ha1 : 0 ≤ a) (ha2 : a ≤ 100000000) :
    Calls Try.prog 49 #[.int .i64 b, .int .i64 a] w fun e w' => (e = if ratio b a ≤ 3000 then .returned (.tuple #[.int .i64 (ratio b a), .int .i64 0]) else .returned (.tuple #[.int .i64 0, .int .i64 7])) ∧ w = w' := by
  obtain ⟨R, hR⟩ : ∃ R, ratio b a = R := ⟨_, rfl⟩
  have HR := Lib.hid (hR ▸ ratio_least b a)
  rw [hR]
  clear hR
  obtain ⟨E, hE⟩ : ∃ E, (if R ≤ 3000 then Ending.returned (.tuple #[.int .i64 R, .int .i64 0]) else .returned (.tuple #[.int .i64 0, .int .i64 7])) = E := ⟨_, rfl⟩
  rw [hE]
  have HE := Lib.hid hE
  clear hE
  go_enter Try.func49, Try.ntmps49
  go_wp2
  go_loop [6] (fun rr => ∃ r : Int, 1000 ≤ r ∧ r ≤ 3001 ∧ rr = .int .i64 r ∧ Hid (∀ x, 1000 ≤ x → x < r → ¬ Lifts b a x)) (fun rr => (3001 - intOf rr).toNat)
  case atStart => exact ⟨1000, by omega, by omega, rfl, (fun r h1 h2 => by omega)⟩
  case round =>
    obtain ⟨r, h1, h2, rfl, HL⟩ := hrel
    by_cases hlt : r ≤ 3000
    · obtain ⟨p1, p2, p3, p4⟩ := prod_bd (b := b) (r := r) (by omega) hb2 (by omega) (by omega)
      by_cases ht : 1000000 * a ≤ r * r * b
      · have HF := Lib.hid (least_one ⟨h1, h2, fun _ => ht, HL.out⟩ HR.out)
        go_wp2
        go_ret2
        refine ⟨?_, rfl⟩
        rw [← HE.out, ← HF.out, if_pos hlt]
        rfl
      · go_wp2
        go_round
        case rel =>
          refine ⟨r + 1, by omega, by omega, rfl, fun x hx1 hx2 => ?_⟩
          by_cases e : x = r
          · subst e; exact ht
          · exact HL.out x hx1 (by omega)
        case measure => simp [intOf]; omega
    · have HF := Lib.hid (least_one ⟨h1, h2, fun h => absurd h hlt, HL.out⟩ HR.out)
      go_wp2
      go_ret2
      refine ⟨?_, rfl⟩
      rw [← HE.out, ← HF.out, if_neg (by omega)]
      rfl

def levelsB (b a : Int) : Bool := inB b 1 100000000 && inB a 0 100000000
def needCode (b a : Int) : Int := if levelsB b a = false then 2 else if ratio b a ≤ 3000 then 0 else 7
def needVal (b a : Int) : Int := if levelsB b a = false then 0 else if ratio b a ≤ 3000 then ratio b a else 0

theorem sLevels_any (b a : Int) (w : World) :
    Calls Try.prog 46 #[.int .i64 b, .int .i64 a] w fun e w' => e = .returned (.bool (levelsB b a)) ∧ w = w' := by
  cases h1 : inB b 1 100000000 <;> cases h2 : inB a 0 100000000
  all_goals
    go_enter Try.func46, Try.ntmps46
    go_wp2_with (go_at_call 51; refine (in_any _ _ _ _).mono ?_; rintro e w' ⟨rfl, rfl⟩)
    go_ret
    exact ⟨rb (by simp [levelsB, h1, h2]), rfl⟩
theorem levels_bd {b a : Int} (h : levelsB b a = true) : 1 ≤ b ∧ b ≤ 100000000 ∧ 0 ≤ a ∧ a ≤ 100000000 := by
  simp only [levelsB, Bool.and_eq_true, inB_iff] at h
  omega
set_option maxHeartbeats 1000000 in
theorem sNeeded_any (b a : Int) (w : World) :
    Calls Try.prog 15 #[.int .i64 b, .int .i64 a] w fun e w' => e = .returned (.tuple #[.int .i64 (needVal b a), .int .i64 (needCode b a)]) ∧ w = w' := by
  cases hl : levelsB b a
  · go_enter Try.func15, Try.ntmps15
    go_wp2_with (go_at_call 46; refine (sLevels_any _ _ _).mono ?_; rintro e w' ⟨rfl, rfl⟩)
    go_ret2
    exact ⟨ri2 (by simp [needVal, hl]) (by simp [needCode, hl]), rfl⟩
  · obtain ⟨b1, b2, b3, b4⟩ := levels_bd hl
    by_cases hr : ratio b a ≤ 3000
    · go_enter Try.func15, Try.ntmps15
      go_wp2_with (first | (go_at_call 46; refine (sLevels_any _ _ _).mono ?_; rintro e w' ⟨rfl, rfl⟩) | (go_at_call 47; refine (sRatio_any _ _ _ b1 b2 b3 b4).mono ?_; rintro e w' ⟨rfl, rfl⟩))
      go_ret2
      exact ⟨ri2 (by simp [needVal, hl, hr]) (by simp [needCode, hl, hr]), rfl⟩
    · go_enter Try.func15, Try.ntmps15
      go_wp2_with (first | (go_at_call 46; refine (sLevels_any _ _ _).mono ?_; rintro e w' ⟨rfl, rfl⟩) | (go_at_call 47; refine (sRatio_any _ _ _ b1 b2 b3 b4).mono ?_; rintro e w' ⟨rfl, rfl⟩))
      go_ret2
      exact ⟨ri2 (by simp [needVal, hl]; omega) (by simp [needCode, hl]; omega), rfl⟩
set_option maxHeartbeats 1000000 in
theorem needed_any (b a : Int) (w : World) :
    Calls Try.prog 16 #[.int .i64 b, .int .i64 a] w fun e w' => e = .returned (.tuple #[.int .i64 (needVal b a), .int .i64 (needCode b a)]) ∧ w = w' := by
  rcases (orB (orB trivial) : inB b 1 100000000 = false ∨ inB b 1 100000000 = true ∧ (inB a 0 100000000 = false ∨ inB a 0 100000000 = true ∧ True)) with h1 | ⟨h1, h2 | ⟨h2, _⟩⟩
  · have hl : levelsB b a = false := by simp [levelsB, h1]
    go_enter Try.func16, Try.ntmps16
    go_wp2_with (go_at_call 48; refine (within_any _ _ _ _).mono ?_; rintro e w' ⟨rfl, rfl⟩)
    go_ret2
    exact ⟨ri2 (by simp [needVal, hl]) (by simp [needCode, hl]), rfl⟩
  · have hl : levelsB b a = false := by simp [levelsB, h2]
    go_enter Try.func16, Try.ntmps16
    go_wp2_with (go_at_call 48; refine (within_any _ _ _ _).mono ?_; rintro e w' ⟨rfl, rfl⟩)
    go_ret2
    exact ⟨ri2 (by simp [needVal, hl]) (by simp [needCode, hl]), rfl⟩
  · have hl : levelsB b a = true := by simp [levelsB, h1, h2]
    obtain ⟨b1, b2, b3, b4⟩ := levels_bd hl
    have hn := fun w => neededRatio_any b a w b1 b2 b3 b4
    by_cases hr : ratio b a ≤ 3000
    · simp only [if_pos hr] at hn
      have HN := Lib.hid hn
      clear hn
      go_enter Try.func16, Try.ntmps16
      go_wp2_with (first | (go_at_call 48; refine (within_any _ _ _ _).mono ?_; rintro e w' ⟨rfl, rfl⟩) | (go_at_call 49; refine (HN.out _).mono ?_; rintro e w' ⟨rfl, rfl⟩))
      go_ret2
      exact ⟨ri2 (by simp [needVal, hl, hr]) (by simp [needCode, hl, hr]), rfl⟩
    · simp only [if_neg hr] at hn
      have HN := Lib.hid hn
      clear hn
      go_enter Try.func16, Try.ntmps16
      go_wp2_with (first | (go_at_call 48; refine (within_any _ _ _ _).mono ?_; rintro e w' ⟨rfl, rfl⟩) | (go_at_call 49; refine (HN.out _).mono ?_; rintro e w' ⟨rfl, rfl⟩))
      go_ret2
      exact ⟨ri2 (by simp [needVal, hl]; omega) (by simp [needCode, hl]; omega), rfl⟩
theorem law_FnExactNeededRatio (b a : Int) (w : World) (_hb : I64 b) (_ha : I64 a) :
    Calls Try.prog 3 #[.int .i64 b, .int .i64 a] w fun e w' => e = .returned (.bool true) ∧ Below w.heap.size w w' := by
  go_enter Try.func3, Try.ntmps3
  go_wp2_with (first | (go_at_call 15; refine (sNeeded_any _ _ _).mono ?_; rintro e w' ⟨rfl, rfl⟩) | (go_at_call 16; refine (needed_any _ _ _).mono ?_; rintro e w' ⟨rfl, rfl⟩))
  go_ret
  exact ⟨rfl, Below.refl _ _⟩
end Go.Proofs.Ytgchbajhceddnaa
