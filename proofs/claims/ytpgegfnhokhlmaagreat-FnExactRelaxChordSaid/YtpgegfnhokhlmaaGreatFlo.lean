/- What floorDiv and l01Floor do, by walks over their text. Condition: the divisor is positive. -/
import Derived.Test.YtpgegfnhokhlmaaGreatClo
set_option linter.unusedVariables false
set_option maxRecDepth 100000
namespace Go.Proofs.YtpgegfnhokhlmaaGreat
open Go.RowKit Go.Joins Go.Deep

theorem floor_down {a b : Int} (hb : 0 < b) (h : a.tmod b < 0) : a.tdiv b - 1 = a / b := by
  have h1 := Int.tdiv_mul_add_tmod a b
  have h2 : -b < a.tmod b := by
    have := Int.lt_tmod_of_pos a hb
    omega
  exact ((Int.ediv_emod_unique hb (r := a.tmod b + b) (q := a.tdiv b - 1)).2 ⟨by rw [Int.mul_sub, Int.mul_one, Int.mul_comm b]; omega, by omega, by omega⟩).1.symm
theorem floor_same {a b : Int} (hb : 0 < b) (h : ¬ a.tmod b < 0) : a.tdiv b = a / b := by
  have h1 := Int.tdiv_mul_add_tmod a b
  have h2 : a.tmod b < b := Int.tmod_lt_of_pos a hb
  exact ((Int.ediv_emod_unique hb (r := a.tmod b) (q := a.tdiv b)).2 ⟨by rw [Int.mul_comm b]; omega, by omega, h2⟩).1.symm
theorem ediv_bd {a b X : Int} (hb : 1 ≤ b) (h1 : -X ≤ a) (h2 : a ≤ X) (hX : 0 ≤ X) : -X ≤ a / b ∧ a / b ≤ X := by
  refine ⟨?_, ?_⟩
  · rw [Int.le_ediv_iff_mul_le (by omega)]
    have : X * 1 ≤ X * b := Int.mul_le_mul_of_nonneg_left hb hX
    rw [Int.neg_mul]
    omega
  · refine Int.ediv_le_of_le_mul (by omega) ?_
    have : X * 1 ≤ X * b := Int.mul_le_mul_of_nonneg_left hb hX
    omega
set_option maxHeartbeats 1000000 in
theorem floorDiv_any (a b : Int) (w : World) (hb : 1 ≤ b) (hb2 : b ≤ 9223372036854775807) (h1 : -9000000000000000000 ≤ a) (h2 : a ≤ 9000000000000000000) :
    Calls Tryz.prog 127 #[.int .i64 a, .int .i64 b] w fun e w' => e = .returned (.int .i64 (a / b)) ∧ w = w' := by
  have hne : (b == 0) = false := by simp; omega
  by_cases ha : 0 ≤ a
  · have hm : 0 ≤ a % b := Int.emod_nonneg _ (by omega)
    have hlt : ¬ a % b < 0 := by omega
    have hd := ediv_bd (a := a) (b := b) (X := 9000000000000000000) hb h1 h2 (by omega)
    have hna : ¬ a < 0 := by omega
    go_enter Tryz.func127, Tryz.ntmps127
    go_wp2
    go_ret
    exact ⟨rfl, rfl⟩
  · have hd := ediv_bd (a := a) (b := b) (X := 9000000000000000000) hb h1 h2 (by omega)
    by_cases ht : a.tmod b < 0
    · have HD := Lib.hid (floor_down (by omega) ht)
      have hd2 : -9000000000000000000 ≤ a.tdiv b - 1 ∧ a.tdiv b - 1 ≤ 9000000000000000000 := by rw [HD.out]; exact hd
      clear hd
      go_enter Tryz.func127, Tryz.ntmps127
      go_wp2
      go_ret
      exact ⟨ri HD.out, rfl⟩
    · have HD := Lib.hid (floor_same (by omega) ht)
      have hd2 : -9000000000000000000 ≤ a.tdiv b ∧ a.tdiv b ≤ 9000000000000000000 := by rw [HD.out]; exact hd
      clear hd
      go_enter Tryz.func127, Tryz.ntmps127
      go_wp2
      go_ret
      exact ⟨ri HD.out, rfl⟩
set_option maxHeartbeats 1000000 in
theorem sFloor_any (a b : Int) (w : World) (hb : 1 ≤ b) (hb2 : b ≤ 9223372036854775807) (h1 : -9000000000000000000 ≤ a) (h2 : a ≤ 9000000000000000000) :
    Calls Tryz.prog 121 #[.int .i64 a, .int .i64 b] w fun e w' => e = .returned (.int .i64 (a / b)) ∧ w = w' := by
  have hne : (b == 0) = false := by simp; omega
  by_cases ha : 0 ≤ a
  · have hm : 0 ≤ a % b := Int.emod_nonneg _ (by omega)
    have hlt : ¬ a % b < 0 := by omega
    have hd := ediv_bd (a := a) (b := b) (X := 9000000000000000000) hb h1 h2 (by omega)
    have hna : ¬ a < 0 := by omega
    go_enter Tryz.func121, Tryz.ntmps121
    go_wp2
    go_ret
    exact ⟨rfl, rfl⟩
  · have hd := ediv_bd (a := a) (b := b) (X := 9000000000000000000) hb h1 h2 (by omega)
    by_cases ht : a.tmod b < 0
    · have HD := Lib.hid (floor_down (by omega) ht)
      have hd2 : -9000000000000000000 ≤ a.tdiv b - 1 ∧ a.tdiv b - 1 ≤ 9000000000000000000 := by rw [HD.out]; exact hd
      clear hd
      go_enter Tryz.func121, Tryz.ntmps121
      go_wp2
      go_ret
      exact ⟨ri HD.out, rfl⟩
    · have HD := Lib.hid (floor_same (by omega) ht)
      have hd2 : -9000000000000000000 ≤ a.tdiv b ∧ a.tdiv b ≤ 9000000000000000000 := by rw [HD.out]; exact hd
      clear hd
      go_enter Tryz.func121, Tryz.ntmps121
      go_wp2
      go_ret
      exact ⟨ri HD.out, rfl⟩
end Go.Proofs.YtpgegfnhokhlmaaGreat
