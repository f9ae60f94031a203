/- What floorDiv and l01Floor do, by walks over their text. Condition: the divisor is positive. -/
import Derived.Test.YtebefamekjjbcaaGreatDoorClo
set_option linter.unusedVariables false
set_option maxRecDepth 100000
namespace Go.Proofs.YtebefamekjjbcaaGreatDoor
open Go.RowKit Go.Joins Go.Deep

theorem floor_down {a b : Int} (hb : 0 < b) (h : a.tmod b < 0) : a.tdiv b - 1 = a / b := by
  have h1 := Int.tdiv_mul_add_tmod a b
  have h2 : -b < a.tmod b := by
    have := Int.lt_tmod_of_pos a hb
    omega
  exact ((Int.ediv_emod_unique hb (r := a.tmod b + b) (q := a.tdiv b - 1)).2 ⟨by rw [Int.mul_sub, Int.mul_one, Int.mul_comm b]; omega, by omega, by omega⟩).1.symm
theorem floor_same {a b : Int} (hb : 0 < b) (h : ¬ a.tmod b < 0) : a.tdiv b = a / b := by
  have h1 := Int.tdiv_mul_add_tmod a b
  have h2 : a.tmod b < b := Int.tmod_lt_of_pos a hb
  exact ((Int.ediv_emod_unique hb (r := a.tmod b) (q := a.tdiv b)).2 ⟨by rw [Int.mul_comm b]; omega, by omega, h2⟩).1.symm
theorem ediv_bd {a b X : Int} (hb : 1 ≤ b) (h1 : -X ≤ a) (h2 : a ≤ X) (hX : 0 ≤ X) : -X ≤ a / b ∧ a / b ≤ X := by
  refine ⟨?_, ?_⟩
  · rw [Int.le_ediv_iff_mul_le (by omega)]
    have : X * 1 ≤ X * b := Int.mul_le_mul_of_nonneg_left hb hX
    rw [Int.neg_mul]
    omega
  · refine Int.ediv_le_of_le_mul (by omega) ?_
    have : X * 1 ≤ X * b := Int.mul_le_mul_of_nonneg_left hb hX
    omega
end Go.Proofs.YtebefamekjjbcaaGreatDoor
