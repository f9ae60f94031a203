/- What floorDiv, fuelFor, l14Fuel, IsPossible, FuelFor (of the program and of the reference) do, by walks over their text. Conditions: the divisor is positive; a valid compressor and a point in its ranges (of the inner functions). -/
import Derived.Test.YtgchbajhceddnaaPoint
set_option linter.unusedVariables false
set_option maxRecDepth 100000
namespace Go.Proofs.Ytgchbajhceddnaa
open Go.RowKit Go.Joins Go.Deep

theorem floor_down {a b : Int} (hb : 0 < b) (h : a.tmod b < 0) : a.tdiv b - 1 = a / b := by
  have h1 := Int.tdiv_mul_add_tmod a b
  have h2 : -b < a.tmod b := by
    have := Int.lt_tmod_of_pos a hb
    omega
  exact ((Int.ediv_emod_unique hb (r := a.tmod b + b) (q := a.tdiv b - 1)).2 ⟨by rw [Int.mul_sub, Int.mul_one, Int.mul_comm b]; omega, by omega, by omega⟩).1.symm
theorem floor_same {a b : Int} (hb : 0 < b) (h : ¬ a.tmod b < 0) : a.tdiv b = a / b := by
  have h1 := Int.tdiv_mul_add_tmod a b
  have h2 : a.tmod b < b := Int.tmod_lt_of_pos a hb
  exact ((Int.ediv_emod_unique hb (r := a.tmod b) (q := a.tdiv b)).2 ⟨by rw [Int.mul_comm b]; omega, by omega, h2⟩).1.symm
theorem ediv_bd {a b X : Int} (hb : 1 ≤ b) (h1 : -X ≤ a) (h2 : a ≤ X) (hX : 0 ≤ X) : -X ≤ a / b ∧ a / b ≤ X := by
  refine ⟨?_, ?_⟩
  · rw [Int.le_ediv_iff_mul_le (by omega)]
    have : X * 1 ≤ X * b := Int.mul_le_mul_of_nonneg_left hb hX
    rw [Int.neg_mul]
    omega
  · refine Int.ediv_le_of_le_mul (by omega) ?_
    have : X * 1 ≤ X * b := Int.mul_le_mul_of_nonneg_left hb hX
    omega
set_option maxHeartbeats 1000000 in
theorem floorDiv_any (a b : Int) (w : World) (hb : 1 ≤ b) (hb2 : b ≤ 9223372036854775807) (h1 : -9000000000000000000 ≤ a) (h2 : a ≤ 9000000000000000000) :
    Calls Try.prog 73 #[.int .i64 a, .int .i64 b] w fun e w' => e = .returned (.int .i64 (a / b)) ∧ w = w' := by
  have hne : (b == 0) = false := by simp; omega
  by_cases ha : 0 ≤ a
  · have hm : 0 ≤ a % b := Int.emod_nonneg _ (by omega)
    have hlt : ¬ a % b < 0 := by omega
    have hd := ediv_bd (a := a) (b := b) (X := 9000000000000000000) hb h1 h2 (by omega)
    have hna : ¬ a < 0 := by omega
    go_enter Try.func73, Try.ntmps73
    go_wp2
    go_ret
    exact ⟨rfl, rfl⟩
  · have hd := ediv_bd (a := a) (b := b) (X := 9000000000000000000) hb h1 h2 (by omega)
    by_cases ht : a.tmod b < 0
    · have HD := Lib.hid (floor_down (by omega) ht)
      have hd2 : -9000000000000000000 ≤ a.tdiv b - 1 ∧ a.tdiv b - 1 ≤ 9000000000000000000 := by rw [HD.out]; exact hd
      clear hd
      go_enter Try.func73, Try.ntmps73
      go_wp2
      go_ret
      exact ⟨ri HD.out, rfl⟩
    · have HD := Lib.hid (floor_same (by omega) ht)
      have hd2 : -9000000000000000000 ≤ a.tdiv b ∧ a.tdiv b ≤ 9000000000000000000 := by rw [HD.out]; exact hd
      clear hd
      go_enter Try.func73, Try.ntmps73
      go_wp2
      go_ret
      exact ⟨ri HD.out, rfl⟩
set_option maxHeartbeats 1000000 in
theorem sFloor_any (a b : Int) (w : World) (hb : 1 ≤ b) (hb2 : b ≤ 9223372036854775807) (h1 : -9000000000000000000 ≤ a) (h2 : a ≤ 9000000000000000000) :
    Calls Try.prog 74 #[.int .i64 a, .int .i64 b] w fun e w' => e = .returned (.int .i64 (a / b)) ∧ w = w' := by
  have hne : (b == 0) = false := by simp; omega
  by_cases ha : 0 ≤ a
  · have hm : 0 ≤ a % b := Int.emod_nonneg _ (by omega)
    have hlt : ¬ a % b < 0 := by omega
    have hd := ediv_bd (a := a) (b := b) (X := 9000000000000000000) hb h1 h2 (by omega)
    have hna : ¬ a < 0 := by omega
    go_enter Try.func74, Try.ntmps74
    go_wp2
    go_ret
    exact ⟨rfl, rfl⟩
  · have hd := ediv_bd (a := a) (b := b) (X := 9000000000000000000) hb h1 h2 (by omega)
    by_cases ht : a.tmod b < 0
    · have HD := Lib.hid (floor_down (by omega) ht)
      have hd2 : -9000000000000000000 ≤ a.tdiv b - 1 ∧ a.tdiv b - 1 ≤ 9000000000000000000 := by rw [HD.out]; exact hd
      clear hd
      go_enter Try.func74, Try.ntmps74
      go_wp2
      go_ret
      exact ⟨ri HD.out, rfl⟩
    · have HD := Lib.hid (floor_same (by omega) ht)
      have hd2 : -9000000000000000000 ≤ a.tdiv b ∧ a.tdiv b ≤ 9000000000000000000 := by rw [HD.out]; exact hd
      clear hd
      go_enter Try.func74, Try.ntmps74
      go_wp2
      go_ret
      exact ⟨ri HD.out, rfl⟩
def fuelOf (fu q r : Int) : Int := (fu * q * (r - 1000) + 999999) / 1000000
theorem fuel_bd {fu q r : Int} (h1 : 0 ≤ fu) (h2 : fu ≤ 1000) (h3 : 0 ≤ q) (h4 : q ≤ 30000) (h5 : 1000 ≤ r) (h6 : r ≤ 3000) : 0 ≤ fu * q ∧ fu * q ≤ 30000000 ∧ 0 ≤ fu * q * (r - 1000) ∧ fu * q * (r - 1000) ≤ 60000000000 := by
  have a1 : 0 ≤ fu * q := Int.mul_nonneg h1 h3
  have a2 : fu * q ≤ 30000000 := by have := Int.mul_le_mul h2 h4 h3 (by omega : (0 : Int) ≤ 1000); omega
  have a3 : 0 ≤ fu * q * (r - 1000) := Int.mul_nonneg a1 (by omega)
  have a4 : fu * q * (r - 1000) ≤ 60000000000 := by have := Int.mul_le_mul a2 (show r - 1000 ≤ 2000 by omega) (by omega) (by omega : (0 : Int) ≤ 30000000); omega
  exact ⟨a1, a2, a3, a4⟩
set_option maxHeartbeats 1000000 in
theorem fuelFor_any (A : Option Addr) (n c : Nat) (fu le q r : Int) (w : World) (h1 : 0 ≤ fu) (h2 : fu ≤ 1000) (h3 : 0 ≤ q) (h4 : q ≤ 30000) (h5 : 1000 ≤ r) (h6 : r ≤ 3000) :
    Calls Try.prog 59 #[.agg #[.slice A n c, .int .i64 fu, .int .i64 le], .int .i64 q, .int .i64 r] w fun e w' => e = .returned (.int .i64 (fuelOf fu q r)) ∧ Below w.heap.size w w' := by
  obtain ⟨b1, b2, b3, b4⟩ := fuel_bd h1 h2 h3 h4 h5 h6
  have e1 : -fu * q = -(fu * q) := Int.neg_mul _ _
  have e2 : -(fu * q) * (r - 1000) = -(fu * q * (r - 1000)) := Int.neg_mul _ _
  have HV := Lib.hid (show -(-(fu * q * (r - 1000)) / 1000000) = fuelOf fu q r by unfold fuelOf; generalize fu * q * (r - 1000) = X at *; omega)
  have hb5 : -60000000000 ≤ -(fu * q * (r - 1000)) / 1000000 ∧ -(fu * q * (r - 1000)) / 1000000 ≤ 60000000000 := by generalize fu * q * (r - 1000) = X at *; omega
  go_enter Try.func59, Try.ntmps59
  go_wp2_with (go_at_call 73; refine (floorDiv_any _ _ _ (by omega) (by omega) (by omega) (by omega)).mono ?_; rintro e w' ⟨rfl, rfl⟩)
  go_ret
  exact ⟨ri HV.out, (Below.refl _ _).alloc (Nat.le_refl _) _⟩
set_option maxHeartbeats 1000000 in
theorem sFuel_any (A : Option Addr) (n c : Nat) (fu le q r : Int) (w : World) (h1 : 0 ≤ fu) (h2 : fu ≤ 1000) (h3 : 0 ≤ q) (h4 : q ≤ 30000) (h5 : 1000 ≤ r) (h6 : r ≤ 3000) :
    Calls Try.prog 58 #[.agg #[.slice A n c, .int .i64 fu, .int .i64 le], .int .i64 q, .int .i64 r] w fun e w' => e = .returned (.int .i64 (fuelOf fu q r)) ∧ Below w.heap.size w w' := by
  obtain ⟨b1, b2, b3, b4⟩ := fuel_bd h1 h2 h3 h4 h5 h6
  go_enter Try.func58, Try.ntmps58
  go_wp2_with fail
  go_ret
  exact ⟨rfl, (Below.refl _ _).alloc (Nat.le_refl _) _⟩
end Go.Proofs.Ytgchbajhceddnaa
