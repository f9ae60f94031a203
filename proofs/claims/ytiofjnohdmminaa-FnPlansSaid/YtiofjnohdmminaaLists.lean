/- What the tests of lists of numbers (allWithin, l15Bits, l15Costs, areHours, l15Hours) do, by walks over their text. Conditions: lengths of at most 1048576. -/
import Derived.Test.YtiofjnohdmminaaIntWalks
set_option linter.unusedVariables false
set_option maxRecDepth 100000
namespace Go.Proofs.Ytiofjnohdmminaa
open Go.RowKit Go.Joins

def allB (zs : List Int) (lo hi : Int) : Bool := zs.all fun z => inB z lo hi
theorem all_no {zs : List Int} {k : Nat} {x lo hi : Int} (hx : zs[k]? = some x) (h : inB x lo hi = false) : allB zs lo hi = false := by
  unfold allB
  rw [List.all_eq_false]
  exact ⟨x, List.mem_of_getElem? hx, by simp [h]⟩
theorem all_step {zs : List Int} {k : Nat} {x lo hi : Int} (hp : allB (zs.take k) lo hi = true) (hx : zs[k]? = some x) (h : inB x lo hi = true) : allB (zs.take (k + 1)) lo hi = true := by
  unfold allB at *
  rw [List.take_add_one, List.all_append, hp, hx]
  simp [h]
theorem all_at {zs : List Int} {k : Nat} {x lo hi : Int} (h : allB zs lo hi = true) (hx : zs[k]? = some x) : lo ≤ x ∧ x ≤ hi := by
  unfold allB at h
  exact (inB_iff _ _ _).1 (List.all_eq_true.1 h x (List.mem_of_getElem? hx))

set_option maxHeartbeats 1000000 in
theorem allWithin_any (A : Option Addr) (n c : Nat) (zs : List Int) (lo hi : Int) (w : World) (h : Ints w A n zs) (hn : n ≤ 1048576) :
    Calls Try.prog 54 #[.slice A n c, .int .i64 lo, .int .i64 hi] w fun e w' => e = .returned (.bool (allB zs lo hi)) ∧ w = w' := by
  have hl := Lib.hid h.len
  go_enter Try.func54, Try.ntmps54
  go_wp2_with fail
  go_loop [11] (fun i => ∃ k : Nat, k ≤ n ∧ i = .int .i64 k ∧ allB (zs.take k) lo hi = true) (fun i => n - (intOf i).toNat)
  case atStart => exact ⟨0, Nat.zero_le _, rfl, rfl⟩
  case round =>
    obtain ⟨k, hk, rfl, hpre⟩ := hrel
    have HP := Lib.hid hpre
    clear hpre
    by_cases hlt : k < n
    · obtain ⟨b, o, x, rfl, hbl, hx, hx64, hcx⟩ := h.at_ hlt
      have HX := Lib.hid hx
      clear hx
      cases hin : inB x lo hi
      · go_wp2_with (go_at_call 47; refine (within_any _ _ _ _).mono ?_; rintro e w' ⟨rfl, rfl⟩)
        go_ret
        exact ⟨rb (all_no HX.out hin).symm, rfl⟩
      · go_wp2_with (go_at_call 47; refine (within_any _ _ _ _).mono ?_; rintro e w' ⟨rfl, rfl⟩)
        go_round
        case rel => exact ⟨k + 1, by omega, by go_num, all_step HP.out HX.out hin⟩
        case measure => simp [intOf]; omega
    · go_wp2_with fail
      go_ret
      have hp := HP.out
      rw [List.take_of_length_le (by have := hl.out; omega)] at hp
      exact ⟨rb hp.symm, rfl⟩
set_option maxHeartbeats 1000000 in
theorem bits_any (A : Option Addr) (n c : Nat) (zs : List Int) (w : World) (h : Ints w A n zs) (hn : n ≤ 1048576) :
    Calls Try.prog 52 #[.slice A n c] w fun e w' => e = .returned (.bool (allB zs 0 1)) ∧ w = w' := by
  have hl := Lib.hid h.len
  go_enter Try.func52, Try.ntmps52
  go_wp2_with fail
  go_loop [3] (fun i => ∃ k : Nat, k ≤ n ∧ i = .int .i64 k ∧ allB (zs.take k) 0 1 = true) (fun i => n - (intOf i).toNat)
  case atStart => exact ⟨0, Nat.zero_le _, rfl, rfl⟩
  case round =>
    obtain ⟨k, hk, rfl, hpre⟩ := hrel
    have HP := Lib.hid hpre
    clear hpre
    by_cases hlt : k < n
    · obtain ⟨b, o, x, rfl, hbl, hx, hx64, hcx⟩ := h.at_ hlt
      have HX := Lib.hid hx
      clear hx
      cases hin : inB x 0 1
      · go_wp2_with (go_at_call 46; refine (in_any _ _ _ _).mono ?_; rintro e w' ⟨rfl, rfl⟩)
        go_ret
        exact ⟨rb (all_no HX.out hin).symm, rfl⟩
      · go_wp2_with (go_at_call 46; refine (in_any _ _ _ _).mono ?_; rintro e w' ⟨rfl, rfl⟩)
        go_round
        case rel => exact ⟨k + 1, by omega, by go_num, all_step HP.out HX.out hin⟩
        case measure => simp [intOf]; omega
    · go_wp2_with fail
      go_ret
      have hp := HP.out
      rw [List.take_of_length_le (by have := hl.out; omega)] at hp
      exact ⟨rb hp.symm, rfl⟩
set_option maxHeartbeats 1000000 in
theorem costs_any (A : Option Addr) (n c : Nat) (zs : List Int) (w : World) (h : Ints w A n zs) (hn : n ≤ 1048576) :
    Calls Try.prog 59 #[.slice A n c] w fun e w' => e = .returned (.bool (allB zs (-1000000) 1000000)) ∧ w = w' := by
  have hl := Lib.hid h.len
  go_enter Try.func59, Try.ntmps59
  go_wp2_with fail
  go_loop [3] (fun i => ∃ k : Nat, k ≤ n ∧ i = .int .i64 k ∧ allB (zs.take k) (-1000000) 1000000 = true) (fun i => n - (intOf i).toNat)
  case atStart => exact ⟨0, Nat.zero_le _, rfl, rfl⟩
  case round =>
    obtain ⟨k, hk, rfl, hpre⟩ := hrel
    have HP := Lib.hid hpre
    clear hpre
    by_cases hlt : k < n
    · obtain ⟨b, o, x, rfl, hbl, hx, hx64, hcx⟩ := h.at_ hlt
      have HX := Lib.hid hx
      clear hx
      cases hin : inB x (-1000000) 1000000
      · go_wp2_with (go_at_call 46; refine (in_any _ _ _ _).mono ?_; rintro e w' ⟨rfl, rfl⟩)
        go_ret
        exact ⟨rb (all_no HX.out hin).symm, rfl⟩
      · go_wp2_with (go_at_call 46; refine (in_any _ _ _ _).mono ?_; rintro e w' ⟨rfl, rfl⟩)
        go_round
        case rel => exact ⟨k + 1, by omega, by go_num, all_step HP.out HX.out hin⟩
        case measure => simp [intOf]; omega
    · go_wp2_with fail
      go_ret
      have hp := HP.out
      rw [List.take_of_length_le (by have := hl.out; omega)] at hp
      exact ⟨rb hp.symm, rfl⟩
theorem areHours_any (A : Option Addr) (n c : Nat) (w : World) (hn : n ≤ 1048576) :
    Calls Try.prog 53 #[.slice A n c] w fun e w' => e = .returned (.bool (inB n 1 48)) ∧ w = w' := by
  go_enter Try.func53, Try.ntmps53
  go_wp2_with (go_at_call 47; refine (within_any _ _ _ _).mono ?_; rintro e w' ⟨rfl, rfl⟩)
  go_ret
  exact ⟨rfl, rfl⟩
theorem hours_any (A : Option Addr) (n c : Nat) (w : World) (hn : n ≤ 1048576) :
    Calls Try.prog 51 #[.slice A n c] w fun e w' => e = .returned (.bool (inB n 1 48)) ∧ w = w' := by
  go_enter Try.func51, Try.ntmps51
  go_wp2_with (go_at_call 46; refine (in_any _ _ _ _).mono ?_; rintro e w' ⟨rfl, rfl⟩)
  go_ret
  exact ⟨rfl, rfl⟩
end Go.Proofs.Ytiofjnohdmminaa
