/- What slices.Equal and l06Same do, by walks over their text. Condition: lengths of at most 1048576. -/
import Derived.Test.YtpgegfnhokhlmabGreatRes
set_option linter.unusedVariables false
set_option maxRecDepth 100000
namespace Go.Proofs.YtpgegfnhokhlmabGreat
open Go.ChangeShapes Go.WideShapes Go.ChangeAt Go.RowKit Go.Joins Go.Deep

set_option maxHeartbeats 1000000 in
theorem slEq_any (A B : Option Addr) (n m c d : Nat) (xs ys : List Int) (w : World) (ha : Ints w A n xs) (hb : Ints w B m ys) (hn : n ≤ 1048576) :
    Calls Tryz.prog 65 #[.slice A n c, .slice B m d] w fun e w' => e = .returned (.bool (decide (xs = ys))) ∧ Qt w w' := by
  have hla := Lib.hid ha.len
  have hlb := Lib.hid hb.len
  by_cases hnm : n = m
  · subst hnm
    have hne : ((n : Int) != (n : Int)) = false := by simp
    go_enter Tryz.func65, Tryz.ntmps65
    go_wp2
    go_loopw [13] (fun i wr => ∃ k : Nat, k ≤ n ∧ i = .int .i64 k ∧ xs.take k = ys.take k ∧ Qt w wr) (fun i _ => n - (intOf i).toNat)
    case atStart => exact ⟨0, Nat.zero_le _, rfl, rfl, Qt.refl _⟩
    case round =>
      obtain ⟨k, hk, rfl, hpre, hq⟩ := hrel
      have HP := Lib.hid hpre
      clear hpre
      by_cases hlt : k < n
      · obtain ⟨b, o, x, rfl, hbl, hx, hx64, hcx⟩ := (ha.qt hq).at_ hlt
        obtain ⟨b', o', y, rfl, hbl', hy, hy64, hcy⟩ := (hb.qt hq).at_ hlt
        have HX := Lib.hid hx
        have HY := Lib.hid hy
        clear hx hy
        by_cases hxy : x = y
        · have HE := Lib.hid hxy
          have hbe : (x != y) = false := by simp [hxy]
          clear hxy
          go_wp2
          go_quiet (fail)
          go_wp2
          go_roundw
          case rel => exact ⟨k + 1, by omega, by go_num, eq_take_succ HP.out HX.out (HE.out ▸ HY.out), hq.drewN _⟩
          case measure => simp [intOf]; omega
        · have HE := Lib.hid hxy
          have hbe : (x != y) = true := by simp [hxy]
          clear hxy
          go_wp2
          go_quiet (fail)
          go_wp2
          go_ret
          refine ⟨rb (decide_eq_false ?_).symm, hq.drewN _⟩
          rintro rfl
          exact HE.out (Option.some.inj (HX.out.symm.trans HY.out))
      · go_wp2
        go_ret
        refine ⟨rb (decide_eq_true ?_).symm, hq⟩
        have := HP.out
        rwa [List.take_of_length_le (by have := hla.out; omega), List.take_of_length_le (by have := hlb.out; omega)] at this
  · have HN := Lib.hid hnm
    have hne : ((n : Int) != (m : Int)) = true := by simp; omega
    clear hnm
    go_enter Tryz.func65, Tryz.ntmps65
    go_wp2
    go_ret
    refine ⟨rb (decide_eq_false ?_).symm, Qt.refl _⟩
    rintro rfl
    exact HN.out (hla.out.symm.trans hlb.out)
set_option maxHeartbeats 1000000 in
theorem l06Same_any (A B : Option Addr) (n m c d : Nat) (xs ys : List Int) (w : World) (ha : Ints w A n xs) (hb : Ints w B m ys) (hn : n ≤ 1048576) :
    Calls Tryz.prog 98 #[.slice A n c, .slice B m d] w fun e w' => e = .returned (.bool (decide (xs = ys))) ∧ Qt w w' := by
  have hla := Lib.hid ha.len
  have hlb := Lib.hid hb.len
  by_cases hnm : n = m
  · subst hnm
    have hne : ((n : Int) != (n : Int)) = false := by simp
    go_enter Tryz.func98, Tryz.ntmps98
    go_wp2
    go_loopw [5] (fun i wr => ∃ k : Nat, k ≤ n ∧ i = .int .i64 k ∧ xs.take k = ys.take k ∧ Qt w wr) (fun i _ => n - (intOf i).toNat)
    case atStart => exact ⟨0, Nat.zero_le _, rfl, rfl, Qt.refl _⟩
    case round =>
      obtain ⟨k, hk, rfl, hpre, hq⟩ := hrel
      have HP := Lib.hid hpre
      clear hpre
      by_cases hlt : k < n
      · obtain ⟨b, o, x, rfl, hbl, hx, hx64, hcx⟩ := (ha.qt hq).at_ hlt
        obtain ⟨b', o', y, rfl, hbl', hy, hy64, hcy⟩ := (hb.qt hq).at_ hlt
        have HX := Lib.hid hx
        have HY := Lib.hid hy
        clear hx hy
        by_cases hxy : x = y
        · have HE := Lib.hid hxy
          have hbe : (x != y) = false := by simp [hxy]
          clear hxy
          go_wp2
          go_quiet (fail)
          go_wp2
          go_roundw
          case rel => exact ⟨k + 1, by omega, by go_num, eq_take_succ HP.out HX.out (HE.out ▸ HY.out), hq.drewN _⟩
          case measure => simp [intOf]; omega
        · have HE := Lib.hid hxy
          have hbe : (x != y) = true := by simp [hxy]
          clear hxy
          go_wp2
          go_quiet (fail)
          go_wp2
          go_ret
          refine ⟨rb (decide_eq_false ?_).symm, hq.drewN _⟩
          rintro rfl
          exact HE.out (Option.some.inj (HX.out.symm.trans HY.out))
      · go_wp2
        go_ret
        refine ⟨rb (decide_eq_true ?_).symm, hq⟩
        have := HP.out
        rwa [List.take_of_length_le (by have := hla.out; omega), List.take_of_length_le (by have := hlb.out; omega)] at this
  · have HN := Lib.hid hnm
    have hne : ((n : Int) != (m : Int)) = true := by simp; omega
    clear hnm
    go_enter Tryz.func98, Tryz.ntmps98
    go_wp2
    go_ret
    refine ⟨rb (decide_eq_false ?_).symm, Qt.refl _⟩
    rintro rfl
    exact HN.out (hla.out.symm.trans hlb.out)
end Go.Proofs.YtpgegfnhokhlmabGreat
