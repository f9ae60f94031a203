/- What SameFlows (of the program and of the reference), slices.Equal, toProof, eqProof, szProof do, by walks over their text. Conditions: lengths of at most 1048576; eqProof at equal proofs. -/
import Derived.Test.YtebefamekjjbcaaGreatKA
set_option linter.unusedVariables false
set_option maxRecDepth 100000
namespace Go.Proofs.YtebefamekjjbcaaGreat
open Go.ChangeShapes Go.WideShapes Go.ChangeAt Go.RowKit Go.Joins Go.Deep

section
variable {H : Type} {enc : TypeId × Value → H} {W : World} {base : Nat} {v : Value} {d : DataW H} {p : List MemPlace}
theorem list2s {l : List Value} (h : l.length = 2) : ∃ a b, l = [a, b] := by
  match l, h with
  | [a, b], _ => exact ⟨a, b, rfl⟩
end
set_option maxHeartbeats 1000000 in
theorem slEq_any (A B : Option Addr) (n m c d : Nat) (xs ys : List Int) (w : World) (ha : Ints w A n xs) (hb : Ints w B m ys) (hn : n ≤ 1048576) :
    Calls Tryz.prog 38 #[.slice A n c, .slice B m d] w fun e w' => e = .returned (.bool (decide (xs = ys))) ∧ Qt w w' := by
  have hla := Lib.hid ha.len
  have hlb := Lib.hid hb.len
  by_cases hnm : n = m
  · subst hnm
    have hne : ((n : Int) != (n : Int)) = false := by simp
    go_enter Tryz.func38, Tryz.ntmps38
    go_wp2
    go_loopw [13] (fun i wr => ∃ k : Nat, k ≤ n ∧ i = .int .i64 k ∧ xs.take k = ys.take k ∧ Qt w wr) (fun i _ => n - (intOf i).toNat)
    case atStart => exact ⟨0, Nat.zero_le _, rfl, rfl, Qt.refl _⟩
    case round =>
      obtain ⟨k, hk, rfl, hpre, hq⟩ := hrel
      have HP := Lib.hid hpre
      clear hpre
      by_cases hlt : k < n
      · obtain ⟨b, o, x, rfl, hbl, hx, hx64, hcx⟩ := (ha.qt hq).at_ hlt
        obtain ⟨b', o', y, rfl, hbl', hy, hy64, hcy⟩ := (hb.qt hq).at_ hlt
        have HX := Lib.hid hx
        have HY := Lib.hid hy
        clear hx hy
        by_cases hxy : x = y
        · have HE := Lib.hid hxy
          have hbe : (x != y) = false := by simp [hxy]
          clear hxy
          go_wp2
          go_quiet (fail)
          go_wp2
          go_roundw
          case rel => exact ⟨k + 1, by omega, by go_num, eq_take_succ HP.out HX.out (HE.out ▸ HY.out), hq.drewN _⟩
          case measure => simp [intOf]; omega
        · have HE := Lib.hid hxy
          have hbe : (x != y) = true := by simp [hxy]
          clear hxy
          go_wp2
          go_quiet (fail)
          go_wp2
          go_ret
          refine ⟨rb (decide_eq_false ?_).symm, hq.drewN _⟩
          rintro rfl
          exact HE.out (Option.some.inj (HX.out.symm.trans HY.out))
      · go_wp2
        go_ret
        refine ⟨rb (decide_eq_true ?_).symm, hq⟩
        have := HP.out
        rwa [List.take_of_length_le (by have := hla.out; omega), List.take_of_length_le (by have := hlb.out; omega)] at this
  · have HN := Lib.hid hnm
    have hne : ((n : Int) != (m : Int)) = true := by simp; omega
    clear hnm
    go_enter Tryz.func38, Tryz.ntmps38
    go_wp2
    go_ret
    refine ⟨rb (decide_eq_false ?_).symm, Qt.refl _⟩
    rintro rfl
    exact HN.out (hla.out.symm.trans hlb.out)
set_option maxHeartbeats 1000000 in
theorem l06Same_any (A B : Option Addr) (n m c d : Nat) (xs ys : List Int) (w : World) (ha : Ints w A n xs) (hb : Ints w B m ys) (hn : n ≤ 1048576) :
    Calls Tryz.prog 47 #[.slice A n c, .slice B m d] w fun e w' => e = .returned (.bool (decide (xs = ys))) ∧ Qt w w' := by
  have hla := Lib.hid ha.len
  have hlb := Lib.hid hb.len
  by_cases hnm : n = m
  · subst hnm
    have hne : ((n : Int) != (n : Int)) = false := by simp
    go_enter Tryz.func47, Tryz.ntmps47
    go_wp2
    go_loopw [5] (fun i wr => ∃ k : Nat, k ≤ n ∧ i = .int .i64 k ∧ xs.take k = ys.take k ∧ Qt w wr) (fun i _ => n - (intOf i).toNat)
    case atStart => exact ⟨0, Nat.zero_le _, rfl, rfl, Qt.refl _⟩
    case round =>
      obtain ⟨k, hk, rfl, hpre, hq⟩ := hrel
      have HP := Lib.hid hpre
      clear hpre
      by_cases hlt : k < n
      · obtain ⟨b, o, x, rfl, hbl, hx, hx64, hcx⟩ := (ha.qt hq).at_ hlt
        obtain ⟨b', o', y, rfl, hbl', hy, hy64, hcy⟩ := (hb.qt hq).at_ hlt
        have HX := Lib.hid hx
        have HY := Lib.hid hy
        clear hx hy
        by_cases hxy : x = y
        · have HE := Lib.hid hxy
          have hbe : (x != y) = false := by simp [hxy]
          clear hxy
          go_wp2
          go_quiet (fail)
          go_wp2
          go_roundw
          case rel => exact ⟨k + 1, by omega, by go_num, eq_take_succ HP.out HX.out (HE.out ▸ HY.out), hq.drewN _⟩
          case measure => simp [intOf]; omega
        · have HE := Lib.hid hxy
          have hbe : (x != y) = true := by simp [hxy]
          clear hxy
          go_wp2
          go_quiet (fail)
          go_wp2
          go_ret
          refine ⟨rb (decide_eq_false ?_).symm, hq.drewN _⟩
          rintro rfl
          exact HE.out (Option.some.inj (HX.out.symm.trans HY.out))
      · go_wp2
        go_ret
        refine ⟨rb (decide_eq_true ?_).symm, hq⟩
        have := HP.out
        rwa [List.take_of_length_le (by have := hla.out; omega), List.take_of_length_le (by have := hlb.out; omega)] at this
  · have HN := Lib.hid hnm
    have hne : ((n : Int) != (m : Int)) = true := by simp; omega
    clear hnm
    go_enter Tryz.func47, Tryz.ntmps47
    go_wp2
    go_ret
    refine ⟨rb (decide_eq_false ?_).symm, Qt.refl _⟩
    rintro rfl
    exact HN.out (hla.out.symm.trans hlb.out)
/-- A call returns a proof whose lists lie in new memory. -/
def RetPs (w : World) (xs ys : List Int) (e : Ending) (w' : World) : Prop :=
  ∃ A c B d, e = .returned (.agg #[.slice A xs.length c, .slice B ys.length d]) ∧ Own w' w.heap.size A xs.length c xs ∧ Own w' w.heap.size B ys.length d ys ∧ Below w.heap.size w w'
theorem Own.low {w : World} {B : Nat} {A : Option Addr} {n c : Nat} {zs : List Int} (h : Own w B A n c zs) {a : Addr} (ha : a.block < B) (u : Value) : Own (w.setCell a u) B A n c zs := ⟨ownsRow_setCell_below h.1 ha u, h.2⟩
set_option maxHeartbeats 1000000 in
theorem same_any (A B A' B' : Option Addr) (c d c' d' : Nat) (xs ys xs' ys' : List Int) (w : World) (h : Ints w A xs.length xs) (h' : Ints w A' xs'.length xs') (hn : xs.length ≤ 1048576) :
    Calls Tryz.prog 19 #[.agg #[.slice A xs.length c, .slice B ys.length d], .agg #[.slice A' xs'.length c', .slice B' ys'.length d']] w fun e w' => e = .returned (.bool (decide (xs = xs'))) ∧ Below w.heap.size w w' := by
  have hw0 : ∀ a ta b tb, Below w.heap.size w ((w.alloc (.cells a ta)).alloc (.cells b tb)) := fun a ta b tb => ((Below.refl _ _).alloc (Nat.le_refl _) _).alloc (by simp) _
  generalize hE : decide (xs = xs') = E
  have HE := Lib.hid hE
  clear hE
  go_enter Tryz.func19, Tryz.ntmps19
  go_wp2_with fail
  refine (slEq_any _ _ _ _ _ _ _ _ _ (h.below (hw0 _ _ _ _)) (h'.below (hw0 _ _ _ _)) hn).mono ?_
  rintro e w1 ⟨rfl, hq1⟩
  rw [HE.out]
  go_wp2_with fail
  go_ret
  exact ⟨rfl, bthen (hw0 _ _ _ _) (hq1.below _) (by simp; omega)⟩
end Go.Proofs.YtebefamekjjbcaaGreat
