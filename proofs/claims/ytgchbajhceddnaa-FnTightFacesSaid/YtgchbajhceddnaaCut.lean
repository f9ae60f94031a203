/- Ranges that are cut by faces: what cutRange and l14Interval do, by walks over their text. Conditions: slopes of at most 1000, bounds of at most 200000000. -/
import Derived.Test.YtgchbajhceddnaaFuel
set_option linter.unusedVariables false
set_option maxRecDepth 100000
namespace Go.Proofs.Ytgchbajhceddnaa
open Go.RowKit Go.Joins Go.Deep

/-- The part of a range of numbers x for which a * x is at most b. -/
def cutLo (lo a b : Int) : Int := if a < 0 then (if lo < b / a then b / a else lo) else lo
def cutHi (lo hi a b : Int) : Int := if 0 < a then (if b / a < hi then b / a else hi) else if a < 0 then hi else if b < 0 then lo - 1 else hi
def okP (p : Int × Int) : Prop := -1000 ≤ p.1 ∧ p.1 ≤ 1000 ∧ -200000000 ≤ p.2 ∧ p.2 ≤ 200000000
theorem edivn_bd {a b X : Int} (hb : b ≤ -1) (h1 : -X ≤ a) (h2 : a ≤ X) (hX : 0 ≤ X) : -X ≤ a / b ∧ a / b ≤ X := by
  have := ediv_bd (a := a) (b := -b) (X := X) (by omega) h1 h2 hX
  rw [Int.ediv_neg] at this
  omega
theorem cutLo_bd {lo a b : Int} (h : okP (a, b)) (h1 : 0 ≤ lo) (h2 : lo ≤ 300000000) : 0 ≤ cutLo lo a b ∧ cutLo lo a b ≤ 300000000 := by
  obtain ⟨p1, p2, p3, p4⟩ := h
  simp only at p1 p2 p3 p4
  unfold cutLo
  split
  · have := edivn_bd (a := b) (b := a) (X := 200000000) (by omega) p3 p4 (by omega)
    split <;> omega
  · omega
theorem cutHi_bd {lo hi a b : Int} (h : okP (a, b)) (h1 : 0 ≤ lo) (h2 : lo ≤ 300000000) (h3 : -300000000 ≤ hi) (h4 : hi ≤ 300000000) : -300000000 ≤ cutHi lo hi a b ∧ cutHi lo hi a b ≤ 300000000 := by
  obtain ⟨p1, p2, p3, p4⟩ := h
  simp only at p1 p2 p3 p4
  unfold cutHi
  split
  · have := ediv_bd (a := b) (b := a) (X := 200000000) (by omega) p3 p4 (by omega)
    split <;> omega
  · split
    · omega
    · split <;> omega
/-- The range, cut by the first k pairs. -/
def cutTo (lo hi : Int) (ps : List (Int × Int)) : Nat → Int × Int
  | 0 => (lo, hi)
  | k + 1 => match ps[k]? with
    | none => cutTo lo hi ps k
    | some p => (cutLo (cutTo lo hi ps k).1 p.1 p.2, cutHi (cutTo lo hi ps k).1 (cutTo lo hi ps k).2 p.1 p.2)
theorem cutTo_step {lo hi : Int} {ps : List (Int × Int)} {k : Nat} {p : Int × Int} (h : ps[k]? = some p) : cutTo lo hi ps (k + 1) = (cutLo (cutTo lo hi ps k).1 p.1 p.2, cutHi (cutTo lo hi ps k).1 (cutTo lo hi ps k).2 p.1 p.2) := by
  rw [cutTo, h]
theorem cutTo_bd {lo hi : Int} {ps : List (Int × Int)} (hp : ∀ p ∈ ps, okP p) (h1 : 0 ≤ lo) (h2 : lo ≤ 300000000) (h3 : -300000000 ≤ hi) (h4 : hi ≤ 300000000) (k : Nat) :
    0 ≤ (cutTo lo hi ps k).1 ∧ (cutTo lo hi ps k).1 ≤ 300000000 ∧ -300000000 ≤ (cutTo lo hi ps k).2 ∧ (cutTo lo hi ps k).2 ≤ 300000000 := by
  induction k with
  | zero => exact ⟨h1, h2, h3, h4⟩
  | succ k ih =>
    cases h : ps[k]? with
    | none => rw [cutTo, h]; exact ih
    | some p =>
      rw [cutTo_step h]
      have ho := hp p (List.mem_of_getElem? h)
      have a1 := cutLo_bd (lo := (cutTo lo hi ps k).1) (a := p.1) (b := p.2) ho (by omega) (by omega)
      have a2 := cutHi_bd (lo := (cutTo lo hi ps k).1) (hi := (cutTo lo hi ps k).2) (a := p.1) (b := p.2) ho (by omega) (by omega) (by omega) (by omega)
      exact ⟨a1.1, a1.2, a2.1, a2.2⟩

set_option maxHeartbeats 1000000 in
theorem cutRange_any (lo hi a b : Int) (w : World) (h : okP (a, b)) (h1 : 0 ≤ lo) (h2 : lo ≤ 300000000) (h3 : -300000000 ≤ hi) (h4 : hi ≤ 300000000) :
    Calls Try.prog 61 #[.int .i64 lo, .int .i64 hi, .int .i64 a, .int .i64 b] w fun e w' => e = .returned (.tuple #[.int .i64 (cutLo lo a b), .int .i64 (cutHi lo hi a b)]) ∧ w = w' := by
  obtain ⟨p1, p2, p3, p4⟩ := h
  simp only at p1 p2 p3 p4
  by_cases ha : 0 < a
  · have hd := ediv_bd (a := b) (b := a) (X := 200000000) (by omega) p3 p4 (by omega)
    have hna : ¬ a < 0 := by omega
    have HL := Lib.hid (show cutLo lo a b = lo by simp [cutLo]; omega)
    have HH := Lib.hid (show cutHi lo hi a b = if b / a < hi then b / a else hi by simp [cutHi, ha])
    by_cases hm : b / a < hi
    all_goals
      go_enter Try.func61, Try.ntmps61
      go_wp2_with (go_at_call 73; refine (floorDiv_any _ _ _ (by omega) (by omega) (by omega) (by omega)).mono ?_; rintro e w' ⟨rfl, rfl⟩)
      go_ret2
      exact ⟨ri2 HL.out.symm (by rw [HH.out]; split <;> omega), rfl⟩
  · by_cases hb : a < 0
    · have hd := edivn_bd (a := b) (b := a) (X := 200000000) (by omega) p3 p4 (by omega)
      have HL := Lib.hid (show cutLo lo a b = if lo < b / a then b / a else lo by simp [cutLo, hb])
      have HH := Lib.hid (show cutHi lo hi a b = hi by simp [cutHi, hb]; omega)
      by_cases hm : lo < b / a
      all_goals
        go_enter Try.func61, Try.ntmps61
        go_wp2_with (go_at_call 73; refine (floorDiv_any _ _ _ (by omega) (by omega) (by omega) (by omega)).mono ?_; rintro e w' ⟨rfl, rfl⟩)
        go_ret2
        exact ⟨ri2 (by rw [HL.out]; split <;> omega) HH.out.symm, rfl⟩
    · have HL := Lib.hid (show cutLo lo a b = lo by simp [cutLo]; omega)
      by_cases hm : b < 0
      · have HH := Lib.hid (show cutHi lo hi a b = lo - 1 by unfold cutHi; rw [if_neg ha, if_neg hb, if_pos hm])
        go_enter Try.func61, Try.ntmps61
        go_wp2_with fail
        go_ret2
        exact ⟨ri2 HL.out.symm HH.out.symm, rfl⟩
      · have HH := Lib.hid (show cutHi lo hi a b = hi by unfold cutHi; rw [if_neg ha, if_neg hb, if_neg hm])
        go_enter Try.func61, Try.ntmps61
        go_wp2_with fail
        go_ret2
        exact ⟨ri2 HL.out.symm HH.out.symm, rfl⟩

/-- A slice of pairs, each a slice of its own, that reads as ps. -/
def Pairs (w : World) (A : Option Addr) (n : Nat) (ps : List (Int × Int)) : Prop :=
  ps.length = n ∧ (0 < n → ∃ b o, A = some ⟨b, o, none⟩ ∧ ∀ i p, ps[i]? = some p → ∃ g, w.cell? ⟨b, o + i, none⟩ = some (.slice (some ⟨g, 0, none⟩) 2 2) ∧ w.cell? ⟨g, 0, none⟩ = some (.int .i64 p.1) ∧ w.cell? ⟨g, 1, none⟩ = some (.int .i64 p.2))
theorem Pairs.qt {w w' : World} {A : Option Addr} {n : Nat} {ps : List (Int × Int)} (h : Pairs w A n ps) (hq : Qt w w') : Pairs w' A n ps := by
  obtain ⟨m, rfl⟩ := hq
  exact h
theorem Pairs.at_ {w : World} {A : Option Addr} {n : Nat} {ps : List (Int × Int)} (h : Pairs w A n ps) {i : Nat} (hi : i < n) :
    ∃ b o g p, A = some ⟨b, o, none⟩ ∧ ps[i]? = some p ∧ w.cell? ⟨b, o + i, none⟩ = some (.slice (some ⟨g, 0, none⟩) 2 2) ∧ w.cell? ⟨g, 0, none⟩ = some (.int .i64 p.1) ∧ w.cell? ⟨g, 1, none⟩ = some (.int .i64 p.2) := by
  obtain ⟨b, o, e, hc⟩ := h.2 (by omega)
  have hz : ps[i]? = some (ps[i]'(by have := h.1; omega)) := List.getElem?_eq_getElem _
  obtain ⟨g, h1, h2, h3⟩ := hc i _ hz
  exact ⟨b, o, g, _, e, hz, h1, h2, h3⟩

set_option maxHeartbeats 4000000 in
theorem interval_any (A : Option Addr) (n c : Nat) (ps : List (Int × Int)) (lo hi : Int) (w : World) (h : Pairs w A n ps) (hn : n ≤ 1000) (hp : Hid (∀ p ∈ ps, okP p)) (h1 : 0 ≤ lo) (h2 : lo ≤ 300000000) (h3 : -300000000 ≤ hi) (h4 : hi ≤ 300000000) :
    Calls Try.prog 60 #[.slice A n c, .int .i64 lo, .int .i64 hi] w fun e w' => e = .returned (.tuple #[.int .i64 (cutTo lo hi ps n).1, .int .i64 (cutTo lo hi ps n).2]) ∧ Qt w w' := by
  go_enter Try.func60, Try.ntmps60
  go_wp2_with fail
  go_loopw [1, 2, 8] (fun ll hh ii wr => ∃ k : Nat, k ≤ n ∧ ii = .int .i64 k ∧ ll = .int .i64 (cutTo lo hi ps k).1 ∧ hh = .int .i64 (cutTo lo hi ps k).2 ∧ Qt w wr) (fun _ _ ii _ => n - (intOf ii).toNat)
  case atStart => exact ⟨0, Nat.zero_le _, rfl, rfl, rfl, Qt.refl _⟩
  case round =>
    obtain ⟨k, hk, rfl, rfl, rfl, hq⟩ := hrel
    have hbd := cutTo_bd hp.out h1 h2 h3 h4 k
    by_cases hlt : k < n
    · obtain ⟨b, o, g, p, rfl, hpk, hc0, hc1, hc2⟩ := (h.qt hq).at_ hlt
      obtain ⟨p1, p2, p3, p4⟩ := hp.out p (List.mem_of_getElem? hpk)
      have HS := Lib.hid (cutTo_step (lo := lo) (hi := hi) hpk)
      clear hpk
      generalize cutTo lo hi ps k = LH at *
      obtain ⟨L, H⟩ := LH
      obtain ⟨x, y⟩ := p
      simp only at *
      have e0 : (0 : Int) ≤ (k : Int) := by omega
      have e1 : (k : Int) < (n : Int) := by omega
      by_cases ha : 0 < x
      · have hd := ediv_bd (a := y) (b := x) (X := 200000000) (by omega) p3 p4 (by omega)
        have hna : ¬ x < 0 := by omega
        have HL := Lib.hid (show cutLo L x y = L by simp [cutLo]; omega)
        have HH := Lib.hid (show cutHi L H x y = if y / x < H then y / x else H by simp [cutHi, ha])
        by_cases hm : y / x < H
        all_goals
          go_wp2_with fail
          go_quiet (fail)
          go_wp2_with (go_at_call 74; refine (sFloor_any _ _ _ (by omega) (by omega) (by omega) (by omega)).mono ?_; rintro e w' ⟨rfl, rfl⟩)
          go_roundw
          case rel => exact ⟨k + 1, by omega, by go_num, by rw [HS.out]; exact congrArg _ HL.out.symm, by rw [HS.out]; exact congrArg _ (by rw [HH.out]; split <;> omega), hq.drewN _⟩
          case measure => simp [intOf]; omega
      · by_cases hb : x < 0
        · have hd := edivn_bd (a := y) (b := x) (X := 200000000) (by omega) p3 p4 (by omega)
          have HL := Lib.hid (show cutLo L x y = if L < y / x then y / x else L by simp [cutLo, hb])
          have HH := Lib.hid (show cutHi L H x y = H by simp [cutHi, hb]; omega)
          by_cases hm : L < y / x
          all_goals
            go_wp2_with fail
            go_quiet (fail)
            go_wp2_with (go_at_call 74; refine (sFloor_any _ _ _ (by omega) (by omega) (by omega) (by omega)).mono ?_; rintro e w' ⟨rfl, rfl⟩)
            go_roundw
            case rel => exact ⟨k + 1, by omega, by go_num, by rw [HS.out]; exact congrArg _ (by rw [HL.out]; split <;> omega), by rw [HS.out]; exact congrArg _ HH.out.symm, hq.drewN _⟩
            case measure => simp [intOf]; omega
        · have HL := Lib.hid (show cutLo L x y = L by simp [cutLo]; omega)
          by_cases hm : y < 0
          · have HH := Lib.hid (show cutHi L H x y = L - 1 by unfold cutHi; rw [if_neg ha, if_neg hb, if_pos hm])
            go_wp2_with fail
            go_quiet (fail)
            go_wp2_with fail
            go_roundw
            case rel => exact ⟨k + 1, by omega, by go_num, by rw [HS.out]; exact congrArg _ HL.out.symm, by rw [HS.out]; exact congrArg _ HH.out.symm, hq.drewN _⟩
            case measure => simp [intOf]; omega
          · have HH := Lib.hid (show cutHi L H x y = H by unfold cutHi; rw [if_neg ha, if_neg hb, if_neg hm])
            go_wp2_with fail
            go_quiet (fail)
            go_wp2_with fail
            go_roundw
            case rel => exact ⟨k + 1, by omega, by go_num, by rw [HS.out]; exact congrArg _ HL.out.symm, by rw [HS.out]; exact congrArg _ HH.out.symm, hq.drewN _⟩
            case measure => simp [intOf]; omega
    · go_wp2_with fail
      go_ret2
      obtain rfl : k = n := by omega
      exact ⟨rfl, hq⟩
end Go.Proofs.Ytgchbajhceddnaa
