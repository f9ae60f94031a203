/- What IsPossible and FuelFor (of the program and of the reference) do, by walks over their text. No condition but that the numbers fit their kind. -/
import Derived.Test.YtgchbajhceddnaaFuel
set_option linter.unusedVariables false
set_option maxRecDepth 100000
namespace Go.Proofs.Ytgchbajhceddnaa
open Go.RowKit Go.Joins Go.Deep

def possR (n : Nat) (fs : List Fc) (fu le q r : Int) : Bool := pointCode n fs fu le q r == 0 && possB fs le q r
def fuelCode (n : Nat) (fs : List Fc) (fu le q r : Int) : Int := if pointCode n fs fu le q r = 0 then (if possB fs le q r = true then 0 else 7) else pointCode n fs fu le q r
def fuelVal (n : Nat) (fs : List Fc) (fu le q r : Int) : Int := if pointCode n fs fu le q r = 0 then (if possB fs le q r = true then fuelOf fu q r else 0) else 0

set_option maxHeartbeats 2000000 in
theorem poss_any (A : Option Addr) (n c : Nat) (fs : List Fc) (fu le q r : Int) (w : World) (h : Faces w A n fs) (hn : n ≤ 9223372036854775807) :
    Calls Try.prog 23 #[.agg #[.slice A n c, .int .i64 fu, .int .i64 le], .int .i64 q, .int .i64 r] w fun e w' => e = .returned (.bool (possR n fs fu le q r)) ∧ Below w.heap.size w w' := by
  by_cases hp : pointCode n fs fu le q r = 0
  · obtain ⟨p1, p2⟩ := pointCode_ok hp
    have hpb := point_bd p2
    have e1 : (pointCode n fs fu le q r == 0) = true := by simp [hp]
    have HV := Lib.hid (show possR n fs fu le q r = possB fs le q r by simp [possR, hp])
    have HC := Lib.hid p1
    clear hp p1 p2
    have hI0 := h.alloc (.cells #[.slice A n c, .int .i64 fu, .int .i64 le] 32)
    have hw0 : Below w.heap.size w (w.alloc (.cells #[.slice A n c, .int .i64 fu, .int .i64 le] 32)) := (Below.refl _ _).alloc (Nat.le_refl _) _
    have hB0 : Below (w.alloc (.cells #[.slice A n c, .int .i64 fu, .int .i64 le] 32)).heap.size (w.alloc (.cells #[.slice A n c, .int .i64 fu, .int .i64 le] 32)) (w.alloc (.cells #[.slice A n c, .int .i64 fu, .int .i64 le] 32)) := Below.refl _ _
    go_enter Try.func23, Try.ntmps23
    go_wp2_with fail
    refine (checkPoint_any _ _ _ _ _ _ _ _ _ (hI0.below hB0) hn).mono ?_
    rintro e w1 ⟨rfl, hb1⟩
    have hB1 := bthen hB0 hb1 hB0.size
    obtain ⟨hc1, hf1⟩ := bcell hB1
    have hz1 : w.heap.size < w1.heap.size := by have := hB1.size; simp at this; omega
    go_wp2_with fail
    refine (isPoss_any _ _ _ _ _ _ _ _ _ (hI0.below hB1) HC (by omega) (by omega)).mono ?_
    rintro e w2 ⟨rfl, hb2⟩
    have hB2 := bthen hB1 hb2 hB1.size
    obtain ⟨hc2, hf2⟩ := bcell hB2
    have hz2 : w.heap.size < w2.heap.size := by have := hB2.size; simp at this; omega
    go_wp2_with fail
    go_ret
    exact ⟨rb HV.out.symm, bthen hw0 hB2 hw0.size⟩
  · have e1 : (pointCode n fs fu le q r == 0) = false := by simp [hp]
    have HV := Lib.hid (show possR n fs fu le q r = false by simp [possR, hp])
    clear hp
    have hI0 := h.alloc (.cells #[.slice A n c, .int .i64 fu, .int .i64 le] 32)
    have hw0 : Below w.heap.size w (w.alloc (.cells #[.slice A n c, .int .i64 fu, .int .i64 le] 32)) := (Below.refl _ _).alloc (Nat.le_refl _) _
    have hB0 : Below (w.alloc (.cells #[.slice A n c, .int .i64 fu, .int .i64 le] 32)).heap.size (w.alloc (.cells #[.slice A n c, .int .i64 fu, .int .i64 le] 32)) (w.alloc (.cells #[.slice A n c, .int .i64 fu, .int .i64 le] 32)) := Below.refl _ _
    go_enter Try.func23, Try.ntmps23
    go_wp2_with fail
    refine (checkPoint_any _ _ _ _ _ _ _ _ _ (hI0.below hB0) hn).mono ?_
    rintro e w1 ⟨rfl, hb1⟩
    have hB1 := bthen hB0 hb1 hB0.size
    obtain ⟨hc1, hf1⟩ := bcell hB1
    have hz1 : w.heap.size < w1.heap.size := by have := hB1.size; simp at this; omega
    go_wp2_with fail
    go_ret
    exact ⟨rb HV.out.symm, bthen hw0 hB1 hw0.size⟩
set_option maxHeartbeats 2000000 in
theorem sPossible_any (A : Option Addr) (n c : Nat) (fs : List Fc) (fu le q r : Int) (w : World) (h : Faces w A n fs) (hn : n ≤ 9223372036854775807) :
    Calls Try.prog 22 #[.agg #[.slice A n c, .int .i64 fu, .int .i64 le], .int .i64 q, .int .i64 r] w fun e w' => e = .returned (.bool (possR n fs fu le q r)) ∧ Below w.heap.size w w' := by
  rcases (orB (orB trivial) : compB n fs fu le = false ∨ compB n fs fu le = true ∧ (pointB q r = false ∨ pointB q r = true ∧ True)) with h1 | ⟨h1, h2 | ⟨h2, _⟩⟩
  · have HV := Lib.hid (show possR n fs fu le q r = false by simp [possR, pointCode, h1])
    have hI0 := h.alloc (.cells #[.slice A n c, .int .i64 fu, .int .i64 le] 32)
    have hw0 : Below w.heap.size w (w.alloc (.cells #[.slice A n c, .int .i64 fu, .int .i64 le] 32)) := (Below.refl _ _).alloc (Nat.le_refl _) _
    have hB0 : Below (w.alloc (.cells #[.slice A n c, .int .i64 fu, .int .i64 le] 32)).heap.size (w.alloc (.cells #[.slice A n c, .int .i64 fu, .int .i64 le] 32)) (w.alloc (.cells #[.slice A n c, .int .i64 fu, .int .i64 le] 32)) := Below.refl _ _
    go_enter Try.func22, Try.ntmps22
    go_wp2_with fail
    refine (sIsComp_any _ _ _ _ _ _ _ (hI0.below hB0) hn).mono ?_
    rintro e w1 ⟨rfl, hb1⟩
    have hB1 := bthen hB0 hb1 hB0.size
    obtain ⟨hc1, hf1⟩ := bcell hB1
    have hz1 : w.heap.size < w1.heap.size := by have := hB1.size; simp at this; omega
    go_wp2_with fail
    go_ret
    exact ⟨rb HV.out.symm, bthen hw0 hB1 hw0.size⟩
  · have HV := Lib.hid (show possR n fs fu le q r = false by simp [possR, pointCode, h1, h2])
    have hI0 := h.alloc (.cells #[.slice A n c, .int .i64 fu, .int .i64 le] 32)
    have hw0 : Below w.heap.size w (w.alloc (.cells #[.slice A n c, .int .i64 fu, .int .i64 le] 32)) := (Below.refl _ _).alloc (Nat.le_refl _) _
    have hB0 : Below (w.alloc (.cells #[.slice A n c, .int .i64 fu, .int .i64 le] 32)).heap.size (w.alloc (.cells #[.slice A n c, .int .i64 fu, .int .i64 le] 32)) (w.alloc (.cells #[.slice A n c, .int .i64 fu, .int .i64 le] 32)) := Below.refl _ _
    go_enter Try.func22, Try.ntmps22
    go_wp2_with fail
    refine (sIsComp_any _ _ _ _ _ _ _ (hI0.below hB0) hn).mono ?_
    rintro e w1 ⟨rfl, hb1⟩
    have hB1 := bthen hB0 hb1 hB0.size
    obtain ⟨hc1, hf1⟩ := bcell hB1
    have hz1 : w.heap.size < w1.heap.size := by have := hB1.size; simp at this; omega
    go_wp2_with (first | (go_at_call 54; refine (sPoint_any _ _ _).mono ?_; rintro e w' ⟨rfl, rfl⟩))
    go_ret
    exact ⟨rb HV.out.symm, bthen hw0 hB1 hw0.size⟩
  · have HV := Lib.hid (show possR n fs fu le q r = possB fs le q r by simp [possR, pointCode, h1, h2])
    have hpb := point_bd h2
    have HC := Lib.hid h1
    have hI0 := h.alloc (.cells #[.slice A n c, .int .i64 fu, .int .i64 le] 32)
    have hw0 : Below w.heap.size w (w.alloc (.cells #[.slice A n c, .int .i64 fu, .int .i64 le] 32)) := (Below.refl _ _).alloc (Nat.le_refl _) _
    have hB0 : Below (w.alloc (.cells #[.slice A n c, .int .i64 fu, .int .i64 le] 32)).heap.size (w.alloc (.cells #[.slice A n c, .int .i64 fu, .int .i64 le] 32)) (w.alloc (.cells #[.slice A n c, .int .i64 fu, .int .i64 le] 32)) := Below.refl _ _
    go_enter Try.func22, Try.ntmps22
    go_wp2_with fail
    refine (sIsComp_any _ _ _ _ _ _ _ (hI0.below hB0) hn).mono ?_
    rintro e w1 ⟨rfl, hb1⟩
    have hB1 := bthen hB0 hb1 hB0.size
    obtain ⟨hc1, hf1⟩ := bcell hB1
    have hz1 : w.heap.size < w1.heap.size := by have := hB1.size; simp at this; omega
    go_wp2_with (first | (go_at_call 54; refine (sPoint_any _ _ _).mono ?_; rintro e w' ⟨rfl, rfl⟩))
    refine (sPoss_any _ _ _ _ _ _ _ _ _ (hI0.below hB1) HC (by omega) (by omega)).mono ?_
    rintro e w2 ⟨rfl, hb2⟩
    have hB2 := bthen hB1 hb2 hB1.size
    obtain ⟨hc2, hf2⟩ := bcell hB2
    have hz2 : w.heap.size < w2.heap.size := by have := hB2.size; simp at this; omega
    go_wp2_with fail
    go_ret
    exact ⟨rb HV.out.symm, bthen hw0 hB2 hw0.size⟩
set_option maxHeartbeats 2000000 in
theorem fuel_any (A : Option Addr) (n c : Nat) (fs : List Fc) (fu le q r : Int) (w : World) (h : Faces w A n fs) (hn : n ≤ 9223372036854775807) :
    Calls Try.prog 25 #[.agg #[.slice A n c, .int .i64 fu, .int .i64 le], .int .i64 q, .int .i64 r] w fun e w' => e = .returned (.tuple #[.int .i64 (fuelVal n fs fu le q r), .int .i64 (fuelCode n fs fu le q r)]) ∧ Below w.heap.size w w' := by
  by_cases hp : pointCode n fs fu le q r = 0
  · obtain ⟨p1, p2⟩ := pointCode_ok hp
    have hpb := point_bd p2
    have hcb := comp_bd p1
    have e1 : (pointCode n fs fu le q r != 0) = false := by simp [hp]
    have HC := Lib.hid p1
    have HP := Lib.hid hp
    clear hp p1 p2
    cases hs : possB fs le q r
    · have HV := Lib.hid (show fuelVal n fs fu le q r = 0 by simp [fuelVal, HP.out, hs])
      have HK := Lib.hid (show fuelCode n fs fu le q r = 7 by simp [fuelCode, HP.out, hs])
      have hI0 := h.alloc (.cells #[.slice A n c, .int .i64 fu, .int .i64 le] 32)
      have hw0 : Below w.heap.size w (w.alloc (.cells #[.slice A n c, .int .i64 fu, .int .i64 le] 32)) := (Below.refl _ _).alloc (Nat.le_refl _) _
      have hB0 : Below (w.alloc (.cells #[.slice A n c, .int .i64 fu, .int .i64 le] 32)).heap.size (w.alloc (.cells #[.slice A n c, .int .i64 fu, .int .i64 le] 32)) (w.alloc (.cells #[.slice A n c, .int .i64 fu, .int .i64 le] 32)) := Below.refl _ _
      go_enter Try.func25, Try.ntmps25
      go_wp2_with fail
      refine (checkPoint_any _ _ _ _ _ _ _ _ _ (hI0.below hB0) hn).mono ?_
      rintro e w1 ⟨rfl, hb1⟩
      have hB1 := bthen hB0 hb1 hB0.size
      obtain ⟨hc1, hf1⟩ := bcell hB1
      have hz1 : w.heap.size < w1.heap.size := by have := hB1.size; simp at this; omega
      go_wp2_with fail
      refine (isPoss_any _ _ _ _ _ _ _ _ _ (hI0.below hB1) HC (by omega) (by omega)).mono ?_
      rintro e w2 ⟨rfl, hb2⟩
      have hB2 := bthen hB1 hb2 hB1.size
      obtain ⟨hc2, hf2⟩ := bcell hB2
      have hz2 : w.heap.size < w2.heap.size := by have := hB2.size; simp at this; omega
      go_wp2_with fail
      go_ret2
      exact ⟨ri2 HV.out.symm HK.out.symm, bthen hw0 hB2 hw0.size⟩
    · have HV := Lib.hid (show fuelVal n fs fu le q r = fuelOf fu q r by simp [fuelVal, HP.out, hs])
      have HK := Lib.hid (show fuelCode n fs fu le q r = 0 by simp [fuelCode, HP.out, hs])
      have hI0 := h.alloc (.cells #[.slice A n c, .int .i64 fu, .int .i64 le] 32)
      have hw0 : Below w.heap.size w (w.alloc (.cells #[.slice A n c, .int .i64 fu, .int .i64 le] 32)) := (Below.refl _ _).alloc (Nat.le_refl _) _
      have hB0 : Below (w.alloc (.cells #[.slice A n c, .int .i64 fu, .int .i64 le] 32)).heap.size (w.alloc (.cells #[.slice A n c, .int .i64 fu, .int .i64 le] 32)) (w.alloc (.cells #[.slice A n c, .int .i64 fu, .int .i64 le] 32)) := Below.refl _ _
      go_enter Try.func25, Try.ntmps25
      go_wp2_with fail
      refine (checkPoint_any _ _ _ _ _ _ _ _ _ (hI0.below hB0) hn).mono ?_
      rintro e w1 ⟨rfl, hb1⟩
      have hB1 := bthen hB0 hb1 hB0.size
      obtain ⟨hc1, hf1⟩ := bcell hB1
      have hz1 : w.heap.size < w1.heap.size := by have := hB1.size; simp at this; omega
      go_wp2_with fail
      refine (isPoss_any _ _ _ _ _ _ _ _ _ (hI0.below hB1) HC (by omega) (by omega)).mono ?_
      rintro e w2 ⟨rfl, hb2⟩
      have hB2 := bthen hB1 hb2 hB1.size
      obtain ⟨hc2, hf2⟩ := bcell hB2
      have hz2 : w.heap.size < w2.heap.size := by have := hB2.size; simp at this; omega
      go_wp2_with fail
      refine (fuelFor_any _ _ _ _ _ _ _ _ (by omega) (by omega) (by omega) (by omega) (by omega) (by omega)).mono ?_
      rintro e w3 ⟨rfl, hb3⟩
      have hB3 := bthen hB2 hb3 hB2.size
      obtain ⟨hc3, hf3⟩ := bcell hB3
      have hz3 : w.heap.size < w3.heap.size := by have := hB3.size; simp at this; omega
      go_wp2_with fail
      go_ret2
      exact ⟨ri2 HV.out.symm HK.out.symm, bthen hw0 hB3 hw0.size⟩
  · have e1 : (pointCode n fs fu le q r != 0) = true := by simp [hp]
    have HV := Lib.hid (show fuelVal n fs fu le q r = 0 by simp [fuelVal, hp])
    have HK := Lib.hid (show fuelCode n fs fu le q r = pointCode n fs fu le q r by simp [fuelCode, hp])
    clear hp
    have hI0 := h.alloc (.cells #[.slice A n c, .int .i64 fu, .int .i64 le] 32)
    have hw0 : Below w.heap.size w (w.alloc (.cells #[.slice A n c, .int .i64 fu, .int .i64 le] 32)) := (Below.refl _ _).alloc (Nat.le_refl _) _
    have hB0 : Below (w.alloc (.cells #[.slice A n c, .int .i64 fu, .int .i64 le] 32)).heap.size (w.alloc (.cells #[.slice A n c, .int .i64 fu, .int .i64 le] 32)) (w.alloc (.cells #[.slice A n c, .int .i64 fu, .int .i64 le] 32)) := Below.refl _ _
    go_enter Try.func25, Try.ntmps25
    go_wp2_with fail
    refine (checkPoint_any _ _ _ _ _ _ _ _ _ (hI0.below hB0) hn).mono ?_
    rintro e w1 ⟨rfl, hb1⟩
    have hB1 := bthen hB0 hb1 hB0.size
    obtain ⟨hc1, hf1⟩ := bcell hB1
    have hz1 : w.heap.size < w1.heap.size := by have := hB1.size; simp at this; omega
    go_wp2_with fail
    go_ret2
    exact ⟨ri2 HV.out.symm HK.out.symm, bthen hw0 hB1 hw0.size⟩
set_option maxHeartbeats 2000000 in
theorem sFuelFor_any (A : Option Addr) (n c : Nat) (fs : List Fc) (fu le q r : Int) (w : World) (h : Faces w A n fs) (hn : n ≤ 9223372036854775807) :
    Calls Try.prog 24 #[.agg #[.slice A n c, .int .i64 fu, .int .i64 le], .int .i64 q, .int .i64 r] w fun e w' => e = .returned (.tuple #[.int .i64 (fuelVal n fs fu le q r), .int .i64 (fuelCode n fs fu le q r)]) ∧ Below w.heap.size w w' := by
  rcases (orB (orB (orB trivial)) : compB n fs fu le = false ∨ compB n fs fu le = true ∧ (pointB q r = false ∨ pointB q r = true ∧ (possB fs le q r = false ∨ possB fs le q r = true ∧ True))) with h1 | ⟨h1, h2 | ⟨h2, h3 | ⟨h3, _⟩⟩⟩
  · have HV := Lib.hid (show fuelVal n fs fu le q r = 0 by simp [fuelVal, pointCode, h1])
    have HK := Lib.hid (show fuelCode n fs fu le q r = 1 by simp [fuelCode, pointCode, h1])
    have hI0 := h.alloc (.cells #[.slice A n c, .int .i64 fu, .int .i64 le] 32)
    have hw0 : Below w.heap.size w (w.alloc (.cells #[.slice A n c, .int .i64 fu, .int .i64 le] 32)) := (Below.refl _ _).alloc (Nat.le_refl _) _
    have hB0 : Below (w.alloc (.cells #[.slice A n c, .int .i64 fu, .int .i64 le] 32)).heap.size (w.alloc (.cells #[.slice A n c, .int .i64 fu, .int .i64 le] 32)) (w.alloc (.cells #[.slice A n c, .int .i64 fu, .int .i64 le] 32)) := Below.refl _ _
    go_enter Try.func24, Try.ntmps24
    go_wp2_with fail
    refine (sIsComp_any _ _ _ _ _ _ _ (hI0.below hB0) hn).mono ?_
    rintro e w1 ⟨rfl, hb1⟩
    have hB1 := bthen hB0 hb1 hB0.size
    obtain ⟨hc1, hf1⟩ := bcell hB1
    have hz1 : w.heap.size < w1.heap.size := by have := hB1.size; simp at this; omega
    go_wp2_with fail
    go_ret2
    exact ⟨ri2 HV.out.symm HK.out.symm, bthen hw0 hB1 hw0.size⟩
  · have HV := Lib.hid (show fuelVal n fs fu le q r = 0 by simp [fuelVal, pointCode, h1, h2])
    have HK := Lib.hid (show fuelCode n fs fu le q r = 2 by simp [fuelCode, pointCode, h1, h2])
    have hI0 := h.alloc (.cells #[.slice A n c, .int .i64 fu, .int .i64 le] 32)
    have hw0 : Below w.heap.size w (w.alloc (.cells #[.slice A n c, .int .i64 fu, .int .i64 le] 32)) := (Below.refl _ _).alloc (Nat.le_refl _) _
    have hB0 : Below (w.alloc (.cells #[.slice A n c, .int .i64 fu, .int .i64 le] 32)).heap.size (w.alloc (.cells #[.slice A n c, .int .i64 fu, .int .i64 le] 32)) (w.alloc (.cells #[.slice A n c, .int .i64 fu, .int .i64 le] 32)) := Below.refl _ _
    go_enter Try.func24, Try.ntmps24
    go_wp2_with fail
    refine (sIsComp_any _ _ _ _ _ _ _ (hI0.below hB0) hn).mono ?_
    rintro e w1 ⟨rfl, hb1⟩
    have hB1 := bthen hB0 hb1 hB0.size
    obtain ⟨hc1, hf1⟩ := bcell hB1
    have hz1 : w.heap.size < w1.heap.size := by have := hB1.size; simp at this; omega
    go_wp2_with (first | (go_at_call 54; refine (sPoint_any _ _ _).mono ?_; rintro e w' ⟨rfl, rfl⟩))
    go_ret2
    exact ⟨ri2 HV.out.symm HK.out.symm, bthen hw0 hB1 hw0.size⟩
  · have HV := Lib.hid (show fuelVal n fs fu le q r = 0 by simp [fuelVal, pointCode, h1, h2, h3])
    have HK := Lib.hid (show fuelCode n fs fu le q r = 7 by simp [fuelCode, pointCode, h1, h2, h3])
    have hpb := point_bd h2
    have HC := Lib.hid h1
    have hI0 := h.alloc (.cells #[.slice A n c, .int .i64 fu, .int .i64 le] 32)
    have hw0 : Below w.heap.size w (w.alloc (.cells #[.slice A n c, .int .i64 fu, .int .i64 le] 32)) := (Below.refl _ _).alloc (Nat.le_refl _) _
    have hB0 : Below (w.alloc (.cells #[.slice A n c, .int .i64 fu, .int .i64 le] 32)).heap.size (w.alloc (.cells #[.slice A n c, .int .i64 fu, .int .i64 le] 32)) (w.alloc (.cells #[.slice A n c, .int .i64 fu, .int .i64 le] 32)) := Below.refl _ _
    go_enter Try.func24, Try.ntmps24
    go_wp2_with fail
    refine (sIsComp_any _ _ _ _ _ _ _ (hI0.below hB0) hn).mono ?_
    rintro e w1 ⟨rfl, hb1⟩
    have hB1 := bthen hB0 hb1 hB0.size
    obtain ⟨hc1, hf1⟩ := bcell hB1
    have hz1 : w.heap.size < w1.heap.size := by have := hB1.size; simp at this; omega
    go_wp2_with (first | (go_at_call 54; refine (sPoint_any _ _ _).mono ?_; rintro e w' ⟨rfl, rfl⟩))
    refine (sPoss_any _ _ _ _ _ _ _ _ _ (hI0.below hB1) HC (by omega) (by omega)).mono ?_
    rintro e w2 ⟨rfl, hb2⟩
    have hB2 := bthen hB1 hb2 hB1.size
    obtain ⟨hc2, hf2⟩ := bcell hB2
    have hz2 : w.heap.size < w2.heap.size := by have := hB2.size; simp at this; omega
    go_wp2_with fail
    go_ret2
    exact ⟨ri2 HV.out.symm HK.out.symm, bthen hw0 hB2 hw0.size⟩
  · have HV := Lib.hid (show fuelVal n fs fu le q r = fuelOf fu q r by simp [fuelVal, pointCode, h1, h2, h3])
    have HK := Lib.hid (show fuelCode n fs fu le q r = 0 by simp [fuelCode, pointCode, h1, h2, h3])
    have hpb := point_bd h2
    have hcb := comp_bd h1
    have HC := Lib.hid h1
    have hI0 := h.alloc (.cells #[.slice A n c, .int .i64 fu, .int .i64 le] 32)
    have hw0 : Below w.heap.size w (w.alloc (.cells #[.slice A n c, .int .i64 fu, .int .i64 le] 32)) := (Below.refl _ _).alloc (Nat.le_refl _) _
    have hB0 : Below (w.alloc (.cells #[.slice A n c, .int .i64 fu, .int .i64 le] 32)).heap.size (w.alloc (.cells #[.slice A n c, .int .i64 fu, .int .i64 le] 32)) (w.alloc (.cells #[.slice A n c, .int .i64 fu, .int .i64 le] 32)) := Below.refl _ _
    go_enter Try.func24, Try.ntmps24
    go_wp2_with fail
    refine (sIsComp_any _ _ _ _ _ _ _ (hI0.below hB0) hn).mono ?_
    rintro e w1 ⟨rfl, hb1⟩
    have hB1 := bthen hB0 hb1 hB0.size
    obtain ⟨hc1, hf1⟩ := bcell hB1
    have hz1 : w.heap.size < w1.heap.size := by have := hB1.size; simp at this; omega
    go_wp2_with (first | (go_at_call 54; refine (sPoint_any _ _ _).mono ?_; rintro e w' ⟨rfl, rfl⟩))
    refine (sPoss_any _ _ _ _ _ _ _ _ _ (hI0.below hB1) HC (by omega) (by omega)).mono ?_
    rintro e w2 ⟨rfl, hb2⟩
    have hB2 := bthen hB1 hb2 hB1.size
    obtain ⟨hc2, hf2⟩ := bcell hB2
    have hz2 : w.heap.size < w2.heap.size := by have := hB2.size; simp at this; omega
    go_wp2_with fail
    refine (sFuel_any _ _ _ _ _ _ _ _ (by omega) (by omega) (by omega) (by omega) (by omega) (by omega)).mono ?_
    rintro e w3 ⟨rfl, hb3⟩
    have hB3 := bthen hB2 hb3 hB2.size
    obtain ⟨hc3, hf3⟩ := bcell hB3
    have hz3 : w.heap.size < w3.heap.size := by have := hB3.size; simp at this; omega
    go_wp2_with fail
    go_ret2
    exact ⟨ri2 HV.out.symm HK.out.symm, bthen hw0 hB3 hw0.size⟩
end Go.Proofs.Ytgchbajhceddnaa
