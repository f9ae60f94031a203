/- What Lift (of the program and of the reference) does, by walks over its text. No condition but that the numbers fit their kind. -/
import Derived.Test.YtgchbajhceddnaaEnvelope
import Derived.Test.YtgchbajhceddnaaRatio
set_option linter.unusedVariables false
set_option maxRecDepth 100000
namespace Go.Proofs.Ytgchbajhceddnaa
open Go.RowKit Go.Joins Go.Deep

/-- The results of Lift. -/
def liftTop (fs : List Fc) (q b a : Int) : Int := if ratio b a < ratLo fs q then ratLo fs q else ratio b a
def liftCode (n : Nat) (fs : List Fc) (fu le q b a : Int) : Int :=
  if compB n fs fu le = false then 1 else if pointB q 1000 = false then 2 else if levelsB b a = false then 2 else if 3000 < ratio b a then 7
  else if ratLo fs q ≤ ratHi fs q ∧ le ≤ q then (if liftTop fs q b a ≤ ratHi fs q then 0 else 7) else 7
def liftR (n : Nat) (fs : List Fc) (fu le q b a : Int) : Int := if liftCode n fs fu le q b a = 0 then liftTop fs q b a else 0
def liftF (n : Nat) (fs : List Fc) (fu le q b a : Int) : Int := if liftCode n fs fu le q b a = 0 then fuelOf fu q (liftTop fs q b a) else 0

/-- The ways through Lift. -/
theorem lift_ways (n : Nat) (fs : List Fc) (fu le q b a : Int) :
    (compB n fs fu le = false ∧ liftCode n fs fu le q b a = 1) ∨
    (compB n fs fu le = true ∧ pointB q 1000 = false ∧ liftCode n fs fu le q b a = 2) ∨
    (compB n fs fu le = true ∧ pointB q 1000 = true ∧ levelsB b a = false ∧ liftCode n fs fu le q b a = 2) ∨
    (compB n fs fu le = true ∧ pointB q 1000 = true ∧ levelsB b a = true ∧ 3000 < ratio b a ∧ liftCode n fs fu le q b a = 7) ∨
    (compB n fs fu le = true ∧ pointB q 1000 = true ∧ levelsB b a = true ∧ ratio b a ≤ 3000 ∧ ¬ (ratLo fs q ≤ ratHi fs q ∧ le ≤ q) ∧ liftCode n fs fu le q b a = 7) ∨
    (compB n fs fu le = true ∧ pointB q 1000 = true ∧ levelsB b a = true ∧ ratio b a ≤ 3000 ∧ (ratLo fs q ≤ ratHi fs q ∧ le ≤ q) ∧ ¬ liftTop fs q b a ≤ ratHi fs q ∧ liftCode n fs fu le q b a = 7) ∨
    (compB n fs fu le = true ∧ pointB q 1000 = true ∧ levelsB b a = true ∧ ratio b a ≤ 3000 ∧ (ratLo fs q ≤ ratHi fs q ∧ le ≤ q) ∧ liftTop fs q b a ≤ ratHi fs q ∧ liftCode n fs fu le q b a = 0) := by
  unfold liftCode
  cases h1 : compB n fs fu le
  · simp
  cases h2 : pointB q 1000
  · simp
  cases h3 : levelsB b a
  · simp
  by_cases h4 : 3000 < ratio b a
  · simp [h4]
  by_cases h5 : ratLo fs q ≤ ratHi fs q ∧ le ≤ q
  · by_cases h6 : liftTop fs q b a ≤ ratHi fs q
    · simp [h4, h5, h6]; omega
    · simp [h4, h5, h6]; omega
  · simp [h4, h5]; omega
theorem liftTop_bd {fs : List Fc} {q b a : Int} (h : ratLo fs q ≤ ratHi fs q) (hr : ratio b a ≤ 3000) : 1000 ≤ liftTop fs q b a ∧ liftTop fs q b a ≤ 3000 ∧ ratLo fs q ≤ liftTop fs q b a := by
  have h1 := rat_range h
  have h2 := (ratio_least b a).1
  unfold liftTop
  split <;> omega
set_option maxHeartbeats 8000000 in
theorem lift_any (A : Option Addr) (n c : Nat) (fs : List Fc) (fu le q b a : Int) (w : World) (h : Faces w A n fs) (hn : n ≤ 9223372036854775807) :
    Calls Try.prog 44 #[.agg #[.slice A n c, .int .i64 fu, .int .i64 le], .int .i64 q, .int .i64 b, .int .i64 a] w fun e w' => e = .returned (.tuple #[.int .i64 (liftR n fs fu le q b a), .int .i64 (liftF n fs fu le q b a), .int .i64 (liftCode n fs fu le q b a)]) ∧ Below w.heap.size w w' := by
  rcases lift_ways n fs fu le q b a with ⟨h1, hk⟩ | ⟨h1, h2, hk⟩ | ⟨h1, h2, h3, hk⟩ | ⟨h1, h2, h3, h4, hk⟩ | ⟨h1, h2, h3, h4, h5, hk⟩ | ⟨h1, h2, h3, h4, h5, h6, hk⟩ | ⟨h1, h2, h3, h4, h5, h6, hk⟩
  · have hpc : pointCode n fs fu le q 1000 = 1 := by simp [pointCode, h1]
    have e1 : (pointCode n fs fu le q 1000 != 0) = true := by simp [hpc]
    have HPC := Lib.hid hpc
    clear hpc
    have HK := Lib.hid hk
    have HR := Lib.hid (show liftR n fs fu le q b a = 0 by simp [liftR, hk])
    have HF := Lib.hid (show liftF n fs fu le q b a = 0 by simp [liftF, hk])
    clear hk
    have hI0 := h.alloc (.cells #[.slice A n c, .int .i64 fu, .int .i64 le] 32)
    have hw0 : Below w.heap.size w (w.alloc (.cells #[.slice A n c, .int .i64 fu, .int .i64 le] 32)) := (Below.refl _ _).alloc (Nat.le_refl _) _
    have hB0 : Below (w.alloc (.cells #[.slice A n c, .int .i64 fu, .int .i64 le] 32)).heap.size (w.alloc (.cells #[.slice A n c, .int .i64 fu, .int .i64 le] 32)) (w.alloc (.cells #[.slice A n c, .int .i64 fu, .int .i64 le] 32)) := Below.refl _ _
    go_enter Try.func44, Try.ntmps44
    go_wp2_with fail
    refine (checkPoint_any _ _ _ _ _ _ _ _ _ (hI0.below hB0) hn).mono ?_
    rintro e w1 ⟨rfl, hb1⟩
    have hB1 := bthen hB0 hb1 hB0.size
    obtain ⟨hc1, hf1⟩ := bcell hB1
    have hz1 : w.heap.size < w1.heap.size := by have := hB1.size; simp at this; omega
    go_wp2_with fail
    go_ret3
    exact ⟨ri3 HR.out.symm HF.out.symm (HPC.out.trans HK.out.symm), bthen hw0 hB1 hw0.size⟩
  · have hpc : pointCode n fs fu le q 1000 = 2 := by simp [pointCode, h1, h2]
    have e1 : (pointCode n fs fu le q 1000 != 0) = true := by simp [hpc]
    have HPC := Lib.hid hpc
    clear hpc
    have HK := Lib.hid hk
    have HR := Lib.hid (show liftR n fs fu le q b a = 0 by simp [liftR, hk])
    have HF := Lib.hid (show liftF n fs fu le q b a = 0 by simp [liftF, hk])
    clear hk
    have hI0 := h.alloc (.cells #[.slice A n c, .int .i64 fu, .int .i64 le] 32)
    have hw0 : Below w.heap.size w (w.alloc (.cells #[.slice A n c, .int .i64 fu, .int .i64 le] 32)) := (Below.refl _ _).alloc (Nat.le_refl _) _
    have hB0 : Below (w.alloc (.cells #[.slice A n c, .int .i64 fu, .int .i64 le] 32)).heap.size (w.alloc (.cells #[.slice A n c, .int .i64 fu, .int .i64 le] 32)) (w.alloc (.cells #[.slice A n c, .int .i64 fu, .int .i64 le] 32)) := Below.refl _ _
    go_enter Try.func44, Try.ntmps44
    go_wp2_with fail
    refine (checkPoint_any _ _ _ _ _ _ _ _ _ (hI0.below hB0) hn).mono ?_
    rintro e w1 ⟨rfl, hb1⟩
    have hB1 := bthen hB0 hb1 hB0.size
    obtain ⟨hc1, hf1⟩ := bcell hB1
    have hz1 : w.heap.size < w1.heap.size := by have := hB1.size; simp at this; omega
    go_wp2_with fail
    go_ret3
    exact ⟨ri3 HR.out.symm HF.out.symm (HPC.out.trans HK.out.symm), bthen hw0 hB1 hw0.size⟩
  · have hpc : pointCode n fs fu le q 1000 = 0 := by simp [pointCode, h1, h2]
    have e1 : (pointCode n fs fu le q 1000 != 0) = false := by simp [hpc]
    have HPC := Lib.hid hpc
    clear hpc
    have HK := Lib.hid hk
    have HR := Lib.hid (show liftR n fs fu le q b a = 0 by simp [liftR, hk])
    have HF := Lib.hid (show liftF n fs fu le q b a = 0 by simp [liftF, hk])
    clear hk
    have hnc : needCode b a = 2 := by simp [needCode, h3]
    have e2 : (needCode b a != 0) = true := by simp [hnc]
    have HNC := Lib.hid hnc
    clear hnc
    have hI0 := h.alloc (.cells #[.slice A n c, .int .i64 fu, .int .i64 le] 32)
    have hw0 : Below w.heap.size w (w.alloc (.cells #[.slice A n c, .int .i64 fu, .int .i64 le] 32)) := (Below.refl _ _).alloc (Nat.le_refl _) _
    have hB0 : Below (w.alloc (.cells #[.slice A n c, .int .i64 fu, .int .i64 le] 32)).heap.size (w.alloc (.cells #[.slice A n c, .int .i64 fu, .int .i64 le] 32)) (w.alloc (.cells #[.slice A n c, .int .i64 fu, .int .i64 le] 32)) := Below.refl _ _
    go_enter Try.func44, Try.ntmps44
    go_wp2_with fail
    refine (checkPoint_any _ _ _ _ _ _ _ _ _ (hI0.below hB0) hn).mono ?_
    rintro e w1 ⟨rfl, hb1⟩
    have hB1 := bthen hB0 hb1 hB0.size
    obtain ⟨hc1, hf1⟩ := bcell hB1
    have hz1 : w.heap.size < w1.heap.size := by have := hB1.size; simp at this; omega
    go_wp2_with (go_at_call 16; refine (needed_any _ _ _).mono ?_; rintro e w' ⟨rfl, rfl⟩)
    go_ret3
    exact ⟨ri3 HR.out.symm HF.out.symm (HNC.out.trans HK.out.symm), bthen hw0 hB1 hw0.size⟩
  · have hpc : pointCode n fs fu le q 1000 = 0 := by simp [pointCode, h1, h2]
    have e1 : (pointCode n fs fu le q 1000 != 0) = false := by simp [hpc]
    have HPC := Lib.hid hpc
    clear hpc
    have HK := Lib.hid hk
    have HR := Lib.hid (show liftR n fs fu le q b a = 0 by simp [liftR, hk])
    have HF := Lib.hid (show liftF n fs fu le q b a = 0 by simp [liftF, hk])
    clear hk
    have hnc : needCode b a = 7 := by simp [needCode, h3]; omega
    have e2 : (needCode b a != 0) = true := by simp [hnc]
    have HNC := Lib.hid hnc
    clear hnc
    have hI0 := h.alloc (.cells #[.slice A n c, .int .i64 fu, .int .i64 le] 32)
    have hw0 : Below w.heap.size w (w.alloc (.cells #[.slice A n c, .int .i64 fu, .int .i64 le] 32)) := (Below.refl _ _).alloc (Nat.le_refl _) _
    have hB0 : Below (w.alloc (.cells #[.slice A n c, .int .i64 fu, .int .i64 le] 32)).heap.size (w.alloc (.cells #[.slice A n c, .int .i64 fu, .int .i64 le] 32)) (w.alloc (.cells #[.slice A n c, .int .i64 fu, .int .i64 le] 32)) := Below.refl _ _
    go_enter Try.func44, Try.ntmps44
    go_wp2_with fail
    refine (checkPoint_any _ _ _ _ _ _ _ _ _ (hI0.below hB0) hn).mono ?_
    rintro e w1 ⟨rfl, hb1⟩
    have hB1 := bthen hB0 hb1 hB0.size
    obtain ⟨hc1, hf1⟩ := bcell hB1
    have hz1 : w.heap.size < w1.heap.size := by have := hB1.size; simp at this; omega
    go_wp2_with (go_at_call 16; refine (needed_any _ _ _).mono ?_; rintro e w' ⟨rfl, rfl⟩)
    go_ret3
    exact ⟨ri3 HR.out.symm HF.out.symm (HNC.out.trans HK.out.symm), bthen hw0 hB1 hw0.size⟩
  · have hpc : pointCode n fs fu le q 1000 = 0 := by simp [pointCode, h1, h2]
    have e1 : (pointCode n fs fu le q 1000 != 0) = false := by simp [hpc]
    have HPC := Lib.hid hpc
    clear hpc
    have HK := Lib.hid hk
    have HR := Lib.hid (show liftR n fs fu le q b a = 0 by simp [liftR, hk])
    have HF := Lib.hid (show liftF n fs fu le q b a = 0 by simp [liftF, hk])
    clear hk
    have hnc : needCode b a = 0 := by simp [needCode, h3, h4]
    have e2 : (needCode b a != 0) = false := by simp [hnc]
    have HNV := Lib.hid (show needVal b a = ratio b a by simp [needVal, h3, h4])
    have hqb := pt1000 h2
    have HC := Lib.hid h1
    have hcb := comp_bd h1
    have hrr := fun W hF => ratioRange_any A n c fs fu le q W hF HC hqb
    clear hnc
    simp only [if_neg h5] at hrr
    have HRR := Lib.hid hrr
    clear hrr h5
    have hI0 := h.alloc (.cells #[.slice A n c, .int .i64 fu, .int .i64 le] 32)
    have hw0 : Below w.heap.size w (w.alloc (.cells #[.slice A n c, .int .i64 fu, .int .i64 le] 32)) := (Below.refl _ _).alloc (Nat.le_refl _) _
    have hB0 : Below (w.alloc (.cells #[.slice A n c, .int .i64 fu, .int .i64 le] 32)).heap.size (w.alloc (.cells #[.slice A n c, .int .i64 fu, .int .i64 le] 32)) (w.alloc (.cells #[.slice A n c, .int .i64 fu, .int .i64 le] 32)) := Below.refl _ _
    go_enter Try.func44, Try.ntmps44
    go_wp2_with fail
    refine (checkPoint_any _ _ _ _ _ _ _ _ _ (hI0.below hB0) hn).mono ?_
    rintro e w1 ⟨rfl, hb1⟩
    have hB1 := bthen hB0 hb1 hB0.size
    obtain ⟨hc1, hf1⟩ := bcell hB1
    have hz1 : w.heap.size < w1.heap.size := by have := hB1.size; simp at this; omega
    go_wp2_with (go_at_call 16; refine (needed_any _ _ _).mono ?_; rintro e w' ⟨rfl, rfl⟩)
    refine (HRR.out _ (hI0.below hB1)).mono ?_
    rintro e w2 ⟨rfl, hb2⟩
    have hB2 := bthen hB1 hb2 hB1.size
    obtain ⟨hc2, hf2⟩ := bcell hB2
    have hz2 : w.heap.size < w2.heap.size := by have := hB2.size; simp at this; omega
    go_wp2_with fail
    go_ret3
    exact ⟨ri3 HR.out.symm HF.out.symm HK.out.symm, bthen hw0 hB2 hw0.size⟩
  · have hpc : pointCode n fs fu le q 1000 = 0 := by simp [pointCode, h1, h2]
    have e1 : (pointCode n fs fu le q 1000 != 0) = false := by simp [hpc]
    have HPC := Lib.hid hpc
    clear hpc
    have HK := Lib.hid hk
    have HR := Lib.hid (show liftR n fs fu le q b a = 0 by simp [liftR, hk])
    have HF := Lib.hid (show liftF n fs fu le q b a = 0 by simp [liftF, hk])
    clear hk
    have hnc : needCode b a = 0 := by simp [needCode, h3, h4]
    have e2 : (needCode b a != 0) = false := by simp [hnc]
    have HNV := Lib.hid (show needVal b a = ratio b a by simp [needVal, h3, h4])
    have hqb := pt1000 h2
    have HC := Lib.hid h1
    have hcb := comp_bd h1
    have hrr := fun W hF => ratioRange_any A n c fs fu le q W hF HC hqb
    clear hnc
    simp only [if_pos h5] at hrr
    have HRR := Lib.hid hrr
    clear hrr
    have hmb := liftTop_bd (b := b) (a := a) h5.1 h4
    have HM := Lib.hid (show (if needVal b a < ratLo fs q then ratLo fs q else needVal b a) = liftTop fs q b a by rw [HNV.out]; rfl)
    by_cases tm : needVal b a < ratLo fs q
    · have HV := Lib.hid (show ratLo fs q = liftTop fs q b a by have := HM.out; rw [if_pos tm] at this; exact this)
      have hvb : 1000 ≤ ratLo fs q ∧ ratLo fs q ≤ 3000 := by rw [HV.out]; omega
      have hpb : possB fs le q (ratLo fs q) = false := by
        rw [HV.out, Bool.eq_false_iff]
        intro hh
        exact h6 ((poss_ratio hmb.1 hmb.2.1).1 hh).2.1
      clear h5 h6 hmb HM
      have hI0 := h.alloc (.cells #[.slice A n c, .int .i64 fu, .int .i64 le] 32)
      have hw0 : Below w.heap.size w (w.alloc (.cells #[.slice A n c, .int .i64 fu, .int .i64 le] 32)) := (Below.refl _ _).alloc (Nat.le_refl _) _
      have hB0 : Below (w.alloc (.cells #[.slice A n c, .int .i64 fu, .int .i64 le] 32)).heap.size (w.alloc (.cells #[.slice A n c, .int .i64 fu, .int .i64 le] 32)) (w.alloc (.cells #[.slice A n c, .int .i64 fu, .int .i64 le] 32)) := Below.refl _ _
      go_enter Try.func44, Try.ntmps44
      go_wp2_with fail
      refine (checkPoint_any _ _ _ _ _ _ _ _ _ (hI0.below hB0) hn).mono ?_
      rintro e w1 ⟨rfl, hb1⟩
      have hB1 := bthen hB0 hb1 hB0.size
      obtain ⟨hc1, hf1⟩ := bcell hB1
      have hz1 : w.heap.size < w1.heap.size := by have := hB1.size; simp at this; omega
      go_wp2_with (go_at_call 16; refine (needed_any _ _ _).mono ?_; rintro e w' ⟨rfl, rfl⟩)
      refine (HRR.out _ (hI0.below hB1)).mono ?_
      rintro e w2 ⟨rfl, hb2⟩
      have hB2 := bthen hB1 hb2 hB1.size
      obtain ⟨hc2, hf2⟩ := bcell hB2
      have hz2 : w.heap.size < w2.heap.size := by have := hB2.size; simp at this; omega
      go_wp2_with fail
      refine (isPoss_any _ _ _ _ _ _ _ _ _ (hI0.below hB2) HC (by omega) (by omega)).mono ?_
      rintro e w3 ⟨rfl, hb3⟩
      have hB3 := bthen hB2 hb3 hB2.size
      obtain ⟨hc3, hf3⟩ := bcell hB3
      have hz3 : w.heap.size < w3.heap.size := by have := hB3.size; simp at this; omega
      go_wp2_with fail
      go_ret3
      exact ⟨ri3 HR.out.symm HF.out.symm HK.out.symm, bthen hw0 hB3 hw0.size⟩
    · have HV := Lib.hid (show needVal b a = liftTop fs q b a by have := HM.out; rw [if_neg tm] at this; exact this)
      have hvb : 1000 ≤ needVal b a ∧ needVal b a ≤ 3000 := by rw [HV.out]; omega
      have hpb : possB fs le q (needVal b a) = false := by
        rw [HV.out, Bool.eq_false_iff]
        intro hh
        exact h6 ((poss_ratio hmb.1 hmb.2.1).1 hh).2.1
      clear h5 h6 hmb HM
      have hI0 := h.alloc (.cells #[.slice A n c, .int .i64 fu, .int .i64 le] 32)
      have hw0 : Below w.heap.size w (w.alloc (.cells #[.slice A n c, .int .i64 fu, .int .i64 le] 32)) := (Below.refl _ _).alloc (Nat.le_refl _) _
      have hB0 : Below (w.alloc (.cells #[.slice A n c, .int .i64 fu, .int .i64 le] 32)).heap.size (w.alloc (.cells #[.slice A n c, .int .i64 fu, .int .i64 le] 32)) (w.alloc (.cells #[.slice A n c, .int .i64 fu, .int .i64 le] 32)) := Below.refl _ _
      go_enter Try.func44, Try.ntmps44
      go_wp2_with fail
      refine (checkPoint_any _ _ _ _ _ _ _ _ _ (hI0.below hB0) hn).mono ?_
      rintro e w1 ⟨rfl, hb1⟩
      have hB1 := bthen hB0 hb1 hB0.size
      obtain ⟨hc1, hf1⟩ := bcell hB1
      have hz1 : w.heap.size < w1.heap.size := by have := hB1.size; simp at this; omega
      go_wp2_with (go_at_call 16; refine (needed_any _ _ _).mono ?_; rintro e w' ⟨rfl, rfl⟩)
      refine (HRR.out _ (hI0.below hB1)).mono ?_
      rintro e w2 ⟨rfl, hb2⟩
      have hB2 := bthen hB1 hb2 hB1.size
      obtain ⟨hc2, hf2⟩ := bcell hB2
      have hz2 : w.heap.size < w2.heap.size := by have := hB2.size; simp at this; omega
      go_wp2_with fail
      refine (isPoss_any _ _ _ _ _ _ _ _ _ (hI0.below hB2) HC (by omega) (by omega)).mono ?_
      rintro e w3 ⟨rfl, hb3⟩
      have hB3 := bthen hB2 hb3 hB2.size
      obtain ⟨hc3, hf3⟩ := bcell hB3
      have hz3 : w.heap.size < w3.heap.size := by have := hB3.size; simp at this; omega
      go_wp2_with fail
      go_ret3
      exact ⟨ri3 HR.out.symm HF.out.symm HK.out.symm, bthen hw0 hB3 hw0.size⟩
  · have hpc : pointCode n fs fu le q 1000 = 0 := by simp [pointCode, h1, h2]
    have e1 : (pointCode n fs fu le q 1000 != 0) = false := by simp [hpc]
    have HPC := Lib.hid hpc
    clear hpc
    have HK := Lib.hid hk
    have HR := Lib.hid (show liftR n fs fu le q b a = liftTop fs q b a by simp [liftR, hk])
    have HF := Lib.hid (show liftF n fs fu le q b a = fuelOf fu q (liftTop fs q b a) by simp [liftF, hk])
    clear hk
    have hnc : needCode b a = 0 := by simp [needCode, h3, h4]
    have e2 : (needCode b a != 0) = false := by simp [hnc]
    have HNV := Lib.hid (show needVal b a = ratio b a by simp [needVal, h3, h4])
    have hqb := pt1000 h2
    have HC := Lib.hid h1
    have hcb := comp_bd h1
    have hrr := fun W hF => ratioRange_any A n c fs fu le q W hF HC hqb
    clear hnc
    simp only [if_pos h5] at hrr
    have HRR := Lib.hid hrr
    clear hrr
    have hmb := liftTop_bd (b := b) (a := a) h5.1 h4
    have HM := Lib.hid (show (if needVal b a < ratLo fs q then ratLo fs q else needVal b a) = liftTop fs q b a by rw [HNV.out]; rfl)
    by_cases tm : needVal b a < ratLo fs q
    · have HV := Lib.hid (show ratLo fs q = liftTop fs q b a by have := HM.out; rw [if_pos tm] at this; exact this)
      have hvb : 1000 ≤ ratLo fs q ∧ ratLo fs q ≤ 3000 := by rw [HV.out]; omega
      have hpb : possB fs le q (ratLo fs q) = true := by
        rw [HV.out]
        exact (poss_ratio hmb.1 hmb.2.1).2 ⟨hmb.2.2, h6, h5.2⟩
      clear h5 h6 hmb HM
      have hI0 := h.alloc (.cells #[.slice A n c, .int .i64 fu, .int .i64 le] 32)
      have hw0 : Below w.heap.size w (w.alloc (.cells #[.slice A n c, .int .i64 fu, .int .i64 le] 32)) := (Below.refl _ _).alloc (Nat.le_refl _) _
      have hB0 : Below (w.alloc (.cells #[.slice A n c, .int .i64 fu, .int .i64 le] 32)).heap.size (w.alloc (.cells #[.slice A n c, .int .i64 fu, .int .i64 le] 32)) (w.alloc (.cells #[.slice A n c, .int .i64 fu, .int .i64 le] 32)) := Below.refl _ _
      go_enter Try.func44, Try.ntmps44
      go_wp2_with fail
      refine (checkPoint_any _ _ _ _ _ _ _ _ _ (hI0.below hB0) hn).mono ?_
      rintro e w1 ⟨rfl, hb1⟩
      have hB1 := bthen hB0 hb1 hB0.size
      obtain ⟨hc1, hf1⟩ := bcell hB1
      have hz1 : w.heap.size < w1.heap.size := by have := hB1.size; simp at this; omega
      go_wp2_with (go_at_call 16; refine (needed_any _ _ _).mono ?_; rintro e w' ⟨rfl, rfl⟩)
      refine (HRR.out _ (hI0.below hB1)).mono ?_
      rintro e w2 ⟨rfl, hb2⟩
      have hB2 := bthen hB1 hb2 hB1.size
      obtain ⟨hc2, hf2⟩ := bcell hB2
      have hz2 : w.heap.size < w2.heap.size := by have := hB2.size; simp at this; omega
      go_wp2_with fail
      refine (isPoss_any _ _ _ _ _ _ _ _ _ (hI0.below hB2) HC (by omega) (by omega)).mono ?_
      rintro e w3 ⟨rfl, hb3⟩
      have hB3 := bthen hB2 hb3 hB2.size
      obtain ⟨hc3, hf3⟩ := bcell hB3
      have hz3 : w.heap.size < w3.heap.size := by have := hB3.size; simp at this; omega
      go_wp2_with fail
      refine (fuelFor_any _ _ _ _ _ _ _ _ (by omega) (by omega) (by omega) (by omega) (by omega) (by omega)).mono ?_
      rintro e w4 ⟨rfl, hb4⟩
      have hB4 := bthen hB3 hb4 hB3.size
      obtain ⟨hc4, hf4⟩ := bcell hB4
      have hz4 : w.heap.size < w4.heap.size := by have := hB4.size; simp at this; omega
      go_wp2_with fail
      go_ret3
      exact ⟨ri3 (HV.out.trans HR.out.symm) (by rw [HF.out, ← HV.out]) HK.out.symm, bthen hw0 hB4 hw0.size⟩
    · have HV := Lib.hid (show needVal b a = liftTop fs q b a by have := HM.out; rw [if_neg tm] at this; exact this)
      have hvb : 1000 ≤ needVal b a ∧ needVal b a ≤ 3000 := by rw [HV.out]; omega
      have hpb : possB fs le q (needVal b a) = true := by
        rw [HV.out]
        exact (poss_ratio hmb.1 hmb.2.1).2 ⟨hmb.2.2, h6, h5.2⟩
      clear h5 h6 hmb HM
      have hI0 := h.alloc (.cells #[.slice A n c, .int .i64 fu, .int .i64 le] 32)
      have hw0 : Below w.heap.size w (w.alloc (.cells #[.slice A n c, .int .i64 fu, .int .i64 le] 32)) := (Below.refl _ _).alloc (Nat.le_refl _) _
      have hB0 : Below (w.alloc (.cells #[.slice A n c, .int .i64 fu, .int .i64 le] 32)).heap.size (w.alloc (.cells #[.slice A n c, .int .i64 fu, .int .i64 le] 32)) (w.alloc (.cells #[.slice A n c, .int .i64 fu, .int .i64 le] 32)) := Below.refl _ _
      go_enter Try.func44, Try.ntmps44
      go_wp2_with fail
      refine (checkPoint_any _ _ _ _ _ _ _ _ _ (hI0.below hB0) hn).mono ?_
      rintro e w1 ⟨rfl, hb1⟩
      have hB1 := bthen hB0 hb1 hB0.size
      obtain ⟨hc1, hf1⟩ := bcell hB1
      have hz1 : w.heap.size < w1.heap.size := by have := hB1.size; simp at this; omega
      go_wp2_with (go_at_call 16; refine (needed_any _ _ _).mono ?_; rintro e w' ⟨rfl, rfl⟩)
      refine (HRR.out _ (hI0.below hB1)).mono ?_
      rintro e w2 ⟨rfl, hb2⟩
      have hB2 := bthen hB1 hb2 hB1.size
      obtain ⟨hc2, hf2⟩ := bcell hB2
      have hz2 : w.heap.size < w2.heap.size := by have := hB2.size; simp at this; omega
      go_wp2_with fail
      refine (isPoss_any _ _ _ _ _ _ _ _ _ (hI0.below hB2) HC (by omega) (by omega)).mono ?_
      rintro e w3 ⟨rfl, hb3⟩
      have hB3 := bthen hB2 hb3 hB2.size
      obtain ⟨hc3, hf3⟩ := bcell hB3
      have hz3 : w.heap.size < w3.heap.size := by have := hB3.size; simp at this; omega
      go_wp2_with fail
      refine (fuelFor_any _ _ _ _ _ _ _ _ (by omega) (by omega) (by omega) (by omega) (by omega) (by omega)).mono ?_
      rintro e w4 ⟨rfl, hb4⟩
      have hB4 := bthen hB3 hb4 hB3.size
      obtain ⟨hc4, hf4⟩ := bcell hB4
      have hz4 : w.heap.size < w4.heap.size := by have := hB4.size; simp at this; omega
      go_wp2_with fail
      go_ret3
      exact ⟨ri3 (HV.out.trans HR.out.symm) (by rw [HF.out, ← HV.out]) HK.out.symm, bthen hw0 hB4 hw0.size⟩
set_option maxHeartbeats 8000000 in
theorem sLift_any (A : Option Addr) (n c : Nat) (fs : List Fc) (fu le q b a : Int) (w : World) (h : Faces w A n fs) (hn : n ≤ 9223372036854775807) :
    Calls Try.prog 43 #[.agg #[.slice A n c, .int .i64 fu, .int .i64 le], .int .i64 q, .int .i64 b, .int .i64 a] w fun e w' => e = .returned (.tuple #[.int .i64 (liftR n fs fu le q b a), .int .i64 (liftF n fs fu le q b a), .int .i64 (liftCode n fs fu le q b a)]) ∧ Below w.heap.size w w' := by
  rcases lift_ways n fs fu le q b a with ⟨h1, hk⟩ | ⟨h1, h2, hk⟩ | ⟨h1, h2, h3, hk⟩ | ⟨h1, h2, h3, h4, hk⟩ | ⟨h1, h2, h3, h4, h5, hk⟩ | ⟨h1, h2, h3, h4, h5, h6, hk⟩ | ⟨h1, h2, h3, h4, h5, h6, hk⟩
  · have HK := Lib.hid hk
    have HR := Lib.hid (show liftR n fs fu le q b a = 0 by simp [liftR, hk])
    have HF := Lib.hid (show liftF n fs fu le q b a = 0 by simp [liftF, hk])
    clear hk
    have hI0 := h.alloc (.cells #[.slice A n c, .int .i64 fu, .int .i64 le] 32)
    have hw0 : Below w.heap.size w (w.alloc (.cells #[.slice A n c, .int .i64 fu, .int .i64 le] 32)) := (Below.refl _ _).alloc (Nat.le_refl _) _
    have hB0 : Below (w.alloc (.cells #[.slice A n c, .int .i64 fu, .int .i64 le] 32)).heap.size (w.alloc (.cells #[.slice A n c, .int .i64 fu, .int .i64 le] 32)) (w.alloc (.cells #[.slice A n c, .int .i64 fu, .int .i64 le] 32)) := Below.refl _ _
    go_enter Try.func43, Try.ntmps43
    go_wp2_with fail
    refine (sIsComp_any _ _ _ _ _ _ _ (hI0.below hB0) hn).mono ?_
    rintro e w1 ⟨rfl, hb1⟩
    have hB1 := bthen hB0 hb1 hB0.size
    obtain ⟨hc1, hf1⟩ := bcell hB1
    have hz1 : w.heap.size < w1.heap.size := by have := hB1.size; simp at this; omega
    go_wp2_with fail
    go_ret3
    exact ⟨ri3 HR.out.symm HF.out.symm HK.out.symm, bthen hw0 hB1 hw0.size⟩
  · have HK := Lib.hid hk
    have HR := Lib.hid (show liftR n fs fu le q b a = 0 by simp [liftR, hk])
    have HF := Lib.hid (show liftF n fs fu le q b a = 0 by simp [liftF, hk])
    clear hk
    have hI0 := h.alloc (.cells #[.slice A n c, .int .i64 fu, .int .i64 le] 32)
    have hw0 : Below w.heap.size w (w.alloc (.cells #[.slice A n c, .int .i64 fu, .int .i64 le] 32)) := (Below.refl _ _).alloc (Nat.le_refl _) _
    have hB0 : Below (w.alloc (.cells #[.slice A n c, .int .i64 fu, .int .i64 le] 32)).heap.size (w.alloc (.cells #[.slice A n c, .int .i64 fu, .int .i64 le] 32)) (w.alloc (.cells #[.slice A n c, .int .i64 fu, .int .i64 le] 32)) := Below.refl _ _
    go_enter Try.func43, Try.ntmps43
    go_wp2_with fail
    refine (sIsComp_any _ _ _ _ _ _ _ (hI0.below hB0) hn).mono ?_
    rintro e w1 ⟨rfl, hb1⟩
    have hB1 := bthen hB0 hb1 hB0.size
    obtain ⟨hc1, hf1⟩ := bcell hB1
    have hz1 : w.heap.size < w1.heap.size := by have := hB1.size; simp at this; omega
    go_wp2_with (first | (go_at_call 54; refine (sPoint_any _ _ _).mono ?_; rintro e w' ⟨rfl, rfl⟩) | (go_at_call 46; refine (sLevels_any _ _ _).mono ?_; rintro e w' ⟨rfl, rfl⟩) | (go_at_call 47; refine (sRatio_any _ _ _ (by omega) (by omega) (by omega) (by omega)).mono ?_; rintro e w' ⟨rfl, rfl⟩))
    go_ret3
    exact ⟨ri3 HR.out.symm HF.out.symm HK.out.symm, bthen hw0 hB1 hw0.size⟩
  · have HK := Lib.hid hk
    have HR := Lib.hid (show liftR n fs fu le q b a = 0 by simp [liftR, hk])
    have HF := Lib.hid (show liftF n fs fu le q b a = 0 by simp [liftF, hk])
    clear hk
    have hI0 := h.alloc (.cells #[.slice A n c, .int .i64 fu, .int .i64 le] 32)
    have hw0 : Below w.heap.size w (w.alloc (.cells #[.slice A n c, .int .i64 fu, .int .i64 le] 32)) := (Below.refl _ _).alloc (Nat.le_refl _) _
    have hB0 : Below (w.alloc (.cells #[.slice A n c, .int .i64 fu, .int .i64 le] 32)).heap.size (w.alloc (.cells #[.slice A n c, .int .i64 fu, .int .i64 le] 32)) (w.alloc (.cells #[.slice A n c, .int .i64 fu, .int .i64 le] 32)) := Below.refl _ _
    go_enter Try.func43, Try.ntmps43
    go_wp2_with fail
    refine (sIsComp_any _ _ _ _ _ _ _ (hI0.below hB0) hn).mono ?_
    rintro e w1 ⟨rfl, hb1⟩
    have hB1 := bthen hB0 hb1 hB0.size
    obtain ⟨hc1, hf1⟩ := bcell hB1
    have hz1 : w.heap.size < w1.heap.size := by have := hB1.size; simp at this; omega
    go_wp2_with (first | (go_at_call 54; refine (sPoint_any _ _ _).mono ?_; rintro e w' ⟨rfl, rfl⟩) | (go_at_call 46; refine (sLevels_any _ _ _).mono ?_; rintro e w' ⟨rfl, rfl⟩) | (go_at_call 47; refine (sRatio_any _ _ _ (by omega) (by omega) (by omega) (by omega)).mono ?_; rintro e w' ⟨rfl, rfl⟩))
    go_ret3
    exact ⟨ri3 HR.out.symm HF.out.symm HK.out.symm, bthen hw0 hB1 hw0.size⟩
  · have HK := Lib.hid hk
    have HR := Lib.hid (show liftR n fs fu le q b a = 0 by simp [liftR, hk])
    have HF := Lib.hid (show liftF n fs fu le q b a = 0 by simp [liftF, hk])
    clear hk
    have hqb := pt1000 h2
    have hlv := levels_bd h3
    have HC := Lib.hid h1
    have hcb := comp_bd h1
    have hrb := cutTo_bd (pairsQ_ok h1 hqb.1 hqb.2) (lo := 1000) (hi := 3000) (by omega) (by omega) (by omega) (by omega) fs.length
    have hrl : 0 ≤ ratLo fs q ∧ ratLo fs q ≤ 300000000 := ⟨hrb.1, hrb.2.1⟩
    have hsr := fun W hF => sRatios_any A n c fs fu le q W hF HC hqb
    clear hrb
    generalize (if q < le then ratLo fs q - 1 else ratHi fs q) = X at hsr
    have HRR := Lib.hid hsr
    clear hsr
    have hI0 := h.alloc (.cells #[.slice A n c, .int .i64 fu, .int .i64 le] 32)
    have hw0 : Below w.heap.size w (w.alloc (.cells #[.slice A n c, .int .i64 fu, .int .i64 le] 32)) := (Below.refl _ _).alloc (Nat.le_refl _) _
    have hB0 : Below (w.alloc (.cells #[.slice A n c, .int .i64 fu, .int .i64 le] 32)).heap.size (w.alloc (.cells #[.slice A n c, .int .i64 fu, .int .i64 le] 32)) (w.alloc (.cells #[.slice A n c, .int .i64 fu, .int .i64 le] 32)) := Below.refl _ _
    go_enter Try.func43, Try.ntmps43
    go_wp2_with fail
    refine (sIsComp_any _ _ _ _ _ _ _ (hI0.below hB0) hn).mono ?_
    rintro e w1 ⟨rfl, hb1⟩
    have hB1 := bthen hB0 hb1 hB0.size
    obtain ⟨hc1, hf1⟩ := bcell hB1
    have hz1 : w.heap.size < w1.heap.size := by have := hB1.size; simp at this; omega
    go_wp2_with (first | (go_at_call 54; refine (sPoint_any _ _ _).mono ?_; rintro e w' ⟨rfl, rfl⟩) | (go_at_call 46; refine (sLevels_any _ _ _).mono ?_; rintro e w' ⟨rfl, rfl⟩) | (go_at_call 47; refine (sRatio_any _ _ _ (by omega) (by omega) (by omega) (by omega)).mono ?_; rintro e w' ⟨rfl, rfl⟩))
    refine (HRR.out _ (hI0.below hB1)).mono ?_
    rintro e w2 ⟨rfl, hb2⟩
    have hB2 := bthen hB1 hb2 hB1.size
    obtain ⟨hc2, hf2⟩ := bcell hB2
    have hz2 : w.heap.size < w2.heap.size := by have := hB2.size; simp at this; omega
    go_wp2_with fail
    go_ret3
    exact ⟨ri3 HR.out.symm HF.out.symm HK.out.symm, bthen hw0 hB2 hw0.size⟩
  · have HK := Lib.hid hk
    have HR := Lib.hid (show liftR n fs fu le q b a = 0 by simp [liftR, hk])
    have HF := Lib.hid (show liftF n fs fu le q b a = 0 by simp [liftF, hk])
    clear hk
    have hqb := pt1000 h2
    have hlv := levels_bd h3
    have HC := Lib.hid h1
    have hcb := comp_bd h1
    have hrb := cutTo_bd (pairsQ_ok h1 hqb.1 hqb.2) (lo := 1000) (hi := 3000) (by omega) (by omega) (by omega) (by omega) fs.length
    have hrl : 0 ≤ ratLo fs q ∧ ratLo fs q ≤ 300000000 := ⟨hrb.1, hrb.2.1⟩
    have hsr := fun W hF => sRatios_any A n c fs fu le q W hF HC hqb
    clear hrb
    by_cases t5 : q < le
    · simp only [if_pos t5] at hsr
      have HRR := Lib.hid hsr
      clear hsr h5
      have hI0 := h.alloc (.cells #[.slice A n c, .int .i64 fu, .int .i64 le] 32)
      have hw0 : Below w.heap.size w (w.alloc (.cells #[.slice A n c, .int .i64 fu, .int .i64 le] 32)) := (Below.refl _ _).alloc (Nat.le_refl _) _
      have hB0 : Below (w.alloc (.cells #[.slice A n c, .int .i64 fu, .int .i64 le] 32)).heap.size (w.alloc (.cells #[.slice A n c, .int .i64 fu, .int .i64 le] 32)) (w.alloc (.cells #[.slice A n c, .int .i64 fu, .int .i64 le] 32)) := Below.refl _ _
      go_enter Try.func43, Try.ntmps43
      go_wp2_with fail
      refine (sIsComp_any _ _ _ _ _ _ _ (hI0.below hB0) hn).mono ?_
      rintro e w1 ⟨rfl, hb1⟩
      have hB1 := bthen hB0 hb1 hB0.size
      obtain ⟨hc1, hf1⟩ := bcell hB1
      have hz1 : w.heap.size < w1.heap.size := by have := hB1.size; simp at this; omega
      go_wp2_with (first | (go_at_call 54; refine (sPoint_any _ _ _).mono ?_; rintro e w' ⟨rfl, rfl⟩) | (go_at_call 46; refine (sLevels_any _ _ _).mono ?_; rintro e w' ⟨rfl, rfl⟩) | (go_at_call 47; refine (sRatio_any _ _ _ (by omega) (by omega) (by omega) (by omega)).mono ?_; rintro e w' ⟨rfl, rfl⟩))
      refine (HRR.out _ (hI0.below hB1)).mono ?_
      rintro e w2 ⟨rfl, hb2⟩
      have hB2 := bthen hB1 hb2 hB1.size
      obtain ⟨hc2, hf2⟩ := bcell hB2
      have hz2 : w.heap.size < w2.heap.size := by have := hB2.size; simp at this; omega
      go_wp2_with fail
      go_ret3
      exact ⟨ri3 HR.out.symm HF.out.symm HK.out.symm, bthen hw0 hB2 hw0.size⟩
    · simp only [if_neg t5] at hsr
      have HRR := Lib.hid hsr
      have t6 : ¬ ratLo fs q ≤ ratHi fs q := fun hh => h5 ⟨hh, by omega⟩
      clear hsr h5
      have hI0 := h.alloc (.cells #[.slice A n c, .int .i64 fu, .int .i64 le] 32)
      have hw0 : Below w.heap.size w (w.alloc (.cells #[.slice A n c, .int .i64 fu, .int .i64 le] 32)) := (Below.refl _ _).alloc (Nat.le_refl _) _
      have hB0 : Below (w.alloc (.cells #[.slice A n c, .int .i64 fu, .int .i64 le] 32)).heap.size (w.alloc (.cells #[.slice A n c, .int .i64 fu, .int .i64 le] 32)) (w.alloc (.cells #[.slice A n c, .int .i64 fu, .int .i64 le] 32)) := Below.refl _ _
      go_enter Try.func43, Try.ntmps43
      go_wp2_with fail
      refine (sIsComp_any _ _ _ _ _ _ _ (hI0.below hB0) hn).mono ?_
      rintro e w1 ⟨rfl, hb1⟩
      have hB1 := bthen hB0 hb1 hB0.size
      obtain ⟨hc1, hf1⟩ := bcell hB1
      have hz1 : w.heap.size < w1.heap.size := by have := hB1.size; simp at this; omega
      go_wp2_with (first | (go_at_call 54; refine (sPoint_any _ _ _).mono ?_; rintro e w' ⟨rfl, rfl⟩) | (go_at_call 46; refine (sLevels_any _ _ _).mono ?_; rintro e w' ⟨rfl, rfl⟩) | (go_at_call 47; refine (sRatio_any _ _ _ (by omega) (by omega) (by omega) (by omega)).mono ?_; rintro e w' ⟨rfl, rfl⟩))
      refine (HRR.out _ (hI0.below hB1)).mono ?_
      rintro e w2 ⟨rfl, hb2⟩
      have hB2 := bthen hB1 hb2 hB1.size
      obtain ⟨hc2, hf2⟩ := bcell hB2
      have hz2 : w.heap.size < w2.heap.size := by have := hB2.size; simp at this; omega
      go_wp2_with fail
      go_ret3
      exact ⟨ri3 HR.out.symm HF.out.symm HK.out.symm, bthen hw0 hB2 hw0.size⟩
  · have HK := Lib.hid hk
    have HR := Lib.hid (show liftR n fs fu le q b a = 0 by simp [liftR, hk])
    have HF := Lib.hid (show liftF n fs fu le q b a = 0 by simp [liftF, hk])
    clear hk
    have hqb := pt1000 h2
    have hlv := levels_bd h3
    have HC := Lib.hid h1
    have hcb := comp_bd h1
    have hrb := cutTo_bd (pairsQ_ok h1 hqb.1 hqb.2) (lo := 1000) (hi := 3000) (by omega) (by omega) (by omega) (by omega) fs.length
    have hrl : 0 ≤ ratLo fs q ∧ ratLo fs q ≤ 300000000 := ⟨hrb.1, hrb.2.1⟩
    have hsr := fun W hF => sRatios_any A n c fs fu le q W hF HC hqb
    clear hrb
    have t5 : ¬ q < le := by omega
    simp only [if_neg t5] at hsr
    have HRR := Lib.hid hsr
    have hmb := liftTop_bd (b := b) (a := a) h5.1 h4
    have HM := Lib.hid (show liftTop fs q b a = if ratio b a < ratLo fs q then ratLo fs q else ratio b a from rfl)
    clear hsr
    by_cases tm : ratio b a < ratLo fs q
    · have HV := Lib.hid (show ratLo fs q = liftTop fs q b a by have := HM.out; rw [if_pos tm] at this; exact this.symm)
      have hvb : 1000 ≤ ratLo fs q ∧ ratLo fs q ≤ 3000 := by rw [HV.out]; omega
      have h6' : ¬ ratLo fs q ≤ ratHi fs q := by rw [HV.out]; exact h6
      clear h6 hmb HM
      have hI0 := h.alloc (.cells #[.slice A n c, .int .i64 fu, .int .i64 le] 32)
      have hw0 : Below w.heap.size w (w.alloc (.cells #[.slice A n c, .int .i64 fu, .int .i64 le] 32)) := (Below.refl _ _).alloc (Nat.le_refl _) _
      have hB0 : Below (w.alloc (.cells #[.slice A n c, .int .i64 fu, .int .i64 le] 32)).heap.size (w.alloc (.cells #[.slice A n c, .int .i64 fu, .int .i64 le] 32)) (w.alloc (.cells #[.slice A n c, .int .i64 fu, .int .i64 le] 32)) := Below.refl _ _
      go_enter Try.func43, Try.ntmps43
      go_wp2_with fail
      refine (sIsComp_any _ _ _ _ _ _ _ (hI0.below hB0) hn).mono ?_
      rintro e w1 ⟨rfl, hb1⟩
      have hB1 := bthen hB0 hb1 hB0.size
      obtain ⟨hc1, hf1⟩ := bcell hB1
      have hz1 : w.heap.size < w1.heap.size := by have := hB1.size; simp at this; omega
      go_wp2_with (first | (go_at_call 54; refine (sPoint_any _ _ _).mono ?_; rintro e w' ⟨rfl, rfl⟩) | (go_at_call 46; refine (sLevels_any _ _ _).mono ?_; rintro e w' ⟨rfl, rfl⟩) | (go_at_call 47; refine (sRatio_any _ _ _ (by omega) (by omega) (by omega) (by omega)).mono ?_; rintro e w' ⟨rfl, rfl⟩))
      refine (HRR.out _ (hI0.below hB1)).mono ?_
      rintro e w2 ⟨rfl, hb2⟩
      have hB2 := bthen hB1 hb2 hB1.size
      obtain ⟨hc2, hf2⟩ := bcell hB2
      have hz2 : w.heap.size < w2.heap.size := by have := hB2.size; simp at this; omega
      go_wp2_with fail
      go_ret3
      exact ⟨ri3 HR.out.symm HF.out.symm HK.out.symm, bthen hw0 hB2 hw0.size⟩
    · have HV := Lib.hid (show ratio b a = liftTop fs q b a by have := HM.out; rw [if_neg tm] at this; exact this.symm)
      have hvb : 1000 ≤ ratio b a ∧ ratio b a ≤ 3000 := by rw [HV.out]; omega
      have h6' : ¬ ratio b a ≤ ratHi fs q := by rw [HV.out]; exact h6
      clear h6 hmb HM
      have hI0 := h.alloc (.cells #[.slice A n c, .int .i64 fu, .int .i64 le] 32)
      have hw0 : Below w.heap.size w (w.alloc (.cells #[.slice A n c, .int .i64 fu, .int .i64 le] 32)) := (Below.refl _ _).alloc (Nat.le_refl _) _
      have hB0 : Below (w.alloc (.cells #[.slice A n c, .int .i64 fu, .int .i64 le] 32)).heap.size (w.alloc (.cells #[.slice A n c, .int .i64 fu, .int .i64 le] 32)) (w.alloc (.cells #[.slice A n c, .int .i64 fu, .int .i64 le] 32)) := Below.refl _ _
      go_enter Try.func43, Try.ntmps43
      go_wp2_with fail
      refine (sIsComp_any _ _ _ _ _ _ _ (hI0.below hB0) hn).mono ?_
      rintro e w1 ⟨rfl, hb1⟩
      have hB1 := bthen hB0 hb1 hB0.size
      obtain ⟨hc1, hf1⟩ := bcell hB1
      have hz1 : w.heap.size < w1.heap.size := by have := hB1.size; simp at this; omega
      go_wp2_with (first | (go_at_call 54; refine (sPoint_any _ _ _).mono ?_; rintro e w' ⟨rfl, rfl⟩) | (go_at_call 46; refine (sLevels_any _ _ _).mono ?_; rintro e w' ⟨rfl, rfl⟩) | (go_at_call 47; refine (sRatio_any _ _ _ (by omega) (by omega) (by omega) (by omega)).mono ?_; rintro e w' ⟨rfl, rfl⟩))
      refine (HRR.out _ (hI0.below hB1)).mono ?_
      rintro e w2 ⟨rfl, hb2⟩
      have hB2 := bthen hB1 hb2 hB1.size
      obtain ⟨hc2, hf2⟩ := bcell hB2
      have hz2 : w.heap.size < w2.heap.size := by have := hB2.size; simp at this; omega
      go_wp2_with fail
      go_ret3
      exact ⟨ri3 HR.out.symm HF.out.symm HK.out.symm, bthen hw0 hB2 hw0.size⟩
  · have HK := Lib.hid hk
    have HR := Lib.hid (show liftR n fs fu le q b a = liftTop fs q b a by simp [liftR, hk])
    have HF := Lib.hid (show liftF n fs fu le q b a = fuelOf fu q (liftTop fs q b a) by simp [liftF, hk])
    clear hk
    have hqb := pt1000 h2
    have hlv := levels_bd h3
    have HC := Lib.hid h1
    have hcb := comp_bd h1
    have hrb := cutTo_bd (pairsQ_ok h1 hqb.1 hqb.2) (lo := 1000) (hi := 3000) (by omega) (by omega) (by omega) (by omega) fs.length
    have hrl : 0 ≤ ratLo fs q ∧ ratLo fs q ≤ 300000000 := ⟨hrb.1, hrb.2.1⟩
    have hsr := fun W hF => sRatios_any A n c fs fu le q W hF HC hqb
    clear hrb
    have t5 : ¬ q < le := by omega
    simp only [if_neg t5] at hsr
    have HRR := Lib.hid hsr
    have hmb := liftTop_bd (b := b) (a := a) h5.1 h4
    have HM := Lib.hid (show liftTop fs q b a = if ratio b a < ratLo fs q then ratLo fs q else ratio b a from rfl)
    clear hsr
    by_cases tm : ratio b a < ratLo fs q
    · have HV := Lib.hid (show ratLo fs q = liftTop fs q b a by have := HM.out; rw [if_pos tm] at this; exact this.symm)
      have hvb : 1000 ≤ ratLo fs q ∧ ratLo fs q ≤ 3000 := by rw [HV.out]; omega
      have h6' : ratLo fs q ≤ ratHi fs q := by rw [HV.out]; exact h6
      clear h6 hmb HM
      have hI0 := h.alloc (.cells #[.slice A n c, .int .i64 fu, .int .i64 le] 32)
      have hw0 : Below w.heap.size w (w.alloc (.cells #[.slice A n c, .int .i64 fu, .int .i64 le] 32)) := (Below.refl _ _).alloc (Nat.le_refl _) _
      have hB0 : Below (w.alloc (.cells #[.slice A n c, .int .i64 fu, .int .i64 le] 32)).heap.size (w.alloc (.cells #[.slice A n c, .int .i64 fu, .int .i64 le] 32)) (w.alloc (.cells #[.slice A n c, .int .i64 fu, .int .i64 le] 32)) := Below.refl _ _
      go_enter Try.func43, Try.ntmps43
      go_wp2_with fail
      refine (sIsComp_any _ _ _ _ _ _ _ (hI0.below hB0) hn).mono ?_
      rintro e w1 ⟨rfl, hb1⟩
      have hB1 := bthen hB0 hb1 hB0.size
      obtain ⟨hc1, hf1⟩ := bcell hB1
      have hz1 : w.heap.size < w1.heap.size := by have := hB1.size; simp at this; omega
      go_wp2_with (first | (go_at_call 54; refine (sPoint_any _ _ _).mono ?_; rintro e w' ⟨rfl, rfl⟩) | (go_at_call 46; refine (sLevels_any _ _ _).mono ?_; rintro e w' ⟨rfl, rfl⟩) | (go_at_call 47; refine (sRatio_any _ _ _ (by omega) (by omega) (by omega) (by omega)).mono ?_; rintro e w' ⟨rfl, rfl⟩))
      refine (HRR.out _ (hI0.below hB1)).mono ?_
      rintro e w2 ⟨rfl, hb2⟩
      have hB2 := bthen hB1 hb2 hB1.size
      obtain ⟨hc2, hf2⟩ := bcell hB2
      have hz2 : w.heap.size < w2.heap.size := by have := hB2.size; simp at this; omega
      go_wp2_with fail
      refine (sFuel_any _ _ _ _ _ _ _ _ (by omega) (by omega) (by omega) (by omega) (by omega) (by omega)).mono ?_
      rintro e w3 ⟨rfl, hb3⟩
      have hB3 := bthen hB2 hb3 hB2.size
      obtain ⟨hc3, hf3⟩ := bcell hB3
      have hz3 : w.heap.size < w3.heap.size := by have := hB3.size; simp at this; omega
      go_wp2_with fail
      go_ret3
      exact ⟨ri3 (HV.out.trans HR.out.symm) (by rw [HF.out, ← HV.out]) HK.out.symm, bthen hw0 hB3 hw0.size⟩
    · have HV := Lib.hid (show ratio b a = liftTop fs q b a by have := HM.out; rw [if_neg tm] at this; exact this.symm)
      have hvb : 1000 ≤ ratio b a ∧ ratio b a ≤ 3000 := by rw [HV.out]; omega
      have h6' : ratio b a ≤ ratHi fs q := by rw [HV.out]; exact h6
      clear h6 hmb HM
      have hI0 := h.alloc (.cells #[.slice A n c, .int .i64 fu, .int .i64 le] 32)
      have hw0 : Below w.heap.size w (w.alloc (.cells #[.slice A n c, .int .i64 fu, .int .i64 le] 32)) := (Below.refl _ _).alloc (Nat.le_refl _) _
      have hB0 : Below (w.alloc (.cells #[.slice A n c, .int .i64 fu, .int .i64 le] 32)).heap.size (w.alloc (.cells #[.slice A n c, .int .i64 fu, .int .i64 le] 32)) (w.alloc (.cells #[.slice A n c, .int .i64 fu, .int .i64 le] 32)) := Below.refl _ _
      go_enter Try.func43, Try.ntmps43
      go_wp2_with fail
      refine (sIsComp_any _ _ _ _ _ _ _ (hI0.below hB0) hn).mono ?_
      rintro e w1 ⟨rfl, hb1⟩
      have hB1 := bthen hB0 hb1 hB0.size
      obtain ⟨hc1, hf1⟩ := bcell hB1
      have hz1 : w.heap.size < w1.heap.size := by have := hB1.size; simp at this; omega
      go_wp2_with (first | (go_at_call 54; refine (sPoint_any _ _ _).mono ?_; rintro e w' ⟨rfl, rfl⟩) | (go_at_call 46; refine (sLevels_any _ _ _).mono ?_; rintro e w' ⟨rfl, rfl⟩) | (go_at_call 47; refine (sRatio_any _ _ _ (by omega) (by omega) (by omega) (by omega)).mono ?_; rintro e w' ⟨rfl, rfl⟩))
      refine (HRR.out _ (hI0.below hB1)).mono ?_
      rintro e w2 ⟨rfl, hb2⟩
      have hB2 := bthen hB1 hb2 hB1.size
      obtain ⟨hc2, hf2⟩ := bcell hB2
      have hz2 : w.heap.size < w2.heap.size := by have := hB2.size; simp at this; omega
      go_wp2_with fail
      refine (sFuel_any _ _ _ _ _ _ _ _ (by omega) (by omega) (by omega) (by omega) (by omega) (by omega)).mono ?_
      rintro e w3 ⟨rfl, hb3⟩
      have hB3 := bthen hB2 hb3 hB2.size
      obtain ⟨hc3, hf3⟩ := bcell hB3
      have hz3 : w.heap.size < w3.heap.size := by have := hB3.size; simp at this; omega
      go_wp2_with fail
      go_ret3
      exact ⟨ri3 (HV.out.trans HR.out.symm) (by rw [HF.out, ← HV.out]) HK.out.symm, bthen hw0 hB3 hw0.size⟩
end Go.Proofs.Ytgchbajhceddnaa
