/- What RatioRange and FlowRange (of the program and of the reference) do, by walks over their text. No condition but that the numbers fit their kind. -/
import Derived.Test.YtgchbajhceddnaaRange
set_option linter.unusedVariables false
set_option maxRecDepth 100000
namespace Go.Proofs.Ytgchbajhceddnaa
open Go.RowKit Go.Joins Go.Deep
attribute [local go_sem ↓] Go.wp_at_zero Go.wp_at_succ

/-- The results of RatioRange, of FlowRange. -/
def rrCode (n : Nat) (fs : List Fc) (fu le q : Int) : Int := if pointCode n fs fu le q 1000 = 0 then (if ratLo fs q ≤ ratHi fs q ∧ le ≤ q then 0 else 7) else pointCode n fs fu le q 1000
def rrLo (n : Nat) (fs : List Fc) (fu le q : Int) : Int := if rrCode n fs fu le q = 0 then ratLo fs q else 0
def rrHi (n : Nat) (fs : List Fc) (fu le q : Int) : Int := if rrCode n fs fu le q = 0 then ratHi fs q else 0
def frCode (n : Nat) (fs : List Fc) (fu le r : Int) : Int := if pointCode n fs fu le 0 r = 0 then (if floLo fs le r ≤ floHi fs le r then 0 else 7) else pointCode n fs fu le 0 r
def frLo (n : Nat) (fs : List Fc) (fu le r : Int) : Int := if frCode n fs fu le r = 0 then floLo fs le r else 0
def frHi (n : Nat) (fs : List Fc) (fu le r : Int) : Int := if frCode n fs fu le r = 0 then floHi fs le r else 0
theorem pt1000 {q : Int} (h : pointB q 1000 = true) : 0 ≤ q ∧ q ≤ 30000 := by have := point_bd h; omega
theorem pt0 {r : Int} (h : pointB 0 r = true) : 1000 ≤ r ∧ r ≤ 3000 := by have := point_bd h; omega
theorem code_ne {n : Nat} {fs : List Fc} {fu le q r : Int} (h : pointCode n fs fu le q r ≠ 0) : pointCode n fs fu le q r = 1 ∨ pointCode n fs fu le q r = 2 := by
  unfold pointCode at *
  split
  · exact .inl rfl
  · split
    · exact .inr rfl
    · rename_i h1 h2; simp [h1, h2] at h
set_option maxHeartbeats 8000000 in
theorem rr_any (A : Option Addr) (n c : Nat) (fs : List Fc) (fu le q : Int) (w : World) (h : Faces w A n fs) (hn : n ≤ 9223372036854775807) :
    Calls Try.prog 35 #[.agg #[.slice A n c, .int .i64 fu, .int .i64 le], .int .i64 q] w fun e w' => e = .returned (.tuple #[.int .i64 (rrLo n fs fu le q), .int .i64 (rrHi n fs fu le q), .int .i64 (rrCode n fs fu le q)]) ∧ Below w.heap.size w w' := by
  by_cases hp : pointCode n fs fu le q 1000 = 0
  · obtain ⟨p1, p2⟩ := pointCode_ok hp
    have hqb := pt1000 p2
    have e1 : (pointCode n fs fu le q 1000 != 0) = false := by simp [hp]
    have HC := Lib.hid p1
    have HP := Lib.hid hp
    clear hp p1 p2
    have hrr := fun W hF => ratioRange_any A n c fs fu le q W hF HC hqb
    by_cases ht : ratLo fs q ≤ ratHi fs q ∧ le ≤ q
    · simp only [if_pos ht] at hrr
      have HR := Lib.hid hrr
      have HK := Lib.hid (show rrCode n fs fu le q = 0 by simp [rrCode, HP.out, ht])
      have HL := Lib.hid (show rrLo n fs fu le q = ratLo fs q by simp [rrLo, HK.out])
      have HH := Lib.hid (show rrHi n fs fu le q = ratHi fs q by simp [rrHi, HK.out])
      clear hrr ht
      have hI0 := h.alloc (.cells #[.slice A n c, .int .i64 fu, .int .i64 le] 32)
      have hw0 : Below w.heap.size w (w.alloc (.cells #[.slice A n c, .int .i64 fu, .int .i64 le] 32)) := (Below.refl _ _).alloc (Nat.le_refl _) _
      have hB0 : Below (w.alloc (.cells #[.slice A n c, .int .i64 fu, .int .i64 le] 32)).heap.size (w.alloc (.cells #[.slice A n c, .int .i64 fu, .int .i64 le] 32)) (w.alloc (.cells #[.slice A n c, .int .i64 fu, .int .i64 le] 32)) := Below.refl _ _
      go_enter Try.func35, Try.ntmps35
      go_wp2_with fail
      refine (checkPoint_any _ _ _ _ _ _ _ _ _ (hI0.below hB0) hn).mono ?_
      rintro e w1 ⟨rfl, hb1⟩
      have hB1 := bthen hB0 hb1 hB0.size
      obtain ⟨hc1, hf1⟩ := bcell hB1
      have hz1 : w.heap.size < w1.heap.size := by have := hB1.size; simp at this; omega
      go_wp2_with fail
      refine (HR.out _ (hI0.below hB1)).mono ?_
      rintro e w2 ⟨rfl, hb2⟩
      have hB2 := bthen hB1 hb2 hB1.size
      obtain ⟨hc2, hf2⟩ := bcell hB2
      have hz2 : w.heap.size < w2.heap.size := by have := hB2.size; simp at this; omega
      go_wp2_with fail
      go_ret3
      exact ⟨ri3 HL.out.symm HH.out.symm HK.out.symm, bthen hw0 hB2 hw0.size⟩
    · simp only [if_neg ht] at hrr
      have HR := Lib.hid hrr
      have HK := Lib.hid (show rrCode n fs fu le q = 7 by simp [rrCode, HP.out, ht])
      have HL := Lib.hid (show rrLo n fs fu le q = 0 by simp [rrLo, HK.out])
      have HH := Lib.hid (show rrHi n fs fu le q = 0 by simp [rrHi, HK.out])
      clear hrr ht
      have hI0 := h.alloc (.cells #[.slice A n c, .int .i64 fu, .int .i64 le] 32)
      have hw0 : Below w.heap.size w (w.alloc (.cells #[.slice A n c, .int .i64 fu, .int .i64 le] 32)) := (Below.refl _ _).alloc (Nat.le_refl _) _
      have hB0 : Below (w.alloc (.cells #[.slice A n c, .int .i64 fu, .int .i64 le] 32)).heap.size (w.alloc (.cells #[.slice A n c, .int .i64 fu, .int .i64 le] 32)) (w.alloc (.cells #[.slice A n c, .int .i64 fu, .int .i64 le] 32)) := Below.refl _ _
      go_enter Try.func35, Try.ntmps35
      go_wp2_with fail
      refine (checkPoint_any _ _ _ _ _ _ _ _ _ (hI0.below hB0) hn).mono ?_
      rintro e w1 ⟨rfl, hb1⟩
      have hB1 := bthen hB0 hb1 hB0.size
      obtain ⟨hc1, hf1⟩ := bcell hB1
      have hz1 : w.heap.size < w1.heap.size := by have := hB1.size; simp at this; omega
      go_wp2_with fail
      refine (HR.out _ (hI0.below hB1)).mono ?_
      rintro e w2 ⟨rfl, hb2⟩
      have hB2 := bthen hB1 hb2 hB1.size
      obtain ⟨hc2, hf2⟩ := bcell hB2
      have hz2 : w.heap.size < w2.heap.size := by have := hB2.size; simp at this; omega
      go_wp2_with fail
      go_ret3
      exact ⟨ri3 HL.out.symm HH.out.symm HK.out.symm, bthen hw0 hB2 hw0.size⟩
  · have e1 : (pointCode n fs fu le q 1000 != 0) = true := by simp [hp]
    have HK := Lib.hid (show rrCode n fs fu le q = pointCode n fs fu le q 1000 by simp [rrCode, hp])
    have HL := Lib.hid (show rrLo n fs fu le q = 0 by simp [rrLo, HK.out, hp])
    have HH := Lib.hid (show rrHi n fs fu le q = 0 by simp [rrHi, HK.out, hp])
    clear hp
    have hI0 := h.alloc (.cells #[.slice A n c, .int .i64 fu, .int .i64 le] 32)
    have hw0 : Below w.heap.size w (w.alloc (.cells #[.slice A n c, .int .i64 fu, .int .i64 le] 32)) := (Below.refl _ _).alloc (Nat.le_refl _) _
    have hB0 : Below (w.alloc (.cells #[.slice A n c, .int .i64 fu, .int .i64 le] 32)).heap.size (w.alloc (.cells #[.slice A n c, .int .i64 fu, .int .i64 le] 32)) (w.alloc (.cells #[.slice A n c, .int .i64 fu, .int .i64 le] 32)) := Below.refl _ _
    go_enter Try.func35, Try.ntmps35
    go_wp2_with fail
    refine (checkPoint_any _ _ _ _ _ _ _ _ _ (hI0.below hB0) hn).mono ?_
    rintro e w1 ⟨rfl, hb1⟩
    have hB1 := bthen hB0 hb1 hB0.size
    obtain ⟨hc1, hf1⟩ := bcell hB1
    have hz1 : w.heap.size < w1.heap.size := by have := hB1.size; simp at this; omega
    go_wp2_with fail
    go_ret3
    exact ⟨ri3 HL.out.symm HH.out.symm HK.out.symm, bthen hw0 hB1 hw0.size⟩
set_option maxHeartbeats 8000000 in
theorem sRr_any (A : Option Addr) (n c : Nat) (fs : List Fc) (fu le q : Int) (w : World) (h : Faces w A n fs) (hn : n ≤ 9223372036854775807) :
    Calls Try.prog 34 #[.agg #[.slice A n c, .int .i64 fu, .int .i64 le], .int .i64 q] w fun e w' => e = .returned (.tuple #[.int .i64 (rrLo n fs fu le q), .int .i64 (rrHi n fs fu le q), .int .i64 (rrCode n fs fu le q)]) ∧ Below w.heap.size w w' := by
  rcases (orB (orB trivial) : compB n fs fu le = false ∨ compB n fs fu le = true ∧ (pointB q 1000 = false ∨ pointB q 1000 = true ∧ True)) with h1 | ⟨h1, h2 | ⟨h2, _⟩⟩
  · have HK := Lib.hid (show rrCode n fs fu le q = 1 by simp [rrCode, pointCode, h1])
    have HL := Lib.hid (show rrLo n fs fu le q = 0 by simp [rrLo, HK.out])
    have HH := Lib.hid (show rrHi n fs fu le q = 0 by simp [rrHi, HK.out])
    have hI0 := h.alloc (.cells #[.slice A n c, .int .i64 fu, .int .i64 le] 32)
    have hw0 : Below w.heap.size w (w.alloc (.cells #[.slice A n c, .int .i64 fu, .int .i64 le] 32)) := (Below.refl _ _).alloc (Nat.le_refl _) _
    have hB0 : Below (w.alloc (.cells #[.slice A n c, .int .i64 fu, .int .i64 le] 32)).heap.size (w.alloc (.cells #[.slice A n c, .int .i64 fu, .int .i64 le] 32)) (w.alloc (.cells #[.slice A n c, .int .i64 fu, .int .i64 le] 32)) := Below.refl _ _
    go_enter Try.func34, Try.ntmps34
    go_wp2_with fail
    refine (sIsComp_any _ _ _ _ _ _ _ (hI0.below hB0) hn).mono ?_
    rintro e w1 ⟨rfl, hb1⟩
    have hB1 := bthen hB0 hb1 hB0.size
    obtain ⟨hc1, hf1⟩ := bcell hB1
    have hz1 : w.heap.size < w1.heap.size := by have := hB1.size; simp at this; omega
    go_wp2_with fail
    go_ret3
    exact ⟨ri3 HL.out.symm HH.out.symm HK.out.symm, bthen hw0 hB1 hw0.size⟩
  · have HK := Lib.hid (show rrCode n fs fu le q = 2 by simp [rrCode, pointCode, h1, h2])
    have HL := Lib.hid (show rrLo n fs fu le q = 0 by simp [rrLo, HK.out])
    have HH := Lib.hid (show rrHi n fs fu le q = 0 by simp [rrHi, HK.out])
    have hI0 := h.alloc (.cells #[.slice A n c, .int .i64 fu, .int .i64 le] 32)
    have hw0 : Below w.heap.size w (w.alloc (.cells #[.slice A n c, .int .i64 fu, .int .i64 le] 32)) := (Below.refl _ _).alloc (Nat.le_refl _) _
    have hB0 : Below (w.alloc (.cells #[.slice A n c, .int .i64 fu, .int .i64 le] 32)).heap.size (w.alloc (.cells #[.slice A n c, .int .i64 fu, .int .i64 le] 32)) (w.alloc (.cells #[.slice A n c, .int .i64 fu, .int .i64 le] 32)) := Below.refl _ _
    go_enter Try.func34, Try.ntmps34
    go_wp2_with fail
    refine (sIsComp_any _ _ _ _ _ _ _ (hI0.below hB0) hn).mono ?_
    rintro e w1 ⟨rfl, hb1⟩
    have hB1 := bthen hB0 hb1 hB0.size
    obtain ⟨hc1, hf1⟩ := bcell hB1
    have hz1 : w.heap.size < w1.heap.size := by have := hB1.size; simp at this; omega
    go_wp2_with (first | (go_at_call 54; refine (sPoint_any _ _ _).mono ?_; rintro e w' ⟨rfl, rfl⟩))
    go_ret3
    exact ⟨ri3 HL.out.symm HH.out.symm HK.out.symm, bthen hw0 hB1 hw0.size⟩
  · have hqb := pt1000 h2
    have HC := Lib.hid h1
    have HP := Lib.hid (show pointCode n fs fu le q 1000 = 0 by simp [pointCode, h1, h2])
    have hsr := fun W hF => sRatios_any A n c fs fu le q W hF HC hqb
    by_cases ht : le ≤ q
    · by_cases ht2 : ratLo fs q ≤ ratHi fs q
      · have hlt : ¬ q < le := by omega
        simp only [if_neg hlt] at hsr
        have HR := Lib.hid hsr
        have HK := Lib.hid (show rrCode n fs fu le q = 0 by simp [rrCode, HP.out, ht, ht2])
        have HL := Lib.hid (show rrLo n fs fu le q = ratLo fs q by simp [rrLo, HK.out])
        have HH := Lib.hid (show rrHi n fs fu le q = ratHi fs q by simp [rrHi, HK.out])
        clear hsr
        have hI0 := h.alloc (.cells #[.slice A n c, .int .i64 fu, .int .i64 le] 32)
        have hw0 : Below w.heap.size w (w.alloc (.cells #[.slice A n c, .int .i64 fu, .int .i64 le] 32)) := (Below.refl _ _).alloc (Nat.le_refl _) _
        have hB0 : Below (w.alloc (.cells #[.slice A n c, .int .i64 fu, .int .i64 le] 32)).heap.size (w.alloc (.cells #[.slice A n c, .int .i64 fu, .int .i64 le] 32)) (w.alloc (.cells #[.slice A n c, .int .i64 fu, .int .i64 le] 32)) := Below.refl _ _
        go_enter Try.func34, Try.ntmps34
        go_wp2_with fail
        refine (sIsComp_any _ _ _ _ _ _ _ (hI0.below hB0) hn).mono ?_
        rintro e w1 ⟨rfl, hb1⟩
        have hB1 := bthen hB0 hb1 hB0.size
        obtain ⟨hc1, hf1⟩ := bcell hB1
        have hz1 : w.heap.size < w1.heap.size := by have := hB1.size; simp at this; omega
        go_wp2_with (first | (go_at_call 54; refine (sPoint_any _ _ _).mono ?_; rintro e w' ⟨rfl, rfl⟩))
        refine (HR.out _ (hI0.below hB1)).mono ?_
        rintro e w2 ⟨rfl, hb2⟩
        have hB2 := bthen hB1 hb2 hB1.size
        obtain ⟨hc2, hf2⟩ := bcell hB2
        have hz2 : w.heap.size < w2.heap.size := by have := hB2.size; simp at this; omega
        go_wp2_with fail
        go_ret3
        exact ⟨ri3 HL.out.symm HH.out.symm HK.out.symm, bthen hw0 hB2 hw0.size⟩
      · have hlt : ¬ q < le := by omega
        simp only [if_neg hlt] at hsr
        have HR := Lib.hid hsr
        have HK := Lib.hid (show rrCode n fs fu le q = 7 by simp [rrCode, HP.out, ht2])
        have HL := Lib.hid (show rrLo n fs fu le q = 0 by simp [rrLo, HK.out])
        have HH := Lib.hid (show rrHi n fs fu le q = 0 by simp [rrHi, HK.out])
        clear hsr
        have hI0 := h.alloc (.cells #[.slice A n c, .int .i64 fu, .int .i64 le] 32)
        have hw0 : Below w.heap.size w (w.alloc (.cells #[.slice A n c, .int .i64 fu, .int .i64 le] 32)) := (Below.refl _ _).alloc (Nat.le_refl _) _
        have hB0 : Below (w.alloc (.cells #[.slice A n c, .int .i64 fu, .int .i64 le] 32)).heap.size (w.alloc (.cells #[.slice A n c, .int .i64 fu, .int .i64 le] 32)) (w.alloc (.cells #[.slice A n c, .int .i64 fu, .int .i64 le] 32)) := Below.refl _ _
        go_enter Try.func34, Try.ntmps34
        go_wp2_with fail
        refine (sIsComp_any _ _ _ _ _ _ _ (hI0.below hB0) hn).mono ?_
        rintro e w1 ⟨rfl, hb1⟩
        have hB1 := bthen hB0 hb1 hB0.size
        obtain ⟨hc1, hf1⟩ := bcell hB1
        have hz1 : w.heap.size < w1.heap.size := by have := hB1.size; simp at this; omega
        go_wp2_with (first | (go_at_call 54; refine (sPoint_any _ _ _).mono ?_; rintro e w' ⟨rfl, rfl⟩))
        refine (HR.out _ (hI0.below hB1)).mono ?_
        rintro e w2 ⟨rfl, hb2⟩
        have hB2 := bthen hB1 hb2 hB1.size
        obtain ⟨hc2, hf2⟩ := bcell hB2
        have hz2 : w.heap.size < w2.heap.size := by have := hB2.size; simp at this; omega
        go_wp2_with fail
        go_ret3
        exact ⟨ri3 HL.out.symm HH.out.symm HK.out.symm, bthen hw0 hB2 hw0.size⟩
    · have hlt : q < le := by omega
      simp only [if_pos hlt] at hsr
      have HR := Lib.hid hsr
      have HK := Lib.hid (show rrCode n fs fu le q = 7 by simp [rrCode, HP.out, ht])
      have HL := Lib.hid (show rrLo n fs fu le q = 0 by simp [rrLo, HK.out])
      have HH := Lib.hid (show rrHi n fs fu le q = 0 by simp [rrHi, HK.out])
      have hrb := cutTo_bd (pairsQ_ok HC.out hqb.1 hqb.2) (lo := 1000) (hi := 3000) (by omega) (by omega) (by omega) (by omega) fs.length
      have hrl : 0 ≤ ratLo fs q ∧ ratLo fs q ≤ 300000000 := ⟨hrb.1, hrb.2.1⟩
      clear hsr hrb
      have hI0 := h.alloc (.cells #[.slice A n c, .int .i64 fu, .int .i64 le] 32)
      have hw0 : Below w.heap.size w (w.alloc (.cells #[.slice A n c, .int .i64 fu, .int .i64 le] 32)) := (Below.refl _ _).alloc (Nat.le_refl _) _
      have hB0 : Below (w.alloc (.cells #[.slice A n c, .int .i64 fu, .int .i64 le] 32)).heap.size (w.alloc (.cells #[.slice A n c, .int .i64 fu, .int .i64 le] 32)) (w.alloc (.cells #[.slice A n c, .int .i64 fu, .int .i64 le] 32)) := Below.refl _ _
      go_enter Try.func34, Try.ntmps34
      go_wp2_with fail
      refine (sIsComp_any _ _ _ _ _ _ _ (hI0.below hB0) hn).mono ?_
      rintro e w1 ⟨rfl, hb1⟩
      have hB1 := bthen hB0 hb1 hB0.size
      obtain ⟨hc1, hf1⟩ := bcell hB1
      have hz1 : w.heap.size < w1.heap.size := by have := hB1.size; simp at this; omega
      go_wp2_with (first | (go_at_call 54; refine (sPoint_any _ _ _).mono ?_; rintro e w' ⟨rfl, rfl⟩))
      refine (HR.out _ (hI0.below hB1)).mono ?_
      rintro e w2 ⟨rfl, hb2⟩
      have hB2 := bthen hB1 hb2 hB1.size
      obtain ⟨hc2, hf2⟩ := bcell hB2
      have hz2 : w.heap.size < w2.heap.size := by have := hB2.size; simp at this; omega
      go_wp2_with fail
      go_ret3
      exact ⟨ri3 HL.out.symm HH.out.symm HK.out.symm, bthen hw0 hB2 hw0.size⟩
end Go.Proofs.Ytgchbajhceddnaa
