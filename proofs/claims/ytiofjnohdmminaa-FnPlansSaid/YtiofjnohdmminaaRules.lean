/- What KeepsRules and FirstBroken (of the program and of the reference) and the laws on them do, by walks over their text. Conditions: at most 1048576 hours; of the laws: none. -/
import Derived.Test.YtiofjnohdmminaaBroken
set_option linter.unusedVariables false
set_option maxRecDepth 100000
namespace Go.Proofs.Ytiofjnohdmminaa
open Go.RowKit Go.Joins

def keepsB (s u d : Int) (zs : List Int) : Bool := planCode s u d zs.length zs == 0 && decide (brk zs u d (zs.length - 1) 0 0 < 0)
def firstB (s u d : Int) (zs : List Int) : Int := if planCode s u d zs.length zs = 0 then brk zs u d (zs.length - 1) 0 0 else 0

set_option maxHeartbeats 1000000 in
theorem keepsRules_any (s u d : Int) (A : Option Addr) (c : Nat) (zs : List Int) (w : World) (h : Ints w A zs.length zs) (hn : zs.length ≤ 1048576) :
    Calls Try.prog 30 #[.agg #[.int .i64 s, .int .i64 u, .int .i64 d], .slice A zs.length c] w fun e w' => e = .returned (.bool (keepsB s u d zs)) ∧ Below w.heap.size w w' := by
  by_cases hp : planCode s u d zs.length zs = 0
  · obtain ⟨_, p2, _⟩ := planCode_ok hp
    have p2' := (inB_iff _ _ _).1 p2
    have e1 : (planCode s u d zs.length zs == 0) = true := by simp [hp]
    have HP := Lib.hid hp
    have hfin := Lib.hid (show keepsB s u d zs = decide (brk zs u d (zs.length - 1) 0 0 < 0) by simp [keepsB, hp])
    clear hp p2
    go_enter Try.func30, Try.ntmps30
    go_wp2_with fail
    refine (checkPlan_any _ _ _ _ _ _ _ _ (h.alloc _) hn).mono ?_
    rintro e w1 ⟨rfl, hb1⟩
    obtain ⟨hc, hf⟩ := bcell hb1
    have hz : w.heap.size < w1.heap.size := by have := hb1.size; simp at this; omega
    have hI := (h.alloc (.cells #[.int .i64 s, .int .i64 u, .int .i64 d] 25)).below hb1
    have hw1 : Below w.heap.size w w1 := bthen ((Below.refl _ _).alloc (Nat.le_refl _) _) hb1 (by simp)
    go_wp2_with fail
    refine (broken_any _ _ _ _ _ _ _ _ hI (by omega) (by omega)).mono ?_
    rintro e w2 ⟨rfl, hb2⟩
    go_wp2_with fail
    go_ret
    exact ⟨rb hfin.out.symm, bthen hw1 hb2 (by omega)⟩
  · have e1 : (planCode s u d zs.length zs == 0) = false := by simp [hp]
    have hfin := Lib.hid (show keepsB s u d zs = false by simp [keepsB, hp])
    clear hp
    go_enter Try.func30, Try.ntmps30
    go_wp2_with fail
    refine (checkPlan_any _ _ _ _ _ _ _ _ (h.alloc _) hn).mono ?_
    rintro e w1 ⟨rfl, hb1⟩
    have hw1 : Below w.heap.size w w1 := bthen ((Below.refl _ _).alloc (Nat.le_refl _) _) hb1 (by simp)
    go_wp2_with fail
    go_ret
    exact ⟨rb hfin.out.symm, hw1⟩
set_option maxHeartbeats 1000000 in
theorem sKeepsRules_any (s u d : Int) (A : Option Addr) (c : Nat) (zs : List Int) (w : World) (h : Ints w A zs.length zs) (hn : zs.length ≤ 1048576) :
    Calls Try.prog 29 #[.agg #[.int .i64 s, .int .i64 u, .int .i64 d], .slice A zs.length c] w fun e w' => e = .returned (.bool (keepsB s u d zs)) ∧ Below w.heap.size w w' := by
  by_cases hp : planCode s u d zs.length zs = 0
  · obtain ⟨_, p2, _⟩ := planCode_ok hp
    have p2' := (inB_iff _ _ _).1 p2
    have e1 : (planCode s u d zs.length zs == 0) = true := by simp [hp]
    have HP := Lib.hid hp
    have hfin := Lib.hid (show keepsB s u d zs = decide (brk zs u d (zs.length - 1) 0 0 < 0) by simp [keepsB, hp])
    clear hp p2
    go_enter Try.func29, Try.ntmps29
    go_wp2_with fail
    refine (sPlan_any _ _ _ _ _ _ _ _ (h.alloc _) hn).mono ?_
    rintro e w1 ⟨rfl, hb1⟩
    obtain ⟨hc, hf⟩ := bcell hb1
    have hz : w.heap.size < w1.heap.size := by have := hb1.size; simp at this; omega
    have hI := (h.alloc (.cells #[.int .i64 s, .int .i64 u, .int .i64 d] 25)).below hb1
    have hw1 : Below w.heap.size w w1 := bthen ((Below.refl _ _).alloc (Nat.le_refl _) _) hb1 (by simp)
    go_wp2_with fail
    refine (sBroken_any _ _ _ _ _ _ _ _ hI (by omega) (by omega)).mono ?_
    rintro e w2 ⟨rfl, hb2⟩
    go_wp2_with fail
    go_ret
    exact ⟨rb hfin.out.symm, bthen hw1 hb2 (by omega)⟩
  · have e1 : (planCode s u d zs.length zs == 0) = false := by simp [hp]
    have hfin := Lib.hid (show keepsB s u d zs = false by simp [keepsB, hp])
    clear hp
    go_enter Try.func29, Try.ntmps29
    go_wp2_with fail
    refine (sPlan_any _ _ _ _ _ _ _ _ (h.alloc _) hn).mono ?_
    rintro e w1 ⟨rfl, hb1⟩
    have hw1 : Below w.heap.size w w1 := bthen ((Below.refl _ _).alloc (Nat.le_refl _) _) hb1 (by simp)
    go_wp2_with fail
    go_ret
    exact ⟨rb hfin.out.symm, hw1⟩
set_option maxHeartbeats 1000000 in
theorem firstBroken_any (s u d : Int) (A : Option Addr) (c : Nat) (zs : List Int) (w : World) (h : Ints w A zs.length zs) (hn : zs.length ≤ 1048576) :
    Calls Try.prog 34 #[.agg #[.int .i64 s, .int .i64 u, .int .i64 d], .slice A zs.length c] w fun e w' => e = .returned (.tuple #[.int .i64 (firstB s u d zs), .int .i64 (planCode s u d zs.length zs)]) ∧ Below w.heap.size w w' := by
  by_cases hp : planCode s u d zs.length zs = 0
  · obtain ⟨_, p2, _⟩ := planCode_ok hp
    have p2' := (inB_iff _ _ _).1 p2
    have e1 : (planCode s u d zs.length zs != 0) = false := by simp [hp]
    have HP := Lib.hid hp
    have hfin := Lib.hid (show firstB s u d zs = brk zs u d (zs.length - 1) 0 0 by simp [firstB, hp])
    clear hp p2
    go_enter Try.func34, Try.ntmps34
    go_wp2_with fail
    refine (checkPlan_any _ _ _ _ _ _ _ _ (h.alloc _) hn).mono ?_
    rintro e w1 ⟨rfl, hb1⟩
    obtain ⟨hc, hf⟩ := bcell hb1
    have hz : w.heap.size < w1.heap.size := by have := hb1.size; simp at this; omega
    have hI := (h.alloc (.cells #[.int .i64 s, .int .i64 u, .int .i64 d] 25)).below hb1
    have hw1 : Below w.heap.size w w1 := bthen ((Below.refl _ _).alloc (Nat.le_refl _) _) hb1 (by simp)
    go_wp2_with fail
    refine (broken_any _ _ _ _ _ _ _ _ hI (by omega) (by omega)).mono ?_
    rintro e w2 ⟨rfl, hb2⟩
    go_wp2_with fail
    go_ret2
    exact ⟨ri2 hfin.out.symm HP.out.symm, bthen hw1 hb2 (by omega)⟩
  · have e1 : (planCode s u d zs.length zs != 0) = true := by simp [hp]
    have hfin := Lib.hid (show firstB s u d zs = 0 by simp [firstB, hp])
    clear hp
    go_enter Try.func34, Try.ntmps34
    go_wp2_with fail
    refine (checkPlan_any _ _ _ _ _ _ _ _ (h.alloc _) hn).mono ?_
    rintro e w1 ⟨rfl, hb1⟩
    have hw1 : Below w.heap.size w w1 := bthen ((Below.refl _ _).alloc (Nat.le_refl _) _) hb1 (by simp)
    go_wp2_with fail
    go_ret2
    exact ⟨ri2 hfin.out.symm rfl, hw1⟩
set_option maxHeartbeats 1000000 in
theorem sFirstBroken_any (s u d : Int) (A : Option Addr) (c : Nat) (zs : List Int) (w : World) (h : Ints w A zs.length zs) (hn : zs.length ≤ 1048576) :
    Calls Try.prog 33 #[.agg #[.int .i64 s, .int .i64 u, .int .i64 d], .slice A zs.length c] w fun e w' => e = .returned (.tuple #[.int .i64 (firstB s u d zs), .int .i64 (planCode s u d zs.length zs)]) ∧ Below w.heap.size w w' := by
  by_cases hp : planCode s u d zs.length zs = 0
  · obtain ⟨_, p2, _⟩ := planCode_ok hp
    have p2' := (inB_iff _ _ _).1 p2
    have e1 : (planCode s u d zs.length zs != 0) = false := by simp [hp]
    have HP := Lib.hid hp
    have hfin := Lib.hid (show firstB s u d zs = brk zs u d (zs.length - 1) 0 0 by simp [firstB, hp])
    clear hp p2
    go_enter Try.func33, Try.ntmps33
    go_wp2_with fail
    refine (sPlan_any _ _ _ _ _ _ _ _ (h.alloc _) hn).mono ?_
    rintro e w1 ⟨rfl, hb1⟩
    obtain ⟨hc, hf⟩ := bcell hb1
    have hz : w.heap.size < w1.heap.size := by have := hb1.size; simp at this; omega
    have hI := (h.alloc (.cells #[.int .i64 s, .int .i64 u, .int .i64 d] 25)).below hb1
    have hw1 : Below w.heap.size w w1 := bthen ((Below.refl _ _).alloc (Nat.le_refl _) _) hb1 (by simp)
    go_wp2_with fail
    refine (sBroken_any _ _ _ _ _ _ _ _ hI (by omega) (by omega)).mono ?_
    rintro e w2 ⟨rfl, hb2⟩
    go_wp2_with fail
    go_ret2
    exact ⟨ri2 hfin.out.symm HP.out.symm, bthen hw1 hb2 (by omega)⟩
  · have e1 : (planCode s u d zs.length zs != 0) = true := by simp [hp]
    have hfin := Lib.hid (show firstB s u d zs = 0 by simp [firstB, hp])
    clear hp
    go_enter Try.func33, Try.ntmps33
    go_wp2_with fail
    refine (sPlan_any _ _ _ _ _ _ _ _ (h.alloc _) hn).mono ?_
    rintro e w1 ⟨rfl, hb1⟩
    have hw1 : Below w.heap.size w w1 := bthen ((Below.refl _ _).alloc (Nat.le_refl _) _) hb1 (by simp)
    go_wp2_with fail
    go_ret2
    exact ⟨ri2 hfin.out.symm rfl, hw1⟩
set_option maxHeartbeats 2000000 in
theorem law_FnExactKeepsRules (s u d : Int) (A : Option Addr) (n c : Nat) (zs : List Int) (w : World) (_h : I64 s ∧ I64 u ∧ I64 d) (h0 : Ints w A n zs ∧ n ≤ c ∧ c ≤ maxLen) :
    Calls Try.prog 7 #[.agg #[.int .i64 s, .int .i64 u, .int .i64 d], .slice A n c] w fun e w' => e = .returned (.bool true) ∧ Below w.heap.size w w' := by
  obtain ⟨h, hnc, hc⟩ := h0
  obtain rfl : zs.length = n := h.len
  unfold maxLen at hc
  by_cases hbig : (1048576 : Int) < zs.length
  · go_enter Try.func7, Try.ntmps7
    go_wp2_with fail
    go_ret
    exact ⟨rfl, (Below.refl _ _).alloc (Nat.le_refl _) _⟩
  · have hn : zs.length ≤ 1048576 := by omega
    go_enter Try.func7, Try.ntmps7
    go_wp2_with fail
    have hI0 := h.alloc (.cells #[.int .i64 s, .int .i64 u, .int .i64 d] 23)
    refine (toUnit_any _ _ _ _).mono ?_
    rintro e w1 ⟨rfl, hb1⟩
    have hz1 : w.heap.size < w1.heap.size := by have := hb1.size; simp at this; omega
    have hI1 := hI0.below hb1
    go_wp2_with fail
    refine (toInts_any _ _ _ _ _ hI1 hn).mono ?_
    rintro e w2 ⟨A2, c2, rfl, ho2, hb2⟩
    have hB2 := bthen hb1 hb2 hb1.size
    go_wp2_with fail
    refine (sKeepsRules_any _ _ _ _ _ _ _ ho2.ints hn).mono ?_
    rintro e w3 ⟨rfl, hb3⟩
    have hB3 := bthen hB2 hb3 hB2.size
    clear hB2 hb2 hb3 ho2 hI1 hb1
    have hI3 := hI0.below hB3
    have hz3 : w.heap.size < w3.heap.size := by have := hB3.size; simp at this; omega
    go_wp2_with fail
    refine (toInts_any _ _ _ _ _ hI3 hn).mono ?_
    rintro e w4 ⟨A4, c4, rfl, ho4, hb4⟩
    have hB4 := bthen hB3 hb4 hB3.size
    clear hB3 hb4 hI3
    obtain ⟨hc4, hf4⟩ := bcell hB4
    have hz4 : w.heap.size < w4.heap.size := by have := hB4.size; simp at this; omega
    go_wp2_with fail
    refine (toUnit_any _ _ _ _).mono ?_
    rintro e w5 ⟨rfl, hb5⟩
    have ho5 := ho4.below hb5
    have hB5 := bthen hB4 hb5 hB4.size
    clear hB4 hb5 ho4 hc4 hf4
    go_wp2_with fail
    refine (keepsRules_any _ _ _ _ _ _ _ ho5.ints hn).mono ?_
    rintro e w6 ⟨rfl, hb6⟩
    have ho6 := ho5.below hb6
    have hB6 := bthen hB5 hb6 hB5.size
    clear hB5 hb6 ho5
    have hI6 := hI0.below hB6
    go_wp2_with fail
    refine (toInts_any _ _ _ _ _ hI6 hn).mono ?_
    rintro e w7 ⟨A7, c7, rfl, ho7, hb7⟩
    have ho6' := ho6.below hb7
    have hB7 := bthen hB6 hb7 hB6.size
    clear hB6 hb7 ho6
    go_wp2_with fail
    refine (eqInts_any _ _ _ _ _ _ _ _ _ ho6'.ints ho7.ints hn).mono ?_
    rintro e w8 ⟨rfl, hq8⟩
    have hB8 := bthen hB7 (hq8.below _) hB7.size
    clear hB7
    go_wp2_with fail
    go_ret
    exact ⟨rfl, bthen ((Below.refl _ _).alloc (Nat.le_refl _) _) hB8 (by simp)⟩
set_option maxHeartbeats 2000000 in
theorem law_FnExactFirstBroken (s u d : Int) (A : Option Addr) (n c : Nat) (zs : List Int) (w : World) (_h : I64 s ∧ I64 u ∧ I64 d) (h0 : Ints w A n zs ∧ n ≤ c ∧ c ≤ maxLen) :
    Calls Try.prog 9 #[.agg #[.int .i64 s, .int .i64 u, .int .i64 d], .slice A n c] w fun e w' => e = .returned (.bool true) ∧ Below w.heap.size w w' := by
  obtain ⟨h, hnc, hc⟩ := h0
  obtain rfl : zs.length = n := h.len
  unfold maxLen at hc
  by_cases hbig : (1048576 : Int) < zs.length
  · go_enter Try.func9, Try.ntmps9
    go_wp2_with fail
    go_ret
    exact ⟨rfl, (Below.refl _ _).alloc (Nat.le_refl _) _⟩
  · have hn : zs.length ≤ 1048576 := by omega
    go_enter Try.func9, Try.ntmps9
    go_wp2_with fail
    have hI0 := h.alloc (.cells #[.int .i64 s, .int .i64 u, .int .i64 d] 23)
    refine (toUnit_any _ _ _ _).mono ?_
    rintro e w1 ⟨rfl, hb1⟩
    have hz1 : w.heap.size < w1.heap.size := by have := hb1.size; simp at this; omega
    have hI1 := hI0.below hb1
    go_wp2_with fail
    refine (toInts_any _ _ _ _ _ hI1 hn).mono ?_
    rintro e w2 ⟨A2, c2, rfl, ho2, hb2⟩
    have hB2 := bthen hb1 hb2 hb1.size
    go_wp2_with fail
    refine (sFirstBroken_any _ _ _ _ _ _ _ ho2.ints hn).mono ?_
    rintro e w3 ⟨rfl, hb3⟩
    have hB3 := bthen hB2 hb3 hB2.size
    clear hB2 hb2 hb3 ho2 hI1 hb1
    have hI3 := hI0.below hB3
    have hz3 : w.heap.size < w3.heap.size := by have := hB3.size; simp at this; omega
    go_wp2_with fail
    refine (toInts_any _ _ _ _ _ hI3 hn).mono ?_
    rintro e w4 ⟨A4, c4, rfl, ho4, hb4⟩
    have hB4 := bthen hB3 hb4 hB3.size
    clear hB3 hb4 hI3
    obtain ⟨hc4, hf4⟩ := bcell hB4
    have hz4 : w.heap.size < w4.heap.size := by have := hB4.size; simp at this; omega
    go_wp2_with fail
    refine (toUnit_any _ _ _ _).mono ?_
    rintro e w5 ⟨rfl, hb5⟩
    have ho5 := ho4.below hb5
    have hB5 := bthen hB4 hb5 hB4.size
    clear hB4 hb5 ho4 hc4 hf4
    go_wp2_with fail
    refine (firstBroken_any _ _ _ _ _ _ _ ho5.ints hn).mono ?_
    rintro e w6 ⟨rfl, hb6⟩
    have ho6 := ho5.below hb6
    have hB6 := bthen hB5 hb6 hB5.size
    clear hB5 hb6 ho5
    have hI6 := hI0.below hB6
    go_wp2_with fail
    refine (toInts_any _ _ _ _ _ hI6 hn).mono ?_
    rintro e w7 ⟨A7, c7, rfl, ho7, hb7⟩
    have ho6' := ho6.below hb7
    have hB7 := bthen hB6 hb7 hB6.size
    clear hB6 hb7 ho6
    go_wp2_with fail
    refine (eqInts_any _ _ _ _ _ _ _ _ _ ho6'.ints ho7.ints hn).mono ?_
    rintro e w8 ⟨rfl, hq8⟩
    have hB8 := bthen hB7 (hq8.below _) hB7.size
    clear hB7
    go_wp2_with fail
    go_ret
    exact ⟨rfl, bthen ((Below.refl _ _).alloc (Nat.le_refl _) _) hB8 (by simp)⟩
end Go.Proofs.Ytiofjnohdmminaa
