/- The walk of the law on SameFlows. No condition. -/
import Derived.Test.YtoijogaogheciaaSame
set_option linter.unusedVariables false
set_option maxRecDepth 100000
namespace Go.Proofs.Ytoijogaogheciaa
open Go.RowKit Go.Joins Go.Deep
attribute [local go_sem ↓] Go.wp_at_zero Go.wp_at_succ

set_option maxHeartbeats 8000000 in
theorem law_FnExactSameFlows (A : Option Addr) (n c : Nat) (xs : List Int) (B : Option Addr) (m d : Nat) (ys : List Int) (A' : Option Addr) (n' c' : Nat) (xs' : List Int) (B' : Option Addr) (m' d' : Nat) (ys' : List Int) (w : World)
    (h0 : (Ints w A n xs ∧ n ≤ c ∧ c ≤ maxLen) ∧ (Ints w B m ys ∧ m ≤ d ∧ d ≤ maxLen)) (h0' : (Ints w A' n' xs' ∧ n' ≤ c' ∧ c' ≤ maxLen) ∧ (Ints w B' m' ys' ∧ m' ≤ d' ∧ d' ≤ maxLen)) :
    Calls Try.prog 3 #[.agg #[.slice A n c, .slice B m d], .agg #[.slice A' n' c', .slice B' m' d']] w fun e w' => e = .returned (.bool true) ∧ Below w.heap.size w w' := by
  obtain ⟨⟨j1, l1, l2⟩, j2, l3, l4⟩ := h0
  obtain ⟨⟨j3, l5, l6⟩, j4, l7, l8⟩ := h0'
  obtain rfl : xs.length = n := j1.len
  obtain rfl : ys.length = m := j2.len
  obtain rfl : xs'.length = n' := j3.len
  obtain rfl : ys'.length = m' := j4.len
  unfold maxLen at l2 l4 l6 l8
  have hW : Below w.heap.size w ((w.alloc (.cells #[.slice A xs.length c, .slice B ys.length d] 24)).alloc (.cells #[.slice A' xs'.length c', .slice B' ys'.length d'] 24)) := ((Below.refl _ _).alloc (Nat.le_refl _) _).alloc (by simp) _
  have i1 := j1.below hW
  have i2 := j2.below hW
  have i3 := j3.below hW
  have i4 := j4.below hW
  have zA : w.heap.size < ((w.alloc (.cells #[.slice A xs.length c, .slice B ys.length d] 24)).alloc (.cells #[.slice A' xs'.length c', .slice B' ys'.length d'] 24)).heap.size := by simp; omega
  have zB : w.heap.size + 1 < ((w.alloc (.cells #[.slice A xs.length c, .slice B ys.length d] 24)).alloc (.cells #[.slice A' xs'.length c', .slice B' ys'.length d'] 24)).heap.size := by simp
  have q0 : ((w.alloc (.cells #[.slice A xs.length c, .slice B ys.length d] 24)).alloc (.cells #[.slice A' xs'.length c', .slice B' ys'.length d'] 24)).cell? ⟨w.heap.size, 0, none⟩ = some (.slice A xs.length c) := by simp
  have q1 : ((w.alloc (.cells #[.slice A xs.length c, .slice B ys.length d] 24)).alloc (.cells #[.slice A' xs'.length c', .slice B' ys'.length d'] 24)).cell? ⟨w.heap.size, 1, none⟩ = some (.slice B ys.length d) := by simp
  have q2 : ((w.alloc (.cells #[.slice A xs.length c, .slice B ys.length d] 24)).alloc (.cells #[.slice A' xs'.length c', .slice B' ys'.length d'] 24)).cell? ⟨w.heap.size + 1, 0, none⟩ = some (.slice A' xs'.length c') := by simp
  have q3 : ((w.alloc (.cells #[.slice A xs.length c, .slice B ys.length d] 24)).alloc (.cells #[.slice A' xs'.length c', .slice B' ys'.length d'] 24)).cell? ⟨w.heap.size + 1, 1, none⟩ = some (.slice B' ys'.length d') := by simp
  have hs1 := fun W => szProof_any A B xs.length c ys.length d 1048576 W (by omega) (by omega) (by omega) (by omega)
  by_cases b1 : (xs.length : Int) + ys.length ≤ 1048576
  case neg =>
    rw [if_neg b1] at hs1
    have HS := Lib.hid hs1
    clear hs1
    go_enter Try.func3, Try.ntmps3
    go_wp2_with fail
    refine (HS.out _).mono ?_
    rintro e w1 ⟨rfl, hb1⟩
    go_wp2_with fail
    go_ret
    exact ⟨rfl, bthen hW hb1 hW.size⟩
  rw [if_pos b1] at hs1
  have hs2 := fun W => szProof_any A' B' xs'.length c' ys'.length d' (1048576 - xs.length - ys.length) W (by omega) (by omega) (by omega) (by omega)
  by_cases b2 : (xs'.length : Int) + ys'.length ≤ 1048576 - xs.length - ys.length
  case neg =>
    rw [if_neg b2] at hs2
    have HS := Lib.hid hs1
    have HS2 := Lib.hid hs2
    clear hs1 hs2
    go_enter Try.func3, Try.ntmps3
    go_wp2_with fail
    refine (HS.out _).mono ?_
    rintro e w1 ⟨rfl, hB1⟩
    generalize ((w.alloc (.cells #[.slice A xs.length c, .slice B ys.length d] 24)).alloc (.cells #[.slice A' xs'.length c', .slice B' ys'.length d'] 24)) = V at *
    have p0 : w1.cell? ⟨w.heap.size, 0, none⟩ = some (.slice A xs.length c) := (hB1.cell zA).trans q0
    have p1 : w1.cell? ⟨w.heap.size, 1, none⟩ = some (.slice B ys.length d) := (hB1.cell zA).trans q1
    have p2 : w1.cell? ⟨w.heap.size + 1, 0, none⟩ = some (.slice A' xs'.length c') := (hB1.cell zB).trans q2
    have p3 : w1.cell? ⟨w.heap.size + 1, 1, none⟩ = some (.slice B' ys'.length d') := (hB1.cell zB).trans q3
    have hz1 : w.heap.size + 1 < w1.heap.size := Nat.lt_of_lt_of_le zB hB1.size
    go_wp2_with fail
    refine (HS2.out _).mono ?_
    rintro e w2 ⟨rfl, hb2⟩
    have hB2 := bthen hB1 hb2 hB1.size
    clear hB1 hb2 p0 p1 p2 p3 hz1
    go_wp2_with fail
    go_ret
    exact ⟨rfl, bthen hW hB2 hW.size⟩
  rw [if_pos b2] at hs2
  have HS := Lib.hid hs1
  have HS2 := Lib.hid hs2
  clear hs1 hs2
  go_enter Try.func3, Try.ntmps3
  go_wp2_with fail
  refine (HS.out _).mono ?_
  rintro e w1 ⟨rfl, hB1⟩
  generalize ((w.alloc (.cells #[.slice A xs.length c, .slice B ys.length d] 24)).alloc (.cells #[.slice A' xs'.length c', .slice B' ys'.length d'] 24)) = V at *
  have p0 : w1.cell? ⟨w.heap.size, 0, none⟩ = some (.slice A xs.length c) := (hB1.cell zA).trans q0
  have p1 : w1.cell? ⟨w.heap.size, 1, none⟩ = some (.slice B ys.length d) := (hB1.cell zA).trans q1
  have p2 : w1.cell? ⟨w.heap.size + 1, 0, none⟩ = some (.slice A' xs'.length c') := (hB1.cell zB).trans q2
  have p3 : w1.cell? ⟨w.heap.size + 1, 1, none⟩ = some (.slice B' ys'.length d') := (hB1.cell zB).trans q3
  have hz1 : w.heap.size + 1 < w1.heap.size := Nat.lt_of_lt_of_le zB hB1.size
  go_wp2_with fail
  refine (HS2.out _).mono ?_
  rintro e w2 ⟨rfl, hb2⟩
  have hB2 := bthen hB1 hb2 hB1.size
  clear hB1 hb2 p0 p1 p2 p3 hz1
  have p0 : w2.cell? ⟨w.heap.size, 0, none⟩ = some (.slice A xs.length c) := (hB2.cell zA).trans q0
  have p1 : w2.cell? ⟨w.heap.size, 1, none⟩ = some (.slice B ys.length d) := (hB2.cell zA).trans q1
  have p2 : w2.cell? ⟨w.heap.size + 1, 0, none⟩ = some (.slice A' xs'.length c') := (hB2.cell zB).trans q2
  have p3 : w2.cell? ⟨w.heap.size + 1, 1, none⟩ = some (.slice B' ys'.length d') := (hB2.cell zB).trans q3
  have hz2 : w.heap.size + 1 < w2.heap.size := Nat.lt_of_lt_of_le zB hB2.size
  have hn : xs.length ≤ 1048576 := by omega
  have hm : ys.length ≤ 1048576 := by omega
  have hn' : xs'.length ≤ 1048576 := by omega
  have hm' : ys'.length ≤ 1048576 := by omega
  have kB : Kept (Below V.heap.size V w2.drew) := ⟨hB2.drew⟩
  go_wp2_with fail
  go_region_held3 (fun w' => w.heap.size + 1 < w'.heap.size ∧ w'.cell? ⟨w.heap.size, 0, none⟩ = some (.slice A xs.length c) ∧ w'.cell? ⟨w.heap.size, 1, none⟩ = some (.slice B ys.length d) ∧ w'.cell? ⟨w.heap.size + 1, 0, none⟩ = some (.slice A' xs'.length c') ∧ w'.cell? ⟨w.heap.size + 1, 1, none⟩ = some (.slice B' ys'.length d') ∧ Kept (Below V.heap.size V w'))
    (first | go_keep | (go_split_ands; refine ⟨by have := hb8.size; omega, ?_, ?_, ?_, ?_, ⟨bthen (Kept.out ‹Kept (Below _ _ _)›) hb8 (Kept.out ‹Kept (Below _ _ _)›).size⟩⟩ <;> (rw [hb8.cell (by simp; omega)]; assumption)))
    (first | (go_at_call 17; go_split_ands; ((with_reducible refine (toProof_any A B c d xs ys _ (i1.below (Kept.out ‹Kept (Below _ _ _)›)) (i2.below (Kept.out ‹Kept (Below _ _ _)›)) hn hm).mono ?_)); rintro e w3 ⟨A3, c3, B3, d3, rfl, ho3, hp3, hb8⟩) | (go_at_call 17; go_split_ands; ((with_reducible refine (toProof_any A' B' c' d' xs' ys' _ (i3.below (Kept.out ‹Kept (Below _ _ _)›)) (i4.below (Kept.out ‹Kept (Below _ _ _)›)) hn' hm').mono ?_)); rintro e w4 ⟨A4, c4, B4, d4, rfl, ho4, hp4, hb8⟩; have ho34 := ho3.below hb8) | (go_at_call 16; refine (sSame_any _ _ _ _ _ _ _ _ _ _ _ _ _ ho34.ints ho4.ints hn).mono ?_; rintro e w5 ⟨rfl, hb8⟩))
  rename_i hh
  obtain ⟨g5, p0, p1, p2, p3, ⟨hB5⟩⟩ := hh
  clear kB hB2 ho3 hp3 ho4 hp4 ho34 hb8
  go_wp2_with fail
  refine (toProof_any A B c d xs ys _ (i1.below hB5) (i2.below hB5) hn hm).mono ?_
  rintro e w6 ⟨A6, c6, B6, d6, rfl, hoa6, hob6, hb6⟩
  have hB6 := bthen hB5 hb6 hB5.size
  clear p0 p1 p2 p3 hB5 hb6 g5
  have p0 : w6.cell? ⟨w.heap.size, 0, none⟩ = some (.slice A xs.length c) := (hB6.cell zA).trans q0
  have p1 : w6.cell? ⟨w.heap.size, 1, none⟩ = some (.slice B ys.length d) := (hB6.cell zA).trans q1
  have p2 : w6.cell? ⟨w.heap.size + 1, 0, none⟩ = some (.slice A' xs'.length c') := (hB6.cell zB).trans q2
  have p3 : w6.cell? ⟨w.heap.size + 1, 1, none⟩ = some (.slice B' ys'.length d') := (hB6.cell zB).trans q3
  have hz6 : w.heap.size + 1 < w6.heap.size := Nat.lt_of_lt_of_le zB hB6.size
  have hb6x : Below w6.heap.size w6 (w6.alloc (.cells #[.slice A6 xs.length c6, .slice B6 ys.length d6] 27)) := (Below.refl _ _).alloc (Nat.le_refl _) _
  have hB6x := bthen hB6 hb6x hB6.size
  go_wp2_with fail
  refine (toProof_any A' B' c' d' xs' ys' _ (i3.below hB6x) (i4.below hB6x) hn' hm').mono ?_
  rintro e w7 ⟨A7, c7, B7, d7, rfl, hoa7, hob7, hb7⟩
  have ka7 := (hoa6.below hb6x).below hb7
  have kb7 := (hob6.below hb6x).below hb7
  have x60 : w7.cell? ⟨w6.heap.size, 0, none⟩ = some (.slice A6 xs.length c6) := (hb7.cell (by simp)).trans (by simp)
  have x61 : w7.cell? ⟨w6.heap.size, 1, none⟩ = some (.slice B6 ys.length d6) := (hb7.cell (by simp)).trans (by simp)
  have hz67 : w6.heap.size < w7.heap.size := by have := hb7.size; simp at this; omega
  have hB7 := bthen hB6x hb7 hB6x.size
  clear p0 p1 p2 p3 hB6 hB6x hb6x hb7 hoa6 hob6
  have p0 : w7.cell? ⟨w.heap.size, 0, none⟩ = some (.slice A xs.length c) := (hB7.cell zA).trans q0
  have p1 : w7.cell? ⟨w.heap.size, 1, none⟩ = some (.slice B ys.length d) := (hB7.cell zA).trans q1
  have p2 : w7.cell? ⟨w.heap.size + 1, 0, none⟩ = some (.slice A' xs'.length c') := (hB7.cell zB).trans q2
  have p3 : w7.cell? ⟨w.heap.size + 1, 1, none⟩ = some (.slice B' ys'.length d') := (hB7.cell zB).trans q3
  have hz7 : w.heap.size + 1 < w7.heap.size := Nat.lt_of_lt_of_le zB hB7.size
  have hb7x : Below w7.heap.size w7 (w7.alloc (.cells #[.slice A7 xs'.length c7, .slice B7 ys'.length d7] 27)) := (Below.refl _ _).alloc (Nat.le_refl _) _
  have hB7x := bthen hB7 hb7x hB7.size
  have ka8 := ka7.below hb7x
  have kb8 := kb7.below hb7x
  have kc8 := hoa7.below hb7x
  have kd8 := hob7.below hb7x
  go_wp2_with fail
  refine (same_any _ _ _ _ _ _ _ _ _ _ _ _ _ ka8.ints kc8.ints hn).mono ?_
  rintro e w8 ⟨rfl, hb8⟩
  have hB8 := bthen hB7x hb8 hB7x.size
  have x0 : w8.cell? ⟨w6.heap.size, 0, none⟩ = some (.slice A6 xs.length c6) := (hb8.cell (by simp; omega)).trans ((hb7x.cell (by simp; omega)).trans x60)
  have x1 : w8.cell? ⟨w6.heap.size, 1, none⟩ = some (.slice B6 ys.length d6) := (hb8.cell (by simp; omega)).trans ((hb7x.cell (by simp; omega)).trans x61)
  have y0 : w8.cell? ⟨w7.heap.size, 0, none⟩ = some (.slice A7 xs'.length c7) := (hb8.cell (by simp)).trans (by simp)
  have y1 : w8.cell? ⟨w7.heap.size, 1, none⟩ = some (.slice B7 ys'.length d7) := (hb8.cell (by simp)).trans (by simp)
  have hz8' : w7.heap.size < w8.heap.size := by have := hb8.size; simp at this; omega
  have k1 : Kept (Ints w8.drew A6 xs.length xs) := ⟨(ka8.ints.below hb8).drew⟩
  have k2 : Kept (Ints w8.drew B6 ys.length ys) := ⟨(kb8.ints.below hb8).drew⟩
  have k3 : Kept (Ints w8.drew A7 xs'.length xs') := ⟨(kc8.ints.below hb8).drew⟩
  have k4 : Kept (Ints w8.drew B7 ys'.length ys') := ⟨(kd8.ints.below hb8).drew⟩
  have k5 : Kept (Below V.heap.size V w8.drew) := ⟨hB8.drew⟩
  clear p0 p1 p2 p3 ka7 kb7 hoa7 hob7 ka8 kb8 kc8 kd8 hB7 hB7x hb7x hb8 x60 x61
  have p0 : w8.cell? ⟨w.heap.size, 0, none⟩ = some (.slice A xs.length c) := (hB8.cell zA).trans q0
  have p1 : w8.cell? ⟨w.heap.size, 1, none⟩ = some (.slice B ys.length d) := (hB8.cell zA).trans q1
  have p2 : w8.cell? ⟨w.heap.size + 1, 0, none⟩ = some (.slice A' xs'.length c') := (hB8.cell zB).trans q2
  have p3 : w8.cell? ⟨w.heap.size + 1, 1, none⟩ = some (.slice B' ys'.length d') := (hB8.cell zB).trans q3
  have hz8 : w.heap.size + 1 < w8.heap.size := Nat.lt_of_lt_of_le zB hB8.size
  clear hB8
  go_wp2_with fail
  go_region_held3 (fun w' => w7.heap.size < w'.heap.size ∧ w'.cell? ⟨w.heap.size, 0, none⟩ = some (.slice A xs.length c) ∧ w'.cell? ⟨w.heap.size, 1, none⟩ = some (.slice B ys.length d) ∧ w'.cell? ⟨w.heap.size + 1, 0, none⟩ = some (.slice A' xs'.length c') ∧ w'.cell? ⟨w.heap.size + 1, 1, none⟩ = some (.slice B' ys'.length d') ∧ w'.cell? ⟨w6.heap.size, 0, none⟩ = some (.slice A6 xs.length c6) ∧ w'.cell? ⟨w6.heap.size, 1, none⟩ = some (.slice B6 ys.length d6) ∧ w'.cell? ⟨w7.heap.size, 0, none⟩ = some (.slice A7 xs'.length c7) ∧ w'.cell? ⟨w7.heap.size, 1, none⟩ = some (.slice B7 ys'.length d7) ∧ Kept (Ints w' A6 xs.length xs) ∧ Kept (Ints w' B6 ys.length ys) ∧ Kept (Ints w' A7 xs'.length xs') ∧ Kept (Ints w' B7 ys'.length ys') ∧ Kept (Below V.heap.size V w'))
    (first | go_keep | (go_split_ands; refine ⟨by have := hb9.size; omega, ?_, ?_, ?_, ?_, ?_, ?_, ?_, ?_, ⟨(Kept.out ‹Kept (Ints _ A6 _ _)›).below hb9⟩, ⟨(Kept.out ‹Kept (Ints _ B6 _ _)›).below hb9⟩, ⟨(Kept.out ‹Kept (Ints _ A7 _ _)›).below hb9⟩, ⟨(Kept.out ‹Kept (Ints _ B7 _ _)›).below hb9⟩, ⟨bthen (Kept.out ‹Kept (Below _ _ _)›) hb9 (Kept.out ‹Kept (Below _ _ _)›).size⟩⟩ <;> (rw [hb9.cell (by simp; omega)]; assumption)))
    (first | (go_at_call 17; go_split_ands; refine (toProof_any A B c d xs ys _ (i1.below (Kept.out ‹Kept (Below _ _ _)›)) (i2.below (Kept.out ‹Kept (Below _ _ _)›)) hn hm).mono ?_; rintro e w9 ⟨A9, c9, B9, d9, rfl, hoa9, hob9, hb9⟩) | (go_at_call 19; go_split_ands; refine (eqProof_any _ _ _ _ _ _ _ _ _ _ _ (Kept.out ‹Kept (Ints _ A6 _ _)›) (Kept.out ‹Kept (Ints _ B6 _ _)›) hoa9.ints hob9.ints hn hm).mono ?_; rintro e w10 ⟨rfl, hb9⟩))
  rename_i hh
  obtain ⟨g9, p0, p1, p2, p3, x0, x1, y0, y1, ⟨r1⟩, ⟨r2⟩, ⟨r3⟩, ⟨r4⟩, ⟨r5⟩⟩ := hh
  clear k1 k2 k3 k4 k5 hoa9 hob9 hb9
  have k1 : Kept (Ints w10.drew A6 xs.length xs) := ⟨r1.drew⟩
  have k2 : Kept (Ints w10.drew B6 ys.length ys) := ⟨r2.drew⟩
  have k3 : Kept (Ints w10.drew A7 xs'.length xs') := ⟨r3.drew⟩
  have k4 : Kept (Ints w10.drew B7 ys'.length ys') := ⟨r4.drew⟩
  have k5 : Kept (Below V.heap.size V w10.drew) := ⟨r5.drew⟩
  clear r1 r2 r3 r4 r5
  go_wp2_with fail
  go_region_held3 (fun w' => w7.heap.size < w'.heap.size ∧ w'.cell? ⟨w.heap.size, 0, none⟩ = some (.slice A xs.length c) ∧ w'.cell? ⟨w.heap.size, 1, none⟩ = some (.slice B ys.length d) ∧ w'.cell? ⟨w.heap.size + 1, 0, none⟩ = some (.slice A' xs'.length c') ∧ w'.cell? ⟨w.heap.size + 1, 1, none⟩ = some (.slice B' ys'.length d') ∧ w'.cell? ⟨w6.heap.size, 0, none⟩ = some (.slice A6 xs.length c6) ∧ w'.cell? ⟨w6.heap.size, 1, none⟩ = some (.slice B6 ys.length d6) ∧ w'.cell? ⟨w7.heap.size, 0, none⟩ = some (.slice A7 xs'.length c7) ∧ w'.cell? ⟨w7.heap.size, 1, none⟩ = some (.slice B7 ys'.length d7) ∧ Kept (Ints w' A6 xs.length xs) ∧ Kept (Ints w' B6 ys.length ys) ∧ Kept (Ints w' A7 xs'.length xs') ∧ Kept (Ints w' B7 ys'.length ys') ∧ Kept (Below V.heap.size V w'))
    (first | go_keep | (go_split_ands; refine ⟨by have := hb9.size; omega, ?_, ?_, ?_, ?_, ?_, ?_, ?_, ?_, ⟨(Kept.out ‹Kept (Ints _ A6 _ _)›).below hb9⟩, ⟨(Kept.out ‹Kept (Ints _ B6 _ _)›).below hb9⟩, ⟨(Kept.out ‹Kept (Ints _ A7 _ _)›).below hb9⟩, ⟨(Kept.out ‹Kept (Ints _ B7 _ _)›).below hb9⟩, ⟨bthen (Kept.out ‹Kept (Below _ _ _)›) hb9 (Kept.out ‹Kept (Below _ _ _)›).size⟩⟩ <;> (rw [hb9.cell (by simp; omega)]; assumption)))
    (first | (go_at_call 17; go_split_ands; refine (toProof_any A' B' c' d' xs' ys' _ (i3.below (Kept.out ‹Kept (Below _ _ _)›)) (i4.below (Kept.out ‹Kept (Below _ _ _)›)) hn' hm').mono ?_; rintro e w11 ⟨A11, c11, B11, d11, rfl, hoa9, hob9, hb9⟩) | (go_at_call 19; go_split_ands; refine (eqProof_any _ _ _ _ _ _ _ _ _ _ _ (Kept.out ‹Kept (Ints _ A7 _ _)›) (Kept.out ‹Kept (Ints _ B7 _ _)›) hoa9.ints hob9.ints hn' hm').mono ?_; rintro e w12 ⟨rfl, hb9⟩))
  rename_i hh
  go_wp2_with fail
  go_ret
  exact ⟨rfl, bthen hW hh.2.2.2.2.2.2.2.2.2.2.2.2.2.out hW.size⟩
end Go.Proofs.Ytoijogaogheciaa
