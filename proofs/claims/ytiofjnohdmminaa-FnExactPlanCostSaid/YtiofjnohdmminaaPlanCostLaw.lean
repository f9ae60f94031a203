/- The walk of the law on PlanCost. No condition. -/
import Derived.Test.YtiofjnohdmminaaPlanCost
set_option linter.unusedVariables false
namespace Go.Proofs.Ytiofjnohdmminaa
open Go.RowKit Go.Joins

set_option maxHeartbeats 4000000 in
theorem law_FnExactPlanCost (s u d : Int) (A : Option Addr) (n c : Nat) (zs : List Int) (C : Option Addr) (m f : Nat) (cs : List Int) (w : World) (_h : I64 s ∧ I64 u ∧ I64 d) (h0 : Ints w A n zs ∧ n ≤ c ∧ c ≤ maxLen) (k0 : Ints w C m cs ∧ m ≤ f ∧ f ≤ maxLen) :
    Calls Try.prog 8 #[.agg #[.int .i64 s, .int .i64 u, .int .i64 d], .slice A n c, .slice C m f] w fun e w' => e = .returned (.bool true) ∧ Below w.heap.size w w' := by
  obtain ⟨h1, hnc, hc⟩ := h0
  obtain ⟨k1, hmf, hf⟩ := k0
  obtain rfl : zs.length = n := h1.len
  obtain rfl : cs.length = m := k1.len
  unfold maxLen at hc hf
  by_cases hbig_p : (1048576 : Int) < zs.length
  case pos =>
    go_enter Try.func8, Try.ntmps8
    go_wp2_with fail
    go_ret
    exact ⟨rfl, by repeat (first | exact Below.refl _ _ | refine Below.alloc ?_ (by simp <;> omega) _)⟩
  have hn_p : zs.length ≤ 1048576 := by omega
  by_cases hbig_q : (1048576 : Int) < cs.length
  case pos =>
    go_enter Try.func8, Try.ntmps8
    go_wp2_with fail
    go_ret
    exact ⟨rfl, by repeat (first | exact Below.refl _ _ | refine Below.alloc ?_ (by simp <;> omega) _)⟩
  have hn_q : cs.length ≤ 1048576 := by omega
  go_enter Try.func8, Try.ntmps8
  go_wp2_with fail
  have hI_p := (h1.alloc (.cells #[.int .i64 s, .int .i64 u, .int .i64 d] 23))
  have hI_q := (k1.alloc (.cells #[.int .i64 s, .int .i64 u, .int .i64 d] 23))
  have hB0 : Below (w.alloc (.cells #[.int .i64 s, .int .i64 u, .int .i64 d] 23)).heap.size (w.alloc (.cells #[.int .i64 s, .int .i64 u, .int .i64 d] 23)) (w.alloc (.cells #[.int .i64 s, .int .i64 u, .int .i64 d] 23)) := Below.refl _ _
  have hW : Below w.heap.size w (w.alloc (.cells #[.int .i64 s, .int .i64 u, .int .i64 d] 23)) := by
    repeat (first | exact Below.refl _ _ | refine Below.alloc ?_ (by simp <;> omega) _)
  refine (toUnit_any _ _ _ _).mono ?_
  rintro e w1 ⟨rfl, hb1⟩
  have hB1 := bthen hB0 hb1 hB0.size
  clear hB0 hb1
  obtain ⟨hcb, hfb⟩ := bcell hB1
  have hzb : w.heap.size < w1.heap.size := by have := hB1.size; simp at this; omega
  go_wp2_with fail
  refine (toInts_any _ _ _ _ _ (hI_p.below hB1) hn_p).mono ?_
  rintro e w2 ⟨A2, c2, rfl, ho_a2, hb2⟩
  have hB2 := bthen hB1 hb2 hB1.size
  clear hB1 hb2
  clear hcb hfb hzb
  obtain ⟨hcb, hfb⟩ := bcell hB2
  have hzb : w.heap.size < w2.heap.size := by have := hB2.size; simp at this; omega
  go_wp2_with fail
  refine (toInts_any _ _ _ _ _ (hI_q.below hB2) hn_q).mono ?_
  rintro e w3 ⟨A3, c3, rfl, ho_b3, hb3⟩
  have ho_a3 := ho_a2.below hb3
  clear ho_a2
  have hB3 := bthen hB2 hb3 hB2.size
  clear hB2 hb3
  clear hcb hfb hzb
  obtain ⟨hcb, hfb⟩ := bcell hB3
  have hzb : w.heap.size < w3.heap.size := by have := hB3.size; simp at this; omega
  go_wp2_with fail
  refine (sPlanCost_any _ _ _ _ _ _ _ _ _ _ _ _ ho_a3.ints ho_b3.ints hn_p hn_q).mono ?_
  rintro e w4 ⟨rfl, hb4⟩
  have ho_a4 := ho_a3.below hb4
  clear ho_a3
  have ho_b4 := ho_b3.below hb4
  clear ho_b3
  have hB4 := bthen hB3 hb4 hB3.size
  clear hB3 hb4
  clear hcb hfb hzb
  obtain ⟨hcb, hfb⟩ := bcell hB4
  have hzb : w.heap.size < w4.heap.size := by have := hB4.size; simp at this; omega
  go_wp2_with fail
  refine (toInts_any _ _ _ _ _ (hI_p.below hB4) hn_p).mono ?_
  rintro e w5 ⟨A5, c5, rfl, ho_x5, hb5⟩
  have hB5 := bthen hB4 hb5 hB4.size
  clear hB4 hb5
  clear hcb hfb hzb
  obtain ⟨hcb, hfb⟩ := bcell hB5
  have hzb : w.heap.size < w5.heap.size := by have := hB5.size; simp at this; omega
  go_wp2_with fail
  refine (toInts_any _ _ _ _ _ (hI_q.below hB5) hn_q).mono ?_
  rintro e w6 ⟨A6, c6, rfl, ho_y6, hb6⟩
  have ho_x6 := ho_x5.below hb6
  clear ho_x5
  have hB6 := bthen hB5 hb6 hB5.size
  clear hB5 hb6
  clear hcb hfb hzb
  obtain ⟨hcb, hfb⟩ := bcell hB6
  have hzb : w.heap.size < w6.heap.size := by have := hB6.size; simp at this; omega
  go_wp2_with fail
  refine (toUnit_any _ _ _ _).mono ?_
  rintro e w7 ⟨rfl, hb7⟩
  have ho_x7 := ho_x6.below hb7
  clear ho_x6
  have ho_y7 := ho_y6.below hb7
  clear ho_y6
  have hB7 := bthen hB6 hb7 hB6.size
  clear hB6 hb7
  clear hcb hfb hzb
  obtain ⟨hcb, hfb⟩ := bcell hB7
  have hzb : w.heap.size < w7.heap.size := by have := hB7.size; simp at this; omega
  go_wp2_with fail
  refine (planCost_any _ _ _ _ _ _ _ _ _ _ _ _ ho_x7.ints ho_y7.ints hn_p hn_q).mono ?_
  rintro e w8 ⟨rfl, hb8⟩
  have ho_x8 := ho_x7.below hb8
  clear ho_x7
  have ho_y8 := ho_y7.below hb8
  clear ho_y7
  have hB8 := bthen hB7 hb8 hB7.size
  clear hB7 hb8
  clear hcb hfb hzb
  obtain ⟨hcb, hfb⟩ := bcell hB8
  have hzb : w.heap.size < w8.heap.size := by have := hB8.size; simp at this; omega
  go_wp2_with fail
  refine (toInts_any _ _ _ _ _ (hI_p.below hB8) hn_p).mono ?_
  rintro e w9 ⟨A9, c9, rfl, ho_z9, hb9⟩
  have ho_x9 := ho_x8.below hb9
  clear ho_x8
  have ho_y9 := ho_y8.below hb9
  clear ho_y8
  have hB9 := bthen hB8 hb9 hB8.size
  clear hB8 hb9
  clear hcb hfb hzb
  obtain ⟨hcb, hfb⟩ := bcell hB9
  have hzb : w.heap.size < w9.heap.size := by have := hB9.size; simp at this; omega
  go_wp2_with fail
  refine (eqInts_any _ _ _ _ _ _ _ _ _ ho_x9.ints ho_z9.ints hn_p).mono ?_
  rintro e w10 ⟨rfl, hq10⟩
  have hb10 := hq10.below w9.heap.size
  have ho_x10 := ho_x9.below hb10
  clear ho_x9
  have ho_y10 := ho_y9.below hb10
  clear ho_y9
  have ho_z10 := ho_z9.below hb10
  clear ho_z9
  have hB10 := bthen hB9 hb10 hB9.size
  clear hB9 hb10
  clear hcb hfb hzb
  obtain ⟨hcb, hfb⟩ := bcell hB10
  have hzb : w.heap.size < w10.heap.size := by have := hB10.size; simp at this; omega
  go_wp2_with fail
  refine (toInts_any _ _ _ _ _ (hI_q.below hB10) hn_q).mono ?_
  rintro e w11 ⟨A11, c11, rfl, ho_v11, hb11⟩
  have ho_x11 := ho_x10.below hb11
  clear ho_x10
  have ho_y11 := ho_y10.below hb11
  clear ho_y10
  have ho_z11 := ho_z10.below hb11
  clear ho_z10
  have hB11 := bthen hB10 hb11 hB10.size
  clear hB10 hb11
  clear hcb hfb hzb
  obtain ⟨hcb, hfb⟩ := bcell hB11
  have hzb : w.heap.size < w11.heap.size := by have := hB11.size; simp at this; omega
  go_wp2_with fail
  refine (eqInts_any _ _ _ _ _ _ _ _ _ ho_y11.ints ho_v11.ints hn_q).mono ?_
  rintro e w12 ⟨rfl, hq12⟩
  have hb12 := hq12.below w11.heap.size
  have ho_x12 := ho_x11.below hb12
  clear ho_x11
  have ho_y12 := ho_y11.below hb12
  clear ho_y11
  have ho_z12 := ho_z11.below hb12
  clear ho_z11
  have ho_v12 := ho_v11.below hb12
  clear ho_v11
  have hB12 := bthen hB11 hb12 hB11.size
  clear hB11 hb12
  clear hcb hfb hzb
  obtain ⟨hcb, hfb⟩ := bcell hB12
  have hzb : w.heap.size < w12.heap.size := by have := hB12.size; simp at this; omega
  go_wp2_with fail
  go_ret
  exact ⟨rfl, bthen hW hB12 hW.size⟩
end Go.Proofs.Ytiofjnohdmminaa
