/- The walk of the law on Lift. No condition. -/
import Derived.Test.YtgchbajhceddnaaCompOps
import Derived.Test.YtgchbajhceddnaaLift
set_option linter.unusedVariables false
namespace Go.Proofs.Ytgchbajhceddnaa
open Go.RowKit Go.Joins Go.Deep
attribute [local go_sem ↓] Go.wp_at_zero Go.wp_at_succ

set_option maxHeartbeats 4000000 in
theorem law_FnExactLift (A : Option Addr) (n c : Nat) (fs : List Fc) (fu le : Int) (q b a : Int) (w : World) (h0 : Faces w A n fs ∧ n ≤ c ∧ c ≤ maxLen ∧ I64 fu ∧ I64 le) (_hq : I64 q) (_hb : I64 b) (_ha : I64 a) :
    Calls Try.prog 13 #[.agg #[.slice A n c, .int .i64 fu, .int .i64 le], .int .i64 q, .int .i64 b, .int .i64 a] w fun e w' => e = .returned (.bool true) ∧ Below w.heap.size w w' := by
  obtain ⟨h, hnc, hcm, hfu, hle⟩ := h0
  obtain rfl : fs.length = n := h.len
  unfold maxLen at hcm
  have hI0 := h.alloc (.cells #[.slice A fs.length c, .int .i64 fu, .int .i64 le] 27)
  have hW : Below w.heap.size w (w.alloc (.cells #[.slice A fs.length c, .int .i64 fu, .int .i64 le] 27)) := (Below.refl _ _).alloc (Nat.le_refl _) _
  by_cases hbig : (fs.length : Int) ≤ 1048576
  case neg =>
    go_enter Try.func13, Try.ntmps13
    go_wp2_with fail
    have hsz := fun W => szComp_any A fs.length c fu le 1048576 W (by omega) (by omega) (by omega)
    rw [if_neg (by omega)] at hsz
    refine (hsz _).mono ?_
    clear hsz
    rintro e w1 ⟨rfl, hb1⟩
    go_wp2_with fail
    go_ret
    exact ⟨rfl, bthen hW hb1 hW.size⟩
  have hn : fs.length ≤ 1048576 := by omega
  go_enter Try.func13, Try.ntmps13
  go_wp2_with fail
  have hsz := fun W => szComp_any A fs.length c fu le 1048576 W (by omega) (by omega) (by omega)
  rw [if_pos hbig] at hsz
  refine (hsz _).mono ?_
  clear hsz
  rintro e w1 ⟨rfl, hB1⟩
  obtain ⟨hc1, hf1⟩ := bcell hB1
  have hz1 : w.heap.size < w1.heap.size := by have := hB1.size; simp at this; omega
  go_wp2_with fail
  refine (toComp_any _ _ _ _ _ _ (hI0.below hB1) hn).mono ?_
  rintro e w2 ⟨A2, c2, rfl, ho2, hb2⟩
  have hB2 := bthen hB1 hb2 hB1.size
  clear hB1 hb2 hc1 hf1 hz1
  go_wp2_with fail
  refine (sLift_any _ _ _ _ _ _ _ _ _ _ ho2.faces (by omega)).mono ?_
  rintro e w3 ⟨rfl, hb3⟩
  have hB3 := bthen hB2 hb3 hB2.size
  clear hB2 hb3 ho2
  obtain ⟨hc3, hf3⟩ := bcell hB3
  have hz3 : w.heap.size < w3.heap.size := by have := hB3.size; simp at this; omega
  go_wp2_with fail
  refine (toComp_any _ _ _ _ _ _ (hI0.below hB3) hn).mono ?_
  rintro e w4 ⟨A4, c4, rfl, ho4, hb4⟩
  have hB4 := bthen hB3 hb4 hB3.size
  clear hB3 hb4 hc3 hf3 hz3
  obtain ⟨hc4, hf4⟩ := bcell hB4
  have hz4 : w.heap.size < w4.heap.size := by have := hB4.size; simp at this; omega
  go_wp2_with fail
  have ho5 : OwnF (w4.alloc (.cells #[.slice A4 fs.length c4, .int .i64 fu, .int .i64 le] 32)) _ A4 fs.length c4 fs := ho4.below ((Below.refl _ _).alloc (Nat.le_refl _) _)
  refine (lift_any _ _ _ _ _ _ _ _ _ _ ho5.faces (by omega)).mono ?_
  rintro e w6 ⟨rfl, hb6⟩
  have ho6 := ho5.below hb6
  have hB5 : Below (w.alloc (.cells #[.slice A fs.length c, .int .i64 fu, .int .i64 le] 27)).heap.size (w.alloc (.cells #[.slice A fs.length c, .int .i64 fu, .int .i64 le] 27)) (w4.alloc (.cells #[.slice A4 fs.length c4, .int .i64 fu, .int .i64 le] 32)) := hB4.alloc hB4.size _
  have hB6 := bthen hB5 hb6 hB5.size
  have hz6 : w4.heap.size < w6.heap.size := by have := hb6.size; simp at this; omega
  have x0 : w6.cell? ⟨w4.heap.size, 0, none⟩ = some (.slice A4 fs.length c4) := (hb6.cell (by simp)).trans (by simp)
  have x1 : w6.cell? ⟨w4.heap.size, 1, none⟩ = some (.int .i64 fu) := (hb6.cell (by simp)).trans (by simp)
  have x2 : w6.cell? ⟨w4.heap.size, 2, none⟩ = some (.int .i64 le) := (hb6.cell (by simp)).trans (by simp)
  have y0 : w6.cell? ⟨w.heap.size, 0, none⟩ = some (.slice A fs.length c) := (hB6.cell (by simp)).trans (by simp)
  have y1 : w6.cell? ⟨w.heap.size, 1, none⟩ = some (.int .i64 fu) := (hB6.cell (by simp)).trans (by simp)
  have y2 : w6.cell? ⟨w.heap.size, 2, none⟩ = some (.int .i64 le) := (hB6.cell (by simp)).trans (by simp)
  clear hB4 hB5 hb6 ho4 ho5 hc4 hf4
  generalize w.alloc (.cells #[.slice A fs.length c, .int .i64 fu, .int .i64 le] 27) = W0 at hB6 hW hI0
  have kB : Kept (Below W0.heap.size W0 w6.drew) := ⟨hB6.drew⟩
  have kF : Kept (Faces w6.drew A4 fs.length fs) := ⟨ho6.faces⟩
  clear ho6
  go_wp2_with fail
  go_region_held3 (fun w' => w4.heap.size < w'.heap.size ∧ w'.cell? ⟨w4.heap.size, 0, none⟩ = some (.slice A4 fs.length c4) ∧ w'.cell? ⟨w4.heap.size, 1, none⟩ = some (.int .i64 fu) ∧ w'.cell? ⟨w4.heap.size, 2, none⟩ = some (.int .i64 le) ∧ w'.cell? ⟨w.heap.size, 0, none⟩ = some (.slice A fs.length c) ∧ w'.cell? ⟨w.heap.size, 1, none⟩ = some (.int .i64 fu) ∧ w'.cell? ⟨w.heap.size, 2, none⟩ = some (.int .i64 le) ∧ Kept (Faces w' A4 fs.length fs) ∧ Kept (Below W0.heap.size W0 w'))
    (first | go_keep | (go_split_ands; refine ⟨by have := hb7.size; omega, ?_, ?_, ?_, ?_, ?_, ?_, ⟨(Kept.out ‹Kept (Faces _ _ _ _)›).below hb7⟩, ⟨bthen (Kept.out ‹Kept (Below _ _ _)›) hb7 (Kept.out ‹Kept (Below _ _ _)›).size⟩⟩ <;> (rw [hb7.cell (by simp; omega)]; assumption)))
    (first | (go_at_call 19; go_split_ands; refine (toComp_any _ _ _ _ _ _ (hI0.below (Kept.out (by assumption))) hn).mono ?_; rintro e w7 ⟨A7, c7, rfl, ho7, hb7⟩) | (go_at_call 21; go_split_ands; refine (eqComp_any _ _ _ _ _ _ _ _ _ (Kept.out (by assumption)) ho7.faces hn).mono ?_; rintro e w8 ⟨rfl, hb7⟩))
  go_wp2_with fail
  go_ret
  rename_i hh
  exact ⟨rfl, bthen hW hh.2.2.2.2.2.2.2.2.out hW.size⟩
end Go.Proofs.Ytgchbajhceddnaa
