/- What ChordsOf of the reference, l02DrawIndex, l05DrawChord do, by walks over their text. Condition: a source over at most 4096 bytes. -/
import Derived.Test.YtebefamekjjbcaaGreatDoorNDraw7
import Derived.Test.YtebefamekjjbcaaGreatDoorKS
import Derived.Test.YtebefamekjjbcaaGreatDoorScale
import Derived.Deep.DeepCutAuto
set_option linter.unusedVariables false
set_option maxRecDepth 100000
namespace Go.Proofs.YtebefamekjjbcaaGreatDoor
open Go.ChangeShapes Go.WideShapes Go.ChangeAt Go.RowKit Go.Joins Go.Deep
attribute [local go_sem ↓] Go.wp_at_zero Go.wp_at_succ

set_option maxHeartbeats 4000000 in
theorem indexD_any (B : Nat) (A : Option Addr) (n c m : Nat) (zs : List Int) (w : World) (h : Src w B A n c zs) (hn : n ≤ 4096) (hm : m ≤ 1000) :
    Calls Tryz.prog 19 #[.pointer (some ⟨B, 0, none⟩), .int .i64 (m : Int)] w fun e w' => ∃ x, e = .returned (.int .i64 x) ∧ I64 x ∧ NS w w' B A n c zs := by
  have hlt := h.lt
  have hS := NS.start h
  go_enter Tryz.func19, Tryz.ntmps19
  go_wp2_with fail
  refine (next_any _ _ _ _ _ _ _ h hn (by omega) (by omega)).mono ?_
  rintro e w1 ⟨x, hx0, hx1, rfl, hs1, hg1⟩
  have hS1 := hS.next hs1 hg1
  clear hS hs1 hg1
  go_wp2_with fail
  refine (next_any _ _ _ _ _ _ _ hS1.2.1 hn (by omega) (by omega)).mono ?_
  rintro e w2 ⟨y, hy0, hy1, rfl, hs2, hg2⟩
  have hS2 := hS1.next hs2 hg2
  clear hS1 hs2 hg2
  obtain ⟨q, hq⟩ : ∃ q, y / 15 = q := ⟨_, rfl⟩
  have hqb : q = 0 ∨ q = 1 := by omega
  have hpb : 0 ≤ q * (m : Int) ∧ q * (m : Int) ≤ 1000 := by rcases hqb with rfl | rfl <;> omega
  have HP := Lib.hid hpb
  obtain ⟨p, hp⟩ : ∃ p, q * (m : Int) = p := ⟨_, rfl⟩
  rw [hp] at hpb
  have s1 : IntKind.i64.wrap (q * (m : Int)) = q * (m : Int) := IntWalk.i64_in _ (by omega)
  have s2 : IntKind.i64.wrap (x + q * (m : Int)) = x + q * (m : Int) := IntWalk.i64_in _ (by omega)
  have hpb2 := HP.out
  clear hp hqb hpb p
  go_upto_region 2 with (first | (go_at_call 48; refine (next_any _ _ _ _ _ _ _ hS2.2.1 hn (by omega) (by omega)).mono ?_; rintro e w3 ⟨z, hz0, hz1, rfl, hs3, hg3⟩; have HS3 := Lib.hid (hS2.next hs3 hg3); have hzq : 0 ≤ z / 23 ∧ z / 23 ≤ 1 := (by omega); have s3 : IntKind.i64.wrap (x + q * (m : Int) - z / 23) = x + q * (m : Int) - z / 23 := IntWalk.i64_in _ (by omega)))
  have HI := Lib.hid (show I64 (x + q * (m : Int) - z / 23) from WalkArith.wf_i64 (by omega))
  go_ret
  exact ⟨_, rfl, HI.out, HS3.out⟩
end Go.Proofs.YtebefamekjjbcaaGreatDoor
