/- What markFaceS and markCompressor do, by walks over their text. Conditions: lengths of at most 1048576, a first number of at most 10^12. -/
import Derived.Test.YtgchbajhceddnaaCompOps
set_option linter.unusedVariables false
namespace Go.Proofs.Ytgchbajhceddnaa
open Go.ChangeShapes Go.WideShapes Go.ChangeAt Go.RowKit Go.Joins Go.Deep

set_option maxHeartbeats 4000000 in
theorem markFaces_any (B : Nat) (A : Option Addr) (n c : Nat) (k : Int) (fs : List Fc) (w : World) (h : OwnR encF 3 66 w B A n c fs) (hn : n ≤ 1048576) (hk0 : 0 ≤ k) (hk1 : k ≤ 1000000000000) :
    Calls Try.prog 62 #[.slice A n c, .int .i64 k] w fun e w' => e = .returned (.int .i64 (k + 3 * (n : Int))) ∧ w.grownBy w' (A.map (·.block)) := by
  go_enter Try.func62, Try.ntmps62
  go_wp2_with fail
  go_loopw [1, 5] (fun kk ii wr => ∃ (j : Nat) (xs : List Fc), j ≤ n ∧ ii = .int .i64 j ∧ kk = .int .i64 (k + 3 * (j : Int)) ∧ OwnR encF 3 66 wr B A n c xs ∧ w.grownBy wr (A.map (·.block))) (fun _ ii _ => n - (intOf ii).toNat)
  case atStart => exact ⟨0, fs, Nat.zero_le _, rfl, by simp, h, World.grownBy.refl w _⟩
  case round =>
    obtain ⟨j, xs, hj, rfl, rfl, hown, hgr⟩ := hrel
    by_cases hlt : j < n
    · obtain ⟨g, rfl, _, _⟩ := hown.form (by omega)
      obtain ⟨x, hx, hcs, hfs, _, hgl⟩ := hown.cells (by omega) hlt
      have c0 := hcs 0 _ rfl
      have c1 := hcs 1 _ rfl
      have c2 := hcs 2 _ rfl
      have f0 := hfs (j * 3)
      have f1 := hfs (j * 3 + 1)
      have f2 := hfs (j * 3 + 2)
      obtain ⟨hput, hgr2⟩ := hown.put (by omega) hlt (x := ⟨k + 3 * (j : Int), k + 3 * (j : Int) + 1, k + 3 * (j : Int) + 1 + 1⟩) rfl
      have HPUT := Lib.hid hput
      have HGR := Lib.hid (hgr.trans hgr2)
      clear hown hcs hfs hput hgr2 hx hgr
      rw [Nat.add_zero] at c0
      go_wp2_with fail
      go_roundw
      case rel => exact ⟨j + 1, _, by omega, by go_num, by go_num, HPUT.out, HGR.out⟩
      case measure => simp [intOf]; omega
    · go_wp2_with fail
      go_ret
      obtain rfl : j = n := by omega
      exact ⟨rfl, hgr⟩
theorem markComp_any (B : Nat) (A : Option Addr) (n c : Nat) (k fu le : Int) (fs : List Fc) (w : World) (h : OwnR encF 3 66 w B A n c fs) (hn : n ≤ 1048576) (hk0 : 0 ≤ k) (hk1 : k ≤ 1000000000000) :
    Calls Try.prog 31 #[.agg #[.slice A n c, .int .i64 fu, .int .i64 le], .int .i64 k] w fun e w' => e = .returned (.int .i64 (k + 3 * (n : Int))) ∧ w.grownBy w' (A.map (·.block)) := by
  have hg0 : ∀ cs t, w.grownBy (w.alloc (.cells cs t)) (A.map (·.block)) := fun cs t => ⟨rfl, rfl, rfl, by simp, fun i hi _ => Below.heap_alloc w _ i hi⟩
  go_enter Try.func31, Try.ntmps31
  go_wp2_with fail
  refine (markFaces_any B A n c k fs _ (h.alloc _) hn hk0 hk1).mono ?_
  rintro e w1 ⟨rfl, hg1⟩
  go_wp2_with fail
  go_ret
  exact ⟨rfl, (hg0 _ _).trans hg1⟩
end Go.Proofs.Ytgchbajhceddnaa
