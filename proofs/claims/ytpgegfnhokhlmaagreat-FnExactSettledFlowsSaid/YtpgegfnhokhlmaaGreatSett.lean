/- What areSettings, l16Is, IsSettings, checkSettings, l16Code do, by walks over their text. Conditions: lengths of at most 1048576. -/
import Derived.Test.YtpgegfnhokhlmaaGreatKA
set_option linter.unusedVariables false
set_option maxRecDepth 100000
namespace Go.Proofs.YtpgegfnhokhlmaaGreat
open Go.ChangeShapes Go.WideShapes Go.ChangeAt Go.RowKit Go.Joins Go.Deep

def setB (m : Nat) (zs : List Int) : Bool := decide (zs.length = m) && allB zs 0 2
set_option maxHeartbeats 1000000 in
theorem areSett_any (A B C : Option Addr) (n c m d l e : Nat) (zs : List Int) (w : World) (hz : Ints w C l zs) (hl : l ≤ 1048576) :
    Calls Tryz.prog 156 #[.agg #[.slice A n c, .slice B m d], .slice C l e] w fun e w' => e = .returned (.bool (setB m zs)) ∧ Below w.heap.size w w' := by
  have hb0 : ∀ cs t, Below w.heap.size w (w.alloc (.cells cs t)) := fun cs t => (Below.refl _ _).alloc (Nat.le_refl _) _
  have hln := Lib.hid hz.len
  cases hE : ((l : Int) == (m : Int))
  · have H := Lib.hid (show setB m zs = false by
      unfold setB
      rw [decide_eq_false (by rw [hln.out]; intro h; subst h; simp at hE)]; rfl)
    go_enter Tryz.func156, Tryz.ntmps156
    go_wp2_with fail
    go_ret
    exact ⟨rb H.out.symm, hb0 _ _⟩
  · have H := Lib.hid (show setB m zs = allB zs 0 2 by
      unfold setB
      rw [decide_eq_true (by rw [hln.out]; have := eq_of_beq hE; omega)]; rfl)
    go_enter Tryz.func156, Tryz.ntmps156
    go_wp2_with (go_at_call 136; refine (allWithin_any _ _ _ _ _ _ _ (hz.alloc _) hl).mono ?_; rintro e w' ⟨rfl, rfl⟩)
    go_ret
    exact ⟨rb H.out.symm, hb0 _ _⟩
set_option maxHeartbeats 1000000 in
theorem sSett_any (A B C : Option Addr) (n c m d l e : Nat) (zs : List Int) (w : World) (hz : Ints w C l zs) (hl : l ≤ 1048576) :
    Calls Tryz.prog 155 #[.agg #[.slice A n c, .slice B m d], .slice C l e] w fun e w' => e = .returned (.bool (setB m zs)) ∧ Below w.heap.size w w' := by
  have hb0 : ∀ cs t, Below w.heap.size w (w.alloc (.cells cs t)) := fun cs t => (Below.refl _ _).alloc (Nat.le_refl _) _
  have hln := Lib.hid hz.len
  go_enter Tryz.func155, Tryz.ntmps155
  go_wp2_with fail
  go_loop [5] (fun i => ∃ k : Nat, k ≤ l ∧ i = .int .i64 k ∧ Hid (allB (zs.take k) 0 2 = true)) (fun i => l - (intOf i).toNat)
  case atStart => exact ⟨0, Nat.zero_le _, rfl, rfl⟩
  case round =>
    obtain ⟨k, hk, rfl, HP⟩ := hrel
    by_cases hlt : k < l
    · obtain ⟨b, o, x, rfl, hbl, hx, hx64, hcx⟩ := (hz.alloc (.cells #[.slice A n c, .slice B m d] 33)).at_ hlt
      have HX := Lib.hid hx
      clear hx
      cases hin : inB x 0 2
      · go_wp2_with (go_at_call 153; refine (in_any _ _ _ _).mono ?_; rintro e w' ⟨rfl, rfl⟩)
        go_ret
        exact ⟨rb (by unfold setB; rw [all_no HX.out hin]; simp), hb0 _ _⟩
      · go_wp2_with (go_at_call 153; refine (in_any _ _ _ _).mono ?_; rintro e w' ⟨rfl, rfl⟩)
        go_round
        case rel => exact ⟨k + 1, by omega, by go_num, all_step HP.out HX.out hin⟩
        case measure => simp [intOf]; omega
    · go_wp2_with fail
      go_ret
      have hp := HP.out
      rw [List.take_of_length_le (by have := hln.out; omega)] at hp
      refine ⟨rb ?_, hb0 _ _⟩
      unfold setB
      rw [hp, hln.out, Bool.and_true]
      by_cases hE : l = m
      · subst hE; simp
      · rw [decide_eq_false hE]; simp; omega
end Go.Proofs.YtpgegfnhokhlmaaGreat
