/- What isFlowList, l05List, isAllowed, l16Allowed, IsAllowed, checkSettings, l16Code, SwitchCount do, by walks over their text. Conditions: lengths of at most 1048576. -/
import Derived.Test.YtpgegfnhokhlmaaGreatSett
import Derived.Test.YtpgegfnhokhlmaaGreatKA
set_option linter.unusedVariables false
set_option maxRecDepth 100000
namespace Go.Proofs.YtpgegfnhokhlmaaGreat
open Go.ChangeShapes Go.WideShapes Go.ChangeAt Go.RowKit Go.Joins Go.Deep

/-- A setting allows a flow. -/
def okA (s f : Int) : Bool := !(s == 0 && f != 0) && !(s == 2 && decide (f < 0))
theorem okA_ways (s f : Int) : ((s == 0) = true ∧ (f != 0) = true ∧ okA s f = false) ∨ ((s == 0) = true ∧ (s == 2) = false ∧ (f != 0) = false ∧ okA s f = true) ∨ ((s == 0) = false ∧ (s == 2) = true ∧ f < 0 ∧ okA s f = false) ∨ ((s == 0) = false ∧ (s == 2) = true ∧ ¬ f < 0 ∧ okA s f = true) ∨ ((s == 0) = false ∧ (s == 2) = false ∧ okA s f = true) := by
  by_cases h0 : s = 0
  · subst h0
    cases hf : (f != 0) <;> simp [okA, hf]
  · by_cases h2 : s = 2
    · subst h2
      by_cases hf : f < 0 <;> simp [okA, hf]
    · simp [okA, h0, h2]
def alB (zs fs : List Int) : Bool := (zs.zip fs).all fun p => okA p.1 p.2
theorem zip_at {zs fs : List Int} {k : Nat} {s f : Int} (hz : zs[k]? = some s) (hf : fs[k]? = some f) : (zs.zip fs)[k]? = some (s, f) := by
  rw [List.getElem?_zip_eq_some]
  exact ⟨hz, hf⟩
theorem al_no {zs fs : List Int} {k : Nat} {s f : Int} (hz : zs[k]? = some s) (hf : fs[k]? = some f) (h : okA s f = false) : alB zs fs = false := by
  unfold alB
  rw [List.all_eq_false]
  exact ⟨(s, f), List.mem_of_getElem? (zip_at hz hf), by simp [h]⟩
theorem al_step {zs fs : List Int} {k : Nat} {s f : Int} (hp : ((zs.zip fs).take k).all (fun p => okA p.1 p.2) = true) (hz : zs[k]? = some s) (hf : fs[k]? = some f) (h : okA s f = true) : ((zs.zip fs).take (k + 1)).all (fun p => okA p.1 p.2) = true := by
  rw [List.take_add_one, List.all_append, hp, zip_at hz hf]
  simp [h]
set_option maxHeartbeats 1000000 in
theorem allowed_any (A B : Option Addr) (n c d : Nat) (zs fs : List Int) (w : World) (hz : Ints w A n zs) (hf : Ints w B n fs) (hn : n ≤ 1048576) :
    Calls Tryz.prog 106 #[.slice A n c, .slice B n d] w fun e w' => e = .returned (.bool (alB zs fs)) ∧ w = w' := by
  have hl1 := Lib.hid hz.len
  have hl2 := Lib.hid hf.len
  go_enter Tryz.func106, Tryz.ntmps106
  go_wp2_with fail
  go_loop [9] (fun i => ∃ k : Nat, k ≤ n ∧ i = .int .i64 k ∧ Hid (((zs.zip fs).take k).all (fun p => okA p.1 p.2) = true)) (fun i => n - (intOf i).toNat)
  case atStart => exact ⟨0, Nat.zero_le _, rfl, rfl⟩
  case round =>
    obtain ⟨k, hk, rfl, HP⟩ := hrel
    by_cases hlt : k < n
    · obtain ⟨b, o, s, rfl, hbl, hx, hx64, hcx⟩ := hz.at_ hlt
      obtain ⟨b', o', f, rfl, hbl', hy, hy64, hcy⟩ := hf.at_ hlt
      have HX := Lib.hid hx
      have HY := Lib.hid hy
      clear hx hy
      rcases okA_ways s f with ⟨t1, t2, tf⟩ | ⟨t1, t2, t3, tf⟩ | ⟨t1, t2, t3, tf⟩ | ⟨t1, t2, t3, tf⟩ | ⟨t1, t2, tf⟩
      all_goals
        have TF := Lib.hid tf
        clear tf
        go_wp2_with fail
        first
          | (go_ret
             exact ⟨rb (al_no HX.out HY.out TF.out).symm, rfl⟩)
          | (go_round
             case rel => exact ⟨k + 1, by omega, by go_num, al_step HP.out HX.out HY.out TF.out⟩
             case measure => simp [intOf]; omega)
    · go_wp2_with fail
      go_ret
      have hp := HP.out
      rw [List.take_of_length_le (by have := hl1.out; have := hl2.out; simp; omega)] at hp
      exact ⟨rb hp.symm, rfl⟩
set_option maxHeartbeats 1000000 in
theorem sAllowed_any (A B : Option Addr) (n c d : Nat) (zs fs : List Int) (w : World) (hz : Ints w A n zs) (hf : Ints w B n fs) (hn : n ≤ 1048576) :
    Calls Tryz.prog 102 #[.slice A n c, .slice B n d] w fun e w' => e = .returned (.bool (alB zs fs)) ∧ w = w' := by
  have hl1 := Lib.hid hz.len
  have hl2 := Lib.hid hf.len
  go_enter Tryz.func102, Tryz.ntmps102
  go_wp2_with fail
  go_loop [5] (fun i => ∃ k : Nat, k ≤ n ∧ i = .int .i64 k ∧ Hid (((zs.zip fs).take k).all (fun p => okA p.1 p.2) = true)) (fun i => n - (intOf i).toNat)
  case atStart => exact ⟨0, Nat.zero_le _, rfl, rfl⟩
  case round =>
    obtain ⟨k, hk, rfl, HP⟩ := hrel
    by_cases hlt : k < n
    · obtain ⟨b, o, s, rfl, hbl, hx, hx64, hcx⟩ := hz.at_ hlt
      obtain ⟨b', o', f, rfl, hbl', hy, hy64, hcy⟩ := hf.at_ hlt
      have HX := Lib.hid hx
      have HY := Lib.hid hy
      clear hx hy
      rcases okA_ways s f with ⟨t1, t2, tf⟩ | ⟨t1, t2, t3, tf⟩ | ⟨t1, t2, t3, tf⟩ | ⟨t1, t2, t3, tf⟩ | ⟨t1, t2, tf⟩
      all_goals
        have TF := Lib.hid tf
        clear tf
        go_wp2_with fail
        first
          | (go_ret
             exact ⟨rb (al_no HX.out HY.out TF.out).symm, rfl⟩)
          | (go_round
             case rel => exact ⟨k + 1, by omega, by go_num, al_step HP.out HX.out HY.out TF.out⟩
             case measure => simp [intOf]; omega)
    · go_wp2_with fail
      go_ret
      have hp := HP.out
      rw [List.take_of_length_le (by have := hl1.out; have := hl2.out; simp; omega)] at hp
      exact ⟨rb hp.symm, rfl⟩
theorem setB_len {m : Nat} {zs : List Int} (h : setB m zs = true) : zs.length = m := by
  unfold setB at h
  simp at h
  exact h.1
/-- What IsAllowed says. -/
def AllowP (ns : List Nd) (ps : List Pp) (m : Nat) (zs fs : List Int) : Prop := (NetOk ns ps ∧ setB m zs = true) ∧ flB m fs = true ∧ alB zs fs = true
theorem ret_no {w w' : World} {p : Prop} (h : ¬ p) (hb : Below w.heap.size w w') : RetEq w p (.returned (.bool false)) w' := ⟨false, ⟨(fun h => by cases h), fun k => absurd k h⟩, rfl, hb⟩
end Go.Proofs.YtpgegfnhokhlmaaGreat
