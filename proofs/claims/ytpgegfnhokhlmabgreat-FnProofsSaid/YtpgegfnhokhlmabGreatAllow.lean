/- What isFlowList, l05List, isAllowed, l16Allowed, IsAllowed, checkSettings, l16Code, SwitchCount do, by walks over their text. Conditions: lengths of at most 1048576. -/
import Derived.Test.YtpgegfnhokhlmabGreatSett
import Derived.Test.YtpgegfnhokhlmabGreatKA
set_option linter.unusedVariables false
set_option maxRecDepth 100000
namespace Go.Proofs.YtpgegfnhokhlmabGreat
open Go.ChangeShapes Go.WideShapes Go.ChangeAt Go.RowKit Go.Joins Go.Deep

/-- A setting allows a flow. -/
def okA (s f : Int) : Bool := !(s == 0 && f != 0) && !(s == 2 && decide (f < 0))
theorem okA_ways (s f : Int) : ((s == 0) = true ∧ (f != 0) = true ∧ okA s f = false) ∨ ((s == 0) = true ∧ (s == 2) = false ∧ (f != 0) = false ∧ okA s f = true) ∨ ((s == 0) = false ∧ (s == 2) = true ∧ f < 0 ∧ okA s f = false) ∨ ((s == 0) = false ∧ (s == 2) = true ∧ ¬ f < 0 ∧ okA s f = true) ∨ ((s == 0) = false ∧ (s == 2) = false ∧ okA s f = true) := by
  by_cases h0 : s = 0
  · subst h0
    cases hf : (f != 0) <;> simp [okA, hf]
  · by_cases h2 : s = 2
    · subst h2
      by_cases hf : f < 0 <;> simp [okA, hf]
    · simp [okA, h0, h2]
def alB (zs fs : List Int) : Bool := (zs.zip fs).all fun p => okA p.1 p.2
theorem zip_at {zs fs : List Int} {k : Nat} {s f : Int} (hz : zs[k]? = some s) (hf : fs[k]? = some f) : (zs.zip fs)[k]? = some (s, f) := by
  rw [List.getElem?_zip_eq_some]
  exact ⟨hz, hf⟩
theorem al_no {zs fs : List Int} {k : Nat} {s f : Int} (hz : zs[k]? = some s) (hf : fs[k]? = some f) (h : okA s f = false) : alB zs fs = false := by
  unfold alB
  rw [List.all_eq_false]
  exact ⟨(s, f), List.mem_of_getElem? (zip_at hz hf), by simp [h]⟩
theorem al_step {zs fs : List Int} {k : Nat} {s f : Int} (hp : ((zs.zip fs).take k).all (fun p => okA p.1 p.2) = true) (hz : zs[k]? = some s) (hf : fs[k]? = some f) (h : okA s f = true) : ((zs.zip fs).take (k + 1)).all (fun p => okA p.1 p.2) = true := by
  rw [List.take_add_one, List.all_append, hp, zip_at hz hf]
  simp [h]
set_option maxHeartbeats 1000000 in
theorem allowed_any (A B : Option Addr) (n c d : Nat) (zs fs : List Int) (w : World) (hz : Ints w A n zs) (hf : Ints w B n fs) (hn : n ≤ 1048576) :
    Calls Tryz.prog 82 #[.slice A n c, .slice B n d] w fun e w' => e = .returned (.bool (alB zs fs)) ∧ w = w' := by
  have hl1 := Lib.hid hz.len
  have hl2 := Lib.hid hf.len
  go_enter Tryz.func82, Tryz.ntmps82
  go_wp2_with fail
  go_loop [9] (fun i => ∃ k : Nat, k ≤ n ∧ i = .int .i64 k ∧ Hid (((zs.zip fs).take k).all (fun p => okA p.1 p.2) = true)) (fun i => n - (intOf i).toNat)
  case atStart => exact ⟨0, Nat.zero_le _, rfl, rfl⟩
  case round =>
    obtain ⟨k, hk, rfl, HP⟩ := hrel
    by_cases hlt : k < n
    · obtain ⟨b, o, s, rfl, hbl, hx, hx64, hcx⟩ := hz.at_ hlt
      obtain ⟨b', o', f, rfl, hbl', hy, hy64, hcy⟩ := hf.at_ hlt
      have HX := Lib.hid hx
      have HY := Lib.hid hy
      clear hx hy
      rcases okA_ways s f with ⟨t1, t2, tf⟩ | ⟨t1, t2, t3, tf⟩ | ⟨t1, t2, t3, tf⟩ | ⟨t1, t2, t3, tf⟩ | ⟨t1, t2, tf⟩
      all_goals
        have TF := Lib.hid tf
        clear tf
        go_wp2_with fail
        first
          | (go_ret
             exact ⟨rb (al_no HX.out HY.out TF.out).symm, rfl⟩)
          | (go_round
             case rel => exact ⟨k + 1, by omega, by go_num, al_step HP.out HX.out HY.out TF.out⟩
             case measure => simp [intOf]; omega)
    · go_wp2_with fail
      go_ret
      have hp := HP.out
      rw [List.take_of_length_le (by have := hl1.out; have := hl2.out; simp; omega)] at hp
      exact ⟨rb hp.symm, rfl⟩
set_option maxHeartbeats 1000000 in
theorem sAllowed_any (A B : Option Addr) (n c d : Nat) (zs fs : List Int) (w : World) (hz : Ints w A n zs) (hf : Ints w B n fs) (hn : n ≤ 1048576) :
    Calls Tryz.prog 86 #[.slice A n c, .slice B n d] w fun e w' => e = .returned (.bool (alB zs fs)) ∧ w = w' := by
  have hl1 := Lib.hid hz.len
  have hl2 := Lib.hid hf.len
  go_enter Tryz.func86, Tryz.ntmps86
  go_wp2_with fail
  go_loop [5] (fun i => ∃ k : Nat, k ≤ n ∧ i = .int .i64 k ∧ Hid (((zs.zip fs).take k).all (fun p => okA p.1 p.2) = true)) (fun i => n - (intOf i).toNat)
  case atStart => exact ⟨0, Nat.zero_le _, rfl, rfl⟩
  case round =>
    obtain ⟨k, hk, rfl, HP⟩ := hrel
    by_cases hlt : k < n
    · obtain ⟨b, o, s, rfl, hbl, hx, hx64, hcx⟩ := hz.at_ hlt
      obtain ⟨b', o', f, rfl, hbl', hy, hy64, hcy⟩ := hf.at_ hlt
      have HX := Lib.hid hx
      have HY := Lib.hid hy
      clear hx hy
      rcases okA_ways s f with ⟨t1, t2, tf⟩ | ⟨t1, t2, t3, tf⟩ | ⟨t1, t2, t3, tf⟩ | ⟨t1, t2, t3, tf⟩ | ⟨t1, t2, tf⟩
      all_goals
        have TF := Lib.hid tf
        clear tf
        go_wp2_with fail
        first
          | (go_ret
             exact ⟨rb (al_no HX.out HY.out TF.out).symm, rfl⟩)
          | (go_round
             case rel => exact ⟨k + 1, by omega, by go_num, al_step HP.out HX.out HY.out TF.out⟩
             case measure => simp [intOf]; omega)
    · go_wp2_with fail
      go_ret
      have hp := HP.out
      rw [List.take_of_length_le (by have := hl1.out; have := hl2.out; simp; omega)] at hp
      exact ⟨rb hp.symm, rfl⟩
theorem setB_len {m : Nat} {zs : List Int} (h : setB m zs = true) : zs.length = m := by
  unfold setB at h
  simp at h
  exact h.1
/-- What IsAllowed says. -/
def AllowP (ns : List Nd) (ps : List Pp) (m : Nat) (zs fs : List Int) : Prop := (NetOk ns ps ∧ setB m zs = true) ∧ flB m fs = true ∧ alB zs fs = true
theorem ret_no {w w' : World} {p : Prop} (h : ¬ p) (hb : Below w.heap.size w w') : RetEq w p (.returned (.bool false)) w' := ⟨false, ⟨(fun h => by cases h), fun k => absurd k h⟩, rfl, hb⟩
set_option maxHeartbeats 2000000 in
theorem isAllowed_any (A B C D : Option Addr) (n c m d e f : Nat) (ns : List Nd) (ps : List Pp) (zs fs : List Int) (w : World) (h : IsNet w A n c ns B m d ps) (hz : Ints w C zs.length zs) (hf : Ints w D fs.length fs) (hl : zs.length ≤ 1048576) (hl2 : fs.length ≤ 1048576) :
    Calls Tryz.prog 31 #[.agg #[.slice A n c, .slice B m d], .slice C zs.length e, .slice D fs.length f] w (RetEq w (AllowP ns ps m zs fs)) := by
  have hw0 : ∀ cs t, Below w.heap.size w (w.alloc (.cells cs t)) := fun cs t => (Below.refl _ _).alloc (Nat.le_refl _) _
  go_enter Tryz.func31, Tryz.ntmps31
  go_wp2_with fail
  refine (isNetw_any _ _ _ _ _ _ ns ps _ (h.alloc _)).mono ?_
  rintro e w1 ⟨b, hb, rfl, hb1⟩
  have xb := (boxN_of (w := w) (A := A) (n := n) (c := c) (B := B) (m := m) (d := d) 33).below hb1
  have hB1 := bthen (hw0 _ _) hb1 (by simp)
  have HB := Lib.hid hb
  clear hb hb1
  obtain ⟨xl, x0, x1⟩ := id xb
  cases b
  · go_wp2_with fail
    go_ret
    exact ret_no (fun h => absurd (HB.out.2 h.1.1) (by simp)) hB1
  go_wp2_with fail
  refine (areSett_any _ _ _ _ _ _ _ _ _ zs _ (hz.below hB1) hl).mono ?_
  rintro e w2 ⟨rfl, hb2⟩
  have xb2 := xb.below hb2
  have hB2 := bthen hB1 hb2 hB1.size
  clear xl x0 x1 xb hB1 hb2
  obtain ⟨xl, x0, x1⟩ := id xb2
  cases hE : setB m zs
  · have HE := Lib.hid hE
    clear hE
    go_wp2_with fail
    go_ret
    exact ret_no (fun h => absurd h.1.2 (by rw [HE.out]; simp)) hB2
  have HE := Lib.hid hE
  clear hE
  go_wp2_with fail
  refine (isFlow_any _ _ _ _ _ _ _ _ _ fs _ (hf.below hB2) hl2).mono ?_
  rintro e w3 ⟨rfl, hb3⟩
  have hB3 := bthen hB2 hb3 hB2.size
  clear xl x0 x1 xb2 hB2 hb3
  cases hF : flB m fs
  · have HF := Lib.hid hF
    clear hF
    go_wp2_with fail
    go_ret
    exact ret_no (fun h => absurd h.2.1 (by rw [HF.out]; simp)) hB3
  have HF := Lib.hid hF
  clear hF
  have hlen : fs.length = zs.length := (flB_len HF.out).trans (setB_len HE.out).symm
  have hz3 := hz.below hB3
  have hf3 := hf.below hB3
  rw [hlen] at hf3
  have HL := Lib.hid hlen
  clear hlen
  go_wp2_with fail
  rw [HL.out]
  refine (allowed_any _ _ _ _ _ zs fs _ hz3 hf3 hl).mono ?_
  rintro e w4 ⟨rfl, rfl⟩
  generalize hG : alB zs fs = G
  have HG := Lib.hid hG
  clear hG
  go_wp2_with fail
  go_ret
  exact ⟨G, ⟨fun hh => ⟨⟨HB.out.1 (by trivial), HE.out⟩, HF.out, HG.out.trans hh⟩, fun hh => HG.out.symm.trans hh.2.2⟩, rfl, hB3⟩
end Go.Proofs.YtpgegfnhokhlmabGreat
