/- What GreatestScale (of the program and of the reference) does, by walks over its text. Condition: at most 2^20 supplies. -/
import Derived.Test.YtpgegfnhokhlmabGreatOpp
import Derived.Deep.DeepCutAuto
import Derived.Test.YtpgegfnhokhlmabGreatScale
set_option linter.unusedVariables false
set_option maxRecDepth 100000
namespace Go.Proofs.YtpgegfnhokhlmabGreat
open Go.ChangeShapes Go.WideShapes Go.ChangeAt Go.RowKit Go.Joins Go.Deep
attribute [local go_sem ↓] Go.wp_at_zero Go.wp_at_succ

/-- The first number from k on at which a test fails, at most f numbers on. -/
def gsN (T : Nat → Bool) : Nat → Nat → Nat
  | 0, k => k
  | f + 1, k => if T k = true then gsN T f (k + 1) else k
theorem gsN_go {T : Nat → Bool} {k : Nat} (hk : k < 65) (h : T k = true) : gsN T (65 - k) k = gsN T (65 - (k + 1)) (k + 1) := by
  rw [show 65 - k = (65 - (k + 1)) + 1 by omega, gsN, if_pos h]
theorem gsN_stop {T : Nat → Bool} {k : Nat} (hk : k < 65) (h : T k = false) : gsN T (65 - k) k = k := by
  rw [show 65 - k = (65 - (k + 1)) + 1 by omega, gsN, if_neg (by rw [h]; decide)]
theorem gsN_facts {T : Nat → Bool} : ∀ f k, k ≤ gsN T f k ∧ gsN T f k ≤ k + f ∧ (∀ j, k ≤ j → j < gsN T f k → T j = true) ∧ (gsN T f k < k + f → T (gsN T f k) = false)
  | 0, k => by
    show k ≤ k ∧ k ≤ k + 0 ∧ (∀ j, k ≤ j → j < k → T j = true) ∧ (k < k + 0 → T k = false)
    exact ⟨Nat.le_refl _, Nat.le_refl _, fun j h1 h2 => by omega, fun h => by omega⟩
  | f + 1, k => by
    rw [gsN]
    by_cases h : T k = true
    · rw [if_pos h]
      obtain ⟨h1, h2, h3, h4⟩ := gsN_facts f (k + 1) (T := T)
      refine ⟨by omega, by omega, fun j hj1 hj2 => ?_, fun hh => h4 (by omega)⟩
      by_cases e : j = k
      · rw [e]; exact h
      · exact h3 j (by omega) hj2
    · rw [if_neg h]
      exact ⟨Nat.le_refl _, by omega, fun j h1 h2 => by omega, fun _ => by simpa using h⟩
section
variable (ns : List Nd) (ps : List Pp) (n : Nat) (zs : List Int)
noncomputable def gsT (k : Nat) : Bool := opC ns ps n (scl (k : Int) zs) == 0
noncomputable def gsK : Nat := gsN (gsT ns ps n zs) 65 0
noncomputable def gsC : Int := if codeC ns ps n zs = 0 then (if gsK ns ps n zs = 0 then 7 else 0) else codeC ns ps n zs
noncomputable def gsV : Int := if gsC ns ps n zs = 0 then (gsK ns ps n zs : Int) - 1 else 0
end
section
variable {ns : List Nd} {ps : List Pp} {n : Nat} {zs : List Int}
theorem gs_code {K : Int} (h : codeC ns ps n zs = K) (hk : K ≠ 0) : gsC ns ps n zs = K ∧ gsV ns ps n zs = 0 := by
  have h1 : gsC ns ps n zs = K := by unfold gsC; rw [if_neg (by omega), h]
  exact ⟨h1, by unfold gsV; rw [if_neg (by omega)]⟩
theorem gs_none (h : codeC ns ps n zs = 0) (h0 : gsK ns ps n zs = 0) : gsC ns ps n zs = 7 ∧ gsV ns ps n zs = 0 := by
  have h1 : gsC ns ps n zs = 7 := by unfold gsC; rw [if_pos h, if_pos h0]
  exact ⟨h1, by unfold gsV; rw [if_neg (by omega)]⟩
theorem gs_some {k : Nat} (h : codeC ns ps n zs = 0) (h0 : gsK ns ps n zs = k) (hk : k ≠ 0) : gsC ns ps n zs = 0 ∧ gsV ns ps n zs = (k : Int) - 1 := by
  have h1 : gsC ns ps n zs = 0 := by unfold gsC; rw [if_pos h, if_neg (by omega)]
  exact ⟨h1, by unfold gsV; rw [if_pos h1, h0]⟩
theorem gs_out {k : Nat} (hnn : ns.length = n) (hc : codeC ns ps n zs = 0) (hk : k ≤ 64) (h : scaleCode (k : Int) zs ≠ 0) : gsT ns ps n zs k = false := by
  obtain ⟨_, hok, hf, _⟩ := codeC_zero hc
  have hl := flB_len hf
  have hb : allB (scl (k : Int) zs) (-30000) 30000 = false := by
    cases hb : allB (scl (k : Int) zs) (-30000) 30000
    · rfl
    · exfalso
      apply h
      unfold scaleCode
      have h1 : ¬ 24 < zs.length := by have := hok.2.1; omega
      rw [if_neg h1, if_neg (by rw [(inB_iff _ _ _).2 ⟨by omega, by omega⟩]; decide), if_neg (by rw [show allB zs (-30000) 30000 = true from flB_all hf]; decide), if_neg (by rw [hb]; decide)]
  have h2 : flB n (scl (k : Int) zs) = false := by unfold flB; rw [hb, Bool.and_false]
  have h3 : codeF ns ps n (scl (k : Int) zs) = 3 := codeF_bad hok h2
  have h4 : codeC ns ps n (scl (k : Int) zs) = 3 := by rw [codeC_bad (by omega), h3]
  unfold gsT
  rw [(op_no (by omega)).1, h4]
  rfl
theorem gs_true {k : Nat} (h : gsT ns ps n zs k = true) : opC ns ps n (scl (k : Int) zs) = 0 := by
  unfold gsT at h
  simpa using h
theorem gs_false {k : Nat} (h : gsT ns ps n zs k = false) : opC ns ps n (scl (k : Int) zs) ≠ 0 := by
  unfold gsT at h
  simpa using h
end
set_option maxHeartbeats 8000000 in
theorem gsc_any (A B C : Option Addr) (n c m d e : Nat) (zs : List Int) (ns : List Nd) (ps : List Pp) (w : World) (h : IsNet w A n c ns B m d ps) (hz : Ints w C zs.length zs) (hl : zs.length ≤ 1048576) :
    Calls Tryz.prog 12 #[.agg #[.slice A n c, .slice B m d], .slice C zs.length e] w fun e w' => e = .returned (.tuple #[.int .i64 (gsV ns ps n zs), .int .i64 (gsC ns ps n zs)]) ∧ Below w.heap.size w w' := by
  have bN := box_new w #[.slice A n c, .slice B m d] 33
  have hV : Below w.heap.size w (w.alloc (.cells #[.slice A n c, .slice B m d] 33)) := (Below.refl _ _).alloc (Nat.le_refl _) _
  by_cases hcc : codeC ns ps n zs = 0
  case neg =>
    obtain ⟨K, hK⟩ : ∃ y, codeC ns ps n zs = y := ⟨_, rfl⟩
    rw [hK] at hcc
    obtain ⟨k1, k2⟩ := gs_code hK hcc
    have H1 := Lib.hid k1
    have H2 := Lib.hid k2
    have HK := Lib.hid hK
    have t1 : (K != 0) = true := by simpa using hcc
    clear k1 k2 hK hcc
    go_enter Tryz.func12, Tryz.ntmps12
    go_upto_region 1 with fail
    generalize (w.alloc (.cells #[.slice A n c, .slice B m d] 33)) = V at *
    have xl := bN.lt
    have x0 : V.cell? ⟨w.heap.size, 0, none⟩ = some (.slice A n c) := bN.cell 0
    have x1 : V.cell? ⟨w.heap.size, 1, none⟩ = some (.slice B m d) := bN.cell 1
    go_wp2_with (go_at_call 45; refine (codeC_any _ _ _ _ _ _ _ _ _ ns ps zs _ (h.below hV) (hz.below hV) hl).mono ?_; rw [HK.out]; rintro e1 w1 ⟨rfl, hb1⟩)
    go_ret2
    exact ⟨ri2 H2.out.symm H1.out.symm, bthen hV hb1 hV.size⟩
  have HCC := Lib.hid hcc
  have hfz := (codeC_zero hcc).2.2.1
  have HFA := Lib.hid (flB_all hfz)
  have HGO := Lib.hid (fun (k : Nat) (hk : k ≤ 64) (h9 : scaleCode (k : Int) zs ≠ 0) => gs_out h.nodes.len hcc hk h9)
  clear hcc hfz
  go_enter Tryz.func12, Tryz.ntmps12
  go_upto_region 1 with fail
  generalize (w.alloc (.cells #[.slice A n c, .slice B m d] 33)) = V at *
  have xl := bN.lt
  have x0 : V.cell? ⟨w.heap.size, 0, none⟩ = some (.slice A n c) := bN.cell 0
  have x1 : V.cell? ⟨w.heap.size, 1, none⟩ = some (.slice B m d) := bN.cell 1
  go_upto_region 4 with (go_at_call 45; refine (codeC_any _ _ _ _ _ _ _ _ _ ns ps zs _ (h.below hV) (hz.below hV) hl).mono ?_; rw [HCC.out]; rintro e1 w1 ⟨rfl, hb1⟩)
  have hW1 := bthen hV hb1 hV.size
  have bN1 := bN.belowA hb1
  clear x0 x1 xl hb1 bN hV
  generalize hbc : (#[.slice A n c, .slice B m d] : Array Value) = bc at bN1
  have HBC := Lib.hid hbc
  clear hbc
  go_wp2_with fail
  go_loopw [7] (fun ss wr => ∃ s : Int, -1 ≤ s ∧ s ≤ 64 ∧ ss = .int .i64 s ∧ Hid (gsK ns ps n zs = gsN (gsT ns ps n zs) (65 - (s + 1).toNat) (s + 1).toNat) ∧ Below w.heap.size w wr ∧ Box wr w.heap.size bc 33) (fun ss _ => 65 - (intOf ss + 1).toNat)
  case atStart => exact ⟨-1, by omega, by omega, rfl, rfl, hW1, bN1⟩
  case round =>
    obtain ⟨s, hs0, hs1, rfl, HG, hW, bX⟩ := hrel
    clear hW1 bN1
    rw [← HBC.out] at bX
    have xl := bX.lt
    have x0 : wr.cell? ⟨w.heap.size, 0, none⟩ = some (.slice A n c) := bX.cell 0
    have x1 : wr.cell? ⟨w.heap.size, 1, none⟩ = some (.slice B m d) := bX.cell 1
    have hsz := hW.size
    have HKS := Lib.hid (show (((s + 1).toNat : Nat) : Int) = s + 1 by omega)
    have HSS := Lib.hid (show ((s + 1).toNat : Int) - 1 = s by omega)
    have hWd := hW.drew
    have bXd := bX.drew
    have HSL := Lib.hid (scl_len (s + 1) zs)
    by_cases hk65 : s < 64
    · have s1 : IntKind.i64.wrap (s + 1) = s + 1 := IntWalk.i64_in _ (by omega)
      obtain ⟨K, hK⟩ : ∃ y, opC ns ps n (scl (s + 1) zs) = y := ⟨_, rfl⟩
      have HK := Lib.hid hK
      have hWa := hWd.alloc hWd.size (.cells #[.slice none 0 0, .slice none 0 0] 54)
      have bXa := bXd.alloc (.cells #[.slice none 0 0, .slice none 0 0] 54)
      clear hK
      go_upto_region 6 with fail
      go_cut [10] (fun cc wx => cc = .int .i64 K ∧ Below w.heap.size w wx ∧ Box wx w.heap.size bc 33)
      case first =>
        go_region_with (first | (go_at_call 47; refine (scaled_any _ _ zs (s + 1) wr.drew (hz.below hWd) hl (by omega) (by omega) HFA).mono ?_; rintro e2 w2 ⟨A2, c2, rfl, o2, hb2⟩; rw [HSL.out] at o2 ⊢; have hW2 := bthen hWd hb2 hWd.size; have bX2 := bXd.belowA hb2; have xl2 := bX2.lt; have x02 : w2.cell? ⟨w.heap.size, 0, none⟩ = some (.slice A n c) := bX2.cell 0; have x12 : w2.cell? ⟨w.heap.size, 1, none⟩ = some (.slice B m d) := bX2.cell 1; have hW2a := hW2.alloc hW2.size (.cells #[.slice none 0 0, .slice none 0 0] 54); have bX2a := bX2.alloc (.cells #[.slice none 0 0, .slice none 0 0] 54); have o2a := o2.alloc (.cells #[.slice none 0 0, .slice none 0 0] 54)) | (go_at_call 47; refine (scaled_any _ _ zs (s + 1) (wr.drew.alloc (.cells #[.slice none 0 0, .slice none 0 0] 54)) (hz.below hWa) hl (by omega) (by omega) HFA).mono ?_; rintro e2 w2 ⟨A2, c2, rfl, o2, hb2⟩; have bQ2 : Box w2 wr.heap.size #[.slice none 0 0, .slice none 0 0] 54 := (box_new wr.drew #[.slice none 0 0, .slice none 0 0] 54).belowA hb2; rw [HSL.out] at o2 ⊢; have hW2 := bthen hWa hb2 hWa.size; have bX2 := bXa.belowA hb2; have xl2 := bX2.lt; have x02 : w2.cell? ⟨w.heap.size, 0, none⟩ = some (.slice A n c) := bX2.cell 0; have x12 : w2.cell? ⟨w.heap.size, 1, none⟩ = some (.slice B m d) := bX2.cell 1; have hW2a := hW2.alloc hW2.size (.cells #[.slice none 0 0, .slice none 0 0] 54); have bX2a := bX2.alloc (.cells #[.slice none 0 0, .slice none 0 0] 54); have o2a := o2.alloc (.cells #[.slice none 0 0, .slice none 0 0] 54)) | (go_at_call 46; refine (point_any _ _ _ _ _ _ _ _ _ true (scl (s + 1) zs) ns ps w2 (h.below hW2) o2.ints hl).mono ?_; rw [HK.out]; rintro e3 w3 ⟨A3, c3, B3, d3, rfl, _, _, _, hb3⟩; have hW3 := bthen hW2 hb3 hW2.size; have bX3 := bX2.belowA hb3; have xl3 := bX3.lt; try (have bQ3 := bQ2.belowA hb3; have pl3 := bQ3.lt; have p03 := bQ3.cell 0; have p13 := bQ3.cell 1; have g03 := bQ3.free 0; have g13 := bQ3.free 1)) | (go_at_call 46; refine (point_any _ _ _ _ _ _ _ _ _ true (scl (s + 1) zs) ns ps (w2.alloc (.cells #[.slice none 0 0, .slice none 0 0] 54)) (h.below hW2a) o2a.ints hl).mono ?_; rw [HK.out]; rintro e3 w3 ⟨A3, c3, B3, d3, rfl, _, _, _, hb3⟩; have hW3 := bthen hW2a hb3 hW2a.size; have bX3 := bX2a.belowA hb3; have xl3 := bX3.lt; have bQ3 := (box_new w2 #[.slice none 0 0, .slice none 0 0] 54).belowA hb3; have pl3 := bQ3.lt; have p03 := bQ3.cell 0; have p13 := bQ3.cell 1; have g03 := bQ3.free 0; have g13 := bQ3.free 1))
        all_goals (go_wp2_with fail; go_meet)
        all_goals
          have hz3 := hW3.size
          have hz2 := hb3.size
          refine ⟨rfl, ?_, ?_⟩
          · repeat (first | exact hW3 | refine Below.setCell ?_ (by simp <;> omega) _ | refine Below.alloc ?_ (by first | omega | (simp; omega)) _)
          · rw [← HBC.out]
            repeat (first | exact bX3 | refine Box.other ?_ (by simp <;> omega) _ | refine Box.alloc ?_ _)
      case rest =>
      obtain ⟨rfl, hW4, bX4⟩ := hcut
      cases hT : gsT ns ps n zs (s + 1).toNat
      · have hne := gs_false hT
        rw [HKS.out, HK.out] at hne
        have t1 : (K != 0) = true := by simpa using hne
        have HG2 := Lib.hid (HG.out.trans (gsN_stop (by omega) hT))
        clear hne hT
        by_cases j1 : s < 0
        · obtain ⟨k1, k2⟩ := gs_none HCC.out (HG2.out.trans (by omega))
          have H1 := Lib.hid k1
          have H2 := Lib.hid k2
          clear k1 k2
          go_wp2_with fail
          go_ret2
          exact ⟨ri2 H2.out.symm H1.out.symm, hW4⟩
        · obtain ⟨k1, k2⟩ := gs_some HCC.out HG2.out (by omega)
          have H1 := Lib.hid k1
          have H2 := Lib.hid (k2.trans HSS.out)
          clear k1 k2
          go_wp2_with fail
          go_ret2
          exact ⟨ri2 H2.out.symm H1.out.symm, hW4⟩
      · obtain rfl : K = 0 := by have := gs_true hT; rw [HKS.out, HK.out] at this; exact this
        have HG2 := Lib.hid (HG.out.trans (gsN_go (by omega) hT))
        have HS1 := Lib.hid (show (s + 1).toNat + 1 = (s + 1 + 1).toNat by omega)
        clear hT
        go_wp2_with fail
        go_roundw
        case rel => exact ⟨s + 1, by omega, by omega, rfl, by have := HG2.out; rw [HS1.out] at this; exact this, hW4, bX4⟩
        case measure => simp [intOf]; omega
    · obtain rfl : s = 64 := by omega
      obtain ⟨k1, k2⟩ := gs_some (k := 65) HCC.out HG.out (by decide)
      have H1 := Lib.hid k1
      have H2 := Lib.hid k2
      clear k1 k2
      go_wp2_with fail
      go_ret2
      exact ⟨ri2 H2.out.symm H1.out.symm, hW⟩
set_option maxHeartbeats 8000000 in
theorem sGsc_any (A B C : Option Addr) (n c m d e : Nat) (zs : List Int) (ns : List Nd) (ps : List Pp) (w : World) (h : IsNet w A n c ns B m d ps) (hz : Ints w C zs.length zs) (hl : zs.length ≤ 1048576) :
    Calls Tryz.prog 9 #[.agg #[.slice A n c, .slice B m d], .slice C zs.length e] w fun e w' => e = .returned (.tuple #[.int .i64 (gsV ns ps n zs), .int .i64 (gsC ns ps n zs)]) ∧ Below w.heap.size w w' := by
  have bN := box_new w #[.slice A n c, .slice B m d] 33
  have hV : Below w.heap.size w (w.alloc (.cells #[.slice A n c, .slice B m d] 33)) := (Below.refl _ _).alloc (Nat.le_refl _) _
  by_cases hcc : codeC ns ps n zs = 0
  case neg =>
    obtain ⟨K, hK⟩ : ∃ y, codeC ns ps n zs = y := ⟨_, rfl⟩
    rw [hK] at hcc
    obtain ⟨k1, k2⟩ := gs_code hK hcc
    have H1 := Lib.hid k1
    have H2 := Lib.hid k2
    have HK := Lib.hid hK
    have t1 : (K != 0) = true := by simpa using hcc
    clear k1 k2 hK hcc
    go_enter Tryz.func9, Tryz.ntmps9
    go_upto_region 1 with fail
    generalize (w.alloc (.cells #[.slice A n c, .slice B m d] 33)) = V at *
    have xl := bN.lt
    have x0 : V.cell? ⟨w.heap.size, 0, none⟩ = some (.slice A n c) := bN.cell 0
    have x1 : V.cell? ⟨w.heap.size, 1, none⟩ = some (.slice B m d) := bN.cell 1
    go_wp2_with (go_at_call 40; refine (sCodeC_any _ _ _ _ _ _ _ _ _ ns ps zs _ (h.below hV) (hz.below hV) hl).mono ?_; rw [HK.out]; rintro e1 w1 ⟨rfl, hb1⟩)
    go_ret2
    exact ⟨ri2 H2.out.symm H1.out.symm, bthen hV hb1 hV.size⟩
  have HCC := Lib.hid hcc
  have hfz := (codeC_zero hcc).2.2.1
  have HFA := Lib.hid (flB_all hfz)
  have HGO := Lib.hid (fun (k : Nat) (hk : k ≤ 64) (h9 : scaleCode (k : Int) zs ≠ 0) => gs_out h.nodes.len hcc hk h9)
  clear hcc hfz
  go_enter Tryz.func9, Tryz.ntmps9
  go_upto_region 1 with fail
  generalize (w.alloc (.cells #[.slice A n c, .slice B m d] 33)) = V at *
  have xl := bN.lt
  have x0 : V.cell? ⟨w.heap.size, 0, none⟩ = some (.slice A n c) := bN.cell 0
  have x1 : V.cell? ⟨w.heap.size, 1, none⟩ = some (.slice B m d) := bN.cell 1
  go_upto_region 4 with (go_at_call 40; refine (sCodeC_any _ _ _ _ _ _ _ _ _ ns ps zs _ (h.below hV) (hz.below hV) hl).mono ?_; rw [HCC.out]; rintro e1 w1 ⟨rfl, hb1⟩)
  have hW1 := bthen hV hb1 hV.size
  have bN1 := bN.belowA hb1
  clear x0 x1 xl hb1 bN hV
  generalize hbc : (#[.slice A n c, .slice B m d] : Array Value) = bc at bN1
  have HBC := Lib.hid hbc
  clear hbc
  go_wp2_with fail
  go_loopw [7, 8] (fun bb ss wr => ∃ k : Nat, k ≤ 65 ∧ bb = .int .i64 ((k : Int) - 1) ∧ ss = .int .i64 (k : Int) ∧ Hid (gsK ns ps n zs = gsN (gsT ns ps n zs) (65 - k) k) ∧ Below w.heap.size w wr ∧ Box wr w.heap.size bc 33) (fun _ ss _ => 65 - (intOf ss).toNat)
  case atStart => exact ⟨0, by omega, rfl, rfl, rfl, hW1, bN1⟩
  case round =>
    obtain ⟨k, hk, rfl, rfl, HG, hW, bX⟩ := hrel
    clear hW1 bN1
    rw [← HBC.out] at bX
    have xl := bX.lt
    have x0 : wr.cell? ⟨w.heap.size, 0, none⟩ = some (.slice A n c) := bX.cell 0
    have x1 : wr.cell? ⟨w.heap.size, 1, none⟩ = some (.slice B m d) := bX.cell 1
    have hsz := hW.size
    by_cases hk65 : k < 65
    · have i1 : (k : Int) ≤ 64 := by omega
      have HSL := Lib.hid (scl_len (k : Int) zs)
      by_cases hsc : scaleCode (k : Int) zs = 0
      case neg =>
        have HG2 := Lib.hid (HG.out.trans (gsN_stop hk65 (HGO.out k (by omega) hsc)))
        obtain ⟨K, hK⟩ : ∃ y, scaleCode (k : Int) zs = y := ⟨_, rfl⟩
        rw [hK] at hsc
        have HK := Lib.hid hK
        have t1 : (K != 0) = true := by simpa using hsc
        clear hK hsc
        go_wp2_with fail
        refine (sScale_any _ _ zs (k : Int) _ (hz.below hW) hl).mono ?_
        rw [HK.out]
        rintro e2 w2 ⟨A2, c2, rfl, o2, hb2⟩
        have hW2 := bthen hW hb2 hW.size
        by_cases hk0 : k = 0
        · obtain ⟨k1, k2⟩ := gs_none HCC.out (HG2.out.trans hk0)
          have H1 := Lib.hid k1
          have H2 := Lib.hid k2
          have j1 : (k : Int) - 1 < 0 := by omega
          clear k1 k2 hk0
          go_wp2_with fail
          go_ret2
          exact ⟨ri2 H2.out.symm H1.out.symm, hW2⟩
        · obtain ⟨k1, k2⟩ := gs_some HCC.out HG2.out hk0
          have H1 := Lib.hid k1
          have H2 := Lib.hid k2
          have j1 : ¬ (k : Int) - 1 < 0 := by omega
          clear k1 k2
          go_wp2_with fail
          go_ret2
          exact ⟨ri2 H2.out.symm H1.out.symm, hW2⟩
      have HSC := Lib.hid hsc
      have HSO := Lib.hid (show scaleOf (k : Int) zs = scl (k : Int) zs by unfold scaleOf; rw [if_pos hsc])
      clear hsc
      go_wp2_with fail
      refine (sScale_any _ _ zs (k : Int) _ (hz.below hW) hl).mono ?_
      rw [HSC.out, HSO.out]
      rintro e2 w2 ⟨A2, c2, rfl, o2, hb2⟩
      rw [HSL.out] at o2 ⊢
      have hW2 := bthen hW hb2 hW.size
      have bX2 := bX.belowA hb2
      clear x0 x1 xl hb2
      have xl := bX2.lt
      have x0 : w2.cell? ⟨w.heap.size, 0, none⟩ = some (.slice A n c) := bX2.cell 0
      have x1 : w2.cell? ⟨w.heap.size, 1, none⟩ = some (.slice B m d) := bX2.cell 1
      cases hT : gsT ns ps n zs k
      · have HK := Lib.hid (show (opC ns ps n (scl (k : Int) zs) == 0) = false from hT)
        have HG2 := Lib.hid (HG.out.trans (gsN_stop hk65 hT))
        clear hT
        go_wp2_with fail
        refine (sIsOp_any _ _ _ _ _ _ _ _ _ (scl (k : Int) zs) ns ps _ (h.below hW2) o2.ints o2.nilc hl).mono ?_
        rw [HK.out]
        rintro e3 w3 ⟨rfl, hb3⟩
        have hW3 := bthen hW2 hb3 hW2.size
        by_cases hk0 : k = 0
        · obtain ⟨k1, k2⟩ := gs_none HCC.out (HG2.out.trans hk0)
          have H1 := Lib.hid k1
          have H2 := Lib.hid k2
          have j1 : (k : Int) - 1 < 0 := by omega
          clear k1 k2 hk0
          go_wp2_with fail
          go_ret2
          exact ⟨ri2 H2.out.symm H1.out.symm, hW3⟩
        · obtain ⟨k1, k2⟩ := gs_some HCC.out HG2.out hk0
          have H1 := Lib.hid k1
          have H2 := Lib.hid k2
          have j1 : ¬ (k : Int) - 1 < 0 := by omega
          clear k1 k2
          go_wp2_with fail
          go_ret2
          exact ⟨ri2 H2.out.symm H1.out.symm, hW3⟩
      · have HK := Lib.hid (show (opC ns ps n (scl (k : Int) zs) == 0) = true from hT)
        have HG2 := Lib.hid (HG.out.trans (gsN_go hk65 hT))
        clear hT
        go_wp2_with fail
        refine (sIsOp_any _ _ _ _ _ _ _ _ _ (scl (k : Int) zs) ns ps _ (h.below hW2) o2.ints o2.nilc hl).mono ?_
        rw [HK.out]
        rintro e3 w3 ⟨rfl, hb3⟩
        have hW3 := bthen hW2 hb3 hW2.size
        have bX3 := bX2.belowA hb3
        rw [HBC.out] at bX3
        clear x0 x1 xl
        go_wp2_with fail
        go_roundw
        case rel => exact ⟨k + 1, by omega, by go_num, by go_num, HG2.out, hW3, bX3⟩
        case measure => simp [intOf]; omega
    · obtain rfl : k = 65 := by omega
      obtain ⟨k1, k2⟩ := gs_some (k := 65) HCC.out HG.out (by decide)
      have H1 := Lib.hid k1
      have H2 := Lib.hid k2
      clear k1 k2
      go_wp2_with fail
      go_ret2
      exact ⟨ri2 H2.out.symm H1.out.symm, hW⟩
end Go.Proofs.YtpgegfnhokhlmabGreat
