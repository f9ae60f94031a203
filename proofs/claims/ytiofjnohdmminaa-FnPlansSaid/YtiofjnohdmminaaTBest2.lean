/- What l15Best does: the walk. Conditions: within their bounds, 1 to 48 hours. -/
import Derived.Test.YtiofjnohdmminaaTBest
set_option linter.unusedVariables false
set_option maxRecDepth 100000
namespace Go.Proofs.Ytiofjnohdmminaa
open Go.ChangeShapes Go.WideShapes Go.ChangeAt Go.RowKit Go.Joins Go.Deep
attribute [local go_sem ↓] Go.wp_at_zero Go.wp_at_succ

theorem zip_at {cs ms : List Int} {n q : Nat} (h1 : cs.length = n) (h2 : ms.length = n) (hq : q < n) : ∃ c m, cs[q]? = some c ∧ ms[q]? = some m ∧ (cs.zip ms).drop q = (c, m) :: (cs.zip ms).drop (q + 1) := by
  have hl : q < (cs.zip ms).length := by rw [List.length_zip]; omega
  refine ⟨cs[q], ms[q], List.getElem?_eq_getElem (by omega), List.getElem?_eq_getElem (by omega), ?_⟩
  rw [List.drop_eq_getElem_cons hl]; simp
set_option maxHeartbeats 8000000 in
theorem sBest_any {A C : Option Addr} {n ca cc : Nat} {s u d : Int} {cs ms : List Int} (w : World) (ic : Ints w A n cs) (im : Ints w C n ms) (hf : Fits s u d (cs.zip ms)) (hn1 : 1 ≤ n) (hn48 : n ≤ 48) :
    Calls Try.prog 62 #[.agg #[.int .i64 s, .int .i64 u, .int .i64 d], .slice A n ca, .slice C n cc] w
      fun e w' => ∃ A2 c2, e = .returned (.tuple #[.slice A2 (bestL s u d (cs.zip ms)).length c2, .int .i64 (VS (lst s u d (fun _ => 48) (cs.zip ms) 0 48))]) ∧ Own w' w.heap.size A2 (bestL s u d (cs.zip ms)).length c2 (bestL s u d (cs.zip ms)) ∧ Below w.heap.size w w' := by
  have hlc := Lib.hid ic.len
  have hlm := Lib.hid im.len
  have hmk : ∀ W, (Instr.makeSlice 36 (.int .i64 98) (.int .i64 98)).run Try.prog W = .ok (.slice (some ⟨W.heap.size, 0, none⟩) 98 98) (W.alloc (.cells (madeCells #[.int .i64 0] 98) 2)) := fun W => run_make_row' (P := Try.prog) 36 2 (.int .i64 0) 8 Try.underlying36 info_i64 rfl .i64 .i64 98 (by omega) (by omega) W
  have bu := box_new w #[.int .i64 s, .int .i64 u, .int .i64 d] 25
  have hV : Below w.heap.size w (w.alloc (.cells #[.int .i64 s, .int .i64 u, .int .i64 d] 25)) := (Below.refl _ _).alloc (Nat.le_refl _) _
  have hsV : (w.alloc (.cells #[.int .i64 s, .int .i64 u, .int .i64 d] 25)).heap.size = w.heap.size + 1 := by simp
  go_enter Try.func62, Try.ntmps62
  go_upto_region 2 with fail
  generalize (w.alloc (.cells #[.int .i64 s, .int .i64 u, .int .i64 d] 25)) = V at *
  have oE : OwnR encS 1 36 (V.alloc (.cells #[] 36)) V.heap.size (some ⟨w.heap.size + 1, 0, none⟩) 0 0 [] := by
    have := ownR_empty encS 1 36 V V.heap.size (Nat.le_refl _)
    simpa only [hsV] using this
  go_wp2_with fail
  go_loopw [9, 10] (fun tt ii wr => ∃ (k : Nat) (tA : Option Addr) (tc : Nat) (bl : List Nat), k ≤ n + 1 ∧ ii = .int .i64 k ∧ tt = .slice tA k tc ∧ TabB wr V.heap.size tA k tc bl ∧ Below V.heap.size V wr) (fun _ ii _ => n + 1 - (intOf ii).toNat)
  case atStart => exact ⟨0, _, _, [], Nat.zero_le _, rfl, rfl, ⟨oE, fun b hb => absurd hb List.not_mem_nil, List.nodup_nil⟩, (Below.refl _ _).alloc (Nat.le_refl _) _⟩
  case round =>
    obtain ⟨k, tA, tc, bl, hk, rfl, rfl, hT, hb⟩ := hrel
    by_cases hlt : k ≤ n
    · have hsz := hb.size
      have kT : Kept (TabB wr V.heap.size tA k tc bl) := ⟨hT⟩
      have kB : Kept (Below V.heap.size V wr) := ⟨hb⟩
      clear hT hb
      go_wp2_with (at_builtin; refine wpList_pushR (enc := encS) (wr.alloc (.cells (madeCells #[.int .i64 0] 98) 2)) rfl _ _ rfl Try.underlying78 info_row rfl (by decide) (by decide) V.heap.size _ _ _ bl wr.heap.size #[.slice (some ⟨wr.heap.size, 0, none⟩) 98 98] rfl (wr.heap.size + 1) (by simp) rfl rfl (kT.out.own.alloc _) rfl (by simp [encS, Value.oneCell']) (by omega) (by simp; omega) ?_; intro g c2 w2 ho2 hb2 hg2 hg3)
      go_roundw
      case rel => exact ⟨k + 1, _, c2, _, by omega, by go_num, rfl, kT.out.push hsz rfl ho2 hg2, kB.out.trans (((Below.refl _ _).alloc hsz _).trans hb2)⟩
      case measure => simp [intOf]; omega
    · obtain rfl : k = n + 1 := by omega
      clear hlt hk hmk
      have hbu := bu.belowA hb
      have icr := ic.below (hV.trans (hb.mono (by omega)))
      have imr := im.below (hV.trans (hb.mono (by omega)))
      have hW : Below w.heap.size w wr := hV.trans (hb.mono (by omega))
      have hsz := hb.size
      obtain ⟨tb, rfl, htb, htl⟩ := hT.own.form (by omega)
      have hTab := hT.tab
      have hrow : Good s u d ((cs.zip ms).drop n) (List.replicate 98 0) := by
        rw [List.drop_eq_nil_of_le (by rw [List.length_zip, hlc.out, hlm.out]; omega)]
        exact good_end (fun i hi => by rw [List.getElem?_replicate, if_pos hi])
      generalize (fun k => bl.getD k 0) = bk at hTab
      clear hT
      obtain ⟨w1, rfl⟩ : ∃ w1 : World, w1 = wr := ⟨_, rfl⟩
      have hs1 : w.heap.size < V.heap.size := by omega
      clear hV hsV bu hb
      go_wp2_with fail
      go_loopw [11] (fun ii wr => ∃ (q : Nat) (row : Nat → List Int), q ≤ n ∧ ii = .int .i64 ((q : Int) - 1) ∧ Tab wr V.heap.size tb (n + 1) bk row ∧ (∀ k, q ≤ k → k ≤ n → Good s u d ((cs.zip ms).drop k) (row k)) ∧ Below V.heap.size w1 wr) (fun ii _ => (intOf ii + 1).toNat)
      case atStart => exact ⟨n, _, Nat.le_refl _, rfl, hTab, (fun k h1 h2 => (show k = n by omega) ▸ hrow), Below.refl _ _⟩
      case round =>
        clear hTab hrow
        obtain ⟨q, row, hq, rfl, hT, hG, hb⟩ := hrel
        by_cases hlt : 1 ≤ q
        · obtain ⟨q, rfl⟩ : ∃ q', q = q' + 1 := ⟨q - 1, by omega⟩
          have eq1 : ((q + 1 : Nat) : Int) - 1 = (q : Int) := by omega
          rw [eq1]
          clear eq1
          obtain ⟨c, m, hc, hm, hdr⟩ := zip_at hlc.out hlm.out (show q < n by omega)
          have hfq : Fits s u d ((c, m) :: (cs.zip ms).drop (q + 1)) := by have := hf.drop q; rwa [hdr] at this
          have HC := Lib.hid hc
          have HM := Lib.hid hm
          have HD := Lib.hid hdr
          have HF := Lib.hid hfq
          clear hc hm hdr hfq
          have q0 : (0 : Int) ≤ (q : Int) := by omega
          have q1 : (q : Int) < (n : Int) + 1 := by omega
          have q2 : (q : Int) < 48 := by omega
          obtain ⟨wo, rfl⟩ : ∃ wo : World, wo = wr := ⟨_, rfl⟩
          have kG : Kept (∀ k, q + 1 ≤ k → k ≤ n → Good s u d ((cs.zip ms).drop k) (row k)) := ⟨hG⟩
          clear hG
          go_wp2_with fail
          go_loopw [12] (fun ii wr => ∃ (st : Nat) (row : Nat → List Int), st ≤ 2 ∧ ii = .int .i64 st ∧ Tab wr V.heap.size tb (n + 1) bk row ∧ Kept (∀ k, q + 1 ≤ k → k ≤ n → Good s u d ((cs.zip ms).drop k) (row k)) ∧ Upto s u d ((cs.zip ms).drop q) st 1 (row q) ∧ Below V.heap.size w1 wr) (fun ii _ => 2 - (intOf ii).toNat)
          case atStart => exact ⟨0, _, by omega, rfl, hT, kG, upto_zero, hb⟩
          case round =>
            clear hT kG hb
            obtain ⟨st, row, hst, rfl, hT, kG, hU, hb⟩ := hrel
            by_cases hlst : st < 2
            · obtain ⟨wo2, rfl⟩ : ∃ wo : World, wo = wr := ⟨_, rfl⟩
              go_wp2_with fail
              go_loopw [13] (fun ii wr => ∃ (rn : Nat) (row : Nat → List Int), 1 ≤ rn ∧ rn ≤ 49 ∧ ii = .int .i64 rn ∧ Tab wr V.heap.size tb (n + 1) bk row ∧ Kept (∀ k, q + 1 ≤ k → k ≤ n → Good s u d ((cs.zip ms).drop k) (row k)) ∧ Upto s u d ((cs.zip ms).drop q) st rn (row q) ∧ Below V.heap.size w1 wr) (fun ii _ => 49 - (intOf ii).toNat)
              case atStart => exact ⟨1, _, by omega, by omega, rfl, hT, kG, hU, hb⟩
              case round =>
                clear hT kG hU hb
                obtain ⟨rn, row, hrn1, hrn, rfl, hT, kG, hU, hb⟩ := hrel
                by_cases hlrn : rn ≤ 48
                · have HS : Kept (St (st : Int) (rn : Int)) := ⟨⟨by omega, by omega, by omega⟩⟩
                  have kU : Kept (Upto s u d ((cs.zip ms).drop q) st rn (row q)) := ⟨hU⟩
                  clear hU
                  obtain ⟨wo3, rfl⟩ : ∃ wo : World, wo = wr := ⟨_, rfl⟩
                  go_wp2_with fail
                  go_loopw [14, 15] (fun bb ii wr => ∃ x : Nat, x ≤ 2 ∧ ii = .int .i64 x ∧ bb = .int .i64 (VS (acc2S s u d c m ((cs.zip ms).drop (q + 1)) st rn x)) ∧ Tab wr V.heap.size tb (n + 1) bk row ∧ Below V.heap.size w1 wr) (fun _ ii _ => 2 - (intOf ii).toNat)
                  case atStart => exact ⟨0, by omega, rfl, rfl, hT, hb⟩
                  case round =>
                    clear hT hb
                    obtain ⟨x, hx, rfl, rfl, hT, hb⟩ := hrel
                    by_cases hlx : x < 2
                    · have hx01 : (x : Int) = 0 ∨ (x : Int) = 1 := by omega
                      have hcall := step_any (tc := tc) (ca := ca) (cc := cc) wr (ic.below (hW.trans (hb.mono (by omega)))) (im.below (hW.trans (hb.mono (by omega)))) hf hT (show q < n by omega) HC.out HM.out (kG.out (q + 1) (by omega) (by omega)) HS.out hx01
                      have HA := Lib.hid (acc2S_min (on := (st : Int)) (long := (rn : Int)) HF.out x)
                      have hab := VS_bd (acc2S_bd HF.out (st : Int) (rn : Int) x)
                      have hvb := VS_bd (HF.out.stp (fun _ => 48) (st : Int) (rn : Int) (x : Int))
                      have bu := hbu.below hb (by omega)
                      have ul := bu.lt
                      have u0 : wr.cell? ⟨w.heap.size, 0, none⟩ = some (.int .i64 s) := bu.cell 0
                      have u1 : wr.cell? ⟨w.heap.size, 1, none⟩ = some (.int .i64 u) := bu.cell 1
                      have u2 : wr.cell? ⟨w.heap.size, 2, none⟩ = some (.int .i64 d) := bu.cell 2
                      generalize VS (stp s u d (fun _ => 48) c m (lst s u d (fun _ => 48) ((cs.zip ms).drop (q + 1))) (st : Int) (rn : Int) (x : Int)) = v at *
                      obtain ⟨a, ha⟩ : ∃ a, a = VS (acc2S s u d c m ((cs.zip ms).drop (q + 1)) st rn x) := ⟨_, rfl⟩
                      rw [← ha] at hab HA ⊢
                      clear ha bu hx01
                      have KC : Kept _ := ⟨hcall⟩
                      have kT : Kept (Tab wr V.heap.size tb (n + 1) bk row) := ⟨hT⟩
                      have kB : Kept (Below V.heap.size w1 wr) := ⟨hb⟩
                      clear hcall hT hb
                      go_wp2_with (go_at_call 70; refine KC.out.mono ?_; rintro e w2 ⟨rfl, hb2⟩)
                      all_goals
                        go_roundw
                        case rel => exact ⟨x + 1, by omega, by go_num, by rw [← HA.out]; congr 1; omega, kT.out.below hb2, bthen kB.out hb2 (by have := kB.out.size; omega)⟩
                        case measure => simp [intOf]; omega
                    · obtain rfl : x = 2 := by omega
                      rw [acc2S_two, ← HD.out]
                      have hvb := VS_bd ((hf.drop q).lst (fun _ => 48) (st : Int) (rn : Int))
                      obtain ⟨J, hJ⟩ : ∃ J : Nat, (J : Int) = 2 * (rn : Int) + (st : Int) := ⟨2 * rn + st, by omega⟩
                      have hJ' := hJ.symm
                      have hJt : (2 * (rn : Int) + (st : Int)).toNat = J := by omega
                      have hJ0 : (0 : Int) ≤ (J : Int) := by omega
                      have hJ1 : (J : Int) < 98 := by omega
                      have hU2 := upto_set (s := s) (u := u) (d := d) (l := (cs.zip ms).drop q) (hT.own q (by omega)).len HS.out kU.out
                      rw [hJt] at hU2
                      have hT2 := hT.set (k := q) (i := J) (by omega) (z := VS (lst s u d (fun _ => 48) ((cs.zip ms).drop q) (st : Int) (rn : Int))) (WalkArith.wf_i64 (by omega))
                      obtain ⟨g, z, hg, _, _, hz, _, hcell, hfree⟩ := (hT.own q (by omega)).at_ (show J < 98 by omega)
                      obtain rfl : bk q = g := by injection hg with hg; injection hg
                      have hkc := hT.cell q (by omega)
                      have htl := hT.lt (by omega)
                      have hrl := hT.row_lt (show q < n + 1 by omega)
                      have hrl2 := hrl.2
                      have hb2 := hb.setCell (p := ⟨bk q, J, none⟩) hrl.1 (.int .i64 (VS (lst s u d (fun _ => 48) ((cs.zip ms).drop q) (st : Int) (rn : Int))))
                      generalize VS (lst s u d (fun _ => 48) ((cs.zip ms).drop q) (st : Int) (rn : Int)) = v at *
                      have KT2 : Kept _ := ⟨hT2⟩
                      have KU2 : Kept _ := ⟨hU2⟩
                      have KB2 : Kept _ := ⟨hb2⟩
                      clear hT2 hU2 hb2 hT hb hz hg hJ hJt hrl
                      go_wp2_with fail
                      go_roundw
                      case rel => exact ⟨rn + 1, _, by omega, by omega, by go_num, KT2.out, ⟨fun k h1 h2 => by
                        rw [if_neg (by omega)]
                        exact kG.out k h1 h2⟩, (by rw [if_pos rfl]; simpa using KU2.out), KB2.out⟩
                      case measure => simp [intOf]; omega
                · obtain rfl : rn = 49 := by omega
                  go_wp2_with fail
                  go_roundw
                  case rel => exact ⟨st + 1, row, by omega, by go_num, hT, kG, (by have := upto_next hU; simpa using this), hb⟩
                  case measure => simp [intOf]; omega
            · obtain rfl : st = 2 := by omega
              have hqn : q ≤ n := by omega
              go_wp2_with fail
              go_roundw
              case rel => exact ⟨q, row, hqn, rfl, hT, (fun k h1 h2 => by
                by_cases e : k = q
                · subst e; exact upto_good hU
                · exact kG.out k (by omega) h2), hb⟩
              case measure => simp [intOf] <;> omega
        · obtain rfl : q = 0 := by omega
          have hG0 := hG 0 (Nat.le_refl _) (by omega) 0 48 ⟨.inl rfl, by omega, by omega⟩
          rw [List.drop_zero] at hG0
          obtain ⟨hc96, _⟩ := hT.num (k := 0) (i := 96) (by omega) (by omega) hG0
          have hk0 := hT.cell 0 (by omega)
          have htl := hT.lt (by omega)
          have hrl := (hT.row_lt (show 0 < n + 1 by omega)).2
          have kT : Kept (Tab wr V.heap.size tb (n + 1) bk row) := ⟨hT⟩
          have kG : Kept (∀ k, k ≤ n → Good s u d ((cs.zip ms).drop k) (row k)) := ⟨fun k hk => hG k (Nat.zero_le _) hk⟩
          have kW : Kept (Below w.heap.size w wr) := ⟨hW.trans (hb.mono (by omega))⟩
          have kU : Kept (Box wr w.heap.size #[.int .i64 s, .int .i64 u, .int .i64 d] 25) := ⟨hbu.below hb (by omega)⟩
          have hsw : V.heap.size ≤ wr.heap.size := by have := hb.size; omega
          have hvb := VS_bd (hf.lst (fun _ => 48) 0 48)
          clear hT hG hG0 hb hbu icr imr htb htl hq hlt
          obtain ⟨wf, rfl⟩ : ∃ wf : World, wf = wr := ⟨_, rfl⟩
          have htl := kT.out.lt (by omega)
          obtain ⟨v, hv⟩ : ∃ v, v = VS (lst s u d (fun _ => 48) (cs.zip ms) 0 48) := ⟨_, rfl⟩
          rw [← hv] at hc96 hvb
          have HV := Lib.hid hv
          clear hv
          go_upto_region 25 with fail
          have oW := own_empty1 wf wf.heap.size (Nat.le_refl _)
          have bW : Below wf.heap.size wf (wf.alloc (.cells #[] 2)) := (Below.refl _ _).alloc (Nat.le_refl _) _
          clear hc96 hk0 hrl
          have hbkf : ∀ k, k < n + 1 → bk k < wf.heap.size := fun k hk => (kT.out.row_lt hk).2
          have KBK := Lib.hid hbkf
          clear hbkf
          by_cases hl0 : lst s u d (fun _ => 48) (cs.zip ms) 0 48 = none
          · have hv1 : (v : Int) = 1125899906842624 := by rw [HV.out, hl0]; rfl
            have hbl : bestL s u d (cs.zip ms) = [] := by unfold bestL; rw [if_pos hl0]
            have HBL := Lib.hid hbl
            have HL0 := Lib.hid hl0
            have hlt : ¬ v < 1125899906842624 := by omega
            have hv2 := Lib.hid hv1
            clear hbl hl0 hv1 hvb
            go_wp2_with fail
            go_loopw [16, 20] (fun oo ii wr => ii = .int .i64 0 ∧ oo = .slice (some ⟨wf.heap.size, 0, none⟩) 0 0 ∧ Own wr wf.heap.size (some ⟨wf.heap.size, 0, none⟩) 0 0 [] ∧ Below wf.heap.size wf wr) (fun _ ii _ => 0)
            case atStart => exact ⟨rfl, rfl, oW, bW⟩
            case round =>
              clear oW bW
              obtain ⟨rfl, rfl, oW, bW⟩ := hrel
              go_wp2_with fail
              go_ret2
              rw [HBL.out, ← HV.out]
              exact ⟨_, _, rfl, oW.mono (by have := kW.out.size; omega), bthen kW.out bW kW.out.size⟩
          · have hbl : bestL s u d (cs.zip ms) = plan s u d (fun _ => 48) (cs.zip ms) 0 48 := by unfold bestL; rw [if_neg hl0]
            have HBL := Lib.hid hbl
            have hvlt : v < 1125899906842624 := by
              have h1 := VS_none (hf.lst (fun _ => 48) 0 48)
              have h2 := HV.out
              rw [← h2] at h1
              have h3 : v ≠ 1125899906842624 := fun e => hl0 (h1.1 e)
              omega
            have HL0 := Lib.hid hl0
            have icf : ∀ W', Below wf.heap.size wf W' → Ints W' A n cs := fun W' hW' => ic.below (bthen kW.out hW' kW.out.size)
            have imf : ∀ W', Below wf.heap.size wf W' → Ints W' C n ms := fun W' hW' => im.below (bthen kW.out hW' kW.out.size)
            clear hbl hl0
            go_wp2_with fail
            go_loopw [16, 17, 18, 20] (fun oo ss rr ii wr => ∃ (k : Nat) (A2 : Option Addr) (c2 : Nat) (zs : List Int) (st rn : Int), k ≤ n ∧ ii = .int .i64 k ∧ oo = .slice A2 k c2 ∧ ss = .int .i64 st ∧ rr = .int .i64 rn ∧ Kept (St st rn) ∧ Own wr wf.heap.size A2 k c2 zs ∧ Kept (zs ++ plan s u d (fun _ => 48) ((cs.zip ms).drop k) st rn = plan s u d (fun _ => 48) (cs.zip ms) 0 48) ∧ Kept (lst s u d (fun _ => 48) ((cs.zip ms).drop k) st rn ≠ none) ∧ Below wf.heap.size wf wr) (fun _ _ _ ii _ => n - (intOf ii).toNat)
            case atStart => exact ⟨0, _, _, [], 0, 48, Nat.zero_le _, rfl, rfl, rfl, rfl, ⟨⟨.inl rfl, by omega, by omega⟩⟩, oW, ⟨by simp⟩, ⟨by simpa using HL0.out⟩, bW⟩
            case round =>
              clear oW bW
              obtain ⟨k, A2, c2, zs, st, rn, hk, rfl, rfl, rfl, rfl, kS, hO, kP, kL, hb⟩ := hrel
              by_cases hlt : k < n
              · obtain ⟨c, m, hc, hm, hdr⟩ := zip_at hlc.out hlm.out hlt
                have hfk : Fits s u d ((c, m) :: (cs.zip ms).drop (k + 1)) := by have := hf.drop k; rwa [hdr] at this
                have hstep := plan_next (s := s) (u := u) (d := d) (cp := fun _ => 48) (c := c) (m := m) (l := (cs.zip ms).drop (k + 1)) (on := st) (long := rn) (by rw [← hdr]; exact kL.out)
                rw [← hdr] at hstep
                have hI := icf wr hb
                have hM := imf wr hb
                have kT2 : Kept (Tab wr V.heap.size tb (n + 1) bk row) := ⟨kT.out.belowB hb htl KBK.out⟩
                have hxs : ∀ W', Below wr.heap.size wr W' → Calls Try.prog 70 #[.agg #[.int .i64 s, .int .i64 u, .int .i64 d], .slice A n ca, .slice C n cc, .slice (some ⟨tb, 0, none⟩) (n + 1) tc, .int .i64 k, .int .i64 st, .int .i64 rn, .int .i64 0] W'
                    fun e w' => e = .returned (.int .i64 (VS (stp s u d (fun _ => 48) c m (lst s u d (fun _ => 48) ((cs.zip ms).drop (k + 1))) st rn 0))) ∧ Below W'.heap.size W' w' := fun W' hW' =>
                  step_any (tc := tc) (ca := ca) (cc := cc) W' (hI.below hW') (hM.below hW') hf (kT2.out.below hW') hlt hc hm (kG.out (k + 1) (by omega)) kS.out (.inl rfl)
                have hrow := kG.out k (by omega) st rn kS.out
                obtain ⟨J, hJ⟩ : ∃ J : Nat, (J : Int) = 2 * rn + st := ⟨(2 * rn + st).toNat, by have := kS.out; obtain ⟨h1, h2, h3⟩ := this; omega⟩
                have hJ' := hJ.symm
                have hJt : (2 * rn + st).toNat = J := by omega
                rw [hJt] at hrow
                have hJ0 : (0 : Int) ≤ (J : Int) := by omega
                have hJ1 : (J : Int) < 98 := by have := kS.out; obtain ⟨h1, h2, h3⟩ := this; omega
                obtain ⟨hcJ, _⟩ := kT2.out.num (k := k) (i := J) (by omega) (by omega) hrow
                have hck := kT2.out.cell k (by omega)
                have hbd := VS_bd (hfk.stp (fun _ => 48) st rn 0)
                have hbe := VS_bd ((hf.drop k).lst (fun _ => 48) st rn)
                have hinj := VS_inj (hfk.stp (fun _ => 48) st rn 0) ((hf.drop k).lst (fun _ => 48) st rn)
                generalize VS (stp s u d (fun _ => 48) c m (lst s u d (fun _ => 48) ((cs.zip ms).drop (k + 1))) st rn 0) = a at *
                generalize VS (lst s u d (fun _ => 48) ((cs.zip ms).drop k) st rn) = b at *
                have hsz := hb.size
                have bu := kU.out.belowA hb
                have ul := bu.lt
                have u0 : wr.cell? ⟨w.heap.size, 0, none⟩ = some (.int .i64 s) := bu.cell 0
                have u1 : wr.cell? ⟨w.heap.size, 1, none⟩ = some (.int .i64 u) := bu.cell 1
                have u2 : wr.cell? ⟨w.heap.size, 2, none⟩ = some (.int .i64 d) := bu.cell 2
                have tl := kT2.out.lt (by omega)
                have rl := (kT2.out.row_lt (show k < n + 1 by omega)).2
                have k0 : (0 : Int) ≤ (k : Int) := by omega
                have k1 : (k : Int) < (n : Int) + 1 := by omega
                have KX : Kept _ := ⟨hxs⟩
                have KO : Kept (Own wr wf.heap.size A2 k c2 zs) := ⟨hO⟩
                have KB : Kept (Below wf.heap.size wf wr) := ⟨hb⟩
                have KS : Kept _ := ⟨hstep⟩
                have KI : Kept _ := ⟨hinj⟩
                clear hxs hO hb hstep hinj hI hM hrow hJ hJt hc hm hdr hfk bu
                have kD : Kept (Below wr.heap.size wr wr.drew) := ⟨(Below.refl _ _).drew⟩
                have hr1 : 1 ≤ rn := kS.out.2.1
                have hr2 : rn ≤ 48 := kS.out.2.2
                have hs0 : 0 ≤ st := by have := kS.out.1; omega
                have hs1' : st ≤ 1 := by have := kS.out.1; omega
                have sm1 : IntKind.i64.wrap (2 * rn) = 2 * rn := IntWalk.i64_in _ (by omega)
                have sm2 : IntKind.i64.wrap (2 * rn + st) = (J : Int) := by rw [← hJ']; exact IntWalk.i64_in _ (by omega)
                have sm3 : IntKind.i64.wrap (J : Int) = (J : Int) := IntWalk.i64_in _ (by omega)
                have HIC := Lib.hid icf
                have HIM := Lib.hid imf
                clear icf imf
                go_upto_region 29 with fail
                go_region_held3 (fun w' => w.heap.size < w'.heap.size ∧ tb < w'.heap.size ∧ bk k < w'.heap.size ∧ w'.cell? ⟨w.heap.size, 0, none⟩ = some (.int .i64 s) ∧ w'.cell? ⟨w.heap.size, 1, none⟩ = some (.int .i64 u) ∧ w'.cell? ⟨w.heap.size, 2, none⟩ = some (.int .i64 d) ∧ w'.cell? ⟨tb, k, none⟩ = some (.slice (some ⟨bk k, 0, none⟩) 98 98) ∧ w'.cell? ⟨bk k, J, none⟩ = some (.int .i64 b) ∧ Kept (Below wr.heap.size wr w'))
                  (first | (go_split_ands; refine ⟨by have := hbr.size; omega, by have := hbr.size; omega, by have := hbr.size; omega, ?_, ?_, ?_, ?_, ?_, ⟨bthen (Kept.out ‹Kept (Below wr.heap.size wr _)›) hbr (Kept.out ‹Kept (Below wr.heap.size wr _)›).size⟩⟩ <;> (rw [hbr.cell (by simp; omega)]; assumption)) | go_keep)
                  (first | (go_at_call 70; go_split_ands; refine (KX.out _ (Kept.out ‹Kept (Below wr.heap.size wr _)›)).mono ?_; rintro e wq ⟨rfl, hbr⟩))
                rename_i hh
                obtain ⟨_, _, _, _, _, _, _, _, ⟨hbq⟩⟩ := hh
                have KO2 := KO.out.below hbq
                have hbf : Below wf.heap.size wf wq := bthen KB.out hbq KB.out.size
                obtain ⟨A, hA⟩ : ∃ A : Int, (if rn + 1 < 48 then rn + 1 else 48) = A := ⟨_, rfl⟩
                have hsq := hbf.size
                obtain ⟨x, hx, hp, hl⟩ : ∃ x : Int, (x = 0 ∧ (a != b) = false ∨ x = 1 ∧ (a != b) = true) ∧ plan s u d (fun _ => 48) ((cs.zip ms).drop k) st rn = x :: plan s u d (fun _ => 48) ((cs.zip ms).drop (k + 1)) x (nxt (fun _ => 48) st rn x) ∧ lst s u d (fun _ => 48) ((cs.zip ms).drop (k + 1)) x (nxt (fun _ => 48) st rn x) ≠ none := by
                  rcases KS.out with ⟨h1, h2, h3⟩ | ⟨h1, _, h2, h3⟩
                  · exact ⟨0, .inl ⟨rfl, by simp [KI.out.2 h1]⟩, h2, h3⟩
                  · exact ⟨1, .inr ⟨rfl, by
                      have h4 : a ≠ b := fun e => h1 (KI.out.1 e)
                      simp [h4]⟩, h2, h3⟩
                have hS2 := kS.out.nxt48 (x := x) (by rcases hx with ⟨h, _⟩ | ⟨h, _⟩ <;> simp [h])
                have hnx : nxt (fun _ => 48) st rn x = if x = st then A else 1 := by
                  rw [← hA]
                  unfold nxt
                  dsimp only
                  split
                  · split <;> omega
                  · rfl
                rw [hnx] at hp hl hS2
                have hall : zs ++ [x] ++ plan s u d (fun _ => 48) ((cs.zip ms).drop (k + 1)) x (if x = st then A else 1) = plan s u d (fun _ => 48) (cs.zip ms) 0 48 := by
                  rw [← kP.out, hp, List.append_assoc]
                  rfl
                have kA : Kept _ := ⟨hall⟩
                have kL2 : Kept _ := ⟨hl⟩
                have kS2 : Kept _ := ⟨hS2⟩
                have kO2 : Kept (Own wq wf.heap.size A2 k c2 zs) := ⟨KO2⟩
                have kbf : Kept (Below wf.heap.size wf wq) := ⟨hbf⟩
                have hst01 : st = 0 ∨ st = 1 := by omega
                clear hall hl hS2 hp hnx KO2 hbf hbq KX KI KS kD kS kP kL KB KO hcJ hck u0 u1 u2 sm1 sm2 sm3 hJ'
                rcases hx with ⟨rfl, hne⟩ | ⟨rfl, hne⟩
                all_goals
                  rcases hst01 with rfl | rfl
                  all_goals
                    go_wp2_with (at_builtin; refine wpList_push wq rfl _ _ rfl wf.heap.size _ _ _ _ _ rfl rfl kO2.out (WalkArith.wf_i64 (by omega)) (by omega) hsq ?_; intro g c3 w3 hown3 hb3 _ _)
                    have e1 := kS2.out
                    have e2 := kA.out
                    have e3 := kL2.out
                    simp only [Int.reduceEq, if_true, if_false] at e1 e2 e3
                    exact ⟨⟨_, _, _, _, ⟨k + 1, by omega, rfl, some ⟨g, 0, none⟩, c3, rfl, _, _, rfl, _, rfl, ⟨e1⟩, hown3, ⟨e2⟩, ⟨e3⟩, kbf.out.trans hb3⟩, rfl, rfl, rfl, by go_num⟩, by simp [intOf]; omega⟩
              · obtain rfl : k = n := by omega
                go_wp2_with fail
                go_ret2
                have hend : (cs.zip ms).drop k = [] := List.drop_eq_nil_of_le (by rw [List.length_zip, hlc.out, hlm.out]; omega)
                have hz := kP.out
                rw [hend, plan, List.append_nil] at hz
                subst hz
                rw [HBL.out, ← HV.out]
                have hl := hO.len
                rw [hl]
                exact ⟨_, _, rfl, hO.mono (by have := kW.out.size; omega), bthen kW.out hb kW.out.size⟩
end Go.Proofs.Ytiofjnohdmminaa
