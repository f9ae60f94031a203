/- What IsNetwork of the reference does, by a walk over its text. No condition but that the numbers fit their kind. -/
import Derived.Test.YthlencpbekjekaaNetIs2
set_option linter.unusedVariables false
set_option maxRecDepth 100000
namespace Go.Proofs.Ythlencpbekjekaa
open Go.ChangeShapes Go.WideShapes Go.ChangeAt Go.RowKit Go.Joins Go.Deep
attribute [local go_sem ↓] Go.wp_at_zero Go.wp_at_succ

set_option maxHeartbeats 2000000 in
theorem sIsNet_any (A B : Option Addr) (n c m d : Nat) (ns : List Nd) (ps : List Pp) (w : World) (h : Nodes w A n ns) (hP : Pipes w B m ps) (hn : n ≤ maxLen) (hm : m ≤ maxLen) :
    Calls Try.prog 44 #[.agg #[.slice A n c, .slice B m d]] w (RetEq w (NetOk ns ps)) := by
  unfold maxLen at hn hm
  have hl := Lib.hid h.len
  have hlp := Lib.hid hP.len
  have hb0 : ∀ cs t, Below w.heap.size w (w.alloc (.cells cs t)) := fun cs t => (Below.refl _ _).alloc (Nat.le_refl _) _
  rcases (orP (orP (orP trivial)) : ¬ 1 ≤ (n : Int) ∨ 1 ≤ (n : Int) ∧ (¬ (n : Int) ≤ 24 ∨ (n : Int) ≤ 24 ∧ (¬ (m : Int) ≤ 40 ∨ (m : Int) ≤ 40 ∧ True))) with h0 | ⟨h0, h1 | ⟨h1, h2 | ⟨h2, _⟩⟩⟩
  case inr.inr.inr =>
    have hn24 : 1 ≤ n ∧ n ≤ 24 := by omega
    have hm40 : m ≤ 40 := by omega
    go_enter Try.func44, Try.ntmps44
    go_wp2_with fail
    have q0 : (w.alloc (.cells #[.slice A n c, .slice B m d] 36)).cell? ⟨w.heap.size, 0, none⟩ = some (.slice A n c) := by simp
    have q1 : (w.alloc (.cells #[.slice A n c, .slice B m d] 36)).cell? ⟨w.heap.size, 1, none⟩ = some (.slice B m d) := by simp
    have hI := h.alloc (.cells #[.slice A n c, .slice B m d] 36)
    have kI := hP.alloc (.cells #[.slice A n c, .slice B m d] 36)
    have hw0 := hb0 #[.slice A n c, .slice B m d] 36
    have hsz : (w.alloc (.cells #[.slice A n c, .slice B m d] 36)).heap.size = w.heap.size + 1 := by simp
    generalize w.alloc (.cells #[.slice A n c, .slice B m d] 36) = W at *
    have hszl : w.heap.size < W.heap.size := by omega
    clear hsz
    go_loopw [3] (fun ii wr => ∃ k : Nat, k ≤ n ∧ ii = .int .i64 k ∧ Hid (okTo ns k) ∧ Below W.heap.size W wr) (fun ii _ => n - (intOf ii).toNat)
    case atStart => exact ⟨0, Nat.zero_le _, rfl, (fun i x hi => absurd hi (by omega)), Below.refl _ _⟩
    case round =>
      obtain ⟨k, hk, rfl, HP, hb⟩ := hrel
      have hx' := (hb.cell (p := ⟨w.heap.size, 0, none⟩) hszl).trans q0
      have hx1 := (hb.cell (p := ⟨w.heap.size, 1, none⟩) hszl).trans q1
      by_cases hlt : k < n
      · obtain ⟨b, o, f, rfl, hbl, hf, hok, hc0, hc1, hc2⟩ := (hI.below hb).at_ hlt
        have HF := Lib.hid hf
        clear hf
        go_wp2_with fail
        refine (sIsNode_any f _ hok.1).mono ?_
        rintro e w1 ⟨rfl, hb1⟩
        have hb' := bthen hb hb1 hb.size
        cases hfg : nodeB f
        · have HE := Lib.hid hfg
          clear hfg
          go_wp2_with fail
          go_ret
          exact not_net (p := True) (fun hh => absurd (hh.2.2.2.1 k f (by have := hl.out; omega) HF.out).1 (by simp [HE.out])) (bthen hw0 hb' hw0.size)
        have HE := Lib.hid hfg
        clear hfg hx' hx1 hc0 hc1 hc2
        go_wp2_with fail
        go_loopw [4] (fun jj wr => ∃ j : Nat, j ≤ k ∧ jj = .int .i64 j ∧ Hid (∀ (i : Nat) (y : Nd), i < j → ns[i]? = some y → y.nm ≠ f.nm) ∧ Below W.heap.size W wr) (fun jj _ => k - (intOf jj).toNat)
        case atStart => exact ⟨0, Nat.zero_le _, rfl, (fun i x hi => absurd hi (by omega)), hb'⟩
        case round =>
          obtain ⟨j, hj, rfl, HJ, hbj⟩ := hrel
          have hx' := (hbj.cell (p := ⟨w.heap.size, 0, none⟩) hszl).trans q0
          by_cases hlt2 : j < k
          · obtain ⟨b1, o1, f1, he1, hbl1, hf1, _, hc0, _, _⟩ := (hI.below hbj).at_ hlt
            obtain ⟨b2, o2, g, he2, hbl2, hg, _, hc2, _, _⟩ := (hI.below hbj).at_ (show j < n by omega)
            obtain ⟨rfl, rfl⟩ : b = b1 ∧ o = o1 := by injection he1 with he1; injection he1 with h1 h2; exact ⟨h1, h2⟩
            obtain ⟨rfl, rfl⟩ : b = b2 ∧ o = o2 := by injection he2 with he2; injection he2 with h1 h2; exact ⟨h1, h2⟩
            obtain rfl : f = f1 := Option.some.inj (HF.out.symm.trans hf1)
            have HG := Lib.hid hg
            have k0 : (0 : Int) ≤ (k : Int) := by omega
            have k1 : (k : Int) < (n : Int) := by omega
            have j0 : (0 : Int) ≤ (j : Int) := by omega
            have j1 : (j : Int) < (n : Int) := by omega
            clear he1 he2 hf1 hg
            cases hE : (f.nm.toList == g.nm.toList)
            all_goals
              have HE2 := Lib.hid hE
              go_wp2_with fail
              go_quiet (fail)
              go_wp2_with fail
            · go_roundw
              case rel => exact ⟨j + 1, by omega, by go_num, nx_step HJ.out HG.out (Ne.symm (str_ne HE2.out)), below_drewN hbj _⟩
              case measure => simp [intOf]; omega
            · go_ret
              exact not_net (p := True) (fun hh => (hh.2.2.2.1 k f (by have := hl.out; omega) HF.out).2 j g hlt2 HG.out (str_eq HE2.out).symm) (bthen hw0 (below_drewN hbj _) hw0.size)
          · obtain rfl : j = k := by omega
            go_wp2_with fail
            go_roundw
            case rel => exact ⟨j + 1, by omega, by go_num, okTo_step HP.out HF.out HE.out HJ.out, hbj⟩
            case measure => simp [intOf]; omega
      · obtain rfl : k = n := by omega
        have HK := Lib.hid HP.out
        clear HP
        go_wp2_with fail
        have hbw := hb
        go_loopw [5] (fun ii wr => ∃ k : Nat, k ≤ m ∧ ii = .int .i64 k ∧ Hid (∀ p ∈ ps.take k, pipeB ns.length p = true) ∧ Below W.heap.size W wr) (fun ii _ => m - (intOf ii).toNat)
        case atStart => exact ⟨0, Nat.zero_le _, rfl, (fun p hp => absurd hp (by simp)), hbw⟩
        case round =>
          obtain ⟨j, hj, rfl, HP, hb⟩ := hrel
          have hx' := (hb.cell (p := ⟨w.heap.size, 0, none⟩) hszl).trans q0
          have hx1 := (hb.cell (p := ⟨w.heap.size, 1, none⟩) hszl).trans q1
          have hwr := Nat.lt_of_lt_of_le hszl hb.size
          by_cases hlt : j < m
          · obtain ⟨b, o, f, rfl, hbl, hf, hok, hc0, hc1, hc2, hc3, hc4⟩ := (kI.below hb).at_ hlt
            have HF := Lib.hid hf
            clear hf
            have kV : Kept (Below W.heap.size W wr.drew) := ⟨hb.drew⟩
            have j0 : (0 : Int) ≤ (j : Int) := by omega
            have j1 : (j : Int) < (m : Int) := by omega
            cases hfg : pipeB k f
            all_goals
              have HE := Lib.hid hfg
              go_wp2_with fail
              go_region_held3 (fun w' => w.heap.size < w'.heap.size ∧ b < w'.heap.size ∧ w'.cell? ⟨w.heap.size, 0, none⟩ = some (.slice A k c) ∧ w'.cell? ⟨w.heap.size, 1, none⟩ = some (.slice (some ⟨b, o, none⟩) m d) ∧ w'.cell? ⟨b, o + j * 5, none⟩ = some (.int .i64 f.fr) ∧ w'.cell? ⟨b, o + j * 5 + 1, none⟩ = some (.int .i64 f.to) ∧ w'.cell? ⟨b, o + j * 5 + 2, none⟩ = some (.int .i64 f.k) ∧ w'.cell? ⟨b, o + j * 5 + 3, none⟩ = some (.int .i64 f.v) ∧ w'.cell? ⟨b, o + j * 5 + 4, none⟩ = some (.int .i64 f.l) ∧ Kept (Below W.heap.size W w'))
                (first | go_keep | (go_split_ands; refine ⟨by have := hb2.size; omega, by have := hb2.size; omega, ?_, ?_, ?_, ?_, ?_, ?_, ?_, ⟨bthen (Kept.out ‹Kept (Below _ _ _)›) hb2 (Kept.out ‹Kept (Below _ _ _)›).size⟩⟩ <;> (rw [hb2.cell (by simp; omega)]; assumption)))
                (first | (go_at_call 52; refine (sPipe_any f _ _ (by omega) (by unfold maxLen; omega)).mono ?_; rintro e w2 ⟨rfl, hb2⟩))
              go_wp2_with fail
              rename_i hh
              obtain ⟨_, _, _, _, _, _, _, _, _, ⟨hbn⟩⟩ := hh
            · go_ret
              exact not_net (p := True) (fun hh => absurd (hh.2.2.2.2 f (List.mem_of_getElem? HF.out)) (by rw [hl.out, HE.out]; simp)) (bthen hw0 hbn hw0.size)
            · go_roundw
              case rel => exact ⟨j + 1, by omega, by go_num, pall_step HP.out HF.out (by rw [hl.out]; exact HE.out), hbn⟩
              case measure => simp [intOf]; omega
          · go_wp2_with fail
            go_ret
            exact ⟨true, ⟨fun _ => ⟨by have := hl.out; omega, by have := hl.out; omega, by have := hlp.out; omega, by rw [hl.out]; exact HK.out, fun p hp => HP.out p (by rwa [List.take_of_length_le (by have := hlp.out; omega)])⟩, fun _ => rfl⟩, rfl, bthen hw0 hb hw0.size⟩
  all_goals
    have H := Lib.hid (show ¬ NetOk ns ps from fun hh => by have := hh.1; have := hh.2.1; have := hh.2.2.1; have := hl.out; have := hlp.out; omega)
    go_enter Try.func44, Try.ntmps44
    go_wp2_with fail
    go_ret
    exact not_net (p := True) H.out (hb0 _ _)
end Go.Proofs.Ythlencpbekjekaa
