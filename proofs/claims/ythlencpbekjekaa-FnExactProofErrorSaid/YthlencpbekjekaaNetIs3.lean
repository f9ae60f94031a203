/- What IsNetwork of the program does, by a walk over its text. No condition but that the numbers fit their kind. -/
import Derived.Test.YthlencpbekjekaaNetIs2
import Derived.Deep.RegionWith
set_option linter.unusedVariables false
set_option maxRecDepth 100000
namespace Go.Proofs.Ythlencpbekjekaa
open Go.ChangeShapes Go.WideShapes Go.ChangeAt Go.RowKit Go.Joins Go.Deep
attribute [local go_sem ↓] Go.wp_at_zero Go.wp_at_succ

set_option maxHeartbeats 1000000 in
theorem isNet_any (A B : Option Addr) (n c m d : Nat) (ns : List Nd) (ps : List Pp) (w : World) (h : Nodes w A n ns) (k : Pipes w B m ps) (hn : n ≤ c ∧ c ≤ maxLen) (hm : m ≤ maxLen) :
    Calls Try.prog 48 #[.agg #[.slice A n c, .slice B m d]] w (RetEq w (NetOk ns ps)) := by
  unfold maxLen at hn hm
  have hl := Lib.hid h.len
  have hlp := Lib.hid k.len
  have hb0 : ∀ cs t, Below w.heap.size w (w.alloc (.cells cs t)) := fun cs t => (Below.refl _ _).alloc (Nat.le_refl _) _
  rcases (orB (orP trivial) : inB n 1 24 = false ∨ inB n 1 24 = true ∧ (¬ (m : Int) ≤ 40 ∨ (m : Int) ≤ 40 ∧ True)) with h1 | ⟨h1, h2 | ⟨h2, _⟩⟩
  · have H := Lib.hid (show ¬ NetOk ns ps from fun hh => (inB_no _ _ _).1 h1 (by have := hh.1; have := hh.2.1; have := hl.out; omega))
    go_enter Try.func48, Try.ntmps48
    go_wp2_with (go_at_call 40; refine (within_any _ _ _ _).mono ?_; rintro e w' ⟨rfl, rfl⟩)
    go_ret
    exact not_net (p := True) H.out (hb0 _ _)
  · have H := Lib.hid (show ¬ NetOk ns ps from fun hh => h2 (by have := hh.2.2.1; have := hlp.out; omega))
    go_enter Try.func48, Try.ntmps48
    go_wp2_with (go_at_call 40; refine (within_any _ _ _ _).mono ?_; rintro e w' ⟨rfl, rfl⟩)
    go_ret
    exact not_net (p := True) H.out (hb0 _ _)
  have hn24 : 1 ≤ n ∧ n ≤ 24 := by have := (inB_iff _ _ _).1 h1; omega
  have hm40 : m ≤ 40 := by omega
  go_enter Try.func48, Try.ntmps48
  go_wp2_with (go_at_call 40; refine (within_any _ _ _ _).mono ?_; rintro e w' ⟨rfl, rfl⟩)
  have q0 : (w.alloc (.cells #[.slice A n c, .slice B m d] 36)).cell? ⟨w.heap.size, 0, none⟩ = some (.slice A n c) := by simp
  have q1 : (w.alloc (.cells #[.slice A n c, .slice B m d] 36)).cell? ⟨w.heap.size, 1, none⟩ = some (.slice B m d) := by simp
  have hI := h.alloc (.cells #[.slice A n c, .slice B m d] 36)
  have kI := k.alloc (.cells #[.slice A n c, .slice B m d] 36)
  have hw0 := hb0 #[.slice A n c, .slice B m d] 36
  have hsz : (w.alloc (.cells #[.slice A n c, .slice B m d] 36)).heap.size = w.heap.size + 1 := by simp
  generalize w.alloc (.cells #[.slice A n c, .slice B m d] 36) = W at *
  have hszl : w.heap.size < W.heap.size := by omega
  clear hsz
  go_loopw [21] (fun ii wr => ∃ k : Nat, k ≤ n ∧ ii = .int .i64 k ∧ Hid (okTo ns k) ∧ Below W.heap.size W wr) (fun ii _ => n - (intOf ii).toNat)
  case atStart => exact ⟨0, Nat.zero_le _, rfl, (fun i x hi => absurd hi (by omega)), Below.refl _ _⟩
  case round =>
    obtain ⟨k, hk, rfl, HP, hb⟩ := hrel
    have hx' := (hb.cell (p := ⟨w.heap.size, 0, none⟩) hszl).trans q0
    have hx1 := (hb.cell (p := ⟨w.heap.size, 1, none⟩) hszl).trans q1
    by_cases hlt : k < n
    · obtain ⟨b, o, f, rfl, hbl, hf, hok, hc0, hc1, hc2⟩ := (hI.below hb).at_ hlt
      have HF := Lib.hid hf
      clear hf
      go_wp2_with fail
      have v0 : (wr.alloc (.cells #[.string f.nm, .int .i64 f.lo, .int .i64 f.hi] 67)).cell? ⟨wr.heap.size, 0, none⟩ = some (.string f.nm) := by simp
      have v1 : (wr.alloc (.cells #[.string f.nm, .int .i64 f.lo, .int .i64 f.hi] 67)).cell? ⟨wr.heap.size, 1, none⟩ = some (.int .i64 f.lo) := by simp
      have v2 : (wr.alloc (.cells #[.string f.nm, .int .i64 f.lo, .int .i64 f.hi] 67)).cell? ⟨wr.heap.size, 2, none⟩ = some (.int .i64 f.hi) := by simp
      have v3 : wr.heap.size < (wr.alloc (.cells #[.string f.nm, .int .i64 f.lo, .int .i64 f.hi] 67)).heap.size := by simp
      have hbV := hb.alloc hb.size (.cells #[.string f.nm, .int .i64 f.lo, .int .i64 f.hi] 67)
      generalize wr.alloc (.cells #[.string f.nm, .int .i64 f.lo, .int .i64 f.hi] 67) = V at *
      have v4 := (hbV.cell (p := ⟨w.heap.size, 0, none⟩) hszl).trans q0
      have hwr := Nat.lt_of_lt_of_le hszl hb.size
      have kV : Kept (Below W.heap.size W V.drew) := ⟨hbV.drew⟩
      have k0 : (0 : Int) ≤ (k : Int) := by omega
      have k1 : (k : Int) ≤ (c : Int) := by omega
      have kc : k ≤ c := by omega
      clear hbV hx' hx1 hc0 hc1 hc2
      cases hfg : nodeB f
      · have HE := Lib.hid hfg
        refine wp_region_held_drew (S := (fun w' => wr.heap.size < w'.heap.size ∧ w'.cell? ⟨wr.heap.size, 0, none⟩ = some (.string f.nm) ∧ w'.cell? ⟨wr.heap.size, 1, none⟩ = some (.int .i64 f.lo) ∧ w'.cell? ⟨wr.heap.size, 2, none⟩ = some (.int .i64 f.hi) ∧ Kept (Below W.heap.size W w'))) (by kernel_rfl) ?_ (fun hHeld => ?_)
        · go_keep
        refine wpAnyH_take (i := 0) (oi := ⟨some 26, _, _, _, _, _⟩) (v := .agg #[.string f.nm, .int .i64 f.lo, .int .i64 f.hi]) rfl (by kernel_rfl) (by kernel_rfl) (by kernel_rfl) (fun _ _ _ h => h) (Or.inl ⟨by rfl, by intro w hSw; (try dsimp only at hSw); go_simp⟩) (by assumption) ?_
        simp only [Act.put, List.setIfInBounds_toArray, List.set_cons_zero, List.set_cons_succ]
        refine wpAnyH_ready (rs := [1]) (by kernel_rfl) (by simp) ?_
        refine AllReadyH.cons rfl (fun K hK => ?_) AllReadyH.nil
        go_simp
        refine (isNode_any f _ hok.1).mono ?_
        rintro e w2 ⟨rfl, hb2⟩
        go_wp2_with fail
        refine hK.out _ _ ?_ (fun hHeld2 => ?_)
        · (go_split_ands; refine ⟨by have := hb2.size; omega, ?_, ?_, ?_, ⟨bthen (Kept.out ‹Kept (Below _ _ _)›) hb2 (Kept.out ‹Kept (Below _ _ _)›).size⟩⟩ <;> (rw [hb2.cell (by simp; omega)]; assumption))
        clear hK K
        refine wpAnyH_take (i := 2) (oi := ⟨some 28, _, _, _, _, _⟩) (v := .bool true) rfl (by kernel_rfl) (by kernel_rfl) (by kernel_rfl) (fun _ _ _ h => h) (Or.inl ⟨by rfl, by intro w hSw; (try dsimp only at hSw); go_simp⟩) (by assumption) ?_
        simp only [Act.put, List.setIfInBounds_toArray, List.set_cons_zero, List.set_cons_succ]
        refine wpAnyH_take (i := 3) (oi := ⟨some 29, _, _, _, _, _⟩) (v := .bool true) rfl (by kernel_rfl) (by kernel_rfl) (by kernel_rfl) (fun _ _ _ h => h) (Or.inl ⟨by rfl, by intro w hSw; (try dsimp only at hSw); go_simp⟩) (by assumption) ?_
        simp only [Act.put, List.setIfInBounds_toArray, List.set_cons_zero, List.set_cons_succ]
        refine wpAnyH_take (i := 4) (oi := ⟨some 30, _, _, _, _, _⟩) (v := undef) rfl (by kernel_rfl) (by kernel_rfl) (by kernel_rfl) (fun _ _ _ h => h) (Or.inr ⟨by rfl, rfl⟩) (by assumption) ?_
        simp only [Act.put, List.setIfInBounds_toArray, List.set_cons_zero, List.set_cons_succ]
        refine wpAnyH_take (i := 5) (oi := ⟨some 31, _, _, _, _, _⟩) (v := undef) rfl (by kernel_rfl) (by kernel_rfl) (by kernel_rfl) (fun _ _ _ h => h) (Or.inr ⟨by rfl, rfl⟩) (by assumption) ?_
        simp only [Act.put, List.setIfInBounds_toArray, List.set_cons_zero, List.set_cons_succ]
        refine wpAnyH_take (i := 6) (oi := ⟨some 32, _, _, _, _, _⟩) (v := undef) rfl (by kernel_rfl) (by kernel_rfl) (by kernel_rfl) (fun _ _ _ h => h) (Or.inr ⟨by rfl, rfl⟩) (by assumption) ?_
        simp only [Act.put, List.setIfInBounds_toArray, List.set_cons_zero, List.set_cons_succ]
        refine wpAnyH_take (i := 7) (oi := ⟨some 33, _, _, _, _, _⟩) (v := undef) rfl (by kernel_rfl) (by kernel_rfl) (by kernel_rfl) (fun _ _ _ h => h) (Or.inr ⟨by rfl, rfl⟩) (by assumption) ?_
        simp only [Act.put, List.setIfInBounds_toArray, List.set_cons_zero, List.set_cons_succ]
        refine wpAnyH_take (i := 8) (oi := ⟨some 34, _, _, _, _, _⟩) (v := undef) rfl (by kernel_rfl) (by kernel_rfl) (by kernel_rfl) (fun _ _ _ h => h) (Or.inr ⟨by rfl, rfl⟩) (by assumption) ?_
        simp only [Act.put, List.setIfInBounds_toArray, List.set_cons_zero, List.set_cons_succ]
        refine wpAnyH_take (i := 9) (oi := ⟨some 35, _, _, _, _, _⟩) (v := undef) rfl (by kernel_rfl) (by kernel_rfl) (by kernel_rfl) (fun _ _ _ h => h) (Or.inr ⟨by rfl, rfl⟩) (by assumption) ?_
        simp only [Act.put, List.setIfInBounds_toArray, List.set_cons_zero, List.set_cons_succ]
        refine wpAnyH_take (i := 10) (oi := ⟨some 36, _, _, _, _, _⟩) (v := undef) rfl (by kernel_rfl) (by kernel_rfl) (by kernel_rfl) (fun _ _ _ h => h) (Or.inr ⟨by rfl, rfl⟩) (by assumption) ?_
        simp only [Act.put, List.setIfInBounds_toArray, List.set_cons_zero, List.set_cons_succ]
        refine wpAnyH_take (i := 11) (oi := ⟨some 37, _, _, _, _, _⟩) (v := undef) rfl (by kernel_rfl) (by kernel_rfl) (by kernel_rfl) (fun _ _ _ h => h) (Or.inr ⟨by rfl, rfl⟩) (by assumption) ?_
        simp only [Act.put, List.setIfInBounds_toArray, List.set_cons_zero, List.set_cons_succ]
        refine wpAnyH_take (i := 12) (oi := ⟨some 38, _, _, _, _, _⟩) (v := undef) rfl (by kernel_rfl) (by kernel_rfl) (by kernel_rfl) (fun _ _ _ h => h) (Or.inr ⟨by rfl, rfl⟩) (by assumption) ?_
        simp only [Act.put, List.setIfInBounds_toArray, List.set_cons_zero, List.set_cons_succ]
        refine wpAnyH_take (i := 13) (oi := ⟨some 39, _, _, _, _, _⟩) (v := .bool true) rfl (by kernel_rfl) (by kernel_rfl) (by kernel_rfl) (fun _ _ _ h => h) (Or.inl ⟨by rfl, by intro w hSw; (try dsimp only at hSw); go_simp⟩) (by assumption) ?_
        simp only [Act.put, List.setIfInBounds_toArray, List.set_cons_zero, List.set_cons_succ]
        refine wpAnyH_done (by kernel_rfl) ?_ _
        go_wp2_with fail
        go_ret
        exact not_net (p := True) (fun hh => absurd (hh.2.2.2.1 k f (by have := hl.out; omega) HF.out).1 (by simp [HE.out])) (bthen hw0 hHeld2.2.2.2.2.out hw0.size)
      · have HE := Lib.hid hfg
        go_region_held3 (fun w' => wr.heap.size < w'.heap.size ∧ w'.cell? ⟨wr.heap.size, 0, none⟩ = some (.string f.nm) ∧ w'.cell? ⟨wr.heap.size, 1, none⟩ = some (.int .i64 f.lo) ∧ w'.cell? ⟨wr.heap.size, 2, none⟩ = some (.int .i64 f.hi) ∧ w'.cell? ⟨w.heap.size, 0, none⟩ = some (.slice (some ⟨b, o, none⟩) n c) ∧ Kept (Below W.heap.size W w'))
          (first | go_keep | (go_split_ands; refine ⟨by have := hb2.size; omega, ?_, ?_, ?_, ?_, ⟨bthen (Kept.out ‹Kept (Below _ _ _)›) hb2 (Kept.out ‹Kept (Below _ _ _)›).size⟩⟩ <;> (rw [hb2.cell (by simp; omega)]; assumption)))
          (first | (go_at_call 54; refine (isNode_any f _ hok.1).mono ?_; rintro e w2 ⟨rfl, hb2⟩) | (go_at_call 55; go_split_ands; refine (nodeIndex_any _ none k c 0 0 (ns.take k) f.nm _ ((hI.below (Kept.out ‹Kept (Below _ _ _)›)).take_ hk) (by unfold maxLen; omega)).mono ?_; rintro e w3 ⟨r, rfl, hr, hb2⟩))
        rename_i hh
        obtain ⟨_, _, _, _, _, ⟨hbn⟩⟩ := hh
        rcases nodeAt_take hr with ⟨r0, hd⟩ | ⟨r0, j, y, hj, hy, hs⟩
        · have HD := Lib.hid hd
          clear hr hd
          go_wp2_with fail
          go_roundw
          case rel => exact ⟨k + 1, by omega, by go_num, okTo_step HP.out HF.out HE.out HD.out, hbn⟩
          case measure => simp [intOf]; omega
        · have HY := Lib.hid hy
          have HS := Lib.hid hs
          clear hr hy hs
          go_wp2_with fail
          go_ret
          exact not_net (p := True) (fun hh => (hh.2.2.2.1 k f (by have := hl.out; omega) HF.out).2 j y hj HY.out HS.out) (bthen hw0 hbn hw0.size)
    · obtain rfl : k = n := by omega
      have HK := Lib.hid HP.out
      clear HP
      go_wp2_with fail
      have hbw := hb
      go_loopw [44] (fun ii wr => ∃ k : Nat, k ≤ m ∧ ii = .int .i64 k ∧ Hid (∀ p ∈ ps.take k, pipeB ns.length p = true) ∧ Below W.heap.size W wr) (fun ii _ => m - (intOf ii).toNat)
      case atStart => exact ⟨0, Nat.zero_le _, rfl, (fun p hp => absurd hp (by simp)), hbw⟩
      case round =>
        obtain ⟨j, hj, rfl, HP, hb⟩ := hrel
        have hx' := (hb.cell (p := ⟨w.heap.size, 0, none⟩) hszl).trans q0
        have hx1 := (hb.cell (p := ⟨w.heap.size, 1, none⟩) hszl).trans q1
        by_cases hlt : j < m
        · obtain ⟨b, o, f, rfl, hbl, hf, hok, hc0, hc1, hc2, hc3, hc4⟩ := (kI.below hb).at_ hlt
          have HF := Lib.hid hf
          clear hf
          have hwr := Nat.lt_of_lt_of_le hszl hb.size
          have hb2 := hb.alloc hb.size (.cells #[.int .i64 f.fr, .int .i64 f.to, .int .i64 f.k, .int .i64 f.v, .int .i64 f.l] 65)
          go_wp2_with fail
          have v0 : (wr.alloc (.cells #[.int .i64 f.fr, .int .i64 f.to, .int .i64 f.k, .int .i64 f.v, .int .i64 f.l] 65)).cell? ⟨wr.heap.size, 0, none⟩ = some (.int .i64 f.fr) := by simp
          have v1 : (wr.alloc (.cells #[.int .i64 f.fr, .int .i64 f.to, .int .i64 f.k, .int .i64 f.v, .int .i64 f.l] 65)).cell? ⟨wr.heap.size, 1, none⟩ = some (.int .i64 f.to) := by simp
          have v2 : (wr.alloc (.cells #[.int .i64 f.fr, .int .i64 f.to, .int .i64 f.k, .int .i64 f.v, .int .i64 f.l] 65)).cell? ⟨wr.heap.size, 2, none⟩ = some (.int .i64 f.k) := by simp
          have v3 : (wr.alloc (.cells #[.int .i64 f.fr, .int .i64 f.to, .int .i64 f.k, .int .i64 f.v, .int .i64 f.l] 65)).cell? ⟨wr.heap.size, 3, none⟩ = some (.int .i64 f.v) := by simp
          have v4 : (wr.alloc (.cells #[.int .i64 f.fr, .int .i64 f.to, .int .i64 f.k, .int .i64 f.v, .int .i64 f.l] 65)).cell? ⟨wr.heap.size, 4, none⟩ = some (.int .i64 f.l) := by simp
          have v5 : wr.heap.size < (wr.alloc (.cells #[.int .i64 f.fr, .int .i64 f.to, .int .i64 f.k, .int .i64 f.v, .int .i64 f.l] 65)).heap.size := by simp
          generalize wr.alloc (.cells #[.int .i64 f.fr, .int .i64 f.to, .int .i64 f.k, .int .i64 f.v, .int .i64 f.l] 65) = V at *
          have qa := (hb2.cell (p := ⟨w.heap.size, 0, none⟩) hszl).trans q0
          have qb := (hb2.cell (p := ⟨w.heap.size, 1, none⟩) hszl).trans q1
          clear hx' hx1 hc0 hc1 hc2 hc3 hc4
          refine (isNodeOf_any _ _ _ _ _ _ _ _ (by unfold maxLen; omega)).mono ?_
          rintro e w2 ⟨rfl, hb3⟩
          have hb4 := bthen hb2 hb3 hb2.size
          have x0 : w2.cell? ⟨wr.heap.size, 0, none⟩ = some (.int .i64 f.fr) := (hb3.cell (by first | assumption | (simp; omega))).trans v0
          have x1 : w2.cell? ⟨wr.heap.size, 1, none⟩ = some (.int .i64 f.to) := (hb3.cell (by first | assumption | (simp; omega))).trans v1
          have x2 : w2.cell? ⟨wr.heap.size, 2, none⟩ = some (.int .i64 f.k) := (hb3.cell (by first | assumption | (simp; omega))).trans v2
          have x3 : w2.cell? ⟨wr.heap.size, 3, none⟩ = some (.int .i64 f.v) := (hb3.cell (by first | assumption | (simp; omega))).trans v3
          have x4 : w2.cell? ⟨wr.heap.size, 4, none⟩ = some (.int .i64 f.l) := (hb3.cell (by first | assumption | (simp; omega))).trans v4
          have x5 := Nat.lt_of_lt_of_le v5 hb3.size
          have xa := (hb4.cell (p := ⟨w.heap.size, 0, none⟩) hszl).trans q0
          have xb := (hb4.cell (p := ⟨w.heap.size, 1, none⟩) hszl).trans q1
          clear v0 v1 v2 v3 v4 v5 qa qb hb2 hb3
          rcases pipe_ways2 _ f with ⟨t1, tf⟩ | ⟨t1, H⟩
          · have TF := Lib.hid tf
            clear tf
            rw [t1]
            go_wp2_with fail
            go_ret
            exact not_net (p := True) (fun hh => absurd (hh.2.2.2.2 f (List.mem_of_getElem? HF.out)) (by rw [hl.out, TF.out]; simp)) (bthen hw0 hb4 hw0.size)
          rw [t1]
          go_wp2_with fail
          refine (isNodeOf_any _ _ _ _ _ _ _ _ (by unfold maxLen; omega)).mono ?_
          rintro e w3 ⟨rfl, hb5⟩
          have hb6 := bthen hb4 hb5 hb4.size
          have y0 : w3.cell? ⟨wr.heap.size, 0, none⟩ = some (.int .i64 f.fr) := (hb5.cell (by first | assumption | (simp; omega))).trans x0
          have y1 : w3.cell? ⟨wr.heap.size, 1, none⟩ = some (.int .i64 f.to) := (hb5.cell (by first | assumption | (simp; omega))).trans x1
          have y2 : w3.cell? ⟨wr.heap.size, 2, none⟩ = some (.int .i64 f.k) := (hb5.cell (by first | assumption | (simp; omega))).trans x2
          have y3 : w3.cell? ⟨wr.heap.size, 3, none⟩ = some (.int .i64 f.v) := (hb5.cell (by first | assumption | (simp; omega))).trans x3
          have y4 : w3.cell? ⟨wr.heap.size, 4, none⟩ = some (.int .i64 f.l) := (hb5.cell (by first | assumption | (simp; omega))).trans x4
          have y5 := Nat.lt_of_lt_of_le x5 hb5.size
          have ya := (hb6.cell (p := ⟨w.heap.size, 0, none⟩) hszl).trans q0
          have yb := (hb6.cell (p := ⟨w.heap.size, 1, none⟩) hszl).trans q1
          clear x0 x1 x2 x3 x4 x5 xa xb hb4 hb5
          rcases H with ⟨t2, tf⟩ | ⟨t2, ⟨t3, tf⟩ | ⟨t3, t4, tf⟩ | ⟨t3, t4, t5, tf⟩ | ⟨t3, t4, t5, t6, tf⟩ | ⟨t3, t4, t5, t6, tf⟩⟩
          all_goals
            have TF := Lib.hid tf
            clear tf
            rw [t2]
            go_wp2_with (go_at_call 40; refine (within_any _ _ _ _).mono ?_; rintro e w' ⟨rfl, rfl⟩)
          iterate 5
            · go_ret
              exact not_net (p := True) (fun hh => absurd (hh.2.2.2.2 f (List.mem_of_getElem? HF.out)) (by rw [hl.out, TF.out]; simp)) (bthen hw0 hb6 hw0.size)
          go_roundw
          case rel => exact ⟨j + 1, by omega, by go_num, pall_step HP.out HF.out (by rw [hl.out]; exact TF.out), hb6⟩
          case measure => simp [intOf]; omega
        · go_wp2_with fail
          go_ret
          exact ⟨true, ⟨fun _ => ⟨by have := hl.out; omega, by have := hl.out; omega, by have := hlp.out; omega, by rw [hl.out]; exact HK.out, fun p hp => HP.out p (by rwa [List.take_of_length_le (by have := hlp.out; omega)])⟩, fun _ => rfl⟩, rfl, bthen hw0 hb hw0.size⟩
end Go.Proofs.Ythlencpbekjekaa
