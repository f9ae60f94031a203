/- What componentsOf and l04Components do, by walks over their text. Condition: a valid network. -/
import Derived.Test.YtoijogaogheciaaSrchI
set_option linter.unusedVariables false
set_option maxRecDepth 100000
namespace Go.Proofs.Ytoijogaogheciaa
open Go.ChangeShapes Go.WideShapes Go.ChangeAt Go.RowKit Go.Joins Go.Deep
attribute [local go_sem ↓] Go.wp_at_zero Go.wp_at_succ

theorem run_fld0 (x y z : Value) (w : World) : Sem.run Try.prog (Instr.field 116 (.agg #[x, y, z]) 0) w = .ok x w := by
  unfold Instr.field
  go_simp
  simp [asAgg, go_sem]
theorem run_fld1 (x y z : Value) (w : World) : Sem.run Try.prog (Instr.field 116 (.agg #[x, y, z]) 1) w = .ok y w := by
  unfold Instr.field
  go_simp
  simp [asAgg, go_sem]
theorem run_fld2 (x y z : Value) (w : World) : Sem.run Try.prog (Instr.field 116 (.agg #[x, y, z]) 2) w = .ok z w := by
  unfold Instr.field
  go_simp
  simp [asAgg, go_sem]
theorem encE_at {l : List (Option Nat)} {k : Nat} {o : Option Nat} (h : l[k]? = some o) : (encE l)[k]? = some (encO o) := by simp [encE, h]
theorem comp_get {es : Es} {n r : Nat} (hr : r < n) : (compTo es n r)[r]? = some ((compTo es n r).getD r none) := by
  have hl := compTo_len es n r
  rw [List.getD_eq_getElem?_getD, List.getElem?_eq_getElem (by omega)]
  rfl
theorem comp_old {es : Es} {n r x : Nat} (h : (compTo es n r).getD r none = some x) : compTo es n (r + 1) = compTo es n r := by
  show (if ((compTo es n r).getD r none).isSome then _ else _) = _
  rw [h]; rfl
theorem comp_new {es : Es} {n r : Nat} (h : (compTo es n r).getD r none = none) : compTo es n (r + 1) = paint (compTo es n r) (bfs es n r).ord r := by
  show (if ((compTo es n r).getD r none).isSome then _ else _) = _
  rw [h]; rfl
theorem paint_zero (l : List (Option Nat)) (vs : List Nat) (r : Nat) : paint l (vs.take 0) r = l := by simp [paint]
theorem paint_step {l : List (Option Nat)} {vs : List Nat} {r j v : Nat} (h : vs[j]? = some v) : paint l (vs.take (j + 1)) r = (paint l (vs.take j) r).set v (some r) := by
  unfold paint
  rw [List.take_add_one, h, List.foldl_append]
  rfl
theorem encE_paint {l : List (Option Nat)} {vs : List Nat} {r j v : Nat} (h : vs[j]? = some v) : (encE (paint l (vs.take j) r)).set v (r : Int) = encE (paint l (vs.take (j + 1)) r) := by
  rw [paint_step h, encE_set]
theorem paint_full (l : List (Option Nat)) (vs : List Nat) (r j : Nat) (h : vs.length ≤ j) : paint l (vs.take j) r = paint l vs r := by rw [List.take_of_length_le h]
set_option maxHeartbeats 4000000 in
theorem comps_any (A B : Option Addr) (n c m d : Nat) (ns : List Nd) (ps : List Pp) (w : World) (h : IsNet w A n c ns B m d ps) (hok : NetOk ns ps) :
    Calls Try.prog 96 #[.agg #[.slice A n c, .slice B m d]] w (RetInts w (encE (comps (esOf ps) n))) := by
  have hln : ns.length = n := h.nodes.len
  have hn24 : n ≤ 24 := by have := hok.2.1; omega
  have hg : Good (esOf ps) n := by rw [← hln]; exact net_good hok
  have HG := Lib.hid hg
  have HOK := Lib.hid hok
  clear hln hok hg
  have hmk := fun W => run_make_row' (P := Try.prog) 22 2 (.int .i64 0) 8 Try.underlying22 info_i64 rfl .i64 .i64 n (by omega) (by omega) W
  have bx := (box_new w #[.slice A n c, .slice B m d] 45).alloc (.cells (madeCells #[.int .i64 0] n) 2)
  have hV : Below w.heap.size w (w.alloc (.cells #[.slice A n c, .slice B m d] 45)) := (Below.refl _ _).alloc (Nat.le_refl _) _
  have hsz : (w.alloc (.cells #[.slice A n c, .slice B m d] 45)).heap.size = w.heap.size + 1 := by simp
  have oC := own_zeros (w.alloc (.cells #[.slice A n c, .slice B m d] 45)) n (by omega)
  rw [hsz] at oC
  have hW : Below w.heap.size w ((w.alloc (.cells #[.slice A n c, .slice B m d] 45)).alloc (.cells (madeCells #[.int .i64 0] n) 2)) := hV.alloc (by simp) _
  have hsW : w.heap.size + 2 ≤ ((w.alloc (.cells #[.slice A n c, .slice B m d] 45)).alloc (.cells (madeCells #[.int .i64 0] n) 2)).heap.size := by simp
  clear hV hsz
  go_enter Try.func96, Try.ntmps96
  go_wp2_with fail
  generalize ((w.alloc (.cells #[.slice A n c, .slice B m d] 45)).alloc (.cells (madeCells #[.int .i64 0] n) 2)) = W at *
  clear hmk
  go_loopw [14] (fun ii wr => ∃ k : Nat, k ≤ n ∧ ii = .int .i64 k ∧ Own wr (w.heap.size + 1) (some ⟨w.heap.size + 1, 0, none⟩) n n (List.replicate k (-1) ++ List.replicate (n - k) 0) ∧ Below (w.heap.size + 1) W wr) (fun ii _ => n - (intOf ii).toNat)
  case atStart => exact ⟨0, Nat.zero_le _, rfl, by simpa using oC, Below.refl _ _⟩
  case round =>
    obtain ⟨k, hk, rfl, hE, hb⟩ := hrel
    by_cases hlt : k < n
    · obtain ⟨g, z, hA, hBg, hgl, _, _, hcg, hfg⟩ := hE.at_ hlt
      obtain rfl : g = w.heap.size + 1 := by injection hA with hA; injection hA with hA; exact hA.symm
      obtain ⟨hE2, hgr⟩ := hE.set2 k (z := -1) (WalkArith.wf_i64 (by omega))
      have HE := Lib.hid (fill_step (x := (-1 : Int)) (y := 0) hlt)
      have hb2 := hb.setCell (p := ⟨w.heap.size + 1, k, none⟩) (Nat.le_refl _) (.int .i64 (-1))
      clear hE hA hgr
      go_wp2_with fail
      go_roundw
      case rel => exact ⟨k + 1, by omega, by go_num, by rw [← HE.out]; exact hE2, hb2⟩
      case measure => simp [intOf]; omega
    · obtain rfl : k = n := by omega
      have hE1 : Own wr (w.heap.size + 1) (some ⟨w.heap.size + 1, 0, none⟩) k k (encE (compTo (esOf ps) k 0)) := by
        have e1 : encE (compTo (esOf ps) k 0) = List.replicate k (-1) ++ List.replicate (k - k) 0 := by
          show encE (List.replicate k none) = _
          rw [encE_none]; simp
        rw [e1]; exact hE
      clear hE
      go_wp2_with fail
      go_loopw [23] (fun ii wr => ∃ r : Nat, r ≤ k ∧ ii = .int .i64 r ∧ Own wr (w.heap.size + 1) (some ⟨w.heap.size + 1, 0, none⟩) k k (encE (compTo (esOf ps) k r)) ∧ Below (w.heap.size + 1) W wr) (fun ii _ => k - (intOf ii).toNat)
      case atStart => exact ⟨0, Nat.zero_le _, rfl, hE1, hb⟩
      case round =>
        clear hb hE1
        obtain ⟨r, hr, rfl, hE, hb⟩ := hrel
        by_cases hlt : r < k
        · obtain ⟨g, z, hA, hBg, hgl, hz, _, hcg, hfg⟩ := hE.at_ hlt
          obtain rfl : g = w.heap.size + 1 := by injection hA with hA; injection hA with hA; exact hA.symm
          rw [encE_at (comp_get hlt)] at hz
          cases ho : (compTo (esOf ps) k r).getD r none with
          | some x =>
            rw [ho] at hz
            obtain rfl : z = (x : Int) := (Option.some.inj hz).symm
            have HN := Lib.hid (comp_old ho)
            clear hz ho hA
            go_wp2_with fail
            go_roundw
            case rel => exact ⟨r + 1, by omega, by go_num, by rw [HN.out]; exact hE, hb⟩
            case measure => simp [intOf]; omega
          | none =>
            rw [ho] at hz
            obtain rfl : z = -1 := (Option.some.inj hz).symm
            have HN := Lib.hid (comp_new ho)
            have b1 := bx.below hb (by omega)
            have xl := b1.lt
            have x0 : wr.cell? ⟨w.heap.size, 0, none⟩ = some (.slice A k c) := b1.cell 0
            have x1 : wr.cell? ⟨w.heap.size, 1, none⟩ = some (.slice B m d) := b1.cell 1
            have kN : Kept (IsNet wr A k c ns B m d ps) := ⟨h.below (hW.trans (hb.mono (by omega)))⟩
            have kE : Kept (Own wr (w.heap.size + 1) (some ⟨w.heap.size + 1, 0, none⟩) k k (encE (compTo (esOf ps) k r))) := ⟨hE⟩
            have kB : Kept (Below (w.heap.size + 1) W wr) := ⟨hb⟩
            have hsb := hb.size
            obtain ⟨wo, rfl⟩ : ∃ wo : World, wo = wr := ⟨_, rfl⟩
            clear hz ho hA hE hb b1
            have hfl := fun (x y z : Value) W => run_fld0 x y z W
            go_wp2_with (go_at_call 117; refine (search_any _ _ _ _ _ _ r ns ps _ kN.out HOK.out hlt).mono ?_; rintro e4 wa ⟨A4, c4, b4, e5, ds4, rfl, o4, _, _, _, hba⟩)
            have HI := Lib.hid (bfs_done HG.out hlt).inv
            have hoc := kE.out.below hba
            have hba2 := bthen kB.out hba (by omega)
            have hsa := hba.size
            have hL : (bfs (esOf ps) k r).ord.length ≤ k := nodup_len HI.out.nd HI.out.lt
            generalize hL4 : (bfs (esOf ps) k r).ord.length = L at *
            have HL := Lib.hid hL4
            clear hfl hL4 kE kB kN hba xl x0 x1 hcg hfg
            go_loopw [36] (fun ii wr => ∃ j : Nat, ii = .int .i64 j ∧ j ≤ L ∧ Own wr (w.heap.size + 1) (some ⟨w.heap.size + 1, 0, none⟩) k k (encE (paint (compTo (esOf ps) k r) ((bfs (esOf ps) k r).ord.take j) r)) ∧ Own wr wo.heap.size A4 L c4 (cN (bfs (esOf ps) k r).ord) ∧ Below (w.heap.size + 1) W wr) (fun ii _ => L - (intOf ii).toNat)
            case atStart => exact ⟨0, rfl, Nat.zero_le _, by rw [paint_zero]; exact hoc, o4, hba2⟩
            case round =>
              clear hoc o4 hba2
              obtain ⟨j, rfl, hj, hE, hO4, hb⟩ := hrel
              by_cases hlj : j < L
              · obtain ⟨g4, z4, rfl, hg4l, hg4, hz4, _, hc4, _⟩ := hO4.at_ hlj
                obtain ⟨v, hv, rfl⟩ := cN_get hz4
                have hvk : v < k := HI.out.lt v (List.mem_of_getElem? hv)
                obtain ⟨g, z, hA, hBg, hgl, _, _, hcg, hfg⟩ := hE.at_ hvk
                obtain rfl : g = w.heap.size + 1 := by injection hA with hA; injection hA with hA; exact hA.symm
                obtain ⟨hE2, hgr⟩ := hE.set2 v (z := (r : Int)) (WalkArith.wf_i64 (by omega))
                have hO5 := hO4.grown2 hgr (by omega)
                have HE := Lib.hid (encE_paint (l := compTo (esOf ps) k r) (r := r) hv)
                have hb2 := hb.setCell (p := ⟨w.heap.size + 1, v, none⟩) (Nat.le_refl _) (.int .i64 (r : Int))
                clear hE hA hgr hO4 hv hz4 hb
                go_wp2_with fail
                go_roundw
                case rel => exact ⟨j + 1, by go_num, by omega, by rw [← HE.out]; exact hE2, hO5, hb2⟩
                case measure => simp [intOf]; omega
              · obtain rfl : j = L := by omega
                have HP := Lib.hid (paint_full (compTo (esOf ps) k r) (bfs (esOf ps) k r).ord r j (Nat.le_of_eq HL.out))
                go_wp2_with fail
                go_roundw
                case rel => exact ⟨r + 1, by omega, by go_num, by rw [HN.out, ← HP.out]; exact hE, hb⟩
                case measure => simp [intOf]; omega
        · obtain rfl : r = k := by omega
          go_wp2_with fail
          go_ret
          exact retInts_of (by rw [encE_len, show (comps (esOf ps) r).length = r from comps_len _ _]) (hE.mono (by omega)) (hW.trans (hb.mono (by omega)))
set_option maxHeartbeats 4000000 in
theorem sComps_any (A B : Option Addr) (n c m d : Nat) (ns : List Nd) (ps : List Pp) (w : World) (h : IsNet w A n c ns B m d ps) (hok : NetOk ns ps) :
    Calls Try.prog 127 #[.agg #[.slice A n c, .slice B m d]] w (RetInts w (encE (comps (esOf ps) n))) := by
  have hln : ns.length = n := h.nodes.len
  have hn24 : n ≤ 24 := by have := hok.2.1; omega
  have hg : Good (esOf ps) n := by rw [← hln]; exact net_good hok
  have HG := Lib.hid hg
  have HOK := Lib.hid hok
  clear hln hok hg
  have hmk := fun W => run_make_row' (P := Try.prog) 22 2 (.int .i64 0) 8 Try.underlying22 info_i64 rfl .i64 .i64 n (by omega) (by omega) W
  have bx := (box_new w #[.slice A n c, .slice B m d] 45).alloc (.cells (madeCells #[.int .i64 0] n) 2)
  have hV : Below w.heap.size w (w.alloc (.cells #[.slice A n c, .slice B m d] 45)) := (Below.refl _ _).alloc (Nat.le_refl _) _
  have hsz : (w.alloc (.cells #[.slice A n c, .slice B m d] 45)).heap.size = w.heap.size + 1 := by simp
  have oC := own_zeros (w.alloc (.cells #[.slice A n c, .slice B m d] 45)) n (by omega)
  rw [hsz] at oC
  have hW : Below w.heap.size w ((w.alloc (.cells #[.slice A n c, .slice B m d] 45)).alloc (.cells (madeCells #[.int .i64 0] n) 2)) := hV.alloc (by simp) _
  have hsW : w.heap.size + 2 ≤ ((w.alloc (.cells #[.slice A n c, .slice B m d] 45)).alloc (.cells (madeCells #[.int .i64 0] n) 2)).heap.size := by simp
  clear hV hsz
  go_enter Try.func127, Try.ntmps127
  go_wp2_with fail
  generalize ((w.alloc (.cells #[.slice A n c, .slice B m d] 45)).alloc (.cells (madeCells #[.int .i64 0] n) 2)) = W at *
  clear hmk
  go_loopw [4] (fun ii wr => ∃ k : Nat, k ≤ n ∧ ii = .int .i64 k ∧ Own wr (w.heap.size + 1) (some ⟨w.heap.size + 1, 0, none⟩) n n (List.replicate k (-1) ++ List.replicate (n - k) 0) ∧ Below (w.heap.size + 1) W wr) (fun ii _ => n - (intOf ii).toNat)
  case atStart => exact ⟨0, Nat.zero_le _, rfl, by simpa using oC, Below.refl _ _⟩
  case round =>
    obtain ⟨k, hk, rfl, hE, hb⟩ := hrel
    by_cases hlt : k < n
    · obtain ⟨g, z, hA, hBg, hgl, _, _, hcg, hfg⟩ := hE.at_ hlt
      obtain rfl : g = w.heap.size + 1 := by injection hA with hA; injection hA with hA; exact hA.symm
      obtain ⟨hE2, hgr⟩ := hE.set2 k (z := -1) (WalkArith.wf_i64 (by omega))
      have HE := Lib.hid (fill_step (x := (-1 : Int)) (y := 0) hlt)
      have hb2 := hb.setCell (p := ⟨w.heap.size + 1, k, none⟩) (Nat.le_refl _) (.int .i64 (-1))
      clear hE hA hgr
      go_wp2_with fail
      go_roundw
      case rel => exact ⟨k + 1, by omega, by go_num, by rw [← HE.out]; exact hE2, hb2⟩
      case measure => simp [intOf]; omega
    · obtain rfl : k = n := by omega
      have hE1 : Own wr (w.heap.size + 1) (some ⟨w.heap.size + 1, 0, none⟩) k k (encE (compTo (esOf ps) k 0)) := by
        have e1 : encE (compTo (esOf ps) k 0) = List.replicate k (-1) ++ List.replicate (k - k) 0 := by
          show encE (List.replicate k none) = _
          rw [encE_none]; simp
        rw [e1]; exact hE
      clear hE
      go_wp2_with fail
      go_loopw [5] (fun ii wr => ∃ r : Nat, r ≤ k ∧ ii = .int .i64 r ∧ Own wr (w.heap.size + 1) (some ⟨w.heap.size + 1, 0, none⟩) k k (encE (compTo (esOf ps) k r)) ∧ Below (w.heap.size + 1) W wr) (fun ii _ => k - (intOf ii).toNat)
      case atStart => exact ⟨0, Nat.zero_le _, rfl, hE1, hb⟩
      case round =>
        clear hb hE1
        obtain ⟨r, hr, rfl, hE, hb⟩ := hrel
        by_cases hlt : r < k
        · obtain ⟨g, z, hA, hBg, hgl, hz, _, hcg, hfg⟩ := hE.at_ hlt
          obtain rfl : g = w.heap.size + 1 := by injection hA with hA; injection hA with hA; exact hA.symm
          rw [encE_at (comp_get hlt)] at hz
          cases ho : (compTo (esOf ps) k r).getD r none with
          | some x =>
            rw [ho] at hz
            obtain rfl : z = (x : Int) := (Option.some.inj hz).symm
            have HN := Lib.hid (comp_old ho)
            clear hz ho hA
            go_wp2_with fail
            go_roundw
            case rel => exact ⟨r + 1, by omega, by go_num, by rw [HN.out]; exact hE, hb⟩
            case measure => simp [intOf]; omega
          | none =>
            rw [ho] at hz
            obtain rfl : z = -1 := (Option.some.inj hz).symm
            have HN := Lib.hid (comp_new ho)
            have b1 := bx.below hb (by omega)
            have xl := b1.lt
            have x0 : wr.cell? ⟨w.heap.size, 0, none⟩ = some (.slice A k c) := b1.cell 0
            have x1 : wr.cell? ⟨w.heap.size, 1, none⟩ = some (.slice B m d) := b1.cell 1
            have kN : Kept (IsNet wr A k c ns B m d ps) := ⟨h.below (hW.trans (hb.mono (by omega)))⟩
            have kE : Kept (Own wr (w.heap.size + 1) (some ⟨w.heap.size + 1, 0, none⟩) k k (encE (compTo (esOf ps) k r))) := ⟨hE⟩
            have kB : Kept (Below (w.heap.size + 1) W wr) := ⟨hb⟩
            have hsb := hb.size
            obtain ⟨wo, rfl⟩ : ∃ wo : World, wo = wr := ⟨_, rfl⟩
            clear hz ho hA hE hb b1
            go_wp2_with (go_at_call 128; refine (sSearch_any _ _ _ _ _ _ r ns ps _ kN.out HOK.out hlt).mono ?_; rintro e4 wa ⟨A5, c5, A4, c4, rfl, _, o4, hba⟩)
            have HI := Lib.hid (bfs_done HG.out hlt).inv
            have hoc := kE.out.below hba
            have hba2 := bthen kB.out hba (by omega)
            have hsa := hba.size
            have hL : (bfs (esOf ps) k r).ord.length ≤ k := nodup_len HI.out.nd HI.out.lt
            generalize hL4 : (bfs (esOf ps) k r).ord.length = L at *
            have HL := Lib.hid hL4
            clear hL4 kE kB kN hba xl x0 x1 hcg hfg
            go_loopw [8] (fun ii wr => ∃ j : Nat, ii = .int .i64 j ∧ j ≤ L ∧ Own wr (w.heap.size + 1) (some ⟨w.heap.size + 1, 0, none⟩) k k (encE (paint (compTo (esOf ps) k r) ((bfs (esOf ps) k r).ord.take j) r)) ∧ Own wr wo.heap.size A4 L c4 (cN (bfs (esOf ps) k r).ord) ∧ Below (w.heap.size + 1) W wr) (fun ii _ => L - (intOf ii).toNat)
            case atStart => exact ⟨0, rfl, Nat.zero_le _, by rw [paint_zero]; exact hoc, o4, hba2⟩
            case round =>
              clear hoc o4 hba2
              obtain ⟨j, rfl, hj, hE, hO4, hb⟩ := hrel
              by_cases hlj : j < L
              · obtain ⟨g4, z4, rfl, hg4l, hg4, hz4, _, hc4, _⟩ := hO4.at_ hlj
                obtain ⟨v, hv, rfl⟩ := cN_get hz4
                have hvk : v < k := HI.out.lt v (List.mem_of_getElem? hv)
                obtain ⟨g, z, hA, hBg, hgl, _, _, hcg, hfg⟩ := hE.at_ hvk
                obtain rfl : g = w.heap.size + 1 := by injection hA with hA; injection hA with hA; exact hA.symm
                obtain ⟨hE2, hgr⟩ := hE.set2 v (z := (r : Int)) (WalkArith.wf_i64 (by omega))
                have hO5 := hO4.grown2 hgr (by omega)
                have HE := Lib.hid (encE_paint (l := compTo (esOf ps) k r) (r := r) hv)
                have hb2 := hb.setCell (p := ⟨w.heap.size + 1, v, none⟩) (Nat.le_refl _) (.int .i64 (r : Int))
                clear hE hA hgr hO4 hv hz4 hb
                go_wp2_with fail
                go_roundw
                case rel => exact ⟨j + 1, by go_num, by omega, by rw [← HE.out]; exact hE2, hO5, hb2⟩
                case measure => simp [intOf]; omega
              · obtain rfl : j = L := by omega
                have HP := Lib.hid (paint_full (compTo (esOf ps) k r) (bfs (esOf ps) k r).ord r j (Nat.le_of_eq HL.out))
                go_wp2_with fail
                go_roundw
                case rel => exact ⟨r + 1, by omega, by go_num, by rw [HN.out, ← HP.out]; exact hE, hb⟩
                case measure => simp [intOf]; omega
        · obtain rfl : r = k := by omega
          go_wp2_with fail
          go_ret
          exact retInts_of (by rw [encE_len, show (comps (esOf ps) r).length = r from comps_len _ _]) (hE.mono (by omega)) (hW.trans (hb.mono (by omega)))
end Go.Proofs.Ytoijogaogheciaa
