/- What CloseAllChords does, by walks over both texts. No condition. -/
import Derived.Test.YtpgegfnhokhlmaaKS
set_option linter.unusedVariables false
set_option maxRecDepth 100000
namespace Go.Proofs.Ytpgegfnhokhlmaa
open Go.ChangeShapes Go.WideShapes Go.ChangeAt Go.RowKit Go.Joins Go.Deep
attribute [local go_sem ↓] Go.wp_at_zero Go.wp_at_succ

/-- A call returns a slice of its own and a code. -/
def RetIC (w : World) (r : List Int × Int) (e : Ending) (w' : World) : Prop :=
  ∃ A c, e = .returned (.tuple #[.slice A r.1.length c, .int .i64 r.2]) ∧ Own w' w.heap.size A r.1.length c r.1 ∧ Below w.heap.size w w'
theorem retIC_bad {w w' : World} {r : List Int × Int} {k : Int} (h : r = ([], k)) (hb : Below w.heap.size w w') : RetIC w r (.returned (.tuple #[.slice none 0 0, .int .i64 k])) w' := by
  subst h
  exact ⟨none, 0, rfl, own_nil _ _, hb⟩
theorem retIC_ok {w w' : World} {r : List Int × Int} {zs : List Int} {k : Int} {A : Option Addr} {n c B : Nat} (h : r = (zs, k)) (ho : Own w' B A n c zs) (hB : w.heap.size ≤ B) (hb : Below w.heap.size w w') : RetIC w r (.returned (.tuple #[.slice A n c, .int .i64 k])) w' := by
  subst h
  have hl := ho.len
  subst hl
  exact ⟨A, c, rfl, ho.mono hB, hb⟩
/-- Marks 1 where a list has a place. -/
def mkL (m : Nat) (l : List Nat) : List Int := (List.range m).map fun i => if i ∈ l then 1 else 0
theorem mkL_len (m : Nat) (l : List Nat) : (mkL m l).length = m := by simp [mkL]
theorem mkL_nil (m : Nat) : mkL m [] = List.replicate m 0 := by
  apply List.ext_getElem?
  intro i
  by_cases hi : i < m <;> simp [mkL, hi]
theorem mkL_add (m : Nat) (l : List Nat) (o : Nat) : mkL m (l ++ [o]) = (mkL m l).set o 1 := by
  apply List.ext_getElem?
  intro i
  by_cases hi : i < m
  · by_cases e : o = i
    · subst e
      rw [List.getElem?_set_self (by rw [mkL_len]; exact hi)]
      simp [mkL, hi]
    · rw [List.getElem?_set_ne e]
      have e' : ¬ i = o := fun h => e h.symm
      simp [mkL, hi, e']
  · rw [List.getElem?_eq_none (by rw [mkL_len]; omega), List.getElem?_eq_none (by rw [List.length_set, mkL_len]; omega)]
/-- The settings in which the chords are closed. -/
def clsTo (es : Es) (n k : Nat) : List Int := (List.range k).map fun i => if treeB es n i = true then 1 else 0
def cls (es : Es) (n : Nat) : List Int := clsTo es n es.length
theorem clsTo_len (es : Es) (n k : Nat) : (clsTo es n k).length = k := by simp [clsTo]
theorem cls_mk {es : Es} {n : Nat} : mkL es.length (fst es n) = cls es n := by
  unfold mkL cls clsTo
  apply List.map_congr_left
  intro i hi
  have h1 : i ∈ fst es n ↔ treeB es n i = true := by
    unfold fst
    rw [List.mem_filter]
    exact ⟨fun h => h.2, fun h => ⟨hi, h⟩⟩
  by_cases h : treeB es n i = true
  · rw [if_pos (h1.2 h), if_pos h]
  · rw [if_neg (fun hh => h (h1.1 hh)), if_neg h]
theorem clsTo_step {es : Es} {n k : Nat} {b : Bool} (h : treeB es n k = b) : clsTo es n (k + 1) = clsTo es n k ++ [if b = true then 1 else 0] := by
  unfold clsTo
  rw [List.range_succ, List.map_append, ← h]
  rfl
theorem chd_contains {es : Es} {n k : Nat} (hk : k < es.length) : (cN (chd es n)).contains (k : Int) = !treeB es n k := by
  have e1 : (cN (chd es n)).contains (k : Int) = true ↔ k ∈ chd es n := by
    rw [List.contains_iff_mem]
    unfold cN
    rw [List.mem_map]
    constructor
    · rintro ⟨a, ha, e⟩
      have : a = k := by omega
      rwa [← this]
    · intro h
      exact ⟨k, h, rfl⟩
  rw [Bool.eq_iff_iff, e1, chd_mem]
  cases treeB es n k <;> simp [hk]
theorem take_snocN {l : List Nat} {j v : Nat} (h : l[j]? = some v) : l.take (j + 1) = l.take j ++ [v] := by
  rw [List.take_add_one, h]; rfl
/-- What CloseAllChords returns. -/
noncomputable def clR (ns : List Nd) (ps : List Pp) (n : Nat) : List Int × Int := @ite _ (NetOk ns ps) (Classical.propDecidable _) (cls (esOf ps) n, 0) ([], 1)
theorem clR_ok {ns : List Nd} {ps : List Pp} {n : Nat} (h : NetOk ns ps) : clR ns ps n = (cls (esOf ps) n, 0) := if_pos h
theorem clR_no {ns : List Nd} {ps : List Pp} {n : Nat} (h : ¬ NetOk ns ps) : clR ns ps n = ([], 1) := if_neg h
set_option maxHeartbeats 4000000 in
theorem closeAll_any (A B : Option Addr) (n c m d : Nat) (ns : List Nd) (ps : List Pp) (w : World) (h : IsNet w A n c ns B m d ps) (hm' : m ≤ 1048576) :
    Calls Try.prog 7 #[.agg #[.slice A n c, .slice B m d]] w (RetIC w (clR ns ps n)) := by
  have hw0 : ∀ cs t, Below w.heap.size w (w.alloc (.cells cs t)) := fun cs t => (Below.refl _ _).alloc (Nat.le_refl _) _
  have hmk := fun W => run_make_row' (P := Try.prog) 27 2 (.int .i64 0) 8 Try.underlying27 info_i64 rfl .i64 .i64 m (by omega) (by omega) W
  have HPL := Lib.hid (h.pipes.len)
  go_enter Try.func7, Try.ntmps7
  go_wp2_with fail
  refine (isNetw_any _ _ _ _ _ _ ns ps _ (h.alloc _)).mono ?_
  rintro e w1 ⟨b, hb, rfl, hb1⟩
  have bx1 := (box_new w #[.slice A n c, .slice B m d] 33).belowA hb1
  have xl := bx1.lt
  have x0 : w1.cell? ⟨w.heap.size, 0, none⟩ = some (.slice A n c) := bx1.cell 0
  have x1 : w1.cell? ⟨w.heap.size, 1, none⟩ = some (.slice B m d) := bx1.cell 1
  have hB1 := bthen (hw0 _ _) hb1 (by simp)
  have HB := Lib.hid hb
  clear hb hb1
  cases b
  · go_wp2_with fail
    go_ret2
    exact retIC_bad (clR_no (fun hh => absurd (HB.out.2 hh) (by simp))) hB1
  have HN := Lib.hid (HB.out.1 rfl)
  have hs1 := hB1.size
  have hsA : w1.heap.size < (w1.alloc (.cells (madeCells #[.int .i64 0] m) 2)).heap.size := by simp
  have oM := own_zeros w1 m hm'
  have hB2 := hB1.trans (((Below.refl w1.heap.size w1).alloc (Nat.le_refl _) (.cells (madeCells #[.int .i64 0] m) 2)).mono hs1)
  have hN2 := h.below hB2
  have k1 := bx1.alloc (.cells (madeCells #[.int .i64 0] m) 2)
  have hbA : Below w1.heap.size w1 (w1.alloc (.cells (madeCells #[.int .i64 0] m) 2)) := (Below.refl _ _).alloc (Nat.le_refl _) _
  clear HB
  go_upto_region 4 with fail
  generalize (w1.alloc (.cells (madeCells #[.int .i64 0] m) 2)) = W2 at *
  have xl2 := k1.lt
  have y0 : W2.cell? ⟨w.heap.size, 0, none⟩ = some (.slice A n c) := k1.cell 0
  have y1 : W2.cell? ⟨w.heap.size, 1, none⟩ = some (.slice B m d) := k1.cell 1
  clear hmk x0 x1 xl
  have kM : Kept (Own W2 w1.heap.size (some ⟨w1.heap.size, 0, none⟩) m m (List.replicate m 0)) := ⟨oM⟩
  clear oM
  go_wp2_with (go_at_call 21; refine (forest_any _ _ _ _ _ _ ns ps _ hN2 HN.out).mono ?_; rintro e1 w3 ⟨A1, c1, rfl, o1, hb3⟩)
  have hL : (cN (fst (esOf ps) n)).length ≤ 1048576 := by
    rw [cN_len]
    have h1 := fst_len (esOf ps) n
    rw [esOf_len, HPL.out] at h1
    omega
  have hfl : ∀ v ∈ fst (esOf ps) n, v < m := fun v hv => by
    have h1 := (List.mem_filter.1 hv).1
    rw [List.mem_range, esOf_len, HPL.out] at h1
    exact h1
  have HFL := Lib.hid hfl
  have oM3 := kM.out.below hb3
  rw [← mkL_nil] at oM3
  have hB3 := bthen hB2 hb3 hB2.size
  generalize hL1 : (cN (fst (esOf ps) n)).length = L at *
  have HL1 := Lib.hid hL1
  have hs3 := hb3.size
  have hs2 := hB2.size
  have hbw3 := hbA.trans (hb3.mono hbA.size)
  clear hL1 hfl kM hb3 hN2 y0 y1 xl2 hbA
  go_loopw [17] (fun ii wr => ∃ j : Nat, j ≤ L ∧ ii = .int .i64 j ∧ Own wr w1.heap.size (some ⟨w1.heap.size, 0, none⟩) m m (mkL m ((fst (esOf ps) n).take j)) ∧ Own wr W2.heap.size A1 L c1 (cN (fst (esOf ps) n)) ∧ Below w1.heap.size w1 wr) (fun ii _ => L - (intOf ii).toNat)
  case atStart => exact ⟨0, Nat.zero_le _, rfl, oM3, o1, hbw3⟩
  case round =>
    clear oM3 o1 hbw3
    obtain ⟨j, hj, rfl, hM, hF, hb⟩ := hrel
    by_cases hlt : j < L
    · obtain ⟨g4, z4, rfl, hg4l, hg4, hz4, _, hc4, _⟩ := hF.at_ hlt
      obtain ⟨v, hv, rfl⟩ := cN_get hz4
      have hvm : v < m := HFL.out v (List.mem_of_getElem? hv)
      obtain ⟨g, z, hA, hBg, hgl, _, _, hcg, hfg⟩ := hM.at_ hvm
      obtain rfl : g = w1.heap.size := by injection hA with hA; injection hA with hA; exact hA.symm
      obtain ⟨hM2, hgr⟩ := hM.set2 v (z := 1) (WalkArith.wf_i64 (by omega))
      have hF2 := hF.grown2 hgr (by omega)
      have HS := Lib.hid (show mkL m ((fst (esOf ps) n).take (j + 1)) = (mkL m ((fst (esOf ps) n).take j)).set v 1 by rw [take_snocN hv, mkL_add])
      have hb2 := hb.setCell (p := ⟨w1.heap.size, v, none⟩) (Nat.le_refl _) (.int .i64 1)
      clear hM hF hb hv hz4 hA hgr
      go_wp2_with fail
      go_roundw
      case rel => exact ⟨j + 1, by omega, by go_num, by rw [HS.out]; exact hM2, hF2, hb2⟩
      case measure => simp [intOf]; omega
    · obtain rfl : j = L := by omega
      have HE := Lib.hid (show mkL m ((fst (esOf ps) n).take j) = cls (esOf ps) n by
        have h1 := HL1.out
        rw [cN_len] at h1
        rw [List.take_of_length_le (by omega), ← cls_mk, esOf_len, HPL.out])
      go_wp2_with fail
      go_ret2
      have hM2 := hM
      rw [HE.out] at hM2
      exact retIC_ok (clR_ok HN.out) hM2 hs1 (hB1.trans (hb.mono hs1))
set_option maxHeartbeats 4000000 in
theorem sCloseAll_any (A B : Option Addr) (n c m d : Nat) (ns : List Nd) (ps : List Pp) (w : World) (h : IsNet w A n c ns B m d ps) (hm' : m ≤ 1048576) :
    Calls Try.prog 5 #[.agg #[.slice A n c, .slice B m d]] w (RetIC w (clR ns ps n)) := by
  have hw0 : ∀ cs t, Below w.heap.size w (w.alloc (.cells cs t)) := fun cs t => (Below.refl _ _).alloc (Nat.le_refl _) _
  have HPL := Lib.hid (h.pipes.len)
  go_enter Try.func5, Try.ntmps5
  go_wp2_with fail
  refine (sIsNetw_any _ _ _ _ _ _ ns ps _ (h.alloc _)).mono ?_
  rintro e w1 ⟨b, hb, rfl, hb1⟩
  have bx1 := (box_new w #[.slice A n c, .slice B m d] 33).belowA hb1
  have xl := bx1.lt
  have x0 : w1.cell? ⟨w.heap.size, 0, none⟩ = some (.slice A n c) := bx1.cell 0
  have x1 : w1.cell? ⟨w.heap.size, 1, none⟩ = some (.slice B m d) := bx1.cell 1
  have hB1 := bthen (hw0 _ _) hb1 (by simp)
  have HB := Lib.hid hb
  clear hb hb1
  cases b
  · go_wp2_with fail
    go_ret2
    exact retIC_bad (clR_no (fun hh => absurd (HB.out.2 hh) (by simp))) hB1
  have HN := Lib.hid (HB.out.1 rfl)
  have hs1 := hB1.size
  have hN1 := h.below hB1
  clear HB
  go_upto_region 4 with (go_at_call 16; refine (sChords_any _ _ _ _ _ _ ns ps _ hN1 HN.out).mono ?_; rintro e1 w3 ⟨A1, c1, rfl, o1, hb3⟩)
  have hL : (cN (chd (esOf ps) n)).length ≤ m := by
    rw [cN_len]
    have h1 := chd_len (esOf ps) n
    rw [esOf_len, HPL.out] at h1
    exact h1
  have bx3 := bx1.belowA hb3
  have hB3 := bthen hB1 hb3 hB1.size
  have hs3 := hb3.size
  generalize hL1 : (cN (chd (esOf ps) n)).length = L at *
  have HA1 := Lib.hid (fun g hg => (o1.lt g hg).2)
  have yl := bx3.lt
  have y0 : w3.cell? ⟨w.heap.size, 0, none⟩ = some (.slice A n c) := bx3.cell 0
  have y1 : w3.cell? ⟨w.heap.size, 1, none⟩ = some (.slice B m d) := bx3.cell 1
  clear hL1 hb3 hN1 x0 x1 xl
  go_wp2_with fail
  go_loopw [5, 6] (fun ss ii wr => ∃ (k : Nat) (A2 : Option Addr) (m2 c2 : Nat), k ≤ m ∧ ii = .int .i64 k ∧ ss = .slice A2 m2 c2 ∧ m2 ≤ k ∧ Own wr w3.heap.size A2 m2 c2 (clsTo (esOf ps) n k) ∧ Own wr w1.heap.size A1 L c1 (cN (chd (esOf ps) n)) ∧ Below w3.heap.size w3 wr) (fun _ ii _ => m - (intOf ii).toNat)
  case atStart => exact ⟨0, _, 0, 0, Nat.zero_le _, rfl, rfl, Nat.le_refl _, own_empty _ _ (Nat.le_refl _), o1.alloc _, (Below.refl _ _).alloc (Nat.le_refl _) _⟩
  case round =>
    clear o1 y0 y1 yl
    obtain ⟨k, A2, m2, c2, hk, rfl, rfl, hm2, hG, hC, hb⟩ := hrel
    have b1 := bx3.belowA hb
    have xl := b1.lt
    have x0 : wr.cell? ⟨w.heap.size, 0, none⟩ = some (.slice A n c) := b1.cell 0
    have x1 : wr.cell? ⟨w.heap.size, 1, none⟩ = some (.slice B m d) := b1.cell 1
    by_cases hlt : k < m
    · have hcon := chd_contains (n := n) (show k < (esOf ps).length by rw [esOf_len, HPL.out]; exact hlt)
      cases hB : treeB (esOf ps) n k
      all_goals
        rw [hB] at hcon
        simp only [Bool.not_true, Bool.not_false] at hcon
        have HC := Lib.hid hcon
        have HT := Lib.hid (clsTo_step hB)
        clear hcon hB
        go_upto_region 11 with (go_at_call 17; refine (sHas_any _ _ _ _ _ _ hC.ints (by omega)).mono ?_; rintro e4 wq ⟨rfl, rfl⟩; rw [HC.out])
        go_wp2_with (at_builtin; refine wpList_pushA wr rfl _ _ rfl w3.heap.size _ _ _ _ _ wr.heap.size rfl rfl rfl hG (WalkArith.wf_i64 (by omega)) (by omega) hb.size ?_; intro gn cn wn hon hbn hgn hCn hat)
        go_roundw
        case rel =>
          refine ⟨k + 1, some ⟨gn, 0, none⟩, m2 + 1, cn, by omega, by go_num, rfl, by omega, by rw [HT.out]; exact hon, ?_, hb.trans hbn⟩
          exact hC.grown hgn (fun g hg hh => by
            have h1 := (hG.lt g hh).1
            have h2 := HA1.out g (by rw [hg]; rfl)
            omega)
        case measure => simp [intOf]; omega
    · obtain rfl : k = m := by omega
      have HE := Lib.hid (show cls (esOf ps) n = clsTo (esOf ps) n k by unfold cls; rw [esOf_len, HPL.out])
      go_wp2_with fail
      go_ret2
      rw [← HE.out] at hG
      exact retIC_ok (clR_ok HN.out) hG (by omega) (hB3.trans (hb.mono (by omega)))
end Go.Proofs.Ytpgegfnhokhlmaa
