/- What chordsOf, l05Chords, l02Has do, by walks over their text. Condition: a valid network. -/
import Derived.Test.YtoijogaogheciaaForest
set_option linter.unusedVariables false
set_option maxRecDepth 100000
namespace Go.Proofs.Ytoijogaogheciaa
open Go.ChangeShapes Go.WideShapes Go.ChangeAt Go.RowKit Go.Joins Go.Deep
attribute [local go_sem ↓] Go.wp_at_zero Go.wp_at_succ

theorem fst_contains {es : Es} {n k : Nat} (hk : k < es.length) : (cN (fst es n)).contains (k : Int) = treeB es n k := by
  have e1 : (cN (fst es n)).contains (k : Int) = true ↔ k ∈ fst es n := by
    rw [List.contains_iff_mem]
    unfold cN
    rw [List.mem_map]
    constructor
    · rintro ⟨a, ha, e⟩
      have : a = k := by omega
      rwa [← this]
    · intro h
      exact ⟨k, h, rfl⟩
  rw [Bool.eq_iff_iff, e1]
  unfold fst
  rw [List.mem_filter, List.mem_range]
  exact ⟨fun h => h.2, fun h => ⟨hk, h⟩⟩
theorem fst_le (es : Es) (n : Nat) : (cN (fst es n)).Pairwise (· ≤ ·) := by
  unfold cN
  rw [List.pairwise_map]
  exact List.Pairwise.imp (fun h => by omega) (fst_sorted es n)
theorem cN_lt {l : List Nat} {z : Int} (h : z ∈ cN l) : ∃ v : Nat, v ∈ l ∧ z = v := by
  unfold cN at h
  obtain ⟨v, hv, e⟩ := List.mem_map.1 h
  exact ⟨v, hv, e.symm⟩
theorem chd_len (es : Es) (n : Nat) : (chd es n).length ≤ es.length := chdTo_len es n es.length
set_option maxHeartbeats 2000000 in
theorem bin_empty (a : Option Addr) (c : Nat) (x : Int) (w : World) :
    Calls Try.prog 119 #[.slice a 0 c, .int .i64 x] w fun e w' => e = .returned (.tuple #[.int .i64 0, .bool false]) ∧ w' = w := by
  go_enter Try.func119, Try.ntmps119
  go_wp2_with fail
  go_loopg [7, 8] 0 (fun _ s7 s8 wr => s7 = .int .i64 0 ∧ s8 = .int .i64 0 ∧ wr = w)
  case atStart => exact ⟨rfl, rfl, rfl⟩
  case round =>
    obtain ⟨rfl, rfl, rfl⟩ := hrel
    go_wp2_with fail
    go_ret2
    exact ⟨rfl, rfl⟩
theorem bin_all {w : World} {A : Option Addr} {n c : Nat} {zs : List Int} (x : Int) {b : Bool} (h : Ints w A n zs) (hn : n ≤ 1048576) (hs : zs.Pairwise (· ≤ ·)) (hb : zs.contains x = b) :
    Calls Try.prog 119 #[.slice A n c, .int .i64 x] w fun e w' => ∃ p : Int, e = .returned (.tuple #[.int .i64 p, .bool b]) ∧ Qt w w' := by
  subst hb
  by_cases h0 : n = 0
  · subst h0
    have hz : zs = [] := List.eq_nil_of_length_eq_zero h.len
    subst hz
    refine (bin_empty A c x w).mono ?_
    rintro e w' ⟨rfl, rfl⟩
    exact ⟨0, rfl, Qt.refl _⟩
  · refine (bin_any x h (by omega) hn hs).mono ?_
    rintro e w' ⟨rfl, hq⟩
    exact ⟨_, rfl, hq⟩
set_option maxHeartbeats 4000000 in
theorem chords_any (A B : Option Addr) (n c m d : Nat) (ns : List Nd) (ps : List Pp) (w : World) (h : IsNet w A n c ns B m d ps) (hok : NetOk ns ps) :
    Calls Try.prog 95 #[.agg #[.slice A n c, .slice B m d]] w (RetInts w (cN (chd (esOf ps) n))) := by
  have hln : ns.length = n := h.nodes.len
  have hm : ps.length = m := h.pipes.len
  have hn24 : n ≤ 24 := by have := hok.2.1; omega
  have hm40 : m ≤ 40 := by have := hok.2.2.1; omega
  have hg : Good (esOf ps) n := by rw [← hln]; exact net_good hok
  have HG := Lib.hid hg
  have HM := Lib.hid hm
  have HOK := Lib.hid hok
  clear hln hok hg hm
  have bx := box_new w #[.slice A n c, .slice B m d] 45
  have hV : Below w.heap.size w (w.alloc (.cells #[.slice A n c, .slice B m d] 45)) := (Below.refl _ _).alloc (Nat.le_refl _) _
  have hsV : w.heap.size + 1 ≤ (w.alloc (.cells #[.slice A n c, .slice B m d] 45)).heap.size := by simp
  go_enter Try.func95, Try.ntmps95
  go_upto_region 3 with (go_at_call 93; refine (forest_any _ _ _ _ _ _ ns ps _ (h.below hV) HOK.out).mono ?_; rintro e1 w1 ⟨A1, c1, rfl, o1, hb1⟩)
  have hW := bthen hV hb1 (by omega)
  have bx1 := bx.belowA hb1
  have hs1 := hb1.size
  have xl := bx1.lt
  have x0 : w1.cell? ⟨w.heap.size, 0, none⟩ = some (.slice A n c) := bx1.cell 0
  have x1 : w1.cell? ⟨w.heap.size, 1, none⟩ = some (.slice B m d) := bx1.cell 1
  have hL : (cN (fst (esOf ps) n)).length ≤ m := by rw [cN_len, ← HM.out, ← esOf_len]; exact fst_len _ _
  generalize hL1 : (cN (fst (esOf ps) n)).length = L at *
  clear hL1
  have o1' : Own w1 w.heap.size A1 L c1 (cN (fst (esOf ps) n)) := o1.mono (by omega)
  have HA1 := Lib.hid (fun g hg => (o1.lt g hg).2)
  clear hb1 bx hV o1
  go_wp2_with fail
  go_loopw [4, 13] (fun ss ii wr => ∃ (k : Nat) (A2 : Option Addr) (m2 c2 : Nat), k ≤ m ∧ ii = .int .i64 k ∧ ss = .slice A2 m2 c2 ∧ m2 ≤ k ∧ Own wr w1.heap.size A2 m2 c2 (cN (chdTo (esOf ps) n k)) ∧ Own wr w.heap.size A1 L c1 (cN (fst (esOf ps) n)) ∧ Below w1.heap.size w1 wr) (fun _ ii _ => m - (intOf ii).toNat)
  case atStart => exact ⟨0, none, 0, 0, Nat.zero_le _, rfl, rfl, Nat.le_refl _, own_nil _ _, o1', Below.refl _ _⟩
  case round =>
    clear o1' x0 x1 xl
    obtain ⟨k, A2, m2, c2, hk, rfl, rfl, hm2, hG, hC, hb⟩ := hrel
    by_cases hlt : k < m
    · have hcon := fst_contains (n := n) (show k < (esOf ps).length by rw [esOf_len, HM.out]; exact hlt)
      cases hB : treeB (esOf ps) n k with
      | true =>
        rw [hB] at hcon
        have HC := Lib.hid hcon
        have HT := Lib.hid (chdTo_in hB)
        clear hcon hB
        go_wp2_with (go_at_call 119; refine (bin_all _ hC.ints (by omega) (fst_le _ _) HC.out).mono ?_; rintro e4 wq ⟨p, rfl, hq⟩)
        go_roundw
        case rel => exact ⟨k + 1, A2, m2, c2, by omega, by go_num, rfl, by omega, by rw [HT.out]; exact hG.qt hq, hC.qt hq, hb.trans (hq.below _)⟩
        case measure => simp [intOf]; omega
      | false =>
        rw [hB] at hcon
        have HC := Lib.hid hcon
        have HT := Lib.hid (chdTo_out hB)
        clear hcon hB
        go_upto_region 7 with (go_at_call 119; refine (bin_all _ hC.ints (by omega) (fst_le _ _) HC.out).mono ?_; rintro e4 wq ⟨p, rfl, hq⟩)
        have hG2 := hG.qt hq
        have hC2 := hC.qt hq
        have hb2 := hb.trans (hq.below _)
        clear hG hC hb hq
        go_wp2_with (at_builtin; refine wpList_pushA wq rfl _ _ rfl w1.heap.size _ _ _ _ (k : Int) wq.heap.size rfl rfl rfl hG2 (WalkArith.wf_i64 (by omega)) (by omega) hb2.size ?_; intro gn cn wn hon hbn hgn hCn hat)
        go_roundw
        case rel =>
          refine ⟨k + 1, some ⟨gn, 0, none⟩, m2 + 1, cn, by omega, by go_num, rfl, by omega, by rw [HT.out, cN_app]; exact hon, ?_, hb2.trans hbn⟩
          exact hC2.grown hgn (fun g hg hh => by
            have h1 := (hG2.lt g hh).1
            have h2 := HA1.out g (by rw [hg]; rfl)
            omega)
        case measure => simp [intOf]; omega
    · obtain rfl : k = m := by omega
      have HE := Lib.hid (show chd (esOf ps) n = chdTo (esOf ps) n k by unfold chd; rw [esOf_len, HM.out])
      go_wp2_with fail
      go_ret
      rw [← HE.out] at hG
      exact retInts_of hG.len (hG.mono (by omega)) (hW.trans (hb.mono (by omega)))
set_option maxHeartbeats 1000000 in
theorem sHas_any (A : Option Addr) (n c : Nat) (zs : List Int) (x : Int) (w : World) (h : Ints w A n zs) (hn : n ≤ 1048576) :
    Calls Try.prog 92 #[.slice A n c, .int .i64 x] w fun e w' => e = .returned (.bool (zs.contains x)) ∧ w = w' := by
  have hl := Lib.hid h.len
  go_enter Try.func92, Try.ntmps92
  go_wp2_with fail
  go_loop [5] (fun i => ∃ k : Nat, k ≤ n ∧ i = .int .i64 k ∧ (zs.take k).contains x = false) (fun i => n - (intOf i).toNat)
  case atStart => exact ⟨0, Nat.zero_le _, rfl, rfl⟩
  case round =>
    obtain ⟨k, hk, rfl, hpre⟩ := hrel
    have HP := Lib.hid hpre
    clear hpre
    by_cases hlt : k < n
    · obtain ⟨b, o, y, rfl, hbl, hy, hy64, hcy⟩ := h.at_ hlt
      have HY := Lib.hid hy
      clear hy
      cases hin : (y == x)
      · have HS := Lib.hid (show (zs.take (k + 1)).contains x = false by
          have h1 := HP.out
          rw [List.take_add_one, HY.out]
          simp at h1 hin ⊢
          exact ⟨h1, fun e => hin e.symm⟩)
        go_wp2_with fail
        go_round
        case rel => exact ⟨k + 1, by omega, by go_num, HS.out⟩
        case measure => simp [intOf]; omega
      · have HS := Lib.hid (show zs.contains x = true by
          have e1 : y = x := by simpa using hin
          rw [List.contains_iff_mem, ← e1]
          exact List.mem_of_getElem? HY.out)
        go_wp2_with fail
        go_ret
        exact ⟨rb (by have := HS.out; simpa using this.symm), rfl⟩
    · go_wp2_with fail
      go_ret
      have hp := HP.out
      rw [List.take_of_length_le (by have := hl.out; omega)] at hp
      exact ⟨rb (by simpa using hp.symm), rfl⟩
set_option maxHeartbeats 4000000 in
theorem sChords_any (A B : Option Addr) (n c m d : Nat) (ns : List Nd) (ps : List Pp) (w : World) (h : IsNet w A n c ns B m d ps) (hok : NetOk ns ps) :
    Calls Try.prog 91 #[.agg #[.slice A n c, .slice B m d]] w (RetInts w (cN (chd (esOf ps) n))) := by
  have hln : ns.length = n := h.nodes.len
  have hm : ps.length = m := h.pipes.len
  have hn24 : n ≤ 24 := by have := hok.2.1; omega
  have hm40 : m ≤ 40 := by have := hok.2.2.1; omega
  have hg : Good (esOf ps) n := by rw [← hln]; exact net_good hok
  have HG := Lib.hid hg
  have HM := Lib.hid hm
  have HOK := Lib.hid hok
  clear hln hok hg hm
  have bx := box_new w #[.slice A n c, .slice B m d] 45
  have hV : Below w.heap.size w (w.alloc (.cells #[.slice A n c, .slice B m d] 45)) := (Below.refl _ _).alloc (Nat.le_refl _) _
  have hsV : w.heap.size + 1 ≤ (w.alloc (.cells #[.slice A n c, .slice B m d] 45)).heap.size := by simp
  go_enter Try.func91, Try.ntmps91
  go_upto_region 2 with (go_at_call 116; refine (sForest_any _ _ _ _ _ _ ns ps _ (h.below hV) HOK.out).mono ?_; rintro e1 w1 ⟨A1, c1, rfl, o1, hb1⟩)
  have hW := bthen hV hb1 (by omega)
  have bx1 := bx.belowA hb1
  have hs1 := hb1.size
  have xl := bx1.lt
  have x0 : w1.cell? ⟨w.heap.size, 0, none⟩ = some (.slice A n c) := bx1.cell 0
  have x1 : w1.cell? ⟨w.heap.size, 1, none⟩ = some (.slice B m d) := bx1.cell 1
  have hL : (cN (fst (esOf ps) n)).length ≤ m := by rw [cN_len, ← HM.out, ← esOf_len]; exact fst_len _ _
  generalize hL1 : (cN (fst (esOf ps) n)).length = L at *
  clear hL1
  have o1' : Own w1 w.heap.size A1 L c1 (cN (fst (esOf ps) n)) := o1.mono (by omega)
  have HA1 := Lib.hid (fun g hg => (o1.lt g hg).2)
  clear hb1 bx hV o1
  go_wp2_with fail
  go_loopw [4, 5] (fun ss ii wr => ∃ (k : Nat) (A2 : Option Addr) (m2 c2 : Nat), k ≤ m ∧ ii = .int .i64 k ∧ ss = .slice A2 m2 c2 ∧ m2 ≤ k ∧ Own wr w1.heap.size A2 m2 c2 (cN (chdTo (esOf ps) n k)) ∧ Own wr w.heap.size A1 L c1 (cN (fst (esOf ps) n)) ∧ Below w1.heap.size w1 wr) (fun _ ii _ => m - (intOf ii).toNat)
  case atStart => exact ⟨0, _, 0, 0, Nat.zero_le _, rfl, rfl, Nat.le_refl _, own_empty _ _ (Nat.le_refl _), o1'.alloc _, (Below.refl _ _).alloc (Nat.le_refl _) _⟩
  case round =>
    clear o1' x0 x1 xl
    obtain ⟨k, A2, m2, c2, hk, rfl, rfl, hm2, hG, hC, hb⟩ := hrel
    have b1 := bx1.belowA hb
    have xl := b1.lt
    have x0 : wr.cell? ⟨w.heap.size, 0, none⟩ = some (.slice A n c) := b1.cell 0
    have x1 : wr.cell? ⟨w.heap.size, 1, none⟩ = some (.slice B m d) := b1.cell 1
    by_cases hlt : k < m
    · have hcon := fst_contains (n := n) (show k < (esOf ps).length by rw [esOf_len, HM.out]; exact hlt)
      cases hB : treeB (esOf ps) n k with
      | true =>
        rw [hB] at hcon
        have HC := Lib.hid hcon
        have HT := Lib.hid (chdTo_in hB)
        clear hcon hB
        go_wp2_with (go_at_call 92; refine (sHas_any _ _ _ _ _ _ hC.ints (by omega)).mono ?_; rintro e4 wq ⟨rfl, rfl⟩; rw [HC.out])
        go_roundw
        case rel => exact ⟨k + 1, A2, m2, c2, by omega, by go_num, rfl, by omega, by rw [HT.out]; exact hG, hC, hb⟩
        case measure => simp [intOf]; omega
      | false =>
        rw [hB] at hcon
        have HC := Lib.hid hcon
        have HT := Lib.hid (chdTo_out hB)
        clear hcon hB
        go_upto_region 7 with (go_at_call 92; refine (sHas_any _ _ _ _ _ _ hC.ints (by omega)).mono ?_; rintro e4 wq ⟨rfl, rfl⟩; rw [HC.out])
        go_wp2_with (at_builtin; refine wpList_pushA wr rfl _ _ rfl w1.heap.size _ _ _ _ (k : Int) wr.heap.size rfl rfl rfl hG (WalkArith.wf_i64 (by omega)) (by omega) hb.size ?_; intro gn cn wn hon hbn hgn hCn hat)
        go_roundw
        case rel =>
          refine ⟨k + 1, some ⟨gn, 0, none⟩, m2 + 1, cn, by omega, by go_num, rfl, by omega, by rw [HT.out, cN_app]; exact hon, ?_, hb.trans hbn⟩
          exact hC.grown hgn (fun g hg hh => by
            have h1 := (hG.lt g hh).1
            have h2 := HA1.out g (by rw [hg]; rfl)
            omega)
        case measure => simp [intOf]; omega
    · obtain rfl : k = m := by omega
      have HE := Lib.hid (show chd (esOf ps) n = chdTo (esOf ps) n k by unfold chd; rw [esOf_len, HM.out])
      go_wp2_with fail
      go_ret
      rw [← HE.out] at hG
      exact retInts_of hG.len (hG.mono (by omega)) (hW.trans (hb.mono (by omega)))
end Go.Proofs.Ytoijogaogheciaa
