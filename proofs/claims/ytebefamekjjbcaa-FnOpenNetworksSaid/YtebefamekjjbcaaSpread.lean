/- What spreadFlows, l16Spread, OpenNetwork, SpreadFlows of the program and of the reference do, by walks over their text. Conditions: lengths of at most 1048576. -/
import Derived.Test.YtebefamekjjbcaaOpen
import Derived.RegionTactic
import Derived.BigRegion
set_option linter.unusedVariables false
set_option maxRecDepth 100000
namespace Go.Proofs.Ytebefamekjjbcaa
open Go.ChangeShapes Go.WideShapes Go.ChangeAt Go.RowKit Go.Joins Go.Deep

/-- Numbers laid into a list of zeros. -/
def spr (m : Nat) (l : List (Int × Int)) : List Int := l.foldl (fun a x => a.set x.1.toNat x.2) (List.replicate m 0)
theorem spr_step {m k : Nat} {ix fs : List Int} {x y : Int} (hx : ix[k]? = some x) (hy : fs[k]? = some y) : spr m ((ix.zip fs).take (k + 1)) = (spr m ((ix.zip fs).take k)).set x.toNat y := by
  have e : (ix.zip fs)[k]? = some (x, y) := by rw [List.getElem?_zip_eq_some]; exact ⟨hx, hy⟩
  unfold spr
  rw [List.take_add_one, e, List.foldl_append]
  rfl
theorem spr_len (m : Nat) (l : List (Int × Int)) : (spr m l).length = m := by
  unfold spr
  have : ∀ (l : List (Int × Int)) (a : List Int), (l.foldl (fun a x => a.set x.1.toNat x.2) a).length = a.length := by
    intro l
    induction l with
    | nil => intro a; rfl
    | cons x l ih => intro a; rw [List.foldl_cons, ih, List.length_set]
  rw [this, List.length_replicate]
set_option maxHeartbeats 1000000 in
theorem spread_any (A B C D : Option Addr) (n c m d l e f : Nat) (ix fs : List Int) (w : World) (hix : Ints w C l ix) (hfs : Ints w D l fs) (hr : ∀ x ∈ ix, 0 ≤ x ∧ x < m) (hm : m ≤ 1048576) (hl : l ≤ 1048576) :
    Calls Try.prog 22 #[.agg #[.slice A n c, .slice B m d], .slice C l e, .slice D l f] w (RetInts w (spr m (ix.zip fs))) := by
  have hmk := fun W => run_make_row' (P := Try.prog) 28 2 (.int .i64 0) 8 Try.underlying28 info_i64 rfl .i64 .i64 m (by omega) (by omega) W
  have hl1 := Lib.hid hix.len
  have hl2 := Lib.hid hfs.len
  have HR := Lib.hid hr
  clear hr
  have oz := own_zeros (w.alloc (.cells #[.slice A n c, .slice B m d] 27)) m hm
  have hV : Below w.heap.size w (w.alloc (.cells #[.slice A n c, .slice B m d] 27)) := (Below.refl _ _).alloc (Nat.le_refl _) _
  have hsz : (w.alloc (.cells #[.slice A n c, .slice B m d] 27)).heap.size = w.heap.size + 1 := by simp
  rw [hsz] at oz
  go_enter Try.func22, Try.ntmps22
  go_wp2_with fail
  clear hmk
  have hV2 : Below (w.heap.size + 1) (w.alloc (.cells #[.slice A n c, .slice B m d] 27)) ((w.alloc (.cells #[.slice A n c, .slice B m d] 27)).alloc (.cells (madeCells #[.int .i64 0] m) 2)) := (Below.refl _ _).alloc (by simp) _
  generalize (w.alloc (.cells #[.slice A n c, .slice B m d] 27)) = V at *
  go_loopw [16] (fun ii wr => ∃ k : Nat, k ≤ l ∧ ii = .int .i64 k ∧ Own wr (w.heap.size + 1) (some ⟨w.heap.size + 1, 0, none⟩) m m (spr m ((ix.zip fs).take k)) ∧ Below (w.heap.size + 1) V wr) (fun ii _ => l - (intOf ii).toNat)
  case atStart => exact ⟨0, Nat.zero_le _, rfl, oz, hV2⟩
  case round =>
    obtain ⟨k, hk, rfl, hown, hb⟩ := hrel
    have hbV := hV.trans (hb.mono (by omega : w.heap.size ≤ w.heap.size + 1))
    by_cases hlt : k < l
    · obtain ⟨b, o, x, rfl, hbl, hx, hx64, hcx⟩ := (hix.below hbV).at_ hlt
      obtain ⟨b', o', y, rfl, hbl', hy, hy64, hcy⟩ := (hfs.below hbV).at_ hlt
      have hxr := HR.out x (List.mem_of_getElem? hx)
      obtain ⟨j, rfl⟩ : ∃ j : Nat, x = j := ⟨x.toNat, by omega⟩
      have hjm : j < m := by omega
      have HS := Lib.hid (spr_step (m := m) hx hy)
      obtain ⟨g, z', hg, hBg, hgl, _, _, hcg, hfg⟩ := hown.at_ hjm
      obtain rfl : g = w.heap.size + 1 := by injection hg with hg; injection hg with hg; exact hg.symm
      have hown' := Lib.hid (hown.set_ j hy64)
      have hb' := hb.setCell (p := ⟨w.heap.size + 1, j, none⟩) (Nat.le_refl _) (.int .i64 y)
      clear hown hg hx hy
      go_wp2_with fail
      go_roundw
      case rel => exact ⟨k + 1, by omega, by go_num, by rw [HS.out]; exact hown'.out, hb'⟩
      case measure => simp [intOf]; omega
    · obtain rfl : k = l := by omega
      go_wp2_with fail
      go_ret
      rw [List.take_of_length_le (by rw [List.length_zip, hl1.out, hl2.out]; omega)] at hown
      exact retInts_of (spr_len _ _) (hown.mono (by omega)) hbV
set_option maxHeartbeats 1000000 in
theorem sSpread_any (A B C D : Option Addr) (n c m d l e f : Nat) (ix fs : List Int) (w : World) (hix : Ints w C l ix) (hfs : Ints w D l fs) (hr : ∀ x ∈ ix, 0 ≤ x ∧ x < m) (hm : m ≤ 1048576) (hl : l ≤ 1048576) :
    Calls Try.prog 26 #[.agg #[.slice A n c, .slice B m d], .slice C l e, .slice D l f] w (RetInts w (spr m (ix.zip fs))) := by
  have hmk := fun W => run_make_row' (P := Try.prog) 28 2 (.int .i64 0) 8 Try.underlying28 info_i64 rfl .i64 .i64 m (by omega) (by omega) W
  have hl1 := Lib.hid hix.len
  have hl2 := Lib.hid hfs.len
  have HR := Lib.hid hr
  clear hr
  have oz := own_zeros (w.alloc (.cells #[.slice A n c, .slice B m d] 27)) m hm
  have hV : Below w.heap.size w (w.alloc (.cells #[.slice A n c, .slice B m d] 27)) := (Below.refl _ _).alloc (Nat.le_refl _) _
  have hsz : (w.alloc (.cells #[.slice A n c, .slice B m d] 27)).heap.size = w.heap.size + 1 := by simp
  rw [hsz] at oz
  go_enter Try.func26, Try.ntmps26
  go_wp2_with fail
  clear hmk
  have hV2 : Below (w.heap.size + 1) (w.alloc (.cells #[.slice A n c, .slice B m d] 27)) ((w.alloc (.cells #[.slice A n c, .slice B m d] 27)).alloc (.cells (madeCells #[.int .i64 0] m) 2)) := (Below.refl _ _).alloc (by simp) _
  generalize (w.alloc (.cells #[.slice A n c, .slice B m d] 27)) = V at *
  go_loopw [8] (fun ii wr => ∃ k : Nat, k ≤ l ∧ ii = .int .i64 k ∧ Own wr (w.heap.size + 1) (some ⟨w.heap.size + 1, 0, none⟩) m m (spr m ((ix.zip fs).take k)) ∧ Below (w.heap.size + 1) V wr) (fun ii _ => l - (intOf ii).toNat)
  case atStart => exact ⟨0, Nat.zero_le _, rfl, oz, hV2⟩
  case round =>
    obtain ⟨k, hk, rfl, hown, hb⟩ := hrel
    have hbV := hV.trans (hb.mono (by omega : w.heap.size ≤ w.heap.size + 1))
    by_cases hlt : k < l
    · obtain ⟨b, o, x, rfl, hbl, hx, hx64, hcx⟩ := (hix.below hbV).at_ hlt
      obtain ⟨b', o', y, rfl, hbl', hy, hy64, hcy⟩ := (hfs.below hbV).at_ hlt
      have hxr := HR.out x (List.mem_of_getElem? hx)
      obtain ⟨j, rfl⟩ : ∃ j : Nat, x = j := ⟨x.toNat, by omega⟩
      have hjm : j < m := by omega
      have HS := Lib.hid (spr_step (m := m) hx hy)
      obtain ⟨g, z', hg, hBg, hgl, _, _, hcg, hfg⟩ := hown.at_ hjm
      obtain rfl : g = w.heap.size + 1 := by injection hg with hg; injection hg with hg; exact hg.symm
      have hown' := Lib.hid (hown.set_ j hy64)
      have hb' := hb.setCell (p := ⟨w.heap.size + 1, j, none⟩) (Nat.le_refl _) (.int .i64 y)
      have i1 : (k : Int) < (l : Int) := by omega
      have i2 : (j : Int) < (m : Int) := by omega
      have i3 : (0 : Int) ≤ (k : Int) := by omega
      have i4 : (0 : Int) ≤ (j : Int) := by omega
      clear hown hg hx hy
      go_wp2_with fail
      go_region
      all_goals
        go_wp2_with fail
        go_roundw
        case rel => exact ⟨k + 1, by omega, by go_num, by rw [HS.out]; exact hown'.out, hb'.drew⟩
        case measure => simp [intOf]; omega
    · obtain rfl : k = l := by omega
      go_wp2_with fail
      go_ret
      rw [List.take_of_length_le (by rw [List.length_zip, hl1.out, hl2.out]; omega)] at hown
      exact retInts_of (spr_len _ _) (hown.mono (by omega)) hbV
theorem op_len {ps : List Pp} {zs : List Int} {m : Nat} (hp : ps.length = m) (hz : zs.length = m) : (opP ps zs m).length = (opI zs m).length := by
  have key : ∀ k, k ≤ m → (opP ps zs k).length = (opI zs k).length := by
    intro k
    induction k with
    | zero => intro _; rfl
    | succ k ih =>
      intro hk
      have h1 : ps[k]? = some (ps[k]'(by omega)) := List.getElem?_eq_getElem _
      have h2 : zs[k]? = some (zs[k]'(by omega)) := List.getElem?_eq_getElem _
      rw [opP_step h1 h2, opI_step h2]
      split
      · exact ih (by omega)
      · simp [ih (by omega)]
  exact key m (Nat.le_refl _)
theorem op_in (zs : List Int) (m : Nat) : ∀ x ∈ opI zs m, 0 ≤ x ∧ x < m := by
  intro x hx
  unfold opI at hx
  obtain ⟨i, hi, rfl⟩ := List.mem_map.1 hx
  have := List.mem_range.1 (List.mem_filter.1 hi).1
  omega
theorem codeS_net' {ns : List Nd} {ps : List Pp} {m : Nat} {zs : List Int} (h : codeS ns ps m zs = 0) : NetOk ns ps := by
  by_cases hn : NetOk ns ps
  · exact hn
  · rw [codeS_net hn] at h; omega
/-- What SpreadFlows returns. -/
noncomputable def spF (ns : List Nd) (ps : List Pp) (m : Nat) (zs fs : List Int) : List Int × Int :=
  if codeS ns ps m zs = 0 then (if flB (opP ps zs m).length fs = true then (spr m ((opI zs m).zip fs), 0) else ([], 3)) else ([], codeS ns ps m zs)
theorem spF_code {ns : List Nd} {ps : List Pp} {m : Nat} {zs fs : List Int} {k : Int} (h : codeS ns ps m zs = k) (hk : k ≠ 0) : spF ns ps m zs fs = ([], k) := by
  unfold spF
  rw [if_neg (by omega), h]
theorem spF_bad {ns : List Nd} {ps : List Pp} {m : Nat} {zs fs : List Int} (h : codeS ns ps m zs = 0) (h2 : flB (opP ps zs m).length fs = false) : spF ns ps m zs fs = ([], 3) := by
  unfold spF
  rw [if_pos h, if_neg (by rw [h2]; simp)]
theorem spF_ok {ns : List Nd} {ps : List Pp} {m : Nat} {zs fs : List Int} (h : codeS ns ps m zs = 0) (h2 : flB (opP ps zs m).length fs = true) : spF ns ps m zs fs = (spr m ((opI zs m).zip fs), 0) := by
  unfold spF
  rw [if_pos h, if_pos h2]
set_option maxHeartbeats 2000000 in
theorem spreadF_any (A B C D : Option Addr) (n c m d e f : Nat) (ns : List Nd) (ps : List Pp) (zs fs : List Int) (w : World) (h : IsNet w A n c ns B m d ps) (hz : Ints w C zs.length zs) (hf : Ints w D fs.length fs) (hl : zs.length ≤ 1048576) (hl2 : fs.length ≤ 1048576) :
    Calls Try.prog 6 #[.agg #[.slice A n c, .slice B m d], .slice C zs.length e, .slice D fs.length f] w (RetInts2 w (spF ns ps m zs fs).1 (spF ns ps m zs fs).2) := by
  have hw0 : ∀ cs t, Below w.heap.size w (w.alloc (.cells cs t)) := fun cs t => (Below.refl _ _).alloc (Nat.le_refl _) _
  go_enter Try.func6, Try.ntmps6
  go_wp2_with fail
  refine (checkS_any _ _ _ _ _ _ _ _ _ ns ps zs _ (h.alloc _) (hz.alloc _) hl).mono ?_
  rintro e w1 ⟨rfl, hb1⟩
  have bx := (box_new w #[.slice A n c, .slice B m d] 27).belowA hb1
  have hB1 := bthen (hw0 _ _) hb1 (by simp)
  have xl := bx.lt
  have x0 : w1.cell? ⟨w.heap.size, 0, none⟩ = some (.slice A n c) := bx.cell 0
  have x1 : w1.cell? ⟨w.heap.size, 1, none⟩ = some (.slice B m d) := bx.cell 1
  clear hb1
  rcases codeS_in ns ps m zs with ⟨hk, hs⟩ | hk | hk
  rotate_left
  · have HK := Lib.hid hk
    rw [hk]
    clear hk
    go_wp2_with fail
    go_ret2
    rw [spF_code HK.out (by omega)]
    exact retInts2_nil _ hB1
  · have HK := Lib.hid hk
    rw [hk]
    clear hk
    go_wp2_with fail
    go_ret2
    rw [spF_code HK.out (by omega)]
    exact retInts2_nil _ hB1
  have HK := Lib.hid hk
  have HS := Lib.hid hs
  have HN := Lib.hid (codeS_net' hk)
  rw [hk]
  clear hk hs
  have hzm : zs.length = m := setB_len HS.out
  have hpm : ps.length = m := h.pipes.len
  have hnm : ns.length = n := h.nodes.len
  have hnB : 1 ≤ n ∧ n ≤ 24 := by have := HN.out.1; have := HN.out.2.1; omega
  have hmB : m ≤ 40 := by have := HN.out.2.2.1; omega
  have HZM := Lib.hid hzm
  have HPM := Lib.hid hpm
  rw [hzm] at hz
  obtain ⟨a, rfl⟩ : ∃ a, A = some a := by
    obtain ⟨b, o, _, hA, _⟩ := h.nodes.at_ (show 0 < n by omega)
    exact ⟨_, hA⟩
  clear hzm hpm hnm
  go_wp2_with fail
  rw [HZM.out]
  refine (openNet_any _ _ _ _ _ _ _ _ ns ps zs _ (h.below hB1) (hz.below hB1) hnB.2 hmB).mono ?_
  rintro e w2 ⟨A2, c2, B2, d2, Z2, f2, rfl, oN2, oZ2, hb2⟩
  have hB2 := bthen hB1 hb2 hB1.size
  have bx2 := bx.belowA hb2
  clear x0 x1 xl hB1 hb2 bx
  have y0 : w2.cell? ⟨w.heap.size, 0, none⟩ = some (.slice (some a) n c) := bx2.cell 0
  have y1 : w2.cell? ⟨w.heap.size, 1, none⟩ = some (.slice B m d) := bx2.cell 1
  have yl := bx2.lt
  have hW2 : Below w2.heap.size w2 (w2.alloc (.cells #[.slice A2 ns.length c2, .slice B2 (opP ps zs m).length d2] 27)) := (Below.refl _ _).alloc (Nat.le_refl _) _
  have hB3 := bthen hB2 hW2 hB2.size
  go_wp2_with fail
  refine (isFlow_any _ _ _ _ _ _ _ _ _ fs _ (hf.below hB3) hl2).mono ?_
  rintro e w3 ⟨rfl, hb3⟩
  have hB4 := bthen hB3 hb3 hB3.size
  have bx4 := (bx2.alloc _).belowA hb3
  have oZ4 := (oZ2.alloc _).below hb3
  clear y0 y1 yl bx2
  have y0 : w3.cell? ⟨w.heap.size, 0, none⟩ = some (.slice (some a) n c) := bx4.cell 0
  have y1 : w3.cell? ⟨w.heap.size, 1, none⟩ = some (.slice B m d) := bx4.cell 1
  have yl := bx4.lt
  cases hF : flB (opP ps zs m).length fs
  · have HF := Lib.hid hF
    clear hF
    go_wp2_with fail
    go_ret2
    rw [spF_bad HK.out HF.out]
    exact retInts2_nil _ hB4
  have HF := Lib.hid hF
  clear hF
  have HFL := Lib.hid ((flB_len HF.out).trans (op_len HPM.out HZM.out))
  have hf4 := hf.below hB4
  have HI := Lib.hid (op_in zs m)
  rw [HFL.out] at hf4
  go_wp2_with fail
  rw [HFL.out]
  refine (spread_any _ _ _ _ _ _ _ _ _ _ _ (opI zs m) fs _ oZ4.ints hf4 HI.out (by omega) (by have := opI_len zs m; omega)).mono ?_
  rintro e w5 ⟨A5, c5, rfl, o5, hb5⟩
  go_wp2_with fail
  go_ret2
  rw [spF_ok HK.out HF.out]
  exact ⟨A5, c5, rfl, o5.mono hB4.size, bthen hB4 hb5 hB4.size⟩
set_option maxHeartbeats 2000000 in
theorem sSpreadF_any (A B C D : Option Addr) (n c m d e f : Nat) (ns : List Nd) (ps : List Pp) (zs fs : List Int) (w : World) (h : IsNet w A n c ns B m d ps) (hz : Ints w C zs.length zs) (hf : Ints w D fs.length fs) (hl : zs.length ≤ 1048576) (hl2 : fs.length ≤ 1048576) :
    Calls Try.prog 7 #[.agg #[.slice A n c, .slice B m d], .slice C zs.length e, .slice D fs.length f] w (RetInts2 w (spF ns ps m zs fs).1 (spF ns ps m zs fs).2) := by
  have hw0 : ∀ cs t, Below w.heap.size w (w.alloc (.cells cs t)) := fun cs t => (Below.refl _ _).alloc (Nat.le_refl _) _
  go_enter Try.func7, Try.ntmps7
  go_wp2_with fail
  refine (sCodeS_any _ _ _ _ _ _ _ _ _ ns ps zs _ (h.alloc _) (hz.alloc _) hl).mono ?_
  rintro e w1 ⟨rfl, hb1⟩
  have bx := (box_new w #[.slice A n c, .slice B m d] 27).belowA hb1
  have hB1 := bthen (hw0 _ _) hb1 (by simp)
  have xl := bx.lt
  have x0 : w1.cell? ⟨w.heap.size, 0, none⟩ = some (.slice A n c) := bx.cell 0
  have x1 : w1.cell? ⟨w.heap.size, 1, none⟩ = some (.slice B m d) := bx.cell 1
  clear hb1
  rcases codeS_in ns ps m zs with ⟨hk, hs⟩ | hk | hk
  rotate_left
  · have HK := Lib.hid hk
    rw [hk]
    clear hk
    go_wp2_with fail
    go_ret2
    rw [spF_code HK.out (by omega)]
    exact retInts2_nil _ hB1
  · have HK := Lib.hid hk
    rw [hk]
    clear hk
    go_wp2_with fail
    go_ret2
    rw [spF_code HK.out (by omega)]
    exact retInts2_nil _ hB1
  have HK := Lib.hid hk
  have HS := Lib.hid hs
  have HN := Lib.hid (codeS_net' hk)
  rw [hk]
  clear hk hs
  have hzm : zs.length = m := setB_len HS.out
  have hpm : ps.length = m := h.pipes.len
  have hnm : ns.length = n := h.nodes.len
  have hnB : 1 ≤ n ∧ n ≤ 24 := by have := HN.out.1; have := HN.out.2.1; omega
  have hmB : m ≤ 40 := by have := HN.out.2.2.1; omega
  have HZM := Lib.hid hzm
  have HPM := Lib.hid hpm
  rw [hzm] at hz
  obtain ⟨a, rfl⟩ : ∃ a, A = some a := by
    obtain ⟨b, o, _, hA, _⟩ := h.nodes.at_ (show 0 < n by omega)
    exact ⟨_, hA⟩
  clear hzm hpm hnm
  go_wp2_with fail
  rw [HZM.out]
  refine (sOpen_any _ _ _ _ _ _ _ _ ns ps zs _ (h.below hB1) (hz.below hB1) hnB.2 hmB).mono ?_
  rintro e w2 ⟨A2, c2, B2, d2, Z2, f2, rfl, oN2, oZ2, hb2⟩
  have hB2 := bthen hB1 hb2 hB1.size
  have bx2 := bx.belowA hb2
  clear x0 x1 xl hB1 hb2 bx
  have y0 : w2.cell? ⟨w.heap.size, 0, none⟩ = some (.slice (some a) n c) := bx2.cell 0
  have y1 : w2.cell? ⟨w.heap.size, 1, none⟩ = some (.slice B m d) := bx2.cell 1
  have yl := bx2.lt
  have hW2 : Below w2.heap.size w2 (w2.alloc (.cells #[.slice A2 ns.length c2, .slice B2 (opP ps zs m).length d2] 27)) := (Below.refl _ _).alloc (Nat.le_refl _) _
  have hB3 := bthen hB2 hW2 hB2.size
  go_wp2_with fail
  refine (sFlow_any _ _ _ _ _ _ _ _ _ fs _ (hf.below hB3) hl2).mono ?_
  rintro e w3 ⟨rfl, hb3⟩
  have hB4 := bthen hB3 hb3 hB3.size
  have bx4 := (bx2.alloc _).belowA hb3
  have oZ4 := (oZ2.alloc _).below hb3
  clear y0 y1 yl bx2
  have y0 : w3.cell? ⟨w.heap.size, 0, none⟩ = some (.slice (some a) n c) := bx4.cell 0
  have y1 : w3.cell? ⟨w.heap.size, 1, none⟩ = some (.slice B m d) := bx4.cell 1
  have yl := bx4.lt
  cases hF : flB (opP ps zs m).length fs
  · have HF := Lib.hid hF
    clear hF
    go_wp2_with fail
    go_ret2
    rw [spF_bad HK.out HF.out]
    exact retInts2_nil _ hB4
  have HF := Lib.hid hF
  clear hF
  have HFL := Lib.hid ((flB_len HF.out).trans (op_len HPM.out HZM.out))
  have hf4 := hf.below hB4
  have HI := Lib.hid (op_in zs m)
  rw [HFL.out] at hf4
  go_wp2_with fail
  rw [HFL.out]
  refine (sSpread_any _ _ _ _ _ _ _ _ _ _ _ (opI zs m) fs _ oZ4.ints hf4 HI.out (by omega) (by have := opI_len zs m; omega)).mono ?_
  rintro e w5 ⟨A5, c5, rfl, o5, hb5⟩
  go_wp2_with fail
  go_ret2
  rw [spF_ok HK.out HF.out]
  exact ⟨A5, c5, rfl, o5.mono hB4.size, bthen hB4 hb5 hB4.size⟩
end Go.Proofs.Ytebefamekjjbcaa
