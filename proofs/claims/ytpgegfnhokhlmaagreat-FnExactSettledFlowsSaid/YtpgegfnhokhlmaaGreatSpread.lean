/- What spreadFlows, l16Spread, OpenNetwork, SpreadFlows of the program and of the reference do, by walks over their text. Conditions: lengths of at most 1048576. -/
import Derived.Test.YtpgegfnhokhlmaaGreatOpen
import Derived.RegionTactic
import Derived.BigRegion
set_option linter.unusedVariables false
set_option maxRecDepth 100000
namespace Go.Proofs.YtpgegfnhokhlmaaGreat
open Go.ChangeShapes Go.WideShapes Go.ChangeAt Go.RowKit Go.Joins Go.Deep

/-- Numbers laid into a list of zeros. -/
def spr (m : Nat) (l : List (Int × Int)) : List Int := l.foldl (fun a x => a.set x.1.toNat x.2) (List.replicate m 0)
theorem spr_step {m k : Nat} {ix fs : List Int} {x y : Int} (hx : ix[k]? = some x) (hy : fs[k]? = some y) : spr m ((ix.zip fs).take (k + 1)) = (spr m ((ix.zip fs).take k)).set x.toNat y := by
  have e : (ix.zip fs)[k]? = some (x, y) := by rw [List.getElem?_zip_eq_some]; exact ⟨hx, hy⟩
  unfold spr
  rw [List.take_add_one, e, List.foldl_append]
  rfl
theorem spr_len (m : Nat) (l : List (Int × Int)) : (spr m l).length = m := by
  unfold spr
  have : ∀ (l : List (Int × Int)) (a : List Int), (l.foldl (fun a x => a.set x.1.toNat x.2) a).length = a.length := by
    intro l
    induction l with
    | nil => intro a; rfl
    | cons x l ih => intro a; rw [List.foldl_cons, ih, List.length_set]
  rw [this, List.length_replicate]
set_option maxHeartbeats 1000000 in
theorem spread_any (A B C D : Option Addr) (n c m d l e f : Nat) (ix fs : List Int) (w : World) (hix : Ints w C l ix) (hfs : Ints w D l fs) (hr : ∀ x ∈ ix, 0 ≤ x ∧ x < m) (hm : m ≤ 1048576) (hl : l ≤ 1048576) :
    Calls Tryz.prog 105 #[.agg #[.slice A n c, .slice B m d], .slice C l e, .slice D l f] w (RetInts w (spr m (ix.zip fs))) := by
  have hmk := fun W => run_make_row' (P := Tryz.prog) 26 2 (.int .i64 0) 8 Tryz.underlying26 info_i64 rfl .i64 .i64 m (by omega) (by omega) W
  have hl1 := Lib.hid hix.len
  have hl2 := Lib.hid hfs.len
  have HR := Lib.hid hr
  clear hr
  have oz := own_zeros (w.alloc (.cells #[.slice A n c, .slice B m d] 33)) m hm
  have hV : Below w.heap.size w (w.alloc (.cells #[.slice A n c, .slice B m d] 33)) := (Below.refl _ _).alloc (Nat.le_refl _) _
  have hsz : (w.alloc (.cells #[.slice A n c, .slice B m d] 33)).heap.size = w.heap.size + 1 := by simp
  rw [hsz] at oz
  go_enter Tryz.func105, Tryz.ntmps105
  go_wp2_with fail
  clear hmk
  have hV2 : Below (w.heap.size + 1) (w.alloc (.cells #[.slice A n c, .slice B m d] 33)) ((w.alloc (.cells #[.slice A n c, .slice B m d] 33)).alloc (.cells (madeCells #[.int .i64 0] m) 2)) := (Below.refl _ _).alloc (by simp) _
  generalize (w.alloc (.cells #[.slice A n c, .slice B m d] 33)) = V at *
  go_loopw [16] (fun ii wr => ∃ k : Nat, k ≤ l ∧ ii = .int .i64 k ∧ Own wr (w.heap.size + 1) (some ⟨w.heap.size + 1, 0, none⟩) m m (spr m ((ix.zip fs).take k)) ∧ Below (w.heap.size + 1) V wr) (fun ii _ => l - (intOf ii).toNat)
  case atStart => exact ⟨0, Nat.zero_le _, rfl, oz, hV2⟩
  case round =>
    obtain ⟨k, hk, rfl, hown, hb⟩ := hrel
    have hbV := hV.trans (hb.mono (by omega : w.heap.size ≤ w.heap.size + 1))
    by_cases hlt : k < l
    · obtain ⟨b, o, x, rfl, hbl, hx, hx64, hcx⟩ := (hix.below hbV).at_ hlt
      obtain ⟨b', o', y, rfl, hbl', hy, hy64, hcy⟩ := (hfs.below hbV).at_ hlt
      have hxr := HR.out x (List.mem_of_getElem? hx)
      obtain ⟨j, rfl⟩ : ∃ j : Nat, x = j := ⟨x.toNat, by omega⟩
      have hjm : j < m := by omega
      have HS := Lib.hid (spr_step (m := m) hx hy)
      obtain ⟨g, z', hg, hBg, hgl, _, _, hcg, hfg⟩ := hown.at_ hjm
      obtain rfl : g = w.heap.size + 1 := by injection hg with hg; injection hg with hg; exact hg.symm
      have hown' := Lib.hid (hown.set_ j hy64)
      have hb' := hb.setCell (p := ⟨w.heap.size + 1, j, none⟩) (Nat.le_refl _) (.int .i64 y)
      clear hown hg hx hy
      go_wp2_with fail
      go_roundw
      case rel => exact ⟨k + 1, by omega, by go_num, by rw [HS.out]; exact hown'.out, hb'⟩
      case measure => simp [intOf]; omega
    · obtain rfl : k = l := by omega
      go_wp2_with fail
      go_ret
      rw [List.take_of_length_le (by rw [List.length_zip, hl1.out, hl2.out]; omega)] at hown
      exact retInts_of (spr_len _ _) (hown.mono (by omega)) hbV
set_option maxHeartbeats 1000000 in
theorem sSpread_any (A B C D : Option Addr) (n c m d l e f : Nat) (ix fs : List Int) (w : World) (hix : Ints w C l ix) (hfs : Ints w D l fs) (hr : ∀ x ∈ ix, 0 ≤ x ∧ x < m) (hm : m ≤ 1048576) (hl : l ≤ 1048576) :
    Calls Tryz.prog 101 #[.agg #[.slice A n c, .slice B m d], .slice C l e, .slice D l f] w (RetInts w (spr m (ix.zip fs))) := by
  have hmk := fun W => run_make_row' (P := Tryz.prog) 26 2 (.int .i64 0) 8 Tryz.underlying26 info_i64 rfl .i64 .i64 m (by omega) (by omega) W
  have hl1 := Lib.hid hix.len
  have hl2 := Lib.hid hfs.len
  have HR := Lib.hid hr
  clear hr
  have oz := own_zeros (w.alloc (.cells #[.slice A n c, .slice B m d] 33)) m hm
  have hV : Below w.heap.size w (w.alloc (.cells #[.slice A n c, .slice B m d] 33)) := (Below.refl _ _).alloc (Nat.le_refl _) _
  have hsz : (w.alloc (.cells #[.slice A n c, .slice B m d] 33)).heap.size = w.heap.size + 1 := by simp
  rw [hsz] at oz
  go_enter Tryz.func101, Tryz.ntmps101
  go_wp2_with fail
  clear hmk
  have hV2 : Below (w.heap.size + 1) (w.alloc (.cells #[.slice A n c, .slice B m d] 33)) ((w.alloc (.cells #[.slice A n c, .slice B m d] 33)).alloc (.cells (madeCells #[.int .i64 0] m) 2)) := (Below.refl _ _).alloc (by simp) _
  generalize (w.alloc (.cells #[.slice A n c, .slice B m d] 33)) = V at *
  go_loopw [8] (fun ii wr => ∃ k : Nat, k ≤ l ∧ ii = .int .i64 k ∧ Own wr (w.heap.size + 1) (some ⟨w.heap.size + 1, 0, none⟩) m m (spr m ((ix.zip fs).take k)) ∧ Below (w.heap.size + 1) V wr) (fun ii _ => l - (intOf ii).toNat)
  case atStart => exact ⟨0, Nat.zero_le _, rfl, oz, hV2⟩
  case round =>
    obtain ⟨k, hk, rfl, hown, hb⟩ := hrel
    have hbV := hV.trans (hb.mono (by omega : w.heap.size ≤ w.heap.size + 1))
    by_cases hlt : k < l
    · obtain ⟨b, o, x, rfl, hbl, hx, hx64, hcx⟩ := (hix.below hbV).at_ hlt
      obtain ⟨b', o', y, rfl, hbl', hy, hy64, hcy⟩ := (hfs.below hbV).at_ hlt
      have hxr := HR.out x (List.mem_of_getElem? hx)
      obtain ⟨j, rfl⟩ : ∃ j : Nat, x = j := ⟨x.toNat, by omega⟩
      have hjm : j < m := by omega
      have HS := Lib.hid (spr_step (m := m) hx hy)
      obtain ⟨g, z', hg, hBg, hgl, _, _, hcg, hfg⟩ := hown.at_ hjm
      obtain rfl : g = w.heap.size + 1 := by injection hg with hg; injection hg with hg; exact hg.symm
      have hown' := Lib.hid (hown.set_ j hy64)
      have hb' := hb.setCell (p := ⟨w.heap.size + 1, j, none⟩) (Nat.le_refl _) (.int .i64 y)
      have i1 : (k : Int) < (l : Int) := by omega
      have i2 : (j : Int) < (m : Int) := by omega
      have i3 : (0 : Int) ≤ (k : Int) := by omega
      have i4 : (0 : Int) ≤ (j : Int) := by omega
      clear hown hg hx hy
      go_wp2_with fail
      go_region
      all_goals
        go_wp2_with fail
        go_roundw
        case rel => exact ⟨k + 1, by omega, by go_num, by rw [HS.out]; exact hown'.out, hb'.drew⟩
        case measure => simp [intOf]; omega
    · obtain rfl : k = l := by omega
      go_wp2_with fail
      go_ret
      rw [List.take_of_length_le (by rw [List.length_zip, hl1.out, hl2.out]; omega)] at hown
      exact retInts_of (spr_len _ _) (hown.mono (by omega)) hbV
theorem op_len {ps : List Pp} {zs : List Int} {m : Nat} (hp : ps.length = m) (hz : zs.length = m) : (opP ps zs m).length = (opI zs m).length := by
  have key : ∀ k, k ≤ m → (opP ps zs k).length = (opI zs k).length := by
    intro k
    induction k with
    | zero => intro _; rfl
    | succ k ih =>
      intro hk
      have h1 : ps[k]? = some (ps[k]'(by omega)) := List.getElem?_eq_getElem _
      have h2 : zs[k]? = some (zs[k]'(by omega)) := List.getElem?_eq_getElem _
      rw [opP_step h1 h2, opI_step h2]
      split
      · exact ih (by omega)
      · simp [ih (by omega)]
  exact key m (Nat.le_refl _)
theorem op_in (zs : List Int) (m : Nat) : ∀ x ∈ opI zs m, 0 ≤ x ∧ x < m := by
  intro x hx
  unfold opI at hx
  obtain ⟨i, hi, rfl⟩ := List.mem_map.1 hx
  have := List.mem_range.1 (List.mem_filter.1 hi).1
  omega
theorem codeS_net' {ns : List Nd} {ps : List Pp} {m : Nat} {zs : List Int} (h : codeS ns ps m zs = 0) : NetOk ns ps := by
  by_cases hn : NetOk ns ps
  · exact hn
  · rw [codeS_net hn] at h; omega
/-- What SpreadFlows returns. -/
noncomputable def spF (ns : List Nd) (ps : List Pp) (m : Nat) (zs fs : List Int) : List Int × Int :=
  if codeS ns ps m zs = 0 then (if flB (opP ps zs m).length fs = true then (spr m ((opI zs m).zip fs), 0) else ([], 3)) else ([], codeS ns ps m zs)
theorem spF_code {ns : List Nd} {ps : List Pp} {m : Nat} {zs fs : List Int} {k : Int} (h : codeS ns ps m zs = k) (hk : k ≠ 0) : spF ns ps m zs fs = ([], k) := by
  unfold spF
  rw [if_neg (by omega), h]
theorem spF_bad {ns : List Nd} {ps : List Pp} {m : Nat} {zs fs : List Int} (h : codeS ns ps m zs = 0) (h2 : flB (opP ps zs m).length fs = false) : spF ns ps m zs fs = ([], 3) := by
  unfold spF
  rw [if_pos h, if_neg (by rw [h2]; simp)]
theorem spF_ok {ns : List Nd} {ps : List Pp} {m : Nat} {zs fs : List Int} (h : codeS ns ps m zs = 0) (h2 : flB (opP ps zs m).length fs = true) : spF ns ps m zs fs = (spr m ((opI zs m).zip fs), 0) := by
  unfold spF
  rw [if_pos h, if_pos h2]
end Go.Proofs.YtpgegfnhokhlmaaGreat
