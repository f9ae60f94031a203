/- What IsConnected of the reference and DrawSolveStep do, by walks over their text. Condition: a source over at most 4096 bytes. -/
import Derived.Test.YtebefamekjjbcaaGreatDoorNDraw9
import Derived.Deep.DeepCutAuto
set_option linter.unusedVariables false
set_option maxRecDepth 100000
namespace Go.Proofs.YtebefamekjjbcaaGreatDoor
open Go.ChangeShapes Go.WideShapes Go.ChangeAt Go.RowKit Go.Joins Go.Deep
attribute [local go_sem ↓] Go.wp_at_zero Go.wp_at_succ

theorem ret_no9 {w w' : World} {p : Prop} (h : ¬ p) (hb : Below w.heap.size w w') : RetEq w p (.returned (.bool false)) w' := ⟨false, ⟨(fun h => by cases h), fun k => absurd k h⟩, rfl, hb⟩
set_option maxHeartbeats 4000000 in
theorem sConn_any (A B : Option Addr) (n c m d : Nat) (ns : List Nd) (ps : List Pp) (w : World) (h : IsNet w A n c ns B m d ps) :
    Calls Tryz.prog 14 #[.agg #[.slice A n c, .slice B m d]] w (RetEq w (NetOk ns ps ∧ conB (esOf ps) n = true)) := by
  have hV : Below w.heap.size w (w.alloc (.cells #[.slice A n c, .slice B m d] 27)) := (Below.refl _ _).alloc (Nat.le_refl _) _
  have bx := box_new w #[.slice A n c, .slice B m d] 27
  go_enter Tryz.func14, Tryz.ntmps14
  go_upto_region 1 with fail
  generalize (w.alloc (.cells #[.slice A n c, .slice B m d] 27)) = V at *
  have xl := bx.lt
  have x0 : V.cell? ⟨w.heap.size, 0, none⟩ = some (.slice A n c) := bx.cell 0
  have x1 : V.cell? ⟨w.heap.size, 1, none⟩ = some (.slice B m d) := bx.cell 1
  go_wp2_with fail
  refine (sIsNetw_any _ _ _ _ _ _ ns ps _ (h.below hV)).mono ?_
  rintro e1 w1 ⟨b, hb, rfl, hb1⟩
  have hW1 := bthen hV hb1 hV.size
  have bx1 := bx.belowA hb1
  have HB := Lib.hid hb
  clear x0 x1 xl hb1 hb bx
  have xl := bx1.lt
  have x0 : w1.cell? ⟨w.heap.size, 0, none⟩ = some (.slice A n c) := bx1.cell 0
  have x1 : w1.cell? ⟨w.heap.size, 1, none⟩ = some (.slice B m d) := bx1.cell 1
  cases b
  · go_wp2_with fail
    go_ret
    exact ret_no9 (fun hh => absurd (HB.out.2 hh.1) (by simp)) hW1
  · have hok := HB.out.1 rfl
    have HOK := Lib.hid hok
    have hn1 : 0 < n := by have := hok.1; have := h.nodes.len; omega
    have hg : Good (esOf ps) n := by rw [← h.nodes.len]; exact net_good hok
    have HCB := Lib.hid (cnt_conB hg hn1)
    have hcl := cntTo_le (esOf ps) n n
    have hn24 : n ≤ 24 := by have := hok.2.1; have := h.nodes.len; omega
    obtain ⟨K, hK⟩ : ∃ y, cntTo (esOf ps) n n = y := ⟨_, rfl⟩
    have HK := Lib.hid hK
    rw [hK] at hcl
    clear hok hg hK HB
    go_wp2_with fail
    refine (sCount_any _ _ _ _ _ _ ns ps _ (h.below hW1) HOK.out).mono ?_
    rw [HK.out]
    rintro e2 w2 ⟨rfl, hb2⟩
    go_wp2_with fail
    go_ret
    refine ⟨decide ((K : Int) = 1), ?_, rb (by rw [Bool.eq_iff_iff]; simp), bthen hW1 hb2 hW1.size⟩
    rw [HCB.out, HK.out, decide_eq_true_iff, decide_eq_true_iff]
    exact ⟨fun hh => ⟨HOK.out, by omega⟩, fun hh => by omega⟩
end Go.Proofs.YtebefamekjjbcaaGreatDoor
