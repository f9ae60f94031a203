/- What OperatingPoint, LowestPoint, IsOperable, ReasonOf (of the program and of the reference) do, by walks over their text. Condition: at most 2^20 supplies. -/
import Derived.Test.YtpgegfnhokhlmaaGreatPt
set_option linter.unusedVariables false
set_option maxRecDepth 100000
namespace Go.Proofs.YtpgegfnhokhlmaaGreat
open Go.ChangeShapes Go.WideShapes Go.ChangeAt Go.RowKit Go.Joins Go.Deep
attribute [local go_sem ↓] Go.wp_at_zero Go.wp_at_succ

/-- A call returns a proof of its own, its two rows apart, and a code. -/
def RetPc (w : World) (fl lv : List Int) (k : Int) (e : Ending) (w' : World) : Prop :=
  ∃ A c B d, e = .returned (.tuple #[.agg #[.slice A fl.length c, .slice B lv.length d], .int .i64 k]) ∧ Own w' w.heap.size A fl.length c fl ∧ Own w' w.heap.size B lv.length d lv ∧ Ap A B ∧ Below w.heap.size w w'
theorem retPc_of {w w' : World} {fl lv : List Int} {k k' : Int} {A B : Option Addr} {c d : Nat} (hk : k = k') (h1 : Own w' w.heap.size A fl.length c fl) (h2 : Own w' w.heap.size B lv.length d lv) (ha : Ap A B) (hb : Below w.heap.size w w') : RetPc w fl lv k (.returned (.tuple #[.agg #[.slice A fl.length c, .slice B lv.length d], .int .i64 k'])) w' := by
  subst hk
  exact ⟨A, c, B, d, rfl, h1, h2, ha, hb⟩
theorem retPc_nil {w w' : World} {fl lv : List Int} {k k' : Int} (hf : fl = []) (hl : lv = []) (hk : k = k') (hb : Below w.heap.size w w') : RetPc w fl lv k (.returned (.tuple #[.agg #[.slice none 0 0, .slice none 0 0], .int .i64 k'])) w' := by
  subst hf hl hk
  exact ⟨none, 0, none, 0, rfl, own_nil _ _, own_nil _ _, (fun g h => by cases h), hb⟩
set_option maxHeartbeats 8000000 in
theorem opPoint_any (A B C : Option Addr) (n c m d l e : Nat) (zs : List Int) (ns : List Nd) (ps : List Pp) (w : World) (h : IsNet w A n c ns B m d ps) (hz : Ints w C l zs) (hl : l ≤ 1048576) :
    Calls Tryz.prog 44 #[.agg #[.slice A n c, .slice B m d], .slice C l e] w (RetPc w (opF ns ps n zs) (opL ns ps n zs true) (opC ns ps n zs)) := by
  have bN := (box_new w #[.slice A n c, .slice B m d] 33).alloc (.cells #[.slice none 0 0, .slice none 0 0] 51)
  have bR := box_at (w.alloc (.cells #[.slice A n c, .slice B m d] 33)) #[.slice none 0 0, .slice none 0 0] 51 (g := w.heap.size + 1) (by simp)
  have hV : Below w.heap.size w ((w.alloc (.cells #[.slice A n c, .slice B m d] 33)).alloc (.cells #[.slice none 0 0, .slice none 0 0] 51)) := ((Below.refl _ _).alloc (Nat.le_refl _) _).alloc (by simp) _
  have hV2 : w.heap.size + 2 ≤ ((w.alloc (.cells #[.slice A n c, .slice B m d] 33)).alloc (.cells #[.slice none 0 0, .slice none 0 0] 51)).heap.size := by simp
  go_enter Tryz.func44, Tryz.ntmps44
  go_upto_region 1 with fail
  generalize ((w.alloc (.cells #[.slice A n c, .slice B m d] 33)).alloc (.cells #[.slice none 0 0, .slice none 0 0] 51)) = V at *
  have xl := bN.lt
  have x0 : V.cell? ⟨w.heap.size, 0, none⟩ = some (.slice A n c) := bN.cell 0
  have x1 : V.cell? ⟨w.heap.size, 1, none⟩ = some (.slice B m d) := bN.cell 1
  have yl := bR.lt
  have z0 : V.cell? ⟨w.heap.size + 1, 0, none⟩ = some (.slice none 0 0) := bR.cell 0
  have z1 : V.cell? ⟨w.heap.size + 1, 1, none⟩ = some (.slice none 0 0) := bR.cell 1
  have f0 := bR.free 0
  have f1 := bR.free 1
  go_upto_region 2 with (go_at_call 96; refine (point_any _ _ _ _ _ _ _ _ _ true zs ns ps _ (h.below hV) (hz.below hV) hl).mono ?_; rintro e2 w2 ⟨A2, c2, B2, d2, rfl, o2, o3, ap2, hb2⟩)
  clear x0 x1 xl yl z0 z1 f0 f1
  have hW2 := bthen hV hb2 hV.size
  have bR2 := (bR.belowA hb2).alloc (.cells #[.slice A2 (opF ns ps n zs).length c2, .slice B2 (opL ns ps n zs true).length d2] 51)
  have bX2 := box_new w2 #[.slice A2 (opF ns ps n zs).length c2, .slice B2 (opL ns ps n zs true).length d2] 51
  have hW3 := hW2.alloc hW2.size (.cells #[.slice A2 (opF ns ps n zs).length c2, .slice B2 (opL ns ps n zs true).length d2] 51)
  have o23 := o2.alloc (.cells #[.slice A2 (opF ns ps n zs).length c2, .slice B2 (opL ns ps n zs true).length d2] 51)
  have o33 := o3.alloc (.cells #[.slice A2 (opF ns ps n zs).length c2, .slice B2 (opL ns ps n zs true).length d2] 51)
  have hsz := hb2.size
  obtain ⟨fl, hfl⟩ : ∃ y, opF ns ps n zs = y := ⟨_, rfl⟩
  obtain ⟨lv, hlv⟩ : ∃ y, opL ns ps n zs true = y := ⟨_, rfl⟩
  have HFL := Lib.hid hfl
  have HLV := Lib.hid hlv
  rw [hfl, hlv] at bR2 bX2 hW3 o23 o33 ⊢
  obtain ⟨L1, hL1⟩ : ∃ y, fl.length = y := ⟨_, rfl⟩
  obtain ⟨L2, hL2⟩ : ∃ y, lv.length = y := ⟨_, rfl⟩
  have HL1 := Lib.hid hL1
  have HL2 := Lib.hid hL2
  rw [hL1, hL2] at bR2 bX2 hW3 o23 o33 ⊢
  generalize (w2.alloc (.cells #[.slice A2 L1 c2, .slice B2 L2 d2] 51)) = W3 at *
  clear hfl hlv hL1 hL2 o2 o3 hb2 hW2
  have yl := bR2.lt
  have z0 : W3.cell? ⟨w.heap.size + 1, 0, none⟩ = some (.slice none 0 0) := bR2.cell 0
  have z1 : W3.cell? ⟨w.heap.size + 1, 1, none⟩ = some (.slice none 0 0) := bR2.cell 1
  have f0 := bR2.free 0
  have f1 := bR2.free 1
  have vl := bX2.lt
  have v0 : W3.cell? ⟨w2.heap.size, 0, none⟩ = some (.slice A2 L1 c2) := bX2.cell 0
  have v1 : W3.cell? ⟨w2.heap.size, 1, none⟩ = some (.slice B2 L2 d2) := bX2.cell 1
  obtain ⟨K, hK⟩ : ∃ y, opC ns ps n zs = y := ⟨_, rfl⟩
  have HK := Lib.hid hK
  rw [hK]
  clear hK
  go_wp2_with fail
  refine bodyPost_ret (v := .tuple #[.agg #[.slice A2 L1 c2, .slice B2 L2 d2], .int .i64 K]) (by simp [results, Tryz.results44, go_sem, z0, z1]) rfl ?_
  rw [HFL.out, HLV.out, HK.out, ← HL1.out, ← HL2.out]
  refine retPc_of rfl ?_ ?_ ap2 ((hW3.setCell (p := ⟨w.heap.size + 1, 0, none⟩) (by simp) _).setCell (p := ⟨w.heap.size + 1, 1, none⟩) (by simp) _)
  · rw [HL1.out]
    exact Own.mono (B := V.heap.size) (Own.low1 (Own.low1 o23 (by simp; omega) _) (by simp; omega) _) (by omega)
  · rw [HL2.out]
    exact Own.mono (B := V.heap.size) (Own.low1 (Own.low1 o33 (by simp; omega) _) (by simp; omega) _) (by omega)
set_option maxHeartbeats 8000000 in
theorem loPoint_any (A B C : Option Addr) (n c m d l e : Nat) (zs : List Int) (ns : List Nd) (ps : List Pp) (w : World) (h : IsNet w A n c ns B m d ps) (hz : Ints w C l zs) (hl : l ≤ 1048576) :
    Calls Tryz.prog 46 #[.agg #[.slice A n c, .slice B m d], .slice C l e] w (RetPc w (opF ns ps n zs) (opL ns ps n zs false) (opC ns ps n zs)) := by
  have bN := (box_new w #[.slice A n c, .slice B m d] 33).alloc (.cells #[.slice none 0 0, .slice none 0 0] 51)
  have bR := box_at (w.alloc (.cells #[.slice A n c, .slice B m d] 33)) #[.slice none 0 0, .slice none 0 0] 51 (g := w.heap.size + 1) (by simp)
  have hV : Below w.heap.size w ((w.alloc (.cells #[.slice A n c, .slice B m d] 33)).alloc (.cells #[.slice none 0 0, .slice none 0 0] 51)) := ((Below.refl _ _).alloc (Nat.le_refl _) _).alloc (by simp) _
  have hV2 : w.heap.size + 2 ≤ ((w.alloc (.cells #[.slice A n c, .slice B m d] 33)).alloc (.cells #[.slice none 0 0, .slice none 0 0] 51)).heap.size := by simp
  go_enter Tryz.func46, Tryz.ntmps46
  go_upto_region 1 with fail
  generalize ((w.alloc (.cells #[.slice A n c, .slice B m d] 33)).alloc (.cells #[.slice none 0 0, .slice none 0 0] 51)) = V at *
  have xl := bN.lt
  have x0 : V.cell? ⟨w.heap.size, 0, none⟩ = some (.slice A n c) := bN.cell 0
  have x1 : V.cell? ⟨w.heap.size, 1, none⟩ = some (.slice B m d) := bN.cell 1
  have yl := bR.lt
  have z0 : V.cell? ⟨w.heap.size + 1, 0, none⟩ = some (.slice none 0 0) := bR.cell 0
  have z1 : V.cell? ⟨w.heap.size + 1, 1, none⟩ = some (.slice none 0 0) := bR.cell 1
  have f0 := bR.free 0
  have f1 := bR.free 1
  go_upto_region 2 with (go_at_call 96; refine (point_any _ _ _ _ _ _ _ _ _ false zs ns ps _ (h.below hV) (hz.below hV) hl).mono ?_; rintro e2 w2 ⟨A2, c2, B2, d2, rfl, o2, o3, ap2, hb2⟩)
  clear x0 x1 xl yl z0 z1 f0 f1
  have hW2 := bthen hV hb2 hV.size
  have bR2 := (bR.belowA hb2).alloc (.cells #[.slice A2 (opF ns ps n zs).length c2, .slice B2 (opL ns ps n zs false).length d2] 51)
  have bX2 := box_new w2 #[.slice A2 (opF ns ps n zs).length c2, .slice B2 (opL ns ps n zs false).length d2] 51
  have hW3 := hW2.alloc hW2.size (.cells #[.slice A2 (opF ns ps n zs).length c2, .slice B2 (opL ns ps n zs false).length d2] 51)
  have o23 := o2.alloc (.cells #[.slice A2 (opF ns ps n zs).length c2, .slice B2 (opL ns ps n zs false).length d2] 51)
  have o33 := o3.alloc (.cells #[.slice A2 (opF ns ps n zs).length c2, .slice B2 (opL ns ps n zs false).length d2] 51)
  have hsz := hb2.size
  obtain ⟨fl, hfl⟩ : ∃ y, opF ns ps n zs = y := ⟨_, rfl⟩
  obtain ⟨lv, hlv⟩ : ∃ y, opL ns ps n zs false = y := ⟨_, rfl⟩
  have HFL := Lib.hid hfl
  have HLV := Lib.hid hlv
  rw [hfl, hlv] at bR2 bX2 hW3 o23 o33 ⊢
  obtain ⟨L1, hL1⟩ : ∃ y, fl.length = y := ⟨_, rfl⟩
  obtain ⟨L2, hL2⟩ : ∃ y, lv.length = y := ⟨_, rfl⟩
  have HL1 := Lib.hid hL1
  have HL2 := Lib.hid hL2
  rw [hL1, hL2] at bR2 bX2 hW3 o23 o33 ⊢
  generalize (w2.alloc (.cells #[.slice A2 L1 c2, .slice B2 L2 d2] 51)) = W3 at *
  clear hfl hlv hL1 hL2 o2 o3 hb2 hW2
  have yl := bR2.lt
  have z0 : W3.cell? ⟨w.heap.size + 1, 0, none⟩ = some (.slice none 0 0) := bR2.cell 0
  have z1 : W3.cell? ⟨w.heap.size + 1, 1, none⟩ = some (.slice none 0 0) := bR2.cell 1
  have f0 := bR2.free 0
  have f1 := bR2.free 1
  have vl := bX2.lt
  have v0 : W3.cell? ⟨w2.heap.size, 0, none⟩ = some (.slice A2 L1 c2) := bX2.cell 0
  have v1 : W3.cell? ⟨w2.heap.size, 1, none⟩ = some (.slice B2 L2 d2) := bX2.cell 1
  obtain ⟨K, hK⟩ : ∃ y, opC ns ps n zs = y := ⟨_, rfl⟩
  have HK := Lib.hid hK
  rw [hK]
  clear hK
  go_wp2_with fail
  refine bodyPost_ret (v := .tuple #[.agg #[.slice A2 L1 c2, .slice B2 L2 d2], .int .i64 K]) (by simp [results, Tryz.results46, go_sem, z0, z1]) rfl ?_
  rw [HFL.out, HLV.out, HK.out, ← HL1.out, ← HL2.out]
  refine retPc_of rfl ?_ ?_ ap2 ((hW3.setCell (p := ⟨w.heap.size + 1, 0, none⟩) (by simp) _).setCell (p := ⟨w.heap.size + 1, 1, none⟩) (by simp) _)
  · rw [HL1.out]
    exact Own.mono (B := V.heap.size) (Own.low1 (Own.low1 o23 (by simp; omega) _) (by simp; omega) _) (by omega)
  · rw [HL2.out]
    exact Own.mono (B := V.heap.size) (Own.low1 (Own.low1 o33 (by simp; omega) _) (by simp; omega) _) (by omega)
set_option maxHeartbeats 8000000 in
theorem sOpPoint_any (A B C : Option Addr) (n c m d l e : Nat) (zs : List Int) (ns : List Nd) (ps : List Pp) (w : World) (h : IsNet w A n c ns B m d ps) (hz : Ints w C l zs) (hnil : C = none → e = 0) (hl : l ≤ 1048576) :
    Calls Tryz.prog 43 #[.agg #[.slice A n c, .slice B m d], .slice C l e] w (RetPc w (opF ns ps n zs) (opL ns ps n zs true) (opC ns ps n zs)) := by
  have bN := (box_new w #[.slice A n c, .slice B m d] 33).alloc (.cells #[.slice none 0 0, .slice none 0 0] 51)
  have bR := box_at (w.alloc (.cells #[.slice A n c, .slice B m d] 33)) #[.slice none 0 0, .slice none 0 0] 51 (g := w.heap.size + 1) (by simp)
  have hV : Below w.heap.size w ((w.alloc (.cells #[.slice A n c, .slice B m d] 33)).alloc (.cells #[.slice none 0 0, .slice none 0 0] 51)) := ((Below.refl _ _).alloc (Nat.le_refl _) _).alloc (by simp) _
  have hV2 : w.heap.size + 2 ≤ ((w.alloc (.cells #[.slice A n c, .slice B m d] 33)).alloc (.cells #[.slice none 0 0, .slice none 0 0] 51)).heap.size := by simp
  have HNL := Lib.hid hnil
  clear hnil
  by_cases hcc : codeC ns ps n zs = 0
  case neg =>
    obtain ⟨k1, k2, k3, k4⟩ := op_no hcc
    obtain ⟨K, hK⟩ : ∃ y, codeC ns ps n zs = y := ⟨_, rfl⟩
    rw [hK] at hcc k1
    have H1 := Lib.hid k1
    have H3 := Lib.hid k3
    have H4 := Lib.hid k4
    have HK := Lib.hid hK
    have t1 : (K != 0) = true := by simpa using hcc
    clear k1 k2 k3 k4 hK hcc
    go_enter Tryz.func43, Tryz.ntmps43
    go_upto_region 1 with fail
    generalize ((w.alloc (.cells #[.slice A n c, .slice B m d] 33)).alloc (.cells #[.slice none 0 0, .slice none 0 0] 51)) = V at *
    have xl := bN.lt
    have x0 : V.cell? ⟨w.heap.size, 0, none⟩ = some (.slice A n c) := bN.cell 0
    have x1 : V.cell? ⟨w.heap.size, 1, none⟩ = some (.slice B m d) := bN.cell 1
    have yl := bR.lt
    have z0 : V.cell? ⟨w.heap.size + 1, 0, none⟩ = some (.slice none 0 0) := bR.cell 0
    have z1 : V.cell? ⟨w.heap.size + 1, 1, none⟩ = some (.slice none 0 0) := bR.cell 1
    have f0 := bR.free 0
    have f1 := bR.free 1
    go_upto_region 3 with (go_at_call 82; refine (sCodeC_any _ _ _ _ _ _ _ _ _ ns ps zs _ (h.below hV) (hz.below hV) hl).mono ?_; rw [HK.out]; rintro e1 w1 ⟨rfl, hb1⟩)
    have hW1 := bthen hV hb1 hV.size
    have bN1 := bN.belowA hb1
    have bR1 := bR.belowA hb1
    clear x0 x1 xl yl z0 z1 f0 f1
    have xl := bN1.lt
    have x0 : w1.cell? ⟨w.heap.size, 0, none⟩ = some (.slice A n c) := bN1.cell 0
    have x1 : w1.cell? ⟨w.heap.size, 1, none⟩ = some (.slice B m d) := bN1.cell 1
    have yl := bR1.lt
    have z0 : w1.cell? ⟨w.heap.size + 1, 0, none⟩ = some (.slice none 0 0) := bR1.cell 0
    have z1 : w1.cell? ⟨w.heap.size + 1, 1, none⟩ = some (.slice none 0 0) := bR1.cell 1
    have f0 := bR1.free 0
    have f1 := bR1.free 1
    go_wp2_with fail
    refine bodyPost_ret (v := .tuple #[.agg #[.slice none 0 0, .slice none 0 0], .int .i64 K]) (by simp [results, Tryz.results43, go_sem, z0, z1]) rfl ?_
    exact retPc_nil H3.out (H4.out true) H1.out ((hW1.setCell (p := ⟨w.heap.size + 1, 0, none⟩) (by simp) _).setCell (p := ⟨w.heap.size + 1, 1, none⟩) (by simp) _)
  obtain ⟨j1, j2, j3, j4⟩ := op_pt hcc
  have HCC := Lib.hid hcc
  rw [j1, j3, j4 true]
  clear j1 j2 j3 j4
  go_enter Tryz.func43, Tryz.ntmps43
  go_upto_region 1 with fail
  generalize ((w.alloc (.cells #[.slice A n c, .slice B m d] 33)).alloc (.cells #[.slice none 0 0, .slice none 0 0] 51)) = V at *
  have xl := bN.lt
  have x0 : V.cell? ⟨w.heap.size, 0, none⟩ = some (.slice A n c) := bN.cell 0
  have x1 : V.cell? ⟨w.heap.size, 1, none⟩ = some (.slice B m d) := bN.cell 1
  have yl := bR.lt
  have z0 : V.cell? ⟨w.heap.size + 1, 0, none⟩ = some (.slice none 0 0) := bR.cell 0
  have z1 : V.cell? ⟨w.heap.size + 1, 1, none⟩ = some (.slice none 0 0) := bR.cell 1
  have f0 := bR.free 0
  have f1 := bR.free 1
  go_upto_region 4 with (go_at_call 82; refine (sCodeC_any _ _ _ _ _ _ _ _ _ ns ps zs _ (h.below hV) (hz.below hV) hl).mono ?_; rw [HCC.out]; rintro e1 w1 ⟨rfl, hb1⟩)
  have hW1 := bthen hV hb1 hV.size
  have bN1 := bN.belowA hb1
  have bR1 := bR.belowA hb1
  have hs1 := hb1.size
  clear x0 x1 xl yl z0 z1 f0 f1
  have xl := bN1.lt
  have x0 : w1.cell? ⟨w.heap.size, 0, none⟩ = some (.slice A n c) := bN1.cell 0
  have x1 : w1.cell? ⟨w.heap.size, 1, none⟩ = some (.slice B m d) := bN1.cell 1
  have yl := bR1.lt
  have z0 : w1.cell? ⟨w.heap.size + 1, 0, none⟩ = some (.slice none 0 0) := bR1.cell 0
  have z1 : w1.cell? ⟨w.heap.size + 1, 1, none⟩ = some (.slice none 0 0) := bR1.cell 1
  have f0 := bR1.free 0
  have f1 := bR1.free 1
  go_upto_region 5 with (go_at_call 95; refine (sPoint_any _ _ _ _ _ _ _ _ _ true zs ns ps _ (h.below hW1) (hz.below hW1) HNL.out HCC.out hl).mono ?_; rintro e2 w2 ⟨A2, c2, B2, d2, rfl, o2, o3, ap2, hb2⟩)
  clear x0 x1 xl yl z0 z1 f0 f1
  have hW2 := bthen hW1 hb2 hW1.size
  have bR2 := (bR1.belowA hb2).alloc (.cells #[.slice A2 (ptF ns ps n zs).length c2, .slice B2 (ptL ns ps n zs true).length d2] 51)
  have bX2 := box_new w2 #[.slice A2 (ptF ns ps n zs).length c2, .slice B2 (ptL ns ps n zs true).length d2] 51
  have hW3 := hW2.alloc hW2.size (.cells #[.slice A2 (ptF ns ps n zs).length c2, .slice B2 (ptL ns ps n zs true).length d2] 51)
  have o23 := o2.alloc (.cells #[.slice A2 (ptF ns ps n zs).length c2, .slice B2 (ptL ns ps n zs true).length d2] 51)
  have o33 := o3.alloc (.cells #[.slice A2 (ptF ns ps n zs).length c2, .slice B2 (ptL ns ps n zs true).length d2] 51)
  have hsz := hb2.size
  obtain ⟨fl, hfl⟩ : ∃ y, ptF ns ps n zs = y := ⟨_, rfl⟩
  obtain ⟨lv, hlv⟩ : ∃ y, ptL ns ps n zs true = y := ⟨_, rfl⟩
  have HFL := Lib.hid hfl
  have HLV := Lib.hid hlv
  rw [hfl, hlv] at bR2 bX2 hW3 o23 o33 ⊢
  obtain ⟨L1, hL1⟩ : ∃ y, fl.length = y := ⟨_, rfl⟩
  obtain ⟨L2, hL2⟩ : ∃ y, lv.length = y := ⟨_, rfl⟩
  have HL1 := Lib.hid hL1
  have HL2 := Lib.hid hL2
  rw [hL1, hL2] at bR2 bX2 hW3 o23 o33 ⊢
  generalize (w2.alloc (.cells #[.slice A2 L1 c2, .slice B2 L2 d2] 51)) = W3 at *
  clear hfl hlv hL1 hL2 o2 o3 hb2 hW2
  have yl := bR2.lt
  have z0 : W3.cell? ⟨w.heap.size + 1, 0, none⟩ = some (.slice none 0 0) := bR2.cell 0
  have z1 : W3.cell? ⟨w.heap.size + 1, 1, none⟩ = some (.slice none 0 0) := bR2.cell 1
  have f0 := bR2.free 0
  have f1 := bR2.free 1
  have vl := bX2.lt
  have v0 : W3.cell? ⟨w2.heap.size, 0, none⟩ = some (.slice A2 L1 c2) := bX2.cell 0
  have v1 : W3.cell? ⟨w2.heap.size, 1, none⟩ = some (.slice B2 L2 d2) := bX2.cell 1
  obtain ⟨K, hK⟩ : ∃ y, ptC ns ps n zs = y := ⟨_, rfl⟩
  have HK := Lib.hid hK
  rw [hK]
  clear hK
  go_wp2_with fail
  refine bodyPost_ret (v := .tuple #[.agg #[.slice A2 L1 c2, .slice B2 L2 d2], .int .i64 K]) (by simp [results, Tryz.results43, go_sem, z0, z1]) rfl ?_
  rw [HFL.out, HLV.out, HK.out, ← HL1.out, ← HL2.out]
  refine retPc_of rfl ?_ ?_ ap2 ((hW3.setCell (p := ⟨w.heap.size + 1, 0, none⟩) (by simp) _).setCell (p := ⟨w.heap.size + 1, 1, none⟩) (by simp) _)
  · rw [HL1.out]
    exact Own.mono (B := w1.heap.size) (Own.low1 (Own.low1 o23 (by simp; omega) _) (by simp; omega) _) (by omega)
  · rw [HL2.out]
    exact Own.mono (B := w1.heap.size) (Own.low1 (Own.low1 o33 (by simp; omega) _) (by simp; omega) _) (by omega)
set_option maxHeartbeats 8000000 in
theorem sLoPoint_any (A B C : Option Addr) (n c m d l e : Nat) (zs : List Int) (ns : List Nd) (ps : List Pp) (w : World) (h : IsNet w A n c ns B m d ps) (hz : Ints w C l zs) (hnil : C = none → e = 0) (hl : l ≤ 1048576) :
    Calls Tryz.prog 45 #[.agg #[.slice A n c, .slice B m d], .slice C l e] w (RetPc w (opF ns ps n zs) (opL ns ps n zs false) (opC ns ps n zs)) := by
  have bN := (box_new w #[.slice A n c, .slice B m d] 33).alloc (.cells #[.slice none 0 0, .slice none 0 0] 51)
  have bR := box_at (w.alloc (.cells #[.slice A n c, .slice B m d] 33)) #[.slice none 0 0, .slice none 0 0] 51 (g := w.heap.size + 1) (by simp)
  have hV : Below w.heap.size w ((w.alloc (.cells #[.slice A n c, .slice B m d] 33)).alloc (.cells #[.slice none 0 0, .slice none 0 0] 51)) := ((Below.refl _ _).alloc (Nat.le_refl _) _).alloc (by simp) _
  have hV2 : w.heap.size + 2 ≤ ((w.alloc (.cells #[.slice A n c, .slice B m d] 33)).alloc (.cells #[.slice none 0 0, .slice none 0 0] 51)).heap.size := by simp
  have HNL := Lib.hid hnil
  clear hnil
  by_cases hcc : codeC ns ps n zs = 0
  case neg =>
    obtain ⟨k1, k2, k3, k4⟩ := op_no hcc
    obtain ⟨K, hK⟩ : ∃ y, codeC ns ps n zs = y := ⟨_, rfl⟩
    rw [hK] at hcc k1
    have H1 := Lib.hid k1
    have H3 := Lib.hid k3
    have H4 := Lib.hid k4
    have HK := Lib.hid hK
    have t1 : (K != 0) = true := by simpa using hcc
    clear k1 k2 k3 k4 hK hcc
    go_enter Tryz.func45, Tryz.ntmps45
    go_upto_region 1 with fail
    generalize ((w.alloc (.cells #[.slice A n c, .slice B m d] 33)).alloc (.cells #[.slice none 0 0, .slice none 0 0] 51)) = V at *
    have xl := bN.lt
    have x0 : V.cell? ⟨w.heap.size, 0, none⟩ = some (.slice A n c) := bN.cell 0
    have x1 : V.cell? ⟨w.heap.size, 1, none⟩ = some (.slice B m d) := bN.cell 1
    have yl := bR.lt
    have z0 : V.cell? ⟨w.heap.size + 1, 0, none⟩ = some (.slice none 0 0) := bR.cell 0
    have z1 : V.cell? ⟨w.heap.size + 1, 1, none⟩ = some (.slice none 0 0) := bR.cell 1
    have f0 := bR.free 0
    have f1 := bR.free 1
    go_upto_region 3 with (go_at_call 82; refine (sCodeC_any _ _ _ _ _ _ _ _ _ ns ps zs _ (h.below hV) (hz.below hV) hl).mono ?_; rw [HK.out]; rintro e1 w1 ⟨rfl, hb1⟩)
    have hW1 := bthen hV hb1 hV.size
    have bN1 := bN.belowA hb1
    have bR1 := bR.belowA hb1
    clear x0 x1 xl yl z0 z1 f0 f1
    have xl := bN1.lt
    have x0 : w1.cell? ⟨w.heap.size, 0, none⟩ = some (.slice A n c) := bN1.cell 0
    have x1 : w1.cell? ⟨w.heap.size, 1, none⟩ = some (.slice B m d) := bN1.cell 1
    have yl := bR1.lt
    have z0 : w1.cell? ⟨w.heap.size + 1, 0, none⟩ = some (.slice none 0 0) := bR1.cell 0
    have z1 : w1.cell? ⟨w.heap.size + 1, 1, none⟩ = some (.slice none 0 0) := bR1.cell 1
    have f0 := bR1.free 0
    have f1 := bR1.free 1
    go_wp2_with fail
    refine bodyPost_ret (v := .tuple #[.agg #[.slice none 0 0, .slice none 0 0], .int .i64 K]) (by simp [results, Tryz.results45, go_sem, z0, z1]) rfl ?_
    exact retPc_nil H3.out (H4.out false) H1.out ((hW1.setCell (p := ⟨w.heap.size + 1, 0, none⟩) (by simp) _).setCell (p := ⟨w.heap.size + 1, 1, none⟩) (by simp) _)
  obtain ⟨j1, j2, j3, j4⟩ := op_pt hcc
  have HCC := Lib.hid hcc
  rw [j1, j3, j4 false]
  clear j1 j2 j3 j4
  go_enter Tryz.func45, Tryz.ntmps45
  go_upto_region 1 with fail
  generalize ((w.alloc (.cells #[.slice A n c, .slice B m d] 33)).alloc (.cells #[.slice none 0 0, .slice none 0 0] 51)) = V at *
  have xl := bN.lt
  have x0 : V.cell? ⟨w.heap.size, 0, none⟩ = some (.slice A n c) := bN.cell 0
  have x1 : V.cell? ⟨w.heap.size, 1, none⟩ = some (.slice B m d) := bN.cell 1
  have yl := bR.lt
  have z0 : V.cell? ⟨w.heap.size + 1, 0, none⟩ = some (.slice none 0 0) := bR.cell 0
  have z1 : V.cell? ⟨w.heap.size + 1, 1, none⟩ = some (.slice none 0 0) := bR.cell 1
  have f0 := bR.free 0
  have f1 := bR.free 1
  go_upto_region 4 with (go_at_call 82; refine (sCodeC_any _ _ _ _ _ _ _ _ _ ns ps zs _ (h.below hV) (hz.below hV) hl).mono ?_; rw [HCC.out]; rintro e1 w1 ⟨rfl, hb1⟩)
  have hW1 := bthen hV hb1 hV.size
  have bN1 := bN.belowA hb1
  have bR1 := bR.belowA hb1
  have hs1 := hb1.size
  clear x0 x1 xl yl z0 z1 f0 f1
  have xl := bN1.lt
  have x0 : w1.cell? ⟨w.heap.size, 0, none⟩ = some (.slice A n c) := bN1.cell 0
  have x1 : w1.cell? ⟨w.heap.size, 1, none⟩ = some (.slice B m d) := bN1.cell 1
  have yl := bR1.lt
  have z0 : w1.cell? ⟨w.heap.size + 1, 0, none⟩ = some (.slice none 0 0) := bR1.cell 0
  have z1 : w1.cell? ⟨w.heap.size + 1, 1, none⟩ = some (.slice none 0 0) := bR1.cell 1
  have f0 := bR1.free 0
  have f1 := bR1.free 1
  go_upto_region 5 with (go_at_call 95; refine (sPoint_any _ _ _ _ _ _ _ _ _ false zs ns ps _ (h.below hW1) (hz.below hW1) HNL.out HCC.out hl).mono ?_; rintro e2 w2 ⟨A2, c2, B2, d2, rfl, o2, o3, ap2, hb2⟩)
  clear x0 x1 xl yl z0 z1 f0 f1
  have hW2 := bthen hW1 hb2 hW1.size
  have bR2 := (bR1.belowA hb2).alloc (.cells #[.slice A2 (ptF ns ps n zs).length c2, .slice B2 (ptL ns ps n zs false).length d2] 51)
  have bX2 := box_new w2 #[.slice A2 (ptF ns ps n zs).length c2, .slice B2 (ptL ns ps n zs false).length d2] 51
  have hW3 := hW2.alloc hW2.size (.cells #[.slice A2 (ptF ns ps n zs).length c2, .slice B2 (ptL ns ps n zs false).length d2] 51)
  have o23 := o2.alloc (.cells #[.slice A2 (ptF ns ps n zs).length c2, .slice B2 (ptL ns ps n zs false).length d2] 51)
  have o33 := o3.alloc (.cells #[.slice A2 (ptF ns ps n zs).length c2, .slice B2 (ptL ns ps n zs false).length d2] 51)
  have hsz := hb2.size
  obtain ⟨fl, hfl⟩ : ∃ y, ptF ns ps n zs = y := ⟨_, rfl⟩
  obtain ⟨lv, hlv⟩ : ∃ y, ptL ns ps n zs false = y := ⟨_, rfl⟩
  have HFL := Lib.hid hfl
  have HLV := Lib.hid hlv
  rw [hfl, hlv] at bR2 bX2 hW3 o23 o33 ⊢
  obtain ⟨L1, hL1⟩ : ∃ y, fl.length = y := ⟨_, rfl⟩
  obtain ⟨L2, hL2⟩ : ∃ y, lv.length = y := ⟨_, rfl⟩
  have HL1 := Lib.hid hL1
  have HL2 := Lib.hid hL2
  rw [hL1, hL2] at bR2 bX2 hW3 o23 o33 ⊢
  generalize (w2.alloc (.cells #[.slice A2 L1 c2, .slice B2 L2 d2] 51)) = W3 at *
  clear hfl hlv hL1 hL2 o2 o3 hb2 hW2
  have yl := bR2.lt
  have z0 : W3.cell? ⟨w.heap.size + 1, 0, none⟩ = some (.slice none 0 0) := bR2.cell 0
  have z1 : W3.cell? ⟨w.heap.size + 1, 1, none⟩ = some (.slice none 0 0) := bR2.cell 1
  have f0 := bR2.free 0
  have f1 := bR2.free 1
  have vl := bX2.lt
  have v0 : W3.cell? ⟨w2.heap.size, 0, none⟩ = some (.slice A2 L1 c2) := bX2.cell 0
  have v1 : W3.cell? ⟨w2.heap.size, 1, none⟩ = some (.slice B2 L2 d2) := bX2.cell 1
  obtain ⟨K, hK⟩ : ∃ y, ptC ns ps n zs = y := ⟨_, rfl⟩
  have HK := Lib.hid hK
  rw [hK]
  clear hK
  go_wp2_with fail
  refine bodyPost_ret (v := .tuple #[.agg #[.slice A2 L1 c2, .slice B2 L2 d2], .int .i64 K]) (by simp [results, Tryz.results45, go_sem, z0, z1]) rfl ?_
  rw [HFL.out, HLV.out, HK.out, ← HL1.out, ← HL2.out]
  refine retPc_of rfl ?_ ?_ ap2 ((hW3.setCell (p := ⟨w.heap.size + 1, 0, none⟩) (by simp) _).setCell (p := ⟨w.heap.size + 1, 1, none⟩) (by simp) _)
  · rw [HL1.out]
    exact Own.mono (B := w1.heap.size) (Own.low1 (Own.low1 o23 (by simp; omega) _) (by simp; omega) _) (by omega)
  · rw [HL2.out]
    exact Own.mono (B := w1.heap.size) (Own.low1 (Own.low1 o33 (by simp; omega) _) (by simp; omega) _) (by omega)
set_option maxHeartbeats 8000000 in
theorem isOp_any (A B C : Option Addr) (n c m d l e : Nat) (zs : List Int) (ns : List Nd) (ps : List Pp) (w : World) (h : IsNet w A n c ns B m d ps) (hz : Ints w C l zs) (hl : l ≤ 1048576) :
    Calls Tryz.prog 38 #[.agg #[.slice A n c, .slice B m d], .slice C l e] w fun e w' => e = .returned (.bool (opC ns ps n zs == 0)) ∧ Below w.heap.size w w' := by
  have bN := box_new w #[.slice A n c, .slice B m d] 33
  have hV : Below w.heap.size w (w.alloc (.cells #[.slice A n c, .slice B m d] 33)) := (Below.refl _ _).alloc (Nat.le_refl _) _
  go_enter Tryz.func38, Tryz.ntmps38
  go_upto_region 1 with fail
  generalize (w.alloc (.cells #[.slice A n c, .slice B m d] 33)) = V at *
  have xl := bN.lt
  have x0 : V.cell? ⟨w.heap.size, 0, none⟩ = some (.slice A n c) := bN.cell 0
  have x1 : V.cell? ⟨w.heap.size, 1, none⟩ = some (.slice B m d) := bN.cell 1
  obtain ⟨K, hK⟩ : ∃ y, opC ns ps n zs = y := ⟨_, rfl⟩
  have HK := Lib.hid hK
  clear hK
  go_upto_region 2 with (go_at_call 96; refine (point_any _ _ _ _ _ _ _ _ _ true zs ns ps _ (h.below hV) (hz.below hV) hl).mono ?_; rw [HK.out]; rintro e2 w2 ⟨A2, c2, B2, d2, rfl, _, _, _, hb2⟩)
  have hW2 := (bthen hV hb2 hV.size)
  have hW3 := hW2.alloc hW2.size
  go_wp2_with fail
  go_ret
  exact ⟨rb (by rw [HK.out]), hW3 _⟩
set_option maxHeartbeats 8000000 in
theorem sIsOp_any (A B C : Option Addr) (n c m d l e : Nat) (zs : List Int) (ns : List Nd) (ps : List Pp) (w : World) (h : IsNet w A n c ns B m d ps) (hz : Ints w C l zs) (hnil : C = none → e = 0) (hl : l ≤ 1048576) :
    Calls Tryz.prog 37 #[.agg #[.slice A n c, .slice B m d], .slice C l e] w fun e w' => e = .returned (.bool (opC ns ps n zs == 0)) ∧ Below w.heap.size w w' := by
  have bN := box_new w #[.slice A n c, .slice B m d] 33
  have hV : Below w.heap.size w (w.alloc (.cells #[.slice A n c, .slice B m d] 33)) := (Below.refl _ _).alloc (Nat.le_refl _) _
  go_enter Tryz.func37, Tryz.ntmps37
  go_upto_region 1 with fail
  generalize (w.alloc (.cells #[.slice A n c, .slice B m d] 33)) = V at *
  have xl := bN.lt
  have x0 : V.cell? ⟨w.heap.size, 0, none⟩ = some (.slice A n c) := bN.cell 0
  have x1 : V.cell? ⟨w.heap.size, 1, none⟩ = some (.slice B m d) := bN.cell 1
  obtain ⟨K, hK⟩ : ∃ y, opC ns ps n zs = y := ⟨_, rfl⟩
  have HK := Lib.hid hK
  clear hK
  go_upto_region 2 with (go_at_call 43; refine (sOpPoint_any _ _ _ _ _ _ _ _ _ zs ns ps _ (h.below hV) (hz.below hV) hnil hl).mono ?_; rw [HK.out]; rintro e2 w2 ⟨A2, c2, B2, d2, rfl, _, _, _, hb2⟩)
  have hW2 := (bthen hV hb2 hV.size)
  have hW3 := hW2.alloc hW2.size
  go_wp2_with fail
  go_ret
  exact ⟨rb (by rw [HK.out]), hW3 _⟩
set_option maxHeartbeats 8000000 in
theorem reason_any (A B C : Option Addr) (n c m d l e : Nat) (zs : List Int) (ns : List Nd) (ps : List Pp) (w : World) (h : IsNet w A n c ns B m d ps) (hz : Ints w C l zs) (hl : l ≤ 1048576) :
    Calls Tryz.prog 36 #[.agg #[.slice A n c, .slice B m d], .slice C l e] w fun e w' => e = .returned (.tuple #[.int .i64 (opS ns ps n zs), .int .i64 (codeC ns ps n zs)]) ∧ Below w.heap.size w w' := by
  have bN := box_new w #[.slice A n c, .slice B m d] 33
  have hV : Below w.heap.size w (w.alloc (.cells #[.slice A n c, .slice B m d] 33)) := (Below.refl _ _).alloc (Nat.le_refl _) _
  by_cases hcc : codeC ns ps n zs = 0
  case neg =>
    obtain ⟨k1, k2, k3, k4⟩ := op_no hcc
    obtain ⟨K, hK⟩ : ∃ y, codeC ns ps n zs = y := ⟨_, rfl⟩
    rw [hK] at hcc
    have H2 := Lib.hid k2
    have HK := Lib.hid hK
    have t1 : (K != 0) = true := by simpa using hcc
    clear k1 k2 k3 k4 hK hcc
    go_enter Tryz.func36, Tryz.ntmps36
    go_upto_region 1 with fail
    generalize (w.alloc (.cells #[.slice A n c, .slice B m d] 33)) = V at *
    have xl := bN.lt
    have x0 : V.cell? ⟨w.heap.size, 0, none⟩ = some (.slice A n c) := bN.cell 0
    have x1 : V.cell? ⟨w.heap.size, 1, none⟩ = some (.slice B m d) := bN.cell 1
    go_wp2_with (go_at_call 87; refine (codeC_any _ _ _ _ _ _ _ _ _ ns ps zs _ (h.below hV) (hz.below hV) hl).mono ?_; rw [HK.out]; rintro e1 w1 ⟨rfl, hb1⟩)
    go_ret2
    exact ⟨ri2 H2.out.symm HK.out.symm, bthen hV hb1 hV.size⟩
  have HCC := Lib.hid hcc
  have HS := Lib.hid (op_pt hcc).2.1
  clear hcc
  go_enter Tryz.func36, Tryz.ntmps36
  go_upto_region 1 with fail
  generalize (w.alloc (.cells #[.slice A n c, .slice B m d] 33)) = V at *
  have xl := bN.lt
  have x0 : V.cell? ⟨w.heap.size, 0, none⟩ = some (.slice A n c) := bN.cell 0
  have x1 : V.cell? ⟨w.heap.size, 1, none⟩ = some (.slice B m d) := bN.cell 1
  go_upto_region 4 with (go_at_call 87; refine (codeC_any _ _ _ _ _ _ _ _ _ ns ps zs _ (h.below hV) (hz.below hV) hl).mono ?_; rw [HCC.out]; rintro e1 w1 ⟨rfl, hb1⟩)
  have hW1 := bthen hV hb1 hV.size
  have bN1 := bN.belowA hb1
  clear x0 x1 xl
  have xl := bN1.lt
  have x0 : w1.cell? ⟨w.heap.size, 0, none⟩ = some (.slice A n c) := bN1.cell 0
  have x1 : w1.cell? ⟨w.heap.size, 1, none⟩ = some (.slice B m d) := bN1.cell 1
  obtain ⟨S, hS⟩ : ∃ y, opS ns ps n zs = y := ⟨_, rfl⟩
  have HS2 := Lib.hid hS
  clear hS
  go_upto_region 5 with (go_at_call 96; refine (point_any _ _ _ _ _ _ _ _ _ true zs ns ps _ (h.below hW1) (hz.below hW1) hl).mono ?_; rw [HS2.out]; rintro e2 w2 ⟨A2, c2, B2, d2, rfl, _, _, _, hb2⟩)
  have hW2 := (bthen hW1 hb2 hW1.size)
  have hW3 := hW2.alloc hW2.size
  go_wp2_with fail
  go_ret2
  exact ⟨ri2 HS2.out.symm HCC.out.symm, hW3 _⟩
set_option maxHeartbeats 8000000 in
theorem sReason_any (A B C : Option Addr) (n c m d l e : Nat) (zs : List Int) (ns : List Nd) (ps : List Pp) (w : World) (h : IsNet w A n c ns B m d ps) (hz : Ints w C l zs) (hnil : C = none → e = 0) (hl : l ≤ 1048576) :
    Calls Tryz.prog 35 #[.agg #[.slice A n c, .slice B m d], .slice C l e] w fun e w' => e = .returned (.tuple #[.int .i64 (opS ns ps n zs), .int .i64 (codeC ns ps n zs)]) ∧ Below w.heap.size w w' := by
  have bN := box_new w #[.slice A n c, .slice B m d] 33
  have hV : Below w.heap.size w (w.alloc (.cells #[.slice A n c, .slice B m d] 33)) := (Below.refl _ _).alloc (Nat.le_refl _) _
  have HNL := Lib.hid hnil
  clear hnil
  by_cases hcc : codeC ns ps n zs = 0
  case neg =>
    obtain ⟨k1, k2, k3, k4⟩ := op_no hcc
    obtain ⟨K, hK⟩ : ∃ y, codeC ns ps n zs = y := ⟨_, rfl⟩
    rw [hK] at hcc
    have H2 := Lib.hid k2
    have HK := Lib.hid hK
    have t1 : (K != 0) = true := by simpa using hcc
    clear k1 k2 k3 k4 hK hcc
    go_enter Tryz.func35, Tryz.ntmps35
    go_upto_region 1 with fail
    generalize (w.alloc (.cells #[.slice A n c, .slice B m d] 33)) = V at *
    have xl := bN.lt
    have x0 : V.cell? ⟨w.heap.size, 0, none⟩ = some (.slice A n c) := bN.cell 0
    have x1 : V.cell? ⟨w.heap.size, 1, none⟩ = some (.slice B m d) := bN.cell 1
    go_wp2_with (go_at_call 82; refine (sCodeC_any _ _ _ _ _ _ _ _ _ ns ps zs _ (h.below hV) (hz.below hV) hl).mono ?_; rw [HK.out]; rintro e1 w1 ⟨rfl, hb1⟩)
    go_ret2
    exact ⟨ri2 H2.out.symm HK.out.symm, bthen hV hb1 hV.size⟩
  have HCC := Lib.hid hcc
  have HS := Lib.hid (op_pt hcc).2.1
  clear hcc
  go_enter Tryz.func35, Tryz.ntmps35
  go_upto_region 1 with fail
  generalize (w.alloc (.cells #[.slice A n c, .slice B m d] 33)) = V at *
  have xl := bN.lt
  have x0 : V.cell? ⟨w.heap.size, 0, none⟩ = some (.slice A n c) := bN.cell 0
  have x1 : V.cell? ⟨w.heap.size, 1, none⟩ = some (.slice B m d) := bN.cell 1
  go_upto_region 4 with (go_at_call 82; refine (sCodeC_any _ _ _ _ _ _ _ _ _ ns ps zs _ (h.below hV) (hz.below hV) hl).mono ?_; rw [HCC.out]; rintro e1 w1 ⟨rfl, hb1⟩)
  have hW1 := bthen hV hb1 hV.size
  have bN1 := bN.belowA hb1
  clear x0 x1 xl
  have xl := bN1.lt
  have x0 : w1.cell? ⟨w.heap.size, 0, none⟩ = some (.slice A n c) := bN1.cell 0
  have x1 : w1.cell? ⟨w.heap.size, 1, none⟩ = some (.slice B m d) := bN1.cell 1
  obtain ⟨S, hS⟩ : ∃ y, ptS ns ps n zs = y := ⟨_, rfl⟩
  have HS2 := Lib.hid hS
  clear hS
  go_upto_region 5 with (go_at_call 95; refine (sPoint_any _ _ _ _ _ _ _ _ _ true zs ns ps _ (h.below hW1) (hz.below hW1) HNL.out HCC.out hl).mono ?_; rw [HS2.out]; rintro e2 w2 ⟨A2, c2, B2, d2, rfl, _, _, _, hb2⟩)
  have hW2 := (bthen hW1 hb2 hW1.size)
  have hW3 := hW2.alloc hW2.size
  go_wp2_with fail
  go_ret2
  exact ⟨ri2 (HS.out.trans HS2.out).symm HCC.out.symm, hW3 _⟩
theorem opF_len {A B : Option Addr} {n c m d : Nat} {ns : List Nd} {ps : List Pp} {zs : List Int} {w : World} (h : IsNet w A n c ns B m d ps) (hm : m ≤ 1048576) : (opF ns ps n zs).length ≤ 1048576 := by
  unfold opF
  split
  · unfold ptF
    split
    · exact slvL_len h hm
    · simp
  · simp
theorem opL_len {A B : Option Addr} {n c m d : Nat} {ns : List Nd} {ps : List Pp} {zs : List Int} {w : World} (h : IsNet w A n c ns B m d ps) (hn : n ≤ 1048576) (hi : Bool) : (opL ns ps n zs hi).length ≤ 1048576 := by
  unfold opL
  split
  · unfold ptL
    split
    · rw [lvR_len]; exact hn
    · simp
  · simp
end Go.Proofs.YtpgegfnhokhlmaaGreat
