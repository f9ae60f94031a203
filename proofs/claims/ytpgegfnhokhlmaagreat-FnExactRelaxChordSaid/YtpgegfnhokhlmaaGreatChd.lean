/- The code of flows and a chord (checkChord, l10Code), by walks over their text. Condition: at most 2^20 flows. -/
import Derived.Test.YtpgegfnhokhlmaaGreatStb
set_option linter.unusedVariables false
set_option maxRecDepth 100000
namespace Go.Proofs.YtpgegfnhokhlmaaGreat
open Go.ChangeShapes Go.WideShapes Go.ChangeAt Go.RowKit Go.Joins Go.Deep
attribute [local go_sem ↓] Go.wp_at_zero Go.wp_at_succ

/-- x is a chord. -/
def chB (es : Es) (n : Nat) (x : Int) : Bool := (cN (chd es n)).contains x
noncomputable def codeH (ns : List Nd) (ps : List Pp) (n m : Nat) (fs : List Int) (x : Int) : Int := if codeF ns ps m fs = 0 then (if chB (esOf ps) n x = true then 0 else 4) else codeF ns ps m fs
section
variable {ns : List Nd} {ps : List Pp} {n m : Nat} {fs : List Int} {x : Int}
theorem codeH_bad (h : codeF ns ps m fs ≠ 0) : codeH ns ps n m fs x = codeF ns ps m fs := by unfold codeH; rw [if_neg h]
theorem codeH_4 (h : codeF ns ps m fs = 0) (hx : chB (esOf ps) n x = false) : codeH ns ps n m fs x = 4 := by unfold codeH; rw [if_pos h, if_neg (by rw [hx]; decide)]
theorem codeH_0 (h : codeF ns ps m fs = 0) (hx : chB (esOf ps) n x = true) : codeH ns ps n m fs x = 0 := by unfold codeH; rw [if_pos h, if_pos hx]
theorem codeF_ok2 (h : codeF ns ps m fs = 0) : NetOk ns ps ∧ flB m fs = true := by
  rcases codeF_in ns ps m fs with ⟨_, h1, h2⟩ | h1 | h1
  · exact ⟨h1, h2⟩
  · rw [h1] at h; exact absurd h (by decide)
  · rw [h1] at h; exact absurd h (by decide)
theorem codeH_zero (h : codeH ns ps n m fs x = 0) : NetOk ns ps ∧ flB m fs = true ∧ ∃ ci : Nat, x = (ci : Int) ∧ ci < ps.length ∧ ¬ Tree (esOf ps) n ci := by
  by_cases h0 : codeF ns ps m fs = 0
  · obtain ⟨h1, h2⟩ := codeF_ok2 h0
    cases hx : chB (esOf ps) n x
    · rw [codeH_4 h0 hx] at h; exact absurd h (by decide)
    · unfold chB at hx
      obtain ⟨ci, hc, rfl⟩ := cN_lt (List.contains_iff_mem.1 hx)
      have h3 := chd_chord hc
      rw [esOf_len] at h3
      exact ⟨h1, h2, ci, rfl, h3.1, h3.2⟩
  · rw [codeH_bad h0] at h; exact absurd h h0
end
theorem idx_empty (a : Option Addr) (c : Nat) (x : Int) (w : World) :
    Calls Tryz.prog 161 #[.slice a 0 c, .int .i64 x] w fun e w' => e = .returned (.int .i64 (-1)) ∧ w = w' := by
  go_enter Tryz.func161, Tryz.ntmps161
  go_wp2_with fail
  go_loopw [8] (fun i wr => i = .int .i64 0 ∧ wr = w) (fun _ _ => 0)
  case atStart => exact ⟨rfl, rfl⟩
  case round =>
    obtain ⟨rfl, rfl⟩ := hrel
    go_wp2_with fail
    go_ret
    exact ⟨rfl, rfl⟩
theorem con_all {w : World} {A : Option Addr} {n c : Nat} {zs : List Int} (x : Int) (h : Ints w A n zs) (hn : n ≤ 1048576) :
    Calls Tryz.prog 124 #[.slice A n c, .int .i64 x] w fun e w' => e = .returned (.bool (zs.contains x)) ∧ w = w' := by
  by_cases h0 : 0 < n
  · exact contains_any x h h0 hn
  · obtain rfl : n = 0 := by omega
    have hz : zs = [] := List.eq_nil_of_length_eq_zero h.len
    subst hz
    go_enter Tryz.func124, Tryz.ntmps124
    go_wp2_with (go_at_call 161; refine (idx_empty _ _ _ _).mono ?_; rintro e4 w4 ⟨rfl, rfl⟩)
    go_ret
    exact ⟨rfl, rfl⟩
set_option maxHeartbeats 4000000 in
theorem codeH_any (A B C : Option Addr) (n c m d l e : Nat) (x : Int) (ns : List Nd) (ps : List Pp) (fs : List Int) (w : World) (h : IsNet w A n c ns B m d ps) (hz : Ints w C l fs) (hl : l ≤ 1048576) :
    Calls Tryz.prog 62 #[.agg #[.slice A n c, .slice B m d], .slice C l e, .int .i64 x] w fun e w' => e = .returned (.int .i64 (codeH ns ps n m fs x)) ∧ Below w.heap.size w w' := by
  have bx := box_new w #[.slice A n c, .slice B m d] 33
  have hV : Below w.heap.size w (w.alloc (.cells #[.slice A n c, .slice B m d] 33)) := (Below.refl _ _).alloc (Nat.le_refl _) _
  by_cases hcc : codeF ns ps m fs = 0
  · have HCC := Lib.hid hcc
    obtain ⟨hok, _⟩ := codeF_ok2 hcc
    have hm40 : m ≤ 40 := by have := hok.2.2.1; have := h.pipes.len; omega
    have hcl : (cN (chd (esOf ps) n)).length ≤ 1048576 := by
      have h1 := chd_len (esOf ps) n
      rw [esOf_len] at h1
      have h2 := h.pipes.len
      unfold cN
      simp
      omega
    have HOK := Lib.hid hok
    have HCL := Lib.hid hcl
    clear hok hcl
    cases hx : chB (esOf ps) n x
    case false =>
      have HK := Lib.hid (codeH_4 hcc hx)
      have HX := Lib.hid (show (cN (chd (esOf ps) n)).contains x = false from hx)
      clear hcc hx
      go_enter Tryz.func62, Tryz.ntmps62
      go_upto_region 1 with fail
      generalize (w.alloc (.cells #[.slice A n c, .slice B m d] 33)) = V at *
      have xl := bx.lt
      have x0 : V.cell? ⟨w.heap.size, 0, none⟩ = some (.slice A n c) := bx.cell 0
      have x1 : V.cell? ⟨w.heap.size, 1, none⟩ = some (.slice B m d) := bx.cell 1
      go_upto_region 4 with (go_at_call 74; refine (codeF_any _ _ _ _ _ _ _ _ _ ns ps fs _ (h.below hV) (hz.below hV) hl).mono ?_; rw [HCC.out]; rintro e1 w1 ⟨rfl, hb1⟩)
      have hW1 := bthen hV hb1 hV.size
      have bx1 := bx.belowA hb1
      clear x0 x1 xl bx
      have xl := bx1.lt
      have x0 : w1.cell? ⟨w.heap.size, 0, none⟩ = some (.slice A n c) := bx1.cell 0
      have x1 : w1.cell? ⟨w.heap.size, 1, none⟩ = some (.slice B m d) := bx1.cell 1
      go_wp2_with (first | (go_at_call 91; refine (chords_any _ _ _ _ _ _ ns ps _ (h.below hW1) HOK.out).mono ?_; rintro e2 w2 ⟨A2, c2, rfl, o2, hb2⟩) | (go_at_call 124; refine (con_all x o2.ints HCL.out).mono ?_; rw [HX.out]; rintro e3 w3 ⟨rfl, rfl⟩))
      go_ret
      exact ⟨ri HK.out.symm, bthen hW1 hb2 hW1.size⟩
    case true =>
      have HK := Lib.hid (codeH_0 hcc hx)
      have HX := Lib.hid (show (cN (chd (esOf ps) n)).contains x = true from hx)
      clear hcc hx
      go_enter Tryz.func62, Tryz.ntmps62
      go_upto_region 1 with fail
      generalize (w.alloc (.cells #[.slice A n c, .slice B m d] 33)) = V at *
      have xl := bx.lt
      have x0 : V.cell? ⟨w.heap.size, 0, none⟩ = some (.slice A n c) := bx.cell 0
      have x1 : V.cell? ⟨w.heap.size, 1, none⟩ = some (.slice B m d) := bx.cell 1
      go_upto_region 4 with (go_at_call 74; refine (codeF_any _ _ _ _ _ _ _ _ _ ns ps fs _ (h.below hV) (hz.below hV) hl).mono ?_; rw [HCC.out]; rintro e1 w1 ⟨rfl, hb1⟩)
      have hW1 := bthen hV hb1 hV.size
      have bx1 := bx.belowA hb1
      clear x0 x1 xl bx
      have xl := bx1.lt
      have x0 : w1.cell? ⟨w.heap.size, 0, none⟩ = some (.slice A n c) := bx1.cell 0
      have x1 : w1.cell? ⟨w.heap.size, 1, none⟩ = some (.slice B m d) := bx1.cell 1
      go_wp2_with (first | (go_at_call 91; refine (chords_any _ _ _ _ _ _ ns ps _ (h.below hW1) HOK.out).mono ?_; rintro e2 w2 ⟨A2, c2, rfl, o2, hb2⟩) | (go_at_call 124; refine (con_all x o2.ints HCL.out).mono ?_; rw [HX.out]; rintro e3 w3 ⟨rfl, rfl⟩))
      go_ret
      exact ⟨ri HK.out.symm, bthen hW1 hb2 hW1.size⟩
  · have HK := Lib.hid (codeH_bad (n := n) (x := x) hcc)
    obtain ⟨K, hK⟩ : ∃ y, codeF ns ps m fs = y := ⟨_, rfl⟩
    rw [hK] at hcc HK
    have HC := Lib.hid hK
    have t1 : (K != 0) = true := by simpa using hcc
    clear hK hcc
    go_enter Tryz.func62, Tryz.ntmps62
    go_upto_region 1 with fail
    generalize (w.alloc (.cells #[.slice A n c, .slice B m d] 33)) = V at *
    have xl := bx.lt
    have x0 : V.cell? ⟨w.heap.size, 0, none⟩ = some (.slice A n c) := bx.cell 0
    have x1 : V.cell? ⟨w.heap.size, 1, none⟩ = some (.slice B m d) := bx.cell 1
    go_wp2_with (go_at_call 74; refine (codeF_any _ _ _ _ _ _ _ _ _ ns ps fs _ (h.below hV) (hz.below hV) hl).mono ?_; rw [HC.out]; rintro e1 w1 ⟨rfl, hb1⟩)
    go_ret
    exact ⟨ri HK.out.symm, bthen hV hb1 hV.size⟩
set_option maxHeartbeats 4000000 in
theorem sCodeH_any (A B C : Option Addr) (n c m d l e : Nat) (x : Int) (ns : List Nd) (ps : List Pp) (fs : List Int) (w : World) (h : IsNet w A n c ns B m d ps) (hz : Ints w C l fs) (hl : l ≤ 1048576) :
    Calls Tryz.prog 58 #[.agg #[.slice A n c, .slice B m d], .slice C l e, .int .i64 x] w fun e w' => e = .returned (.int .i64 (codeH ns ps n m fs x)) ∧ Below w.heap.size w w' := by
  have bx := box_new w #[.slice A n c, .slice B m d] 33
  have hV : Below w.heap.size w (w.alloc (.cells #[.slice A n c, .slice B m d] 33)) := (Below.refl _ _).alloc (Nat.le_refl _) _
  by_cases hcc : codeF ns ps m fs = 0
  · have HCC := Lib.hid hcc
    obtain ⟨hok, _⟩ := codeF_ok2 hcc
    have hm40 : m ≤ 40 := by have := hok.2.2.1; have := h.pipes.len; omega
    have hcl : (cN (chd (esOf ps) n)).length ≤ 1048576 := by
      have h1 := chd_len (esOf ps) n
      rw [esOf_len] at h1
      have h2 := h.pipes.len
      unfold cN
      simp
      omega
    have HOK := Lib.hid hok
    have HCL := Lib.hid hcl
    clear hok hcl
    cases hx : chB (esOf ps) n x
    case false =>
      have HK := Lib.hid (codeH_4 hcc hx)
      have HX := Lib.hid (show (cN (chd (esOf ps) n)).contains x = false from hx)
      clear hcc hx
      go_enter Tryz.func58, Tryz.ntmps58
      go_upto_region 1 with fail
      generalize (w.alloc (.cells #[.slice A n c, .slice B m d] 33)) = V at *
      have xl := bx.lt
      have x0 : V.cell? ⟨w.heap.size, 0, none⟩ = some (.slice A n c) := bx.cell 0
      have x1 : V.cell? ⟨w.heap.size, 1, none⟩ = some (.slice B m d) := bx.cell 1
      go_upto_region 2 with (go_at_call 68; refine (sCodeF_any _ _ _ _ _ _ _ _ _ ns ps fs _ (h.below hV) (hz.below hV) hl).mono ?_; rw [HCC.out]; rintro e1 w1 ⟨rfl, hb1⟩)
      have hW1 := bthen hV hb1 hV.size
      have bx1 := bx.belowA hb1
      clear x0 x1 xl bx
      have xl := bx1.lt
      have x0 : w1.cell? ⟨w.heap.size, 0, none⟩ = some (.slice A n c) := bx1.cell 0
      have x1 : w1.cell? ⟨w.heap.size, 1, none⟩ = some (.slice B m d) := bx1.cell 1
      go_wp2_with (first | (go_at_call 117; refine (sChords_any _ _ _ _ _ _ ns ps _ (h.below hW1) HOK.out).mono ?_; rintro e2 w2 ⟨A2, c2, rfl, o2, hb2⟩) | (go_at_call 116; refine (sHas_any _ _ _ _ x _ o2.ints HCL.out).mono ?_; rw [HX.out]; rintro e3 w3 ⟨rfl, rfl⟩))
      go_ret
      exact ⟨ri HK.out.symm, bthen hW1 hb2 hW1.size⟩
    case true =>
      have HK := Lib.hid (codeH_0 hcc hx)
      have HX := Lib.hid (show (cN (chd (esOf ps) n)).contains x = true from hx)
      clear hcc hx
      go_enter Tryz.func58, Tryz.ntmps58
      go_upto_region 1 with fail
      generalize (w.alloc (.cells #[.slice A n c, .slice B m d] 33)) = V at *
      have xl := bx.lt
      have x0 : V.cell? ⟨w.heap.size, 0, none⟩ = some (.slice A n c) := bx.cell 0
      have x1 : V.cell? ⟨w.heap.size, 1, none⟩ = some (.slice B m d) := bx.cell 1
      go_upto_region 2 with (go_at_call 68; refine (sCodeF_any _ _ _ _ _ _ _ _ _ ns ps fs _ (h.below hV) (hz.below hV) hl).mono ?_; rw [HCC.out]; rintro e1 w1 ⟨rfl, hb1⟩)
      have hW1 := bthen hV hb1 hV.size
      have bx1 := bx.belowA hb1
      clear x0 x1 xl bx
      have xl := bx1.lt
      have x0 : w1.cell? ⟨w.heap.size, 0, none⟩ = some (.slice A n c) := bx1.cell 0
      have x1 : w1.cell? ⟨w.heap.size, 1, none⟩ = some (.slice B m d) := bx1.cell 1
      go_wp2_with (first | (go_at_call 117; refine (sChords_any _ _ _ _ _ _ ns ps _ (h.below hW1) HOK.out).mono ?_; rintro e2 w2 ⟨A2, c2, rfl, o2, hb2⟩) | (go_at_call 116; refine (sHas_any _ _ _ _ x _ o2.ints HCL.out).mono ?_; rw [HX.out]; rintro e3 w3 ⟨rfl, rfl⟩))
      go_ret
      exact ⟨ri HK.out.symm, bthen hW1 hb2 hW1.size⟩
  · have HK := Lib.hid (codeH_bad (n := n) (x := x) hcc)
    obtain ⟨K, hK⟩ : ∃ y, codeF ns ps m fs = y := ⟨_, rfl⟩
    rw [hK] at hcc HK
    have HC := Lib.hid hK
    have t1 : (K == 0) = false := by simpa using hcc
    clear hK hcc
    go_enter Tryz.func58, Tryz.ntmps58
    go_upto_region 1 with fail
    generalize (w.alloc (.cells #[.slice A n c, .slice B m d] 33)) = V at *
    have xl := bx.lt
    have x0 : V.cell? ⟨w.heap.size, 0, none⟩ = some (.slice A n c) := bx.cell 0
    have x1 : V.cell? ⟨w.heap.size, 1, none⟩ = some (.slice B m d) := bx.cell 1
    go_wp2_with (go_at_call 68; refine (sCodeF_any _ _ _ _ _ _ _ _ _ ns ps fs _ (h.below hV) (hz.below hV) hl).mono ?_; rw [HC.out]; rintro e1 w1 ⟨rfl, hb1⟩)
    go_ret
    exact ⟨ri HK.out.symm, bthen hV hb1 hV.size⟩
end Go.Proofs.YtpgegfnhokhlmaaGreat
