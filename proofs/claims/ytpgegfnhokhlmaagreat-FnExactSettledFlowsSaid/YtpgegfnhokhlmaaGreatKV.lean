/- What ForestFlows, solveLoops, SolveLoops, MovesNeeded (of the program and of the reference) do, by walks over their text. Condition: at most 2^20 supplies. What ForestFlows of the reference, solveLoops, SolveLoops, MovesNeeded do, by walks over their text. Condition: at most 2^20 supplies. What solveLoops, SolveLoops, MovesNeeded (of the program and of the reference) do, by walks over their text. Condition: at most 2^20 supplies. -/
import Derived.Test.YtpgegfnhokhlmaaGreatKC
import Derived.Test.YtpgegfnhokhlmaaGreatKF
set_option linter.unusedVariables false
set_option maxRecDepth 100000
namespace Go.Proofs.YtpgegfnhokhlmaaGreat
open Go.ChangeShapes Go.WideShapes Go.ChangeAt Go.RowKit Go.Joins Go.Deep
attribute [local go_sem ↓] Go.wp_at_zero Go.wp_at_succ

/-- A call returns a slice of its own that reads as zs, and a number, and leaves what was there. -/
def RetI2 (w : World) (zs : List Int) (k : Int) (e : Ending) (w' : World) : Prop :=
  ∃ A c, e = .returned (.tuple #[.slice A zs.length c, .int .i64 k]) ∧ Own w' w.heap.size A zs.length c zs ∧ Below w.heap.size w w'
theorem retI2_nil {w w' : World} {zs : List Int} {k c : Int} (hz : zs = []) (hk : k = c) (h : Below w.heap.size w w') : RetI2 w zs k (.returned (.tuple #[.slice none 0 0, .int .i64 c])) w' := by
  subst hz hk
  exact ⟨none, 0, rfl, own_nil _ _, h⟩
theorem retI2_of {w w' : World} {A : Option Addr} {n c : Nat} {zs ys : List Int} {k j : Int} (hl : ys.length = n) (hz : zs = ys) (hk : k = j) (ho : Own w' w.heap.size A n c ys) (hb : Below w.heap.size w w') : RetI2 w zs k (.returned (.tuple #[.slice A n c, .int .i64 j])) w' := by
  subst hz hk hl
  exact ⟨_, _, rfl, ho, hb⟩
theorem absS_bd {l : List Int} {M : Nat} (h : ∀ z ∈ l, z.natAbs ≤ M) : absS l ≤ l.length * M := by
  induction l with
  | nil => exact Nat.zero_le _
  | cons x l ih =>
    have h1 := ih (fun z hz => h z (List.mem_cons_of_mem _ hz))
    have h2 := h x List.mem_cons_self
    show x.natAbs + absS l ≤ (l.length + 1) * M
    rw [Nat.add_mul]
    omega
theorem allB_nat {zs : List Int} (h : allB zs (-30000) 30000 = true) : ∀ z ∈ zs, z.natAbs ≤ 30000 := by
  intro z hz
  unfold allB at h
  have := List.all_eq_true.1 h z hz
  rw [inB_iff] at this
  omega
theorem flB_abs {n : Nat} {zs : List Int} (hn : n ≤ 24) (h : flB n zs = true) : absS zs ≤ 1000000 := by
  have h1 := absS_bd (allB_nat (flB_all h))
  rw [flB_len h] at h1
  omega
theorem flB_get {n : Nat} {zs : List Int} (h : flB n zs = true) : ∀ i, i < n → (zs.getD i 0).natAbs ≤ 30000 := by
  intro i hi
  have hl := flB_len h
  have : zs.getD i 0 = zs[i]'(by omega) := by simp [List.getD, show i < zs.length by omega]
  rw [this]
  exact allB_nat (flB_all h) _ (List.getElem_mem _)
/-- The flows of the forest for supplies, and a code. -/
def fofK (es : Es) (n : Nat) (zs : List Int) : Int := if evB es n zs = true then (if inR (ffl es n zs) = true then 0 else 2) else 5
noncomputable def fofC (ns : List Nd) (ps : List Pp) (n : Nat) (zs : List Int) : Int := if codeF ns ps n zs = 0 then fofK (esOf ps) n zs else codeF ns ps n zs
noncomputable def fofL (ns : List Nd) (ps : List Pp) (n : Nat) (zs : List Int) : List Int := if fofC ns ps n zs = 0 then ffl (esOf ps) n zs else []
theorem fofC_bad {ns : List Nd} {ps : List Pp} {n : Nat} {zs : List Int} {k : Int} (h : codeF ns ps n zs = k) (hk : k ≠ 0) : fofC ns ps n zs = k ∧ fofL ns ps n zs = [] := by
  have e : fofC ns ps n zs = k := by unfold fofC; rw [h, if_neg hk]
  exact ⟨e, by unfold fofL; rw [e, if_neg hk]⟩
theorem fofC_good {ns : List Nd} {ps : List Pp} {n : Nat} {zs : List Int} {k : Int} (h : codeF ns ps n zs = 0) (hk : fofK (esOf ps) n zs = k) : fofC ns ps n zs = k := by unfold fofC; rw [if_pos h, hk]
theorem fofL_bad {ns : List Nd} {ps : List Pp} {n : Nat} {zs : List Int} {k : Int} (h : fofC ns ps n zs = k) (hk : k ≠ 0) : fofL ns ps n zs = [] := by unfold fofL; rw [h, if_neg hk]
theorem fofL_ok {ns : List Nd} {ps : List Pp} {n : Nat} {zs : List Int} (h : fofC ns ps n zs = 0) : fofL ns ps n zs = ffl (esOf ps) n zs := by unfold fofL; rw [if_pos h]
/-- Where the code is 0. -/
theorem fofC_zero {ns : List Nd} {ps : List Pp} {n : Nat} {zs : List Int} (h : fofC ns ps n zs = 0) : NetOk ns ps ∧ flB n zs = true ∧ evB (esOf ps) n zs = true ∧ inR (ffl (esOf ps) n zs) = true := by
  rcases codeF_in ns ps n zs with ⟨hc, hok, hfl⟩ | hc | hc
  · rw [fofC_good hc rfl] at h
    unfold fofK at h
    refine ⟨hok, hfl, ?_⟩
    by_cases h1 : evB (esOf ps) n zs = true
    · rw [if_pos h1] at h
      by_cases h2 : inR (ffl (esOf ps) n zs) = true
      · exact ⟨h1, h2⟩
      · rw [if_neg h2] at h; exact absurd h (by decide)
    · rw [if_neg h1] at h; exact absurd h (by decide)
  · rw [(fofC_bad hc (by decide)).1] at h; exact absurd h (by decide)
  · rw [(fofC_bad hc (by decide)).1] at h; exact absurd h (by decide)
/-- The solved loops: flows, moves. -/
noncomputable def slvL (ns : List Nd) (ps : List Pp) (n : Nat) (zs : List Int) : List Int := if fofC ns ps n zs = 0 then (rlx ps n (ffl (esOf ps) n zs) 32768).1 else []
noncomputable def slvM (ns : List Nd) (ps : List Pp) (n : Nat) (zs : List Int) : Int := if fofC ns ps n zs = 0 then ((rlx ps n (ffl (esOf ps) n zs) 32768).2 : Int) else 0
theorem slv_bad {ns : List Nd} {ps : List Pp} {n : Nat} {zs : List Int} (h : fofC ns ps n zs ≠ 0) : slvL ns ps n zs = [] ∧ slvM ns ps n zs = 0 := ⟨by unfold slvL; rw [if_neg h], by unfold slvM; rw [if_neg h]⟩
theorem slv_ok {ns : List Nd} {ps : List Pp} {n : Nat} {zs : List Int} (h : fofC ns ps n zs = 0) : slvL ns ps n zs = (rlx ps n (ffl (esOf ps) n zs) 32768).1 ∧ slvM ns ps n zs = ((rlx ps n (ffl (esOf ps) n zs) 32768).2 : Int) := ⟨by unfold slvL; rw [if_pos h], by unfold slvM; rw [if_pos h]⟩
theorem checked_ok {A : Option Addr} {n c : Nat} {zs : List Int} {w : World} (h : Ints w A n zs) (hn : n ≤ 1048576) (hr : inR zs = true) :
    Calls Tryz.prog 159 #[.slice A n c] w fun e w' => e = .returned (.tuple #[.slice A n c, .int .i64 0]) ∧ w = w' := by
  have HR := Lib.hid (show allB zs (-30000) 30000 = true from hr)
  clear hr
  go_enter Tryz.func159, Tryz.ntmps159
  go_wp2_with (go_at_call 136; refine (allWithin_any _ _ _ _ _ _ _ h hn).mono ?_; rw [HR.out]; rintro e w' ⟨rfl, rfl⟩)
  go_ret2
  exact ⟨rfl, rfl⟩
theorem checked_no {A : Option Addr} {n c : Nat} {zs : List Int} {w : World} (h : Ints w A n zs) (hn : n ≤ 1048576) (hr : inR zs = false) :
    Calls Tryz.prog 159 #[.slice A n c] w fun e w' => e = .returned (.tuple #[.slice none 0 0, .int .i64 2]) ∧ w = w' := by
  have HR := Lib.hid (show allB zs (-30000) 30000 = false from hr)
  clear hr
  go_enter Tryz.func159, Tryz.ntmps159
  go_wp2_with (go_at_call 136; refine (allWithin_any _ _ _ _ _ _ _ h hn).mono ?_; rw [HR.out]; rintro e w' ⟨rfl, rfl⟩)
  go_ret2
  exact ⟨rfl, rfl⟩
set_option maxHeartbeats 4000000 in
theorem forestF_any (A B C : Option Addr) (n c m d l e : Nat) (zs : List Int) (ns : List Nd) (ps : List Pp) (w : World) (h : IsNet w A n c ns B m d ps) (hz : Ints w C l zs) (hl : l ≤ 1048576) :
    Calls Tryz.prog 113 #[.agg #[.slice A n c, .slice B m d], .slice C l e] w (RetI2 w (fofL ns ps n zs) (fofC ns ps n zs)) := by
  have hV : Below w.heap.size w (w.alloc (.cells #[.slice A n c, .slice B m d] 33)) := (Below.refl _ _).alloc (Nat.le_refl _) _
  have bx := box_new w #[.slice A n c, .slice B m d] 33
  have HZL := Lib.hid hz.len
  rcases codeF_in ns ps n zs with ⟨hc, hok, hfl⟩ | hc | hc
  · have HC := Lib.hid hc
    have HOK := Lib.hid hok
    have hn24 : n ≤ 24 := by have := hok.2.1; have := h.nodes.len; omega
    have hm40 : m ≤ 40 := by have := hok.2.2.1; have := h.pipes.len; omega
    have hg : Good (esOf ps) n := by rw [← h.nodes.len]; exact net_good hok
    have hln : l = n := by rw [← hz.len]; exact flB_len hfl
    have HAB := Lib.hid (flB_abs hn24 hfl)
    have HEV := Lib.hid (show ∀ i, i < n → (zs.getD i 0).natAbs ≤ 1200000 from fun i hi => Nat.le_trans (flB_get hfl i hi) (by decide))
    have HFL := Lib.hid (show (ffl (esOf ps) n zs).length = m by rw [ffl_len hg (flB_len hfl), esOf_len]; exact h.pipes.len)
    have HK := Lib.hid (show fofK (esOf ps) n zs = (if evB (esOf ps) n zs = true then (if inR (ffl (esOf ps) n zs) = true then 0 else 2) else 5) from rfl)
    have HG := Lib.hid (fun k hk => fofC_good (k := k) hc hk)
    subst hln
    clear hc hok hfl hg
    cases hE : evB (esOf ps) l zs
    · have HE := Lib.hid hE
      have HR := Lib.hid (HG.out 5 (by rw [HK.out, hE]; rfl))
      have HR2 := Lib.hid (fofL_bad HR.out (by decide))
      clear hE
      go_enter Tryz.func113, Tryz.ntmps113
      go_upto_region 1 with fail
      generalize (w.alloc (.cells #[.slice A l c, .slice B m d] 33)) = V at *
      have xl := bx.lt
      have x0 : V.cell? ⟨w.heap.size, 0, none⟩ = some (.slice A l c) := bx.cell 0
      have x1 : V.cell? ⟨w.heap.size, 1, none⟩ = some (.slice B m d) := bx.cell 1
      go_upto_region 4 with (go_at_call 146; refine (codeP_any _ _ _ _ _ _ _ _ _ ns ps zs _ (h.below hV) (hz.below hV) hl).mono ?_; rw [HC.out]; rintro e1 w1 ⟨rfl, hb1⟩)
      have hW1 := bthen hV hb1 hV.size
      have bx1 := bx.belowA hb1
      have xl := bx1.lt
      have x0 : w1.cell? ⟨w.heap.size, 0, none⟩ = some (.slice A l c) := bx1.cell 0
      have x1 : w1.cell? ⟨w.heap.size, 1, none⟩ = some (.slice B m d) := bx1.cell 1
      go_wp2_with (go_at_call 77; refine (isEven_any _ _ _ _ _ _ _ _ _ ns ps zs _ (h.below hW1) HOK.out (hz.below hW1) rfl HEV.out).mono ?_; rw [HE.out]; rintro e2 w2 ⟨rfl, hb2⟩)
      go_ret2
      exact retI2_nil HR2.out HR.out (bthen hW1 hb2 hW1.size)
    · have HE := Lib.hid hE
      have HK2 := Lib.hid (show fofK (esOf ps) l zs = (if inR (ffl (esOf ps) l zs) = true then 0 else 2) by rw [HK.out, hE]; rfl)
      clear hE
      go_enter Tryz.func113, Tryz.ntmps113
      go_upto_region 1 with fail
      generalize (w.alloc (.cells #[.slice A l c, .slice B m d] 33)) = V at *
      have xl := bx.lt
      have x0 : V.cell? ⟨w.heap.size, 0, none⟩ = some (.slice A l c) := bx.cell 0
      have x1 : V.cell? ⟨w.heap.size, 1, none⟩ = some (.slice B m d) := bx.cell 1
      go_upto_region 4 with (go_at_call 146; refine (codeP_any _ _ _ _ _ _ _ _ _ ns ps zs _ (h.below hV) (hz.below hV) hl).mono ?_; rw [HC.out]; rintro e1 w1 ⟨rfl, hb1⟩)
      have hW1 := bthen hV hb1 hV.size
      have bx1 := bx.belowA hb1
      clear bx x0 x1 xl hb1
      have xl := bx1.lt
      have x0 : w1.cell? ⟨w.heap.size, 0, none⟩ = some (.slice A l c) := bx1.cell 0
      have x1 : w1.cell? ⟨w.heap.size, 1, none⟩ = some (.slice B m d) := bx1.cell 1
      go_upto_region 6 with (go_at_call 77; refine (isEven_any _ _ _ _ _ _ _ _ _ ns ps zs _ (h.below hW1) HOK.out (hz.below hW1) rfl HEV.out).mono ?_; rw [HE.out]; rintro e2 w2 ⟨rfl, hb2⟩)
      have hW2 := bthen hW1 hb2 hW1.size
      have bx2 := bx1.belowA hb2
      clear bx1 x0 x1 xl hb2
      have xl := bx2.lt
      have x0 : w2.cell? ⟨w.heap.size, 0, none⟩ = some (.slice A l c) := bx2.cell 0
      have x1 : w2.cell? ⟨w.heap.size, 1, none⟩ = some (.slice B m d) := bx2.cell 1
      have hs2 := hW2.size
      cases hI : inR (ffl (esOf ps) l zs)
      · have HR := Lib.hid (HG.out 2 (by rw [HK2.out, hI]; rfl))
        have HR2 := Lib.hid (fofL_bad HR.out (by decide))
        have HI := Lib.hid hI
        clear hI
        go_wp2_with (first | (go_at_call 78; refine (forestFlows_any _ _ _ _ _ _ _ _ ns ps zs _ (h.below hW2) HOK.out (hz.below hW2) HAB.out).mono ?_; rintro e3 w3 ⟨A3, c3, rfl, o3, hb3⟩; rw [HFL.out] at o3 ⊢) | (go_at_call 159; refine (checked_no o3.ints (by omega) HI.out).mono ?_; rintro e4 w4 ⟨rfl, rfl⟩))
        go_ret2
        exact retI2_nil HR2.out HR.out (bthen hW2 hb3 hW2.size)
      · have HR := Lib.hid (HG.out 0 (by rw [HK2.out, hI]; rfl))
        have HR2 := Lib.hid (fofL_ok HR.out)
        have HI := Lib.hid hI
        clear hI
        go_wp2_with (first | (go_at_call 78; refine (forestFlows_any _ _ _ _ _ _ _ _ ns ps zs _ (h.below hW2) HOK.out (hz.below hW2) HAB.out).mono ?_; rintro e3 w3 ⟨A3, c3, rfl, o3, hb3⟩; rw [HFL.out] at o3 ⊢) | (go_at_call 159; refine (checked_ok o3.ints (by omega) HI.out).mono ?_; rintro e4 w4 ⟨rfl, rfl⟩))
        go_ret2
        exact retI2_of HFL.out HR2.out HR.out (o3.mono hs2) (bthen hW2 hb3 hW2.size)
  all_goals
    have HC := Lib.hid hc
    obtain ⟨h1, h2⟩ := fofC_bad hc (by decide)
    have H1 := Lib.hid h1
    have H2 := Lib.hid h2
    clear hc h1 h2
    go_enter Tryz.func113, Tryz.ntmps113
    go_upto_region 1 with fail
    generalize (w.alloc (.cells #[.slice A n c, .slice B m d] 33)) = V at *
    have xl := bx.lt
    have x0 : V.cell? ⟨w.heap.size, 0, none⟩ = some (.slice A n c) := bx.cell 0
    have x1 : V.cell? ⟨w.heap.size, 1, none⟩ = some (.slice B m d) := bx.cell 1
    go_wp2_with (go_at_call 146; refine (codeP_any _ _ _ _ _ _ _ _ _ ns ps zs _ (h.below hV) (hz.below hV) hl).mono ?_; rw [HC.out]; rintro e1 w1 ⟨rfl, hb1⟩)
    go_ret2
    exact retI2_nil H2.out H1.out (bthen hV hb1 hV.size)
end Go.Proofs.YtpgegfnhokhlmaaGreat
set_option linter.unusedVariables false
set_option maxRecDepth 100000
namespace Go.Proofs.YtpgegfnhokhlmaaGreat
open Go.ChangeShapes Go.WideShapes Go.ChangeAt Go.RowKit Go.Joins Go.Deep
attribute [local go_sem ↓] Go.wp_at_zero Go.wp_at_succ

set_option maxHeartbeats 4000000 in
theorem sForestF_any (A B C : Option Addr) (n c m d l e : Nat) (zs : List Int) (ns : List Nd) (ps : List Pp) (w : World) (h : IsNet w A n c ns B m d ps) (hz : Ints w C l zs) (hnil : C = none → e = 0) (hl : l ≤ 1048576) :
    Calls Tryz.prog 51 #[.agg #[.slice A n c, .slice B m d], .slice C l e] w (RetI2 w (fofL ns ps n zs) (fofC ns ps n zs)) := by
  have hV : Below w.heap.size w (w.alloc (.cells #[.slice A n c, .slice B m d] 33)) := (Below.refl _ _).alloc (Nat.le_refl _) _
  have bx := box_new w #[.slice A n c, .slice B m d] 33
  have HZL := Lib.hid hz.len
  have HNL := Lib.hid hnil
  clear hnil
  rcases codeF_in ns ps n zs with ⟨hc, hok, hfl⟩ | hc | hc
  · have HC := Lib.hid hc
    have HOK := Lib.hid hok
    have hn24 : n ≤ 24 := by have := hok.2.1; have := h.nodes.len; omega
    have hm40 : m ≤ 40 := by have := hok.2.2.1; have := h.pipes.len; omega
    have hg : Good (esOf ps) n := by rw [← h.nodes.len]; exact net_good hok
    have hln : l = n := by rw [← hz.len]; exact flB_len hfl
    have HAB := Lib.hid (flB_abs hn24 hfl)
    have HEV := Lib.hid (show ∀ i, i < n → (zs.getD i 0).natAbs ≤ 1200000 from fun i hi => Nat.le_trans (flB_get hfl i hi) (by decide))
    have HFL := Lib.hid (show (ffl (esOf ps) n zs).length = m by rw [ffl_len hg (flB_len hfl), esOf_len]; exact h.pipes.len)
    have HK := Lib.hid (show fofK (esOf ps) n zs = (if evB (esOf ps) n zs = true then (if inR (ffl (esOf ps) n zs) = true then 0 else 2) else 5) from rfl)
    have HG := Lib.hid (fun k hk => fofC_good (k := k) hc hk)
    subst hln
    clear hc hok hfl hg
    cases hE : evB (esOf ps) l zs
    · have HE := Lib.hid hE
      have HR := Lib.hid (HG.out 5 (by rw [HK.out, hE]; rfl))
      have HR2 := Lib.hid (fofL_bad HR.out (by decide))
      clear hE
      go_enter Tryz.func51, Tryz.ntmps51
      go_upto_region 1 with fail
      generalize (w.alloc (.cells #[.slice A l c, .slice B m d] 33)) = V at *
      have xl := bx.lt
      have x0 : V.cell? ⟨w.heap.size, 0, none⟩ = some (.slice A l c) := bx.cell 0
      have x1 : V.cell? ⟨w.heap.size, 1, none⟩ = some (.slice B m d) := bx.cell 1
      go_upto_region 4 with (go_at_call 108; refine (sCodeP_any _ _ _ _ _ _ _ _ _ ns ps zs _ (h.below hV) (hz.below hV) hl).mono ?_; rw [HC.out]; rintro e1 w1 ⟨rfl, hb1⟩)
      have hW1 := bthen hV hb1 hV.size
      have bx1 := bx.belowA hb1
      have xl := bx1.lt
      have x0 : w1.cell? ⟨w.heap.size, 0, none⟩ = some (.slice A l c) := bx1.cell 0
      have x1 : w1.cell? ⟨w.heap.size, 1, none⟩ = some (.slice B m d) := bx1.cell 1
      go_wp2_with (go_at_call 71; refine (sEven_any _ _ _ _ _ _ _ _ _ ns ps zs _ (h.below hW1) HOK.out (hz.below hW1) rfl HEV.out).mono ?_; rw [HE.out]; rintro e2 w2 ⟨rfl, hb2⟩)
      go_ret2
      exact retI2_nil HR2.out HR.out (bthen hW1 hb2 hW1.size)
    · have HE := Lib.hid hE
      have HK2 := Lib.hid (show fofK (esOf ps) l zs = (if inR (ffl (esOf ps) l zs) = true then 0 else 2) by rw [HK.out, hE]; rfl)
      clear hE
      go_enter Tryz.func51, Tryz.ntmps51
      go_upto_region 1 with fail
      generalize (w.alloc (.cells #[.slice A l c, .slice B m d] 33)) = V at *
      have xl := bx.lt
      have x0 : V.cell? ⟨w.heap.size, 0, none⟩ = some (.slice A l c) := bx.cell 0
      have x1 : V.cell? ⟨w.heap.size, 1, none⟩ = some (.slice B m d) := bx.cell 1
      go_upto_region 4 with (go_at_call 108; refine (sCodeP_any _ _ _ _ _ _ _ _ _ ns ps zs _ (h.below hV) (hz.below hV) hl).mono ?_; rw [HC.out]; rintro e1 w1 ⟨rfl, hb1⟩)
      have hW1 := bthen hV hb1 hV.size
      have bx1 := bx.belowA hb1
      clear bx x0 x1 xl hb1
      have xl := bx1.lt
      have x0 : w1.cell? ⟨w.heap.size, 0, none⟩ = some (.slice A l c) := bx1.cell 0
      have x1 : w1.cell? ⟨w.heap.size, 1, none⟩ = some (.slice B m d) := bx1.cell 1
      go_upto_region 6 with (go_at_call 71; refine (sEven_any _ _ _ _ _ _ _ _ _ ns ps zs _ (h.below hW1) HOK.out (hz.below hW1) rfl HEV.out).mono ?_; rw [HE.out]; rintro e2 w2 ⟨rfl, hb2⟩)
      have hW2 := bthen hW1 hb2 hW1.size
      have bx2 := bx1.belowA hb2
      clear bx1 x0 x1 xl hb2
      have xl := bx2.lt
      have x0 : w2.cell? ⟨w.heap.size, 0, none⟩ = some (.slice A l c) := bx2.cell 0
      have x1 : w2.cell? ⟨w.heap.size, 1, none⟩ = some (.slice B m d) := bx2.cell 1
      have hs2 := hW2.size
      cases hI : inR (ffl (esOf ps) l zs)
      · have HR := Lib.hid (HG.out 2 (by rw [HK2.out, hI]; rfl))
        have HR2 := Lib.hid (fofL_bad HR.out (by decide))
        have HI := Lib.hid hI
        clear hI
        go_upto_region 7 with (go_at_call 72; refine (sForF_any _ _ _ _ _ _ _ _ ns ps zs _ (h.below hW2) HOK.out (hz.below hW2) HNL.out HAB.out).mono ?_; rintro e3 w3 ⟨A3, c3, rfl, o3, hb3⟩; rw [HFL.out] at o3 ⊢)
        have hW3 := bthen hW2 hb3 hW2.size
        have bx3 := bx2.belowA hb3
        clear x0 x1 xl
        have xl := bx3.lt
        have x0 : w3.cell? ⟨w.heap.size, 0, none⟩ = some (.slice A l c) := bx3.cell 0
        have x1 : w3.cell? ⟨w.heap.size, 1, none⟩ = some (.slice B m d) := bx3.cell 1
        have HFB := Lib.hid (show flB m (ffl (esOf ps) l zs) = false by rw [flB_inR HFL.out]; exact HI.out)
        go_wp2_with (go_at_call 73; refine (sFlow_any _ _ _ _ _ _ _ _ _ (ffl (esOf ps) l zs) _ o3.ints (by omega)).mono ?_; rw [HFB.out]; rintro e4 w4 ⟨rfl, hb4⟩)
        go_ret2
        exact retI2_nil HR2.out HR.out (bthen hW3 hb4 hW3.size)
      · have HR := Lib.hid (HG.out 0 (by rw [HK2.out, hI]; rfl))
        have HR2 := Lib.hid (fofL_ok HR.out)
        have HI := Lib.hid hI
        clear hI
        go_upto_region 7 with (go_at_call 72; refine (sForF_any _ _ _ _ _ _ _ _ ns ps zs _ (h.below hW2) HOK.out (hz.below hW2) HNL.out HAB.out).mono ?_; rintro e3 w3 ⟨A3, c3, rfl, o3, hb3⟩; rw [HFL.out] at o3 ⊢)
        have hW3 := bthen hW2 hb3 hW2.size
        have bx3 := bx2.belowA hb3
        clear x0 x1 xl
        have xl := bx3.lt
        have x0 : w3.cell? ⟨w.heap.size, 0, none⟩ = some (.slice A l c) := bx3.cell 0
        have x1 : w3.cell? ⟨w.heap.size, 1, none⟩ = some (.slice B m d) := bx3.cell 1
        have HFB := Lib.hid (show flB m (ffl (esOf ps) l zs) = true by rw [flB_inR HFL.out]; exact HI.out)
        go_wp2_with (go_at_call 73; refine (sFlow_any _ _ _ _ _ _ _ _ _ (ffl (esOf ps) l zs) _ o3.ints (by omega)).mono ?_; rw [HFB.out]; rintro e4 w4 ⟨rfl, hb4⟩)
        go_ret2
        exact retI2_of HFL.out HR2.out HR.out ((o3.below hb4).mono hs2) (bthen hW3 hb4 hW3.size)
  all_goals
    have HC := Lib.hid hc
    obtain ⟨h1, h2⟩ := fofC_bad hc (by decide)
    have H1 := Lib.hid h1
    have H2 := Lib.hid h2
    clear hc h1 h2
    go_enter Tryz.func51, Tryz.ntmps51
    go_upto_region 1 with fail
    generalize (w.alloc (.cells #[.slice A n c, .slice B m d] 33)) = V at *
    have xl := bx.lt
    have x0 : V.cell? ⟨w.heap.size, 0, none⟩ = some (.slice A n c) := bx.cell 0
    have x1 : V.cell? ⟨w.heap.size, 1, none⟩ = some (.slice B m d) := bx.cell 1
    go_wp2_with (go_at_call 108; refine (sCodeP_any _ _ _ _ _ _ _ _ _ ns ps zs _ (h.below hV) (hz.below hV) hl).mono ?_; rw [HC.out]; rintro e1 w1 ⟨rfl, hb1⟩)
    go_ret2
    exact retI2_nil H2.out H1.out (bthen hV hb1 hV.size)
/-- Flows, moves, a code. -/
def RetI3 (w : World) (zs : List Int) (k j : Int) (e : Ending) (w' : World) : Prop :=
  ∃ A c, e = .returned (.tuple #[.slice A zs.length c, .int .i64 k, .int .i64 j]) ∧ Own w' w.heap.size A zs.length c zs ∧ Below w.heap.size w w'
theorem retI3_of {w w' : World} {A : Option Addr} {n c : Nat} {zs ys : List Int} {k j k' j' : Int} (hl : ys.length = n) (hz : zs = ys) (hk : k = k') (hj : j = j') (ho : Own w' w.heap.size A n c ys) (hb : Below w.heap.size w w') : RetI3 w zs k j (.returned (.tuple #[.slice A n c, .int .i64 k', .int .i64 j'])) w' := by
  subst hz hk hj hl
  exact ⟨_, _, rfl, ho, hb⟩
theorem retI3_nil {w w' : World} {zs : List Int} {k j k' j' : Int} (hz : zs = []) (hk : k = k') (hj : j = j') (hb : Below w.heap.size w w') : RetI3 w zs k j (.returned (.tuple #[.slice none 0 0, .int .i64 k', .int .i64 j'])) w' := by
  subst hz hk hj
  exact ⟨none, 0, rfl, own_nil _ _, hb⟩
/-- What holds where the forest's flows are in range. -/
theorem slv_facts {A B : Option Addr} {n c m d : Nat} {ns : List Nd} {ps : List Pp} {zs : List Int} {w : World} (h : IsNet w A n c ns B m d ps) (hc : fofC ns ps n zs = 0) : NetOk ns ps ∧ (ffl (esOf ps) n zs).length = m ∧ inR (ffl (esOf ps) n zs) = true ∧ (slvL ns ps n zs).length = m ∧ inR (slvL ns ps n zs) = true := by
  obtain ⟨hok, hfl, _, hi⟩ := fofC_zero hc
  have hg : Good (esOf ps) n := by rw [← h.nodes.len]; exact net_good hok
  have hl : (ffl (esOf ps) n zs).length = m := by rw [ffl_len hg (flB_len hfl), esOf_len]; exact h.pipes.len
  have hr := rlx_ok (s := 32768) (n := n) (ps := ps) hl hi
  rw [(slv_ok hc).1]
  exact ⟨hok, hl, hi, hr.1, hr.2⟩
theorem slvL_len {A B : Option Addr} {n c m d : Nat} {ns : List Nd} {ps : List Pp} {zs : List Int} {w : World} (h : IsNet w A n c ns B m d ps) (hm : m ≤ 1048576) : (slvL ns ps n zs).length ≤ 1048576 := by
  by_cases hc : fofC ns ps n zs = 0
  · rw [(slv_facts h hc).2.2.2.1]; exact hm
  · rw [(slv_bad hc).1]; simp
end Go.Proofs.YtpgegfnhokhlmaaGreat
set_option linter.unusedVariables false
set_option maxRecDepth 100000
namespace Go.Proofs.YtpgegfnhokhlmaaGreat
open Go.ChangeShapes Go.WideShapes Go.ChangeAt Go.RowKit Go.Joins Go.Deep
attribute [local go_sem ↓] Go.wp_at_zero Go.wp_at_succ

set_option maxHeartbeats 4000000 in
theorem solve_any (A B C : Option Addr) (n c m d l e : Nat) (zs : List Int) (ns : List Nd) (ps : List Pp) (w : World) (h : IsNet w A n c ns B m d ps) (hz : Ints w C l zs) (hl : l ≤ 1048576) :
    Calls Tryz.prog 55 #[.agg #[.slice A n c, .slice B m d], .slice C l e] w (RetI3 w (slvL ns ps n zs) (slvM ns ps n zs) (fofC ns ps n zs)) := by
  have hV : Below w.heap.size w (w.alloc (.cells #[.slice A n c, .slice B m d] 33)) := (Below.refl _ _).alloc (Nat.le_refl _) _
  have bx := box_new w #[.slice A n c, .slice B m d] 33
  by_cases hc : fofC ns ps n zs = 0
  · obtain ⟨hok, hfl, hi, hsl, _⟩ := slv_facts h hc
    have HOK := Lib.hid hok
    have HFL := Lib.hid hfl
    have HI := Lib.hid hi
    have HSL := Lib.hid hsl
    have HC := Lib.hid hc
    have HL := Lib.hid (fofL_ok hc)
    obtain ⟨h1, h2⟩ := slv_ok hc
    have H1 := Lib.hid h1
    have H2 := Lib.hid h2
    clear hok hfl hi hsl hc h1 h2
    go_enter Tryz.func55, Tryz.ntmps55
    go_upto_region 1 with fail
    generalize (w.alloc (.cells #[.slice A n c, .slice B m d] 33)) = V at *
    have xl := bx.lt
    have x0 : V.cell? ⟨w.heap.size, 0, none⟩ = some (.slice A n c) := bx.cell 0
    have x1 : V.cell? ⟨w.heap.size, 1, none⟩ = some (.slice B m d) := bx.cell 1
    go_upto_region 4 with (go_at_call 113; (refine (forestF_any _ _ _ _ _ _ _ _ _ zs ns ps _ (h.below hV) (hz.below hV) hl).mono ?_; rw [HL.out, HC.out]; rintro e1 w1 ⟨A1, c1, rfl, o1, hb1⟩; rw [HFL.out] at o1 ⊢))
    have hW1 := bthen hV hb1 hV.size
    have bx1 := bx.belowA hb1
    clear bx x0 x1 xl hb1
    have xl := bx1.lt
    have x0 : w1.cell? ⟨w.heap.size, 0, none⟩ = some (.slice A n c) := bx1.cell 0
    have x1 : w1.cell? ⟨w.heap.size, 1, none⟩ = some (.slice B m d) := bx1.cell 1
    have hs1 := hW1.size
    go_wp2_with (go_at_call 80; refine (relax_any _ _ _ _ _ _ _ _ 32768 (ffl (esOf ps) n zs) ns ps _ (h.below hW1) HOK.out o1.ints HI.out (by decide)).mono ?_; rw [← H1.out, ← H2.out]; rintro e2 w2 ⟨A2, c2, rfl, o2, hb2⟩)
    go_ret3
    exact retI3_of HSL.out rfl rfl HC.out (o2.mono hs1) (bthen hW1 hb2 hW1.size)
  · have HC := Lib.hid hc
    have HL := Lib.hid (fofL_bad rfl hc)
    obtain ⟨h1, h2⟩ := slv_bad hc
    have H1 := Lib.hid h1
    have H2 := Lib.hid h2
    obtain ⟨K, hK⟩ : ∃ y, fofC ns ps n zs = y := ⟨_, rfl⟩
    rw [hK] at hc
    have HK := Lib.hid hK
    have t1 : (K != 0) = true := by simpa using hc
    clear h1 h2 hK hc
    go_enter Tryz.func55, Tryz.ntmps55
    go_upto_region 1 with fail
    generalize (w.alloc (.cells #[.slice A n c, .slice B m d] 33)) = V at *
    have xl := bx.lt
    have x0 : V.cell? ⟨w.heap.size, 0, none⟩ = some (.slice A n c) := bx.cell 0
    have x1 : V.cell? ⟨w.heap.size, 1, none⟩ = some (.slice B m d) := bx.cell 1
    go_wp2_with (go_at_call 113; refine (forestF_any _ _ _ _ _ _ _ _ _ zs ns ps _ (h.below hV) (hz.below hV) hl).mono ?_; rw [HL.out, HK.out]; rintro e1 w1 ⟨A1, c1, rfl, o1, hb1⟩)
    go_ret3
    exact retI3_nil H1.out H2.out HK.out (bthen hV hb1 hV.size)
set_option maxHeartbeats 4000000 in
theorem solveL_any (A B C : Option Addr) (n c m d l e : Nat) (zs : List Int) (ns : List Nd) (ps : List Pp) (w : World) (h : IsNet w A n c ns B m d ps) (hz : Ints w C l zs) (hl : l ≤ 1048576) :
    Calls Tryz.prog 27 #[.agg #[.slice A n c, .slice B m d], .slice C l e] w (RetI2 w (slvL ns ps n zs) (fofC ns ps n zs)) := by
  have hV : Below w.heap.size w (w.alloc (.cells #[.slice A n c, .slice B m d] 33)) := (Below.refl _ _).alloc (Nat.le_refl _) _
  have bx := box_new w #[.slice A n c, .slice B m d] 33
  go_enter Tryz.func27, Tryz.ntmps27
  go_upto_region 1 with fail
  generalize (w.alloc (.cells #[.slice A n c, .slice B m d] 33)) = V at *
  have xl := bx.lt
  have x0 : V.cell? ⟨w.heap.size, 0, none⟩ = some (.slice A n c) := bx.cell 0
  have x1 : V.cell? ⟨w.heap.size, 1, none⟩ = some (.slice B m d) := bx.cell 1
  go_wp2_with (go_at_call 55; refine (solve_any _ _ _ _ _ _ _ _ _ zs ns ps _ (h.below hV) (hz.below hV) hl).mono ?_; rintro e1 w1 ⟨A1, c1, rfl, o1, hb1⟩)
  go_ret2
  exact retI2_of rfl rfl rfl (o1.mono hV.size) (bthen hV hb1 hV.size)
set_option maxHeartbeats 4000000 in
theorem moves_any (A B C : Option Addr) (n c m d l e : Nat) (zs : List Int) (ns : List Nd) (ps : List Pp) (w : World) (h : IsNet w A n c ns B m d ps) (hz : Ints w C l zs) (hl : l ≤ 1048576) :
    Calls Tryz.prog 18 #[.agg #[.slice A n c, .slice B m d], .slice C l e] w (fun e w' => e = .returned (.tuple #[.int .i64 (slvM ns ps n zs), .int .i64 (fofC ns ps n zs)]) ∧ Below w.heap.size w w') := by
  have hV : Below w.heap.size w (w.alloc (.cells #[.slice A n c, .slice B m d] 33)) := (Below.refl _ _).alloc (Nat.le_refl _) _
  have bx := box_new w #[.slice A n c, .slice B m d] 33
  go_enter Tryz.func18, Tryz.ntmps18
  go_upto_region 1 with fail
  generalize (w.alloc (.cells #[.slice A n c, .slice B m d] 33)) = V at *
  have xl := bx.lt
  have x0 : V.cell? ⟨w.heap.size, 0, none⟩ = some (.slice A n c) := bx.cell 0
  have x1 : V.cell? ⟨w.heap.size, 1, none⟩ = some (.slice B m d) := bx.cell 1
  go_wp2_with (go_at_call 55; refine (solve_any _ _ _ _ _ _ _ _ _ zs ns ps _ (h.below hV) (hz.below hV) hl).mono ?_; rintro e1 w1 ⟨A1, c1, rfl, o1, hb1⟩)
  go_ret2
  exact ⟨rfl, bthen hV hb1 hV.size⟩
set_option maxHeartbeats 4000000 in
theorem sSolveL_any (A B C : Option Addr) (n c m d l e : Nat) (zs : List Int) (ns : List Nd) (ps : List Pp) (w : World) (h : IsNet w A n c ns B m d ps) (hz : Ints w C l zs) (hnil : C = none → e = 0) (hl : l ≤ 1048576) :
    Calls Tryz.prog 26 #[.agg #[.slice A n c, .slice B m d], .slice C l e] w (RetI2 w (slvL ns ps n zs) (fofC ns ps n zs)) := by
  have hV : Below w.heap.size w (w.alloc (.cells #[.slice A n c, .slice B m d] 33)) := (Below.refl _ _).alloc (Nat.le_refl _) _
  have bx := box_new w #[.slice A n c, .slice B m d] 33
  have HNL := Lib.hid hnil
  clear hnil
  by_cases hc : fofC ns ps n zs = 0
  · obtain ⟨hok, hfl, hi, hsl, _⟩ := slv_facts h hc
    have HOK := Lib.hid hok
    have HFL := Lib.hid hfl
    have HI := Lib.hid hi
    have HSL := Lib.hid hsl
    have HC := Lib.hid hc
    have HL := Lib.hid (fofL_ok hc)
    obtain ⟨h1, h2⟩ := slv_ok hc
    have H1 := Lib.hid h1
    have H2 := Lib.hid h2
    clear hok hfl hi hsl hc h1 h2
    go_enter Tryz.func26, Tryz.ntmps26
    go_upto_region 1 with fail
    generalize (w.alloc (.cells #[.slice A n c, .slice B m d] 33)) = V at *
    have xl := bx.lt
    have x0 : V.cell? ⟨w.heap.size, 0, none⟩ = some (.slice A n c) := bx.cell 0
    have x1 : V.cell? ⟨w.heap.size, 1, none⟩ = some (.slice B m d) := bx.cell 1
    go_upto_region 4 with (go_at_call 51; (refine (sForestF_any _ _ _ _ _ _ _ _ _ zs ns ps _ (h.below hV) (hz.below hV) HNL.out hl).mono ?_; rw [HL.out, HC.out]; rintro e1 w1 ⟨A1, c1, rfl, o1, hb1⟩; rw [HFL.out] at o1 ⊢))
    have hW1 := bthen hV hb1 hV.size
    have bx1 := bx.belowA hb1
    clear bx x0 x1 xl hb1
    have xl := bx1.lt
    have x0 : w1.cell? ⟨w.heap.size, 0, none⟩ = some (.slice A n c) := bx1.cell 0
    have x1 : w1.cell? ⟨w.heap.size, 1, none⟩ = some (.slice B m d) := bx1.cell 1
    have HN1 := Lib.hid o1.nilc
    have hs1 := hW1.size
    go_wp2_with (go_at_call 52; refine (sRelax_any _ _ _ _ _ _ _ _ 32768 (ffl (esOf ps) n zs) ns ps _ (h.below hW1) HOK.out o1.ints HN1.out HI.out (by decide)).mono ?_; rw [← H1.out, ← H2.out]; rintro e2 w2 ⟨A2, c2, rfl, o2, hb2⟩)
    go_ret2
    exact retI2_of HSL.out rfl HC.out (o2.mono hs1) (bthen hW1 hb2 hW1.size)
  · have HC := Lib.hid hc
    have HL := Lib.hid (fofL_bad rfl hc)
    obtain ⟨h1, h2⟩ := slv_bad hc
    have H1 := Lib.hid h1
    have H2 := Lib.hid h2
    obtain ⟨K, hK⟩ : ∃ y, fofC ns ps n zs = y := ⟨_, rfl⟩
    rw [hK] at hc
    have HK := Lib.hid hK
    have t1 : (K != 0) = true := by simpa using hc
    clear h1 h2 hK hc
    go_enter Tryz.func26, Tryz.ntmps26
    go_upto_region 1 with fail
    generalize (w.alloc (.cells #[.slice A n c, .slice B m d] 33)) = V at *
    have xl := bx.lt
    have x0 : V.cell? ⟨w.heap.size, 0, none⟩ = some (.slice A n c) := bx.cell 0
    have x1 : V.cell? ⟨w.heap.size, 1, none⟩ = some (.slice B m d) := bx.cell 1
    go_wp2_with (go_at_call 51; refine (sForestF_any _ _ _ _ _ _ _ _ _ zs ns ps _ (h.below hV) (hz.below hV) HNL.out hl).mono ?_; rw [HL.out, HK.out]; rintro e1 w1 ⟨A1, c1, rfl, o1, hb1⟩)
    go_ret2
    exact retI2_nil H1.out HK.out (bthen hV hb1 hV.size)
set_option maxHeartbeats 4000000 in
theorem sMoves_any (A B C : Option Addr) (n c m d l e : Nat) (zs : List Int) (ns : List Nd) (ps : List Pp) (w : World) (h : IsNet w A n c ns B m d ps) (hz : Ints w C l zs) (hnil : C = none → e = 0) (hl : l ≤ 1048576) :
    Calls Tryz.prog 15 #[.agg #[.slice A n c, .slice B m d], .slice C l e] w (fun e w' => e = .returned (.tuple #[.int .i64 (slvM ns ps n zs), .int .i64 (fofC ns ps n zs)]) ∧ Below w.heap.size w w') := by
  have hV : Below w.heap.size w (w.alloc (.cells #[.slice A n c, .slice B m d] 33)) := (Below.refl _ _).alloc (Nat.le_refl _) _
  have bx := box_new w #[.slice A n c, .slice B m d] 33
  have HNL := Lib.hid hnil
  clear hnil
  by_cases hc : fofC ns ps n zs = 0
  · obtain ⟨hok, hfl, hi, hsl, _⟩ := slv_facts h hc
    have HOK := Lib.hid hok
    have HFL := Lib.hid hfl
    have HI := Lib.hid hi
    have HSL := Lib.hid hsl
    have HC := Lib.hid hc
    have HL := Lib.hid (fofL_ok hc)
    obtain ⟨h1, h2⟩ := slv_ok hc
    have H1 := Lib.hid h1
    have H2 := Lib.hid h2
    clear hok hfl hi hsl hc h1 h2
    go_enter Tryz.func15, Tryz.ntmps15
    go_upto_region 1 with fail
    generalize (w.alloc (.cells #[.slice A n c, .slice B m d] 33)) = V at *
    have xl := bx.lt
    have x0 : V.cell? ⟨w.heap.size, 0, none⟩ = some (.slice A n c) := bx.cell 0
    have x1 : V.cell? ⟨w.heap.size, 1, none⟩ = some (.slice B m d) := bx.cell 1
    go_upto_region 4 with (go_at_call 51; (refine (sForestF_any _ _ _ _ _ _ _ _ _ zs ns ps _ (h.below hV) (hz.below hV) HNL.out hl).mono ?_; rw [HL.out, HC.out]; rintro e1 w1 ⟨A1, c1, rfl, o1, hb1⟩; rw [HFL.out] at o1 ⊢))
    have hW1 := bthen hV hb1 hV.size
    have bx1 := bx.belowA hb1
    clear bx x0 x1 xl hb1
    have xl := bx1.lt
    have x0 : w1.cell? ⟨w.heap.size, 0, none⟩ = some (.slice A n c) := bx1.cell 0
    have x1 : w1.cell? ⟨w.heap.size, 1, none⟩ = some (.slice B m d) := bx1.cell 1
    have HN1 := Lib.hid o1.nilc
    have hs1 := hW1.size
    go_wp2_with (go_at_call 52; refine (sRelax_any _ _ _ _ _ _ _ _ 32768 (ffl (esOf ps) n zs) ns ps _ (h.below hW1) HOK.out o1.ints HN1.out HI.out (by decide)).mono ?_; rw [← H1.out, ← H2.out]; rintro e2 w2 ⟨A2, c2, rfl, o2, hb2⟩)
    go_ret2
    exact ⟨ri2 rfl HC.out.symm, (bthen hW1 hb2 hW1.size)⟩
  · have HC := Lib.hid hc
    have HL := Lib.hid (fofL_bad rfl hc)
    obtain ⟨h1, h2⟩ := slv_bad hc
    have H1 := Lib.hid h1
    have H2 := Lib.hid h2
    obtain ⟨K, hK⟩ : ∃ y, fofC ns ps n zs = y := ⟨_, rfl⟩
    rw [hK] at hc
    have HK := Lib.hid hK
    have t1 : (K != 0) = true := by simpa using hc
    clear h1 h2 hK hc
    go_enter Tryz.func15, Tryz.ntmps15
    go_upto_region 1 with fail
    generalize (w.alloc (.cells #[.slice A n c, .slice B m d] 33)) = V at *
    have xl := bx.lt
    have x0 : V.cell? ⟨w.heap.size, 0, none⟩ = some (.slice A n c) := bx.cell 0
    have x1 : V.cell? ⟨w.heap.size, 1, none⟩ = some (.slice B m d) := bx.cell 1
    go_wp2_with (go_at_call 51; refine (sForestF_any _ _ _ _ _ _ _ _ _ zs ns ps _ (h.below hV) (hz.below hV) HNL.out hl).mono ?_; rw [HL.out, HK.out]; rintro e1 w1 ⟨A1, c1, rfl, o1, hb1⟩)
    go_ret2
    exact ⟨ri2 H2.out.symm HK.out.symm, (bthen hV hb1 hV.size)⟩
end Go.Proofs.YtpgegfnhokhlmaaGreat
