/- What OpenNetwork of the program and of the reference does, by walks over its text. Conditions: lengths of at most 1048576. -/
import Derived.Test.YtpgegfnhokhlmabSpread
set_option linter.unusedVariables false
set_option maxRecDepth 100000
namespace Go.Proofs.Ytpgegfnhokhlmab
open Go.ChangeShapes Go.WideShapes Go.ChangeAt Go.RowKit Go.Joins Go.Deep

/-- A call returns a network, a list of its own, and a number. -/
def RetNII (w : World) (ns : List Nd) (ps : List Pp) (zs : List Int) (k : Int) (e : Ending) (w' : World) : Prop :=
  ∃ A c B d Z f, e = .returned (.tuple #[.agg #[.slice A ns.length c, .slice B ps.length d], .slice Z zs.length f, .int .i64 k]) ∧ OwnNet w' w.heap.size A ns.length c ns B ps.length d ps ∧ Own w' w.heap.size Z zs.length f zs ∧ Below w.heap.size w w'
theorem retNII_of {w w' : World} {C : Nat} {A B Z : Option Addr} {c d f : Nat} {ns : List Nd} {ps : List Pp} {zs : List Int} {k : Int} (h1 : OwnN w' C A ns.length c ns) (h2 : OwnP w' C B ps.length d ps) (h3 : Own w' C Z zs.length f zs)
    (h4 : w.heap.size ≤ C) (h5 : Below w.heap.size w w') : RetNII w ns ps zs k (.returned (.tuple #[.agg #[.slice A ns.length c, .slice B ps.length d], .slice Z zs.length f, .int .i64 k])) w' :=
  ⟨A, c, B, d, Z, f, rfl, ⟨h1.mono h4, h2.mono h4⟩, h3.mono h4, h5⟩
theorem retNII_nil {w w' : World} {k : Int} (h5 : Below w.heap.size w w') : RetNII w [] [] [] k (.returned (.tuple #[.agg #[.slice none 0 0, .slice none 0 0], .slice none 0 0, .int .i64 k])) w' :=
  ⟨none, 0, none, 0, none, 0, rfl, ⟨⟨ownR_nil _ _ _ _ _, fun x hx => absurd hx List.not_mem_nil⟩, ⟨ownR_nil _ _ _ _ _, fun x hx => absurd hx List.not_mem_nil⟩⟩, own_nil _ _, h5⟩
noncomputable def opNs (ns : List Nd) (ps : List Pp) (m : Nat) (zs : List Int) : List Nd := if codeS ns ps m zs = 0 then ns else []
noncomputable def opPs (ns : List Nd) (ps : List Pp) (m : Nat) (zs : List Int) : List Pp := if codeS ns ps m zs = 0 then opP ps zs m else []
noncomputable def opIs (ns : List Nd) (ps : List Pp) (m : Nat) (zs : List Int) : List Int := if codeS ns ps m zs = 0 then opI zs m else []
theorem retOpen_bad {w w' : World} {ns : List Nd} {ps : List Pp} {m : Nat} {zs : List Int} {k : Int} (h : codeS ns ps m zs = k) (hk : k ≠ 0) (hb : Below w.heap.size w w') : RetNII w (opNs ns ps m zs) (opPs ns ps m zs) (opIs ns ps m zs) (codeS ns ps m zs) (.returned (.tuple #[.agg #[.slice none 0 0, .slice none 0 0], .slice none 0 0, .int .i64 k])) w' := by
  have hq : ¬ codeS ns ps m zs = 0 := by omega
  unfold opNs opPs opIs
  rw [if_neg hq, if_neg hq, if_neg hq, h]
  exact retNII_nil hb
theorem retOpen_ok {w w' : World} {C : Nat} {A B Z : Option Addr} {c d f m : Nat} {ns : List Nd} {ps : List Pp} {zs : List Int} (h : codeS ns ps m zs = 0) (h1 : OwnN w' C A ns.length c ns) (h2 : OwnP w' C B (opP ps zs m).length d (opP ps zs m)) (h3 : Own w' C Z (opI zs m).length f (opI zs m))
    (h4 : w.heap.size ≤ C) (h5 : Below w.heap.size w w') : RetNII w (opNs ns ps m zs) (opPs ns ps m zs) (opIs ns ps m zs) (codeS ns ps m zs) (.returned (.tuple #[.agg #[.slice A ns.length c, .slice B (opP ps zs m).length d], .slice Z (opI zs m).length f, .int .i64 0])) w' := by
  unfold opNs opPs opIs
  rw [if_pos h, if_pos h, if_pos h, h]
  exact retNII_of h1 h2 h3 h4 h5
set_option maxHeartbeats 2000000 in
theorem openN_any (A B C : Option Addr) (n c m d e : Nat) (ns : List Nd) (ps : List Pp) (zs : List Int) (w : World) (h : IsNet w A n c ns B m d ps) (hz : Ints w C zs.length zs) (hl : zs.length ≤ 1048576) :
    Calls Try.prog 13 #[.agg #[.slice A n c, .slice B m d], .slice C zs.length e] w (RetNII w (opNs ns ps m zs) (opPs ns ps m zs) (opIs ns ps m zs) (codeS ns ps m zs)) := by
  have hw0 : ∀ cs t cs' t', Below w.heap.size w ((w.alloc (.cells cs t)).alloc (.cells cs' t')) := fun cs t cs' t' => ((Below.refl _ _).alloc (Nat.le_refl _) _).alloc (by simp) _
  go_enter Try.func13, Try.ntmps13
  go_wp2_with fail
  refine (checkS_any _ _ _ _ _ _ _ _ _ ns ps zs _ ((h.alloc _).alloc _) ((hz.alloc _).alloc _) hl).mono ?_
  rintro e w1 ⟨rfl, hb1⟩
  have bx := ((box_new w #[.slice A n c, .slice B m d] 27).alloc (.cells #[.slice none 0 0, .slice none 0 0] 27)).belowA hb1
  have by1 := (box_at (w.alloc (.cells #[.slice A n c, .slice B m d] 27)) #[.slice none 0 0, .slice none 0 0] 27 (g := w.heap.size + 1) (by simp)).belowA hb1
  have hB1 := bthen (hw0 _ _ _ _) hb1 (by simp; omega)
  have xl := bx.lt
  have x0 : w1.cell? ⟨w.heap.size, 0, none⟩ = some (.slice A n c) := bx.cell 0
  have x1 : w1.cell? ⟨w.heap.size, 1, none⟩ = some (.slice B m d) := bx.cell 1
  have yl := by1.lt
  have y0 : w1.cell? ⟨w.heap.size + 1, 0, none⟩ = some (.slice none 0 0) := by1.cell 0
  have y1 : w1.cell? ⟨w.heap.size + 1, 1, none⟩ = some (.slice none 0 0) := by1.cell 1
  have g0 := by1.free 0
  have g1 := by1.free 1
  clear hb1
  rcases codeS_in ns ps m zs with ⟨hk, hs⟩ | hk | hk
  rotate_left
  · have HK := Lib.hid hk
    rw [hk]
    clear hk
    go_wp2_with fail
    refine bodyPost_ret (v := .tuple #[.agg #[.slice none 0 0, .slice none 0 0], .slice none 0 0, .int .i64 1]) (by simp [results, Try.results13, go_sem, y0, y1]) rfl (retOpen_bad HK.out (by omega) ?_)
    repeat refine Below.setCell ?_ (by simp <;> omega) _
    exact hB1
  · have HK := Lib.hid hk
    rw [hk]
    clear hk
    go_wp2_with fail
    refine bodyPost_ret (v := .tuple #[.agg #[.slice none 0 0, .slice none 0 0], .slice none 0 0, .int .i64 3]) (by simp [results, Try.results13, go_sem, y0, y1]) rfl (retOpen_bad HK.out (by omega) ?_)
    repeat refine Below.setCell ?_ (by simp <;> omega) _
    exact hB1
  have HK := Lib.hid hk
  have HS := Lib.hid hs
  have HN := Lib.hid (codeS_net' hk)
  rw [hk]
  clear hk hs
  have hzm : zs.length = m := setB_len HS.out
  have hpm : ps.length = m := h.pipes.len
  have hnm : ns.length = n := h.nodes.len
  have hnB : 1 ≤ n ∧ n ≤ 24 := by have := HN.out.1; have := HN.out.2.1; omega
  have hmB : m ≤ 40 := by have := HN.out.2.2.1; omega
  have HZM := Lib.hid hzm
  rw [hzm] at hz
  obtain ⟨a, rfl⟩ : ∃ a, A = some a := by
    obtain ⟨b, o, _, hA, _⟩ := h.nodes.at_ (show 0 < n by omega)
    exact ⟨_, hA⟩
  clear hzm hpm hnm
  go_wp2_with fail
  rw [HZM.out]
  refine (openNet_any _ _ _ _ _ _ _ _ ns ps zs _ (h.below hB1) (hz.below hB1) hnB.2 hmB).mono ?_
  rintro e w2 ⟨A2, c2, B2, d2, Z2, f2, rfl, oN2, oZ2, hb2⟩
  have hB2 := bthen hB1 hb2 hB1.size
  have by2 := by1.belowA hb2
  have hs12 := hb2.size
  clear x0 x1 xl y0 y1 g0 g1 hb2 bx
  have yl2 := by2.lt
  have y0 : w2.cell? ⟨w.heap.size + 1, 0, none⟩ = some (.slice none 0 0) := by2.cell 0
  have y1 : w2.cell? ⟨w.heap.size + 1, 1, none⟩ = some (.slice none 0 0) := by2.cell 1
  have g0 := by2.free 0
  have g1 := by2.free 1
  have hW2 : ∀ cs t, Below w2.heap.size w2 (w2.alloc (.cells cs t)) := fun cs t => (Below.refl _ _).alloc (Nat.le_refl _) _
  go_wp2_with fail
  refine bodyPost_ret (v := .tuple #[.agg #[.slice A2 ns.length c2, .slice B2 (opP ps zs m).length d2], .slice Z2 (opI zs m).length f2, .int .i64 0]) (by simp [results, Try.results13, go_sem, y0, y1, yl2]) rfl (retOpen_ok (C := w1.heap.size) HK.out ?_ ?_ ?_ (by omega) ?_)
  · refine OwnN.below ?_ ((Below.refl _ _).alloc (Nat.le_refl _) _)
    iterate 2 refine OwnN.low ?_ (by simp; omega) _
    exact oN2.nodes
  · have hoP5 := oN2.pipes.1
    exact ⟨OwnR.alloc ⟨ownsRow_setCell_below (ownsRow_setCell_below hoP5.1 (by simp; omega) _) (by simp; omega) _, hoP5.2⟩ _, oN2.pipes.2⟩
  · refine Own.alloc ?_ _
    iterate 2 refine Own.low ?_ (by simp; omega) _
    exact oZ2
  · refine Below.alloc ?_ (by simp; have := hB2.size; omega) _
    iterate 2 refine Below.setCell ?_ (by simp <;> omega) _
    exact hB2
end Go.Proofs.Ytpgegfnhokhlmab
