/- What l15Best does, by a walk over its text. Conditions: within their bounds, 1 to 48 hours. -/
import Derived.Test.YtiofjnohdmminaaTStep
set_option linter.unusedVariables false
set_option maxRecDepth 100000
namespace Go.Proofs.Ytiofjnohdmminaa
open Go.ChangeShapes Go.WideShapes Go.ChangeAt Go.RowKit Go.Joins Go.Deep

def encS (b : Nat) : List Value := [.slice (some ⟨b, 0, none⟩) 98 98]
theorem info_row : (Try.prog.info? 36).map (fun i => (i.zero, i.size, i.bytes)) = some (some (.slice none 0 0), 1, 24) := by kernel_rfl
theorem Own.same {w w' : World} {B : Nat} {A : Option Addr} {n c : Nat} {zs : List Int} (h : Own w B A n c zs) (hk : ∀ g, A = some ⟨g, 0, none⟩ → w'.heap[g]? = w.heap[g]?) : Own w' B A n c zs := by
  refine ⟨⟨h.1.1, ?_⟩, h.2⟩
  rcases h.1.2 with e | ⟨g, cap, cur, e1, e2, e3, e4⟩
  · exact .inl e
  · refine .inr ⟨g, cap, cur, e1, e2, ?_, e4⟩
    have hA : A = some ⟨g, 0, none⟩ := by injection e1
    rw [hk g hA]
    exact e3
theorem Tab.belowB {w w' : World} {B B2 tb n1 : Nat} {bk : Nat → Nat} {row : Nat → List Int} (h : Tab w B tb n1 bk row) (hb : Below B2 w w') (h1 : tb < B2) (h2 : ∀ k, k < n1 → bk k < B2) : Tab w' B tb n1 bk row :=
  ⟨fun k hk => (hb.cell (p := ⟨tb, k, none⟩) h1).trans (h.cell k hk), fun k hk => (h.own k hk).same (fun g e => by
    injection e with e
    injection e with e
    exact hb.block g (e ▸ h2 k hk)), h.inj⟩
theorem own_empty1 (w : World) (B : Nat) (hB : B ≤ w.heap.size) : Own (w.alloc (.cells #[] 2)) B (some ⟨w.heap.size, 0, none⟩) 0 0 [] :=
  ⟨World.ownsRow_lit (size := 1) w #[] 0 hB (Nat.zero_le _) rfl, fun z hz => absurd hz List.not_mem_nil⟩
/-- The table while it grows: its rows are noughts. -/
structure TabB (w : World) (B : Nat) (tA : Option Addr) (k tc : Nat) (bl : List Nat) : Prop where
  own : OwnR encS 1 36 w B tA k tc bl
  row : ∀ b ∈ bl, Own w B (some ⟨b, 0, none⟩) 98 98 (List.replicate 98 0)
  nd : bl.Nodup
section
variable {w w' : World} {B : Nat} {tA : Option Addr} {k tc : Nat} {bl : List Nat}
theorem TabB.ap (h : TabB w B tA k tc bl) {b : Nat} (hb : b ∈ bl) : tA.map (·.block) ≠ some b := by
  intro e
  have hl := h.own.len (by decide)
  have hk : 0 < k := by
    have := List.length_pos_of_mem hb
    omega
  obtain ⟨g, rfl, _, _⟩ := h.own.form hk
  obtain rfl : g = b := by injection e
  obtain ⟨x, hx, hcs, _⟩ := h.own.cells (by decide) hk
  have h1 := hcs 0 (.slice (some ⟨x, 0, none⟩) 98 98) rfl
  obtain ⟨g', z, hg, _, _, _, _, hc, _⟩ := (h.row g hb).at_ (show 0 < 98 by omega)
  obtain rfl : g = g' := by injection hg with hg; injection hg
  rw [show 0 * 1 + 0 = 0 from rfl, hc] at h1
  cases h1
theorem TabB.push {g c2 : Nat} (h : TabB w B tA k tc bl) (hB : B ≤ w.heap.size) {x : Array Value} {w2 : World} (hw2 : w2 = (w.alloc (.cells (madeCells #[.int .i64 0] 98) 2)).alloc (.cells x 36))
    (ho : OwnR encS 1 36 w' B (some ⟨g, 0, none⟩) (k + 1) c2 (bl ++ [w.heap.size])) (hg : w2.grownBy w' (tA.map (·.block))) : TabB w' B (some ⟨g, 0, none⟩) (k + 1) c2 (bl ++ [w.heap.size]) := by
  subst hw2
  refine ⟨ho, fun b hb => ?_, ?_⟩
  · rcases List.mem_append.1 hb with hb | hb
    · exact (((h.row b hb).alloc _).alloc _).grown hg (fun g' e => by
        injection e with e
        injection e with e
        subst e
        exact h.ap hb)
    · simp at hb
      subst hb
      have ho2 := ((own_zeros w 98 (by omega)).mono hB).alloc (.cells x 36)
      exact ho2.grown hg (fun g' e e2 => by
        injection e with e
        injection e with e
        subst e
        have := (h.own.lt _ e2).2
        omega)
  · refine List.nodup_append.2 ⟨h.nd, by simp, fun a ha b hb => ?_⟩
    simp at hb
    subst hb
    rintro rfl
    obtain ⟨g', hg', _, hlt⟩ := (h.row _ ha).form (by omega)
    injection hg' with hg'
    injection hg' with hg'
    omega
theorem TabB.below (h : TabB w B tA k tc bl) (hb : Below w.heap.size w w') : TabB w' B tA k tc bl := ⟨h.own.below hb, fun b hm => (h.row b hm).below hb, h.nd⟩
theorem TabB.tab {tb n1 : Nat} (h : TabB w B (some ⟨tb, 0, none⟩) n1 tc bl) : Tab w B tb n1 (fun k => bl.getD k 0) (fun _ => List.replicate 98 0) := by
  have hl := h.own.len (by decide)
  have hat : ∀ k, k < n1 → bl[k]? = some (bl.getD k 0) := fun k hk => by
    rw [List.getD_eq_getElem?_getD, List.getElem?_eq_getElem (by omega)]
    rfl
  refine ⟨fun k hk => ?_, fun k hk => h.row _ (List.mem_of_getElem? (hat k hk)), fun i j hi hj e => ?_⟩
  · obtain ⟨x, hx, hcs, _⟩ := h.own.cells (by decide) hk
    have h1 := hcs 0 (.slice (some ⟨x, 0, none⟩) 98 98) rfl
    obtain rfl : x = bl.getD k 0 := Option.some.inj (hx.symm.trans (hat k hk))
    rw [Nat.mul_one, Nat.add_zero] at h1
    exact h1
  · have h1 := hat i hi
    have h2 := hat j hj
    rw [e] at h1
    exact (List.getElem?_inj (i := i) (by omega) h.nd).1 (h1.trans h2.symm)
end
/-- What l15Best finds. -/
def bestL (s u d : Int) (l : List (Int × Int)) : List Int := if lst s u d (fun _ => 48) l 0 48 = none then [] else plan s u d (fun _ => 48) l 0 48
end Go.Proofs.Ytiofjnohdmminaa
