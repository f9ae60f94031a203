/- What slices.Clone, openNetwork, l16Open do, by walks over their text. Conditions: lengths of at most 1048576. -/
import Derived.Test.YtebefamekjjbcaaGreatDoorKA
import Derived.Test.YtebefamekjjbcaaGreatDoorSwitch
import Derived.Test.YtebefamekjjbcaaGreatDoorScale
set_option linter.unusedVariables false
set_option maxRecDepth 100000
namespace Go.Proofs.YtebefamekjjbcaaGreatDoor
open Go.ChangeShapes Go.WideShapes Go.ChangeAt Go.RowKit Go.Joins Go.Deep

theorem encN_len (x : Nd) : (encN x).length = 3 := rfl
theorem encP_len (x : Pp) : (encP x).length = 5 := rfl
theorem encN_one (x : Nd) : ∀ u ∈ encN x, u.oneCell' = true := by intro u hu; simp [encN] at hu; rcases hu with rfl | rfl | rfl <;> rfl
theorem encP_one (x : Pp) : ∀ u ∈ encP x, u.oneCell' = true := by intro u hu; simp [encP] at hu; rcases hu with rfl | rfl | rfl | rfl | rfl <;> rfl
/-- The pipes that are not closed, the first k; their indices. -/
def opP (ps : List Pp) (zs : List Int) (k : Nat) : List Pp := ((ps.zip zs).take k).filterMap fun x => if x.2 = 0 then none else some x.1
def opI (zs : List Int) (k : Nat) : List Int := ((List.range k).filter fun i => zs.getD i 0 != 0).map fun i : Nat => (i : Int)
theorem opP_step {ps : List Pp} {zs : List Int} {k : Nat} {p : Pp} {z : Int} (hp : ps[k]? = some p) (hz : zs[k]? = some z) : opP ps zs (k + 1) = if z = 0 then opP ps zs k else opP ps zs k ++ [p] := by
  have e : (ps.zip zs)[k]? = some (p, z) := by rw [List.getElem?_zip_eq_some]; exact ⟨hp, hz⟩
  unfold opP
  rw [List.take_add_one, e, List.filterMap_append]
  by_cases h : z = 0 <;> simp [h]
theorem opI_step {zs : List Int} {k : Nat} {z : Int} (hz : zs[k]? = some z) : opI zs (k + 1) = if z = 0 then opI zs k else opI zs k ++ [(k : Int)] := by
  unfold opI
  rw [List.range_succ, List.filter_append, List.map_append]
  have e : zs.getD k 0 = z := by simp [List.getD, hz]
  by_cases h : z = 0 <;> simp [h, hz]
theorem opI_len (zs : List Int) (k : Nat) : (opI zs k).length ≤ k := by
  unfold opI
  rw [List.length_map]
  exact Nat.le_trans (List.length_filter_le _ _) (by simp)
theorem opP_len (ps : List Pp) (zs : List Int) (k : Nat) : (opP ps zs k).length ≤ k := by
  unfold opP
  exact Nat.le_trans (List.length_filterMap_le _ _) (by simp; omega)
/-- A call returns a network and a list of its own. -/
def RetNI (w : World) (ns : List Nd) (ps : List Pp) (zs : List Int) (e : Ending) (w' : World) : Prop :=
  ∃ A c B d Z f, e = .returned (.tuple #[.agg #[.slice A ns.length c, .slice B ps.length d], .slice Z zs.length f]) ∧ OwnNet w' w.heap.size A ns.length c ns B ps.length d ps ∧ Own w' w.heap.size Z zs.length f zs ∧ Below w.heap.size w w'
theorem retNI_of {w w' : World} {C D n m l : Nat} {A B Z : Option Addr} {c d f : Nat} {ns : List Nd} {ps : List Pp} {zs : List Int} (hn : ns.length = n) (hm : ps.length = m) (hl : zs.length = l) (h1 : OwnN w' C A n c ns) (h2 : OwnP w' D B m d ps) (h3 : Own w' D Z l f zs)
    (h4 : (w.heap.size ≤ C ∧ w.heap.size ≤ D) ∧ Below w.heap.size w w') : RetNI w ns ps zs (.returned (.tuple #[.agg #[.slice A n c, .slice B m d], .slice Z l f])) w' := by
  subst hn hm hl
  exact ⟨A, c, B, d, Z, f, rfl, ⟨h1.mono h4.1.1, h2.mono h4.1.2⟩, h3.mono h4.1.2, h4.2⟩
theorem OwnP.okP {w : World} {B : Nat} {A : Option Addr} {n c : Nat} {xs : List Pp} (h : OwnP w B A n c xs) : ∀ x ∈ xs, okP x := h.2
theorem Own.low {w : World} {B : Nat} {A : Option Addr} {n c : Nat} {zs : List Int} (h : Own w B A n c zs) {a : Addr} (ha : a.block < B) (u : Value) : Own (w.setCell a u) B A n c zs := ⟨ownsRow_setCell_below h.1 ha u, h.2⟩
/-- Rows of different types lie in different blocks. -/
theorem rows_apart {w : World} {B B' : Nat} {e e' : TypeId} {k k' n n' : Nat} {v v' : Value} {xs ys : List Value} (h : w.ownsRow B e k v n xs) (h' : w.ownsRow B' e' k' v' n' ys) (hne : e ≠ e') : ∀ g, v.ownBlock = some g → v'.ownBlock ≠ some g := by
  intro g hg hg'
  rcases h.2 with ⟨rfl, _⟩ | ⟨g1, cap, cur, rfl, _, hb, _⟩
  · cases hg
  · rcases h'.2 with ⟨rfl, _⟩ | ⟨g2, cap', cur', rfl, _, hb', _⟩
    · cases hg'
    · simp [Value.ownBlock] at hg hg'
      subst hg hg'
      rw [hb] at hb'
      injection hb' with hb'
      injection hb' with _ hb'
      exact hne hb'
theorem own_pipes_apart {w : World} {B B' : Nat} {A A' : Option Addr} {n c n' c' : Nat} {zs : List Int} {xs : List Pp} (h : Own w B A n c zs) (h' : OwnR encP 5 63 w B' A' n' c' xs) :
    (∀ g, A = some ⟨g, 0, none⟩ → A'.map (·.block) ≠ some g) ∧ (∀ g, A' = some ⟨g, 0, none⟩ → A.map (·.block) ≠ some g) := by
  have h1 := rows_apart h.1 h'.1 (by decide)
  refine ⟨fun g hg hh => h1 g (by subst hg; rfl) ?_, fun g hg hh => h1 g ?_ (by subst hg; rfl)⟩
  · cases A' with
    | none => cases hh
    | some a => exact hh
  · cases A with
    | none => cases hh
    | some a => exact hh
end Go.Proofs.YtebefamekjjbcaaGreatDoor
