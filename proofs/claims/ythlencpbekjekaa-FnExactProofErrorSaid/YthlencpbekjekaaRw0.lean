/- Where rows lie. No condition. -/
import Derived.Test.YthlencpbekjekaaBox
import Derived.Test.YthlencpbekjekaaNetBase
set_option linter.unusedVariables false
set_option maxRecDepth 100000
namespace Go.Proofs.Ythlencpbekjekaa
open Go.ChangeShapes Go.WideShapes Go.ChangeAt Go.RowKit Go.Joins Go.Deep

theorem rowsT_apart {w : World} {B B' : Nat} {e e' : TypeId} {k k' n n' : Nat} {v v' : Value} {xs ys : List Value} (h : w.ownsRow B e k v n xs) (h' : w.ownsRow B' e' k' v' n' ys) (hne : e ≠ e') : ∀ g, v.ownBlock = some g → v'.ownBlock ≠ some g := by
  intro g hg hg'
  rcases h.2 with ⟨rfl, _⟩ | ⟨g1, cap, cur, rfl, _, hb, _⟩
  · cases hg
  · rcases h'.2 with ⟨rfl, _⟩ | ⟨g2, cap', cur', rfl, _, hb', _⟩
    · cases hg'
    · simp [Value.ownBlock] at hg hg'
      subst hg hg'
      rw [hb] at hb'
      injection hb' with hb'
      injection hb' with _ hb'
      exact hne hb'
/-- A slice's row lies in a block from L on and below U. -/
def Rw (A : Option Addr) (L U : Nat) : Prop := ∀ g, A.map (·.block) = some g → L ≤ g ∧ g < U
theorem Own.rw_ {w : World} {B : Nat} {A : Option Addr} {n c : Nat} {zs : List Int} (h : Own w B A n c zs) : Rw A B w.heap.size := fun g hg => h.lt g hg
theorem OwnR.rw_ {α : Type} {enc : α → List Value} {k : Nat} {e : TypeId} {w : World} {B : Nat} {A : Option Addr} {n c : Nat} {xs : List α} (h : OwnR enc k e w B A n c xs) : Rw A B w.heap.size := fun g hg => h.lt g hg
theorem rw_apart {A A' : Option Addr} {L U L' U' : Nat} (hx : Rw A L U) (hy : Rw A' L' U') (h : U ≤ L' ∨ U' ≤ L) : ∀ g, A = some ⟨g, 0, none⟩ → A'.map (·.block) ≠ some g := by
  intro g hg hh
  have h1 := hx g (by rw [hg]; rfl)
  have h2 := hy g hh
  omega
theorem rw_box {A : Option Addr} {L U g : Nat} (hx : Rw A L U) (h : g < L ∨ U ≤ g) : A.map (·.block) ≠ some g := by
  intro hh
  have := hx g hh
  omega
theorem rw_ge {A : Option Addr} {L U B : Nat} (hx : Rw A L U) (h : B ≤ L) : ∀ g, A.map (·.block) = some g → B ≤ g := fun g hg => Nat.le_trans h (hx g hg).1
/-- Two rows lie in different blocks. -/
def Ap (A A' : Option Addr) : Prop := ∀ g, A.map (·.block) = some g → A'.map (·.block) ≠ some g
theorem Ap.symm {A A' : Option Addr} (h : Ap A A') : Ap A' A := fun g h1 h2 => h g h2 h1
theorem Ap.row {A A' : Option Addr} (h : Ap A A') : ∀ g, A = some ⟨g, 0, none⟩ → A'.map (·.block) ≠ some g := fun g hg => h g (by rw [hg]; rfl)
theorem ap_of {w : World} {B B' : Nat} {e e' : TypeId} {k k' n n' c c' : Nat} {A A' : Option Addr} {xs ys : List Value} (h : w.ownsRow B e k (.slice A n c) n xs) (h' : w.ownsRow B' e' k' (.slice A' n' c') n' ys) (hne : e ≠ e') : Ap A A' := by
  intro g h1 h2
  refine rowsT_apart h h' hne g ?_ ?_
  · cases A with
    | none => cases h1
    | some a => exact h1
  · cases A' with
    | none => cases h2
    | some a => exact h2
theorem OwnNet.grown {w w' : World} {row : Option Nat} {C : Nat} {A : Option Addr} {n c : Nat} {ns : List Nd} {B : Option Addr} {m d : Nat} {ps : List Pp} (h : OwnNet w C A n c ns B m d ps) (hg : w.grownBy w' row) (h1 : ∀ g, A = some ⟨g, 0, none⟩ → row ≠ some g) (h2 : ∀ g, B = some ⟨g, 0, none⟩ → row ≠ some g) : OwnNet w' C A n c ns B m d ps :=
  ⟨h.nodes.grown hg h1, ⟨h.pipes.1.grown hg h2, h.pipes.2⟩⟩
end Go.Proofs.Ythlencpbekjekaa
