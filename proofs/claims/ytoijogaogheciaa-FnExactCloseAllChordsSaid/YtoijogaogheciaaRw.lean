/- Where rows lie; marks that begin with 1. Conditions: lengths of at most 1048576. -/
import Derived.Test.YtoijogaogheciaaMarkN
set_option linter.unusedVariables false
set_option maxRecDepth 100000
namespace Go.Proofs.Ytoijogaogheciaa
open Go.ChangeShapes Go.WideShapes Go.ChangeAt Go.RowKit Go.Joins Go.Deep

/-- A slice's row lies in a block from L on and below U. -/
def Rw (A : Option Addr) (L U : Nat) : Prop := ∀ g, A.map (·.block) = some g → L ≤ g ∧ g < U
theorem Own.rw_ {w : World} {B : Nat} {A : Option Addr} {n c : Nat} {zs : List Int} (h : Own w B A n c zs) : Rw A B w.heap.size := fun g hg => h.lt g hg
theorem OwnR.rw_ {α : Type} {enc : α → List Value} {k : Nat} {e : TypeId} {w : World} {B : Nat} {A : Option Addr} {n c : Nat} {xs : List α} (h : OwnR enc k e w B A n c xs) : Rw A B w.heap.size := fun g hg => h.lt g hg
theorem rw_apart {A A' : Option Addr} {L U L' U' : Nat} (hx : Rw A L U) (hy : Rw A' L' U') (h : U ≤ L' ∨ U' ≤ L) : ∀ g, A = some ⟨g, 0, none⟩ → A'.map (·.block) ≠ some g := by
  intro g hg hh
  have h1 := hx g (by rw [hg]; rfl)
  have h2 := hy g hh
  omega
theorem rw_box {A : Option Addr} {L U g : Nat} (hx : Rw A L U) (h : g < L ∨ U ≤ g) : A.map (·.block) ≠ some g := by
  intro hh
  have := hx g hh
  omega
theorem rw_ge {A : Option Addr} {L U B : Nat} (hx : Rw A L U) (h : B ≤ L) : ∀ g, A.map (·.block) = some g → B ≤ g := fun g hg => Nat.le_trans h (hx g hg).1
/-- Two rows lie in different blocks. -/
def Ap (A A' : Option Addr) : Prop := ∀ g, A.map (·.block) = some g → A'.map (·.block) ≠ some g
theorem Ap.symm {A A' : Option Addr} (h : Ap A A') : Ap A' A := fun g h1 h2 => h g h2 h1
theorem Ap.row {A A' : Option Addr} (h : Ap A A') : ∀ g, A = some ⟨g, 0, none⟩ → A'.map (·.block) ≠ some g := fun g hg => h g (by rw [hg]; rfl)
theorem ap_of {w : World} {B B' : Nat} {e e' : TypeId} {k k' n n' c c' : Nat} {A A' : Option Addr} {xs ys : List Value} (h : w.ownsRow B e k (.slice A n c) n xs) (h' : w.ownsRow B' e' k' (.slice A' n' c') n' ys) (hne : e ≠ e') : Ap A A' := by
  intro g h1 h2
  refine rowsT_apart h h' hne g ?_ ?_
  · cases A with
    | none => cases h1
    | some a => exact h1
  · cases A' with
    | none => cases h2
    | some a => exact h2
theorem OwnNet.grown {w w' : World} {row : Option Nat} {C : Nat} {A : Option Addr} {n c : Nat} {ns : List Nd} {B : Option Addr} {m d : Nat} {ps : List Pp} (h : OwnNet w C A n c ns B m d ps) (hg : w.grownBy w' row) (h1 : ∀ g, A = some ⟨g, 0, none⟩ → row ≠ some g) (h2 : ∀ g, B = some ⟨g, 0, none⟩ → row ≠ some g) : OwnNet w' C A n c ns B m d ps :=
  ⟨h.nodes.grown hg h1, ⟨h.pipes.1.grown hg h2, h.pipes.2⟩⟩
theorem markNet1_any (C D : Nat) (A B : Option Addr) (n c m d : Nat) (ns : List Nd) (ps : List Pp) (w : World) (h1 : OwnR encN 3 99 w C A n c ns) (h2 : OwnR encP 5 66 w D B m d ps) (hn : n ≤ 1048576) (hm : m ≤ 1048576) :
    Calls Try.prog 39 #[.agg #[.slice A n c, .slice B m d], .int .i64 1] w fun e w' => e = .returned (.int .i64 (1 + 3 * (n : Int) + 5 * (m : Int))) ∧ OwnR encN 3 99 w' C A n c (mkN 1 n) ∧ OwnR encP 5 66 w' D B m d (mkP (1 + 3 * n) m) ∧
      ∃ w1, w.grownBy w1 (A.map (·.block)) ∧ w1.grownBy w' (B.map (·.block)) :=
  markNet_any C D A B n c m d 1 ns ps w h1 h2 hn hm (by omega) (by omega)
theorem heldNet1_any (A B : Option Addr) (n c m d : Nat) (w : World) (h1 : Recs encN 3 w A n (mkN 1 n)) (h2 : Recs encP 5 w B m (mkP (1 + 3 * n) m)) (hn : n ≤ 1048576) (hm : m ≤ 1048576) :
    Calls Try.prog 44 #[.agg #[.slice A n c, .slice B m d], .int .i64 1] w fun e w' => e = .returned (.int .i64 (1 + 3 * (n : Int) + 5 * (m : Int))) ∧ Below w.heap.size w w' :=
  heldNet_any A B n c m d 1 w h1 h2 hn hm (by omega) (by omega)
end Go.Proofs.Ytoijogaogheciaa
