/- A block of memory that is known whole. No condition. -/
import Derived.Test.YtiofjnohdmminaaPushR1
import Derived.RowKit3
set_option linter.unusedVariables false
set_option maxRecDepth 100000
namespace Go.Proofs.Ytiofjnohdmminaa
open Go.ChangeShapes Go.WideShapes Go.ChangeAt Go.RowKit Go.Joins Go.Deep

/-- Block g holds the cells cs. -/
def Box (w : World) (g : Nat) (cs : Array Value) (t : TypeId) : Prop := w.heap[g]? = some (.cells cs t (0, 0))
section
variable {w w' : World} {g : Nat} {cs : Array Value} {t : TypeId}
theorem Box.lt (h : Box w g cs t) : g < w.heap.size := (Array.getElem?_eq_some_iff.1 h).1
theorem Box.cell (h : Box w g cs t) (i : Nat) : w.cell? ⟨g, i, none⟩ = cs[i]? := by
  simp [World.cell?, show w.heap[g]? = _ from h]
theorem Box.free (h : Box w g cs t) (i : Nat) : w.frozen? ⟨g, i, none⟩ = false := by
  simp [World.frozen?, show w.heap[g]? = _ from h]
theorem Box.keep (h : Box w g cs t) (hk : w'.heap[g]? = w.heap[g]?) : Box w' g cs t := hk.trans h
theorem Box.alloc (h : Box w g cs t) (o : Obj) : Box (w.alloc o) g cs t := h.keep (Below.heap_alloc w o g h.lt)
theorem Box.below {B : Nat} (h : Box w g cs t) (hb : Below B w w') (hg : g < B) : Box w' g cs t := h.keep (hb.block g hg)
theorem Box.belowA (h : Box w g cs t) (hb : Below w.heap.size w w') : Box w' g cs t := h.below hb h.lt
theorem Box.grown {row : Option Nat} (h : Box w g cs t) (hg : w.grownBy w' row) (hne : row ≠ some g) : Box w' g cs t := h.keep (hg.block g h.lt (fun e => hne e.symm))
theorem Box.other (h : Box w g cs t) {a : Addr} (ha : a.block ≠ g) (u : Value) : Box (w.setCell a u) g cs t := h.keep (Below.heap_setCell w a u g (fun e => ha e.symm))
theorem Box.drewN (h : Box w g cs t) (n : Nat) : Box (w.drewN n) g cs t := h
theorem Box.drew (h : Box w g cs t) : Box w.drew g cs t := h
theorem Box.qt (h : Box w g cs t) (hq : Qt w w') : Box w' g cs t := by
  obtain ⟨m, rfl⟩ := hq
  exact h
theorem Box.set (h : Box w g cs t) (i : Nat) (u : Value) : Box (w.setCell ⟨g, i, none⟩ u) g (cs.setIfInBounds i u) t := by
  have hl := h.lt
  unfold Box at *
  unfold World.setCell
  have he : w.heap[g] = Obj.cells cs t (0, 0) := by
    rw [Array.getElem?_eq_getElem hl] at h
    exact Option.some.inj h
  simp [hl, Array.getElem_modify, he]
theorem box_new (w : World) (cs : Array Value) (t : TypeId) : Box (w.alloc (.cells cs t)) w.heap.size cs t := by
  unfold Box
  exact heap_alloc_new w _
theorem box_at (w : World) (cs : Array Value) (t : TypeId) {g : Nat} (hg : g = w.heap.size) : Box (w.alloc (.cells cs t)) g cs t := by subst hg; exact box_new w cs t
end
/-- A row of the call's own lies in another block than a box below its base. -/
theorem box_row {w : World} {B g : Nat} {e : TypeId} {k n : Nat} {A : Option Addr} {c : Nat} {xs : List Value} (h : w.ownsRow B e k (.slice A n c) n xs) (hg : g < B) : A.map (·.block) ≠ some g := by
  intro hh
  have := h.lt g (by
    cases A with
    | none => cases hh
    | some a => exact hh)
  omega
end Go.Proofs.Ytiofjnohdmminaa
