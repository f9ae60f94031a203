/- Small laws on worlds, slices and arguments, shared by the walks of this seat. No condition. -/
import Derived.Test.YtiofjnohdmminaaProg
import Derived.WalkKit
import Derived.WalkLawsBesides
import Derived.WalkSpells
import Derived.ProofKit
import Derived.OpenShut
import Derived.Outline
import Derived.Below
import Derived.Lib.Hide
import Derived.Lib.SmallJoins
import Derived.Deep.RegionHeld3
import Derived.Deep.DrawnRows
import Derived.Deep.QuietTactic
import Derived.BigQuiet
set_option linter.unusedVariables false
set_option maxRecDepth 100000
namespace Go.Proofs.Ytiofjnohdmminaa
open Go.ChangeShapes Go.WideShapes Go.ChangeAt Go.RowKit Go.Joins Go.Deep

/-- A test that fails, or holds and the rest follows. -/
theorem orP {p r : Prop} (h : r) : ¬ p ∨ p ∧ r := by
  by_cases hp : p
  · exact .inr ⟨hp, h⟩
  · exact .inl hp
theorem orB {a : Bool} {r : Prop} (h : r) : a = false ∨ a = true ∧ r := by
  cases a
  · exact .inl rfl
  · exact .inr ⟨rfl, h⟩

/-- A fact that no tactic takes apart. -/
structure Kept (p : Prop) : Prop where
  out : p
theorem bcell {W w1 : World} (hb : Below W.heap.size W w1) : (∀ b o, b < W.heap.size → w1.cell? ⟨b, o, none⟩ = W.cell? ⟨b, o, none⟩) ∧ (∀ b o, b < W.heap.size → w1.frozen? ⟨b, o, none⟩ = W.frozen? ⟨b, o, none⟩) :=
  ⟨fun b o h => hb.cell (p := ⟨b, o, none⟩) h, fun b o h => hb.frozen (p := ⟨b, o, none⟩) h⟩
/-- One call behind another. -/
theorem bthen {B : Nat} {w w1 w2 : World} (h : Below B w w1) (k : Below w1.heap.size w1 w2) (hB : B ≤ w1.heap.size) : Below B w w2 := h.trans (k.mono hB)

theorem ri {a b : Int} (h : a = b) : Ending.returned (.int .i64 a) = .returned (.int .i64 b) := by rw [h]
theorem rb {a b : Bool} (h : a = b) : Ending.returned (.bool a) = .returned (.bool b) := by rw [h]
theorem ri2 {a b c d : Int} (h : a = b) (k : c = d) : Ending.returned (.tuple #[.int .i64 a, .int .i64 c]) = .returned (.tuple #[.int .i64 b, .int .i64 d]) := by rw [h, k]
theorem ri3 {a b c d x y : Int} (h : a = b) (k : c = d) (m : x = y) : Ending.returned (.tuple #[.int .i64 a, .int .i64 c, .int .i64 x]) = .returned (.tuple #[.int .i64 b, .int .i64 d, .int .i64 y]) := by rw [h, k, m]
theorem below_drewN {B : Nat} {a w : World} (h : Below B a w) (n : Nat) : Below B a (w.drewN n) := ⟨h.os, h.tape, h.output, h.size, h.block⟩
/-- Only draws lie between the two worlds. -/
def Qt (w w' : World) : Prop := ∃ m, w' = w.drewN m
theorem Qt.refl (w : World) : Qt w w := ⟨0, rfl⟩
theorem Qt.drewN {w w' : World} (h : Qt w w') (n : Nat) : Qt w (w'.drewN n) := by
  obtain ⟨m, rfl⟩ := h
  exact ⟨m + n, by rw [World.drewN_drewN]⟩
theorem Qt.trans {a b c : World} (h : Qt a b) (k : Qt b c) : Qt a c := by
  obtain ⟨n, rfl⟩ := k
  exact h.drewN n
theorem Qt.below {w w' : World} (h : Qt w w') (B : Nat) : Below B w w' := by
  obtain ⟨m, rfl⟩ := h
  exact below_drewN (Below.refl _ _) m
theorem Qt.cell {w w' : World} (h : Qt w w') (p : Addr) : w'.cell? p = w.cell? p := by
  obtain ⟨m, rfl⟩ := h
  rfl

def I64 (a : Int) : Prop := (Lit.int .i64 a).wf = true
theorem I64.lo {a : Int} (h : I64 a) : -9223372036854775808 ≤ a := by
  have := bounds_i64 h; omega
theorem I64.hi {a : Int} (h : I64 a) : a ≤ 9223372036854775807 := by
  have := bounds_i64 h; omega

section
variable {H : Type} {enc : TypeId × Value → H} {W : World} {base : Nat} {v : Value} {d : DataW H} {p : List MemPlace}
theorem opn_i64 (hv : Value.okWide Try.prog W .any base 2 v) (h : DataW.Trod enc Try.prog W 0 (fun _ => true) true 2 v d p) (_lt : ∀ x ∈ p, x.block < W.heap.size) :
    ∃ a, v = .int .i64 a ∧ I64 a := by
  obtain ⟨x, rfl, rfl, rfl, wx⟩ := open_int Try.underlying2 hv h
  exact ⟨x, rfl, wx⟩
theorem fld_i64 {n : Nat} {v : Value} {y : DataW H × List MemPlace} (h : DataW.trod enc Try.prog W 0 (fun _ => true) true n 2 [v] = some y) : ∃ a, v = .int .i64 a ∧ I64 a := by
  obtain ⟨a, e0, rfl, wa⟩ := DataW.trod_int Try.underlying2 h
  simp at e0
  exact ⟨a, e0, wa⟩
/-- A struct of one-cell fields that came in by value: its cells, each with its reading. -/
theorem opn_fields {t : TypeId} {fs : Array Field} (hs : Try.prog.underlying t = some (.struct fs)) (hone : oneCellFields Try.prog fs = true) (hC : Try.prog.cellsOf t = fs.size)
    (hv : Value.okWide Try.prog W .any base t v) (h : DataW.Trod enc Try.prog W 0 (fun _ => true) true t v d p) :
    ∃ cs : List Value, v = .agg cs.toArray ∧ cs.length = fs.size ∧ ∀ (i : Nat) (f : Field) (c : Value), fs[i]? = some f → cs[i]? = some c →
      ∃ (n : Nat) (y : DataW H × List MemPlace), DataW.trod enc Try.prog W 0 (fun _ => true) true n f.type [c] = some y ∧ y.2 ⊆ p := by
  obtain ⟨⟨cs⟩, rfl, hsz⟩ := okWide_struct hs hv
  obtain ⟨fuel, hf⟩ := h
  obtain ⟨xs, n, _, hx, _, hlen, hg⟩ := DataW.trod_struct hs hf
  simp only [Prod.mk.injEq] at hx
  refine ⟨cs, rfl, by simpa [hC] using hsz, fun i f c hi hc => ?_⟩
  obtain ⟨ho, hk⟩ := hone_of hone i f hi
  have h1 := hg i f hi
  rw [ho, hk] at h1
  have hl : i < fs.size := (Array.getElem?_eq_some_iff.1 hi).1
  have hx' : xs[i]? = some xs[i] := List.getElem?_eq_getElem (by omega)
  rw [hx'] at h1
  have e : List.take 1 (List.drop i (Value.agg ⟨cs⟩).cells.toList) = [c] := by
    obtain ⟨hi', rfl⟩ := List.getElem?_eq_some_iff.1 hc
    show List.take 1 (List.drop i cs) = _
    rw [List.drop_eq_getElem_cons hi']
    rfl
  rw [e] at h1
  refine ⟨n, _, h1, ?_⟩
  rw [hx.2]
  intro q hq
  exact List.mem_flatMap.2 ⟨_, List.getElem_mem (by omega), hq⟩
end
end Go.Proofs.Ytiofjnohdmminaa
