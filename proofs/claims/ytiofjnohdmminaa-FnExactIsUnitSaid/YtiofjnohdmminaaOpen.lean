/- How the arguments of the laws read: an integer, a struct of integers by value. No condition. -/
import Derived.Test.YtiofjnohdmminaaProg
import Derived.WalkKit
import Derived.ProofKit
import Derived.OpenShut
import Derived.Below
import Derived.Lib.SmallJoins
namespace Go.Proofs.Ytiofjnohdmminaa
open Go.ChangeShapes Go.WideShapes Go.ChangeAt Go.RowKit Go.Joins

section
variable {H : Type} {enc : TypeId × Value → H} {W : World} {base : Nat} {v : Value} {d : DataW H} {p : List MemPlace}
def I64 (a : Int) : Prop := (Lit.int .i64 a).wf = true
theorem opn_i64 (hv : Value.okWide Try.prog W .any base 2 v) (h : DataW.Trod enc Try.prog W 0 (fun _ => true) true 2 v d p) (_lt : ∀ x ∈ p, x.block < W.heap.size) :
    ∃ a, v = .int .i64 a ∧ I64 a := by
  obtain ⟨x, rfl, rfl, rfl, wx⟩ := open_int Try.underlying2 hv h
  exact ⟨x, rfl, wx⟩
theorem fld_i64 {n : Nat} {v : Value} {y : DataW H × List MemPlace} (h : DataW.trod enc Try.prog W 0 (fun _ => true) true n 2 [v] = some y) : ∃ a, v = .int .i64 a ∧ I64 a := by
  obtain ⟨a, e0, rfl, wa⟩ := DataW.trod_int Try.underlying2 h
  simp at e0
  exact ⟨a, e0, wa⟩
theorem opn_unit (hv : Value.okWide Try.prog W .any base 23 v) (h : DataW.Trod enc Try.prog W 0 (fun _ => true) true 23 v d p) (_lt : ∀ x ∈ p, x.block < W.heap.size) :
    ∃ a b c, v = .agg #[.int .i64 a, .int .i64 b, .int .i64 c] ∧ I64 a ∧ I64 b ∧ I64 c := by
  obtain ⟨c0, c1, c2, y0, y1, y2, m, rfl, rfl, rfl, hy0, hy1, hy2⟩ := open_agg3 Try.underlying23 (by kernel_rfl) (by kernel_rfl) hv h
  obtain ⟨a0, rfl, w0⟩ := fld_i64 hy0
  obtain ⟨a1, rfl, w1⟩ := fld_i64 hy1
  obtain ⟨a2, rfl, w2⟩ := fld_i64 hy2
  exact ⟨a0, a1, a2, rfl, w0, w1, w2⟩
end
end Go.Proofs.Ytiofjnohdmminaa
