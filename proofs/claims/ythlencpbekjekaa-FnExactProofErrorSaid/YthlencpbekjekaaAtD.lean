/- Elements of a slice of int64 told by getD. No condition. -/
import Derived.Test.YthlencpbekjekaaInts
import Derived.Test.YthlencpbekjekaaGraph5
set_option linter.unusedVariables false
set_option maxRecDepth 100000
namespace Go.Proofs.Ythlencpbekjekaa
open Go.RowKit Go.Joins
theorem Own.atD {w : World} {B g n c : Nat} {zs : List Int} (h : Own w B (some ⟨g, 0, none⟩) n c zs) {k : Nat} (hk : k < n) : w.cell? ⟨g, k, none⟩ = some (.int .i64 (zs.getD k 0)) ∧ w.frozen? ⟨g, k, none⟩ = false ∧ B ≤ g ∧ g < w.heap.size := by
  obtain ⟨g', z, hA, h1, h2, hz, _, hc, hf⟩ := h.at_ hk
  obtain rfl : g = g' := by injection hA with hA; injection hA
  have hz' := getD_some h.len hk
  rw [hz] at hz'
  obtain rfl := Option.some.inj hz'
  exact ⟨hc, hf, h1, h2⟩
theorem Ints.atD {w : World} {A : Option Addr} {n : Nat} {zs : List Int} (h : Ints w A n zs) {k : Nat} (hk : k < n) : ∃ b o, A = some ⟨b, o, none⟩ ∧ b < w.heap.size ∧ w.cell? ⟨b, o + k, none⟩ = some (.int .i64 (zs.getD k 0)) := by
  obtain ⟨b, o, z, e, hb, hz, _, hc⟩ := h.at_ hk
  have hz' := getD_some h.len hk
  rw [hz] at hz'
  obtain rfl := Option.some.inj hz'
  exact ⟨b, o, e, hb, hc⟩
end Go.Proofs.Ythlencpbekjekaa
