/- The empty slice of int64. No condition. -/
import Derived.Test.YthlencpbekjekaaLists
import Derived.Test.YthlencpbekjekaaPush
set_option linter.unusedVariables false
set_option maxRecDepth 100000
namespace Go.Proofs.Ythlencpbekjekaa
open Go.RowKit Go.Joins Go.Deep

theorem own_nil (w : World) (B : Nat) : Own w B none 0 0 [] := ⟨World.ownsRow_nil _ _ _ _, fun z hz => absurd hz List.not_mem_nil⟩
theorem own_empty (w : World) (B : Nat) (hB : B ≤ w.heap.size) : Own (w.alloc (.cells #[] 2)) B (some ⟨w.heap.size, 0, none⟩) 0 0 [] :=
  ⟨World.ownsRow_lit (size := 1) w #[] 0 hB (Nat.zero_le _) rfl, fun z hz => absurd hz List.not_mem_nil⟩
end Go.Proofs.Ythlencpbekjekaa
