/- What the closure of bestAmount does, by a walk over its text. Conditions: a valid network, flows in range, a cycle's numbers, an amount of at most a million. -/
import Derived.Test.YtebefamekjjbcaaGreatDoorChd
set_option linter.unusedVariables false
set_option maxRecDepth 100000
namespace Go.Proofs.YtebefamekjjbcaaGreatDoor
open Go.ChangeShapes Go.WideShapes Go.ChangeAt Go.RowKit Go.Joins Go.Deep
attribute [local go_sem ↓] Go.wp_at_zero Go.wp_at_succ

end Go.Proofs.YtebefamekjjbcaaGreatDoor
