/- What DrawSettledFlows, DrawSolveStep do, by walks over their text. Condition: a source over at most 4096 bytes. -/
import Derived.Test.YtebefamekjjbcaaGreatDoorNDraw8
import Derived.Test.YtebefamekjjbcaaGreatDoorNDrawD
import Derived.Test.YtebefamekjjbcaaGreatDoorCon
import Derived.Test.YtebefamekjjbcaaGreatDoorKV
set_option linter.unusedVariables false
set_option maxRecDepth 100000
namespace Go.Proofs.YtebefamekjjbcaaGreatDoor
open Go.ChangeShapes Go.WideShapes Go.ChangeAt Go.RowKit Go.Joins Go.Deep
attribute [local go_sem ↓] Go.wp_at_zero Go.wp_at_succ

end Go.Proofs.YtebefamekjjbcaaGreatDoor
