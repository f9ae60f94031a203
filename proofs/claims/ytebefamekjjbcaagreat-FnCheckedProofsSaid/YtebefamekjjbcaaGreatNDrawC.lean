/- What ChordsOf of the reference, l02DrawIndex, l05DrawChord do, by walks over their text. Condition: a source over at most 4096 bytes. -/
import Derived.Test.YtebefamekjjbcaaGreatNDraw7
import Derived.Test.YtebefamekjjbcaaGreatKS
import Derived.Test.YtebefamekjjbcaaGreatScale
import Derived.Deep.DeepCutAuto
set_option linter.unusedVariables false
set_option maxRecDepth 100000
namespace Go.Proofs.YtebefamekjjbcaaGreat
open Go.ChangeShapes Go.WideShapes Go.ChangeAt Go.RowKit Go.Joins Go.Deep
attribute [local go_sem ↓] Go.wp_at_zero Go.wp_at_succ

end Go.Proofs.YtebefamekjjbcaaGreat
