/- What areSettings, l16Is, IsSettings, checkSettings, l16Code do, by walks over their text. Conditions: lengths of at most 1048576. -/
import Derived.Test.YtebefamekjjbcaaGreatDoorKA
set_option linter.unusedVariables false
set_option maxRecDepth 100000
namespace Go.Proofs.YtebefamekjjbcaaGreatDoor
open Go.ChangeShapes Go.WideShapes Go.ChangeAt Go.RowKit Go.Joins Go.Deep

def setB (m : Nat) (zs : List Int) : Bool := decide (zs.length = m) && allB zs 0 2
end Go.Proofs.YtebefamekjjbcaaGreatDoor
