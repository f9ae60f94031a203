/- What OperatingPoint, LowestPoint, IsOperable, ReasonOf (of the program and of the reference) do, by walks over their text. Condition: at most 2^20 supplies. -/
import Derived.Test.YtebefamekjjbcaaGreatDoorPt
set_option linter.unusedVariables false
set_option maxRecDepth 100000
namespace Go.Proofs.YtebefamekjjbcaaGreatDoor
open Go.ChangeShapes Go.WideShapes Go.ChangeAt Go.RowKit Go.Joins Go.Deep
attribute [local go_sem ↓] Go.wp_at_zero Go.wp_at_succ

/-- A call returns a proof of its own, its two rows apart, and a code. -/
def RetPc (w : World) (fl lv : List Int) (k : Int) (e : Ending) (w' : World) : Prop :=
  ∃ A c B d, e = .returned (.tuple #[.agg #[.slice A fl.length c, .slice B lv.length d], .int .i64 k]) ∧ Own w' w.heap.size A fl.length c fl ∧ Own w' w.heap.size B lv.length d lv ∧ Ap A B ∧ Below w.heap.size w w'
theorem retPc_of {w w' : World} {fl lv : List Int} {k k' : Int} {A B : Option Addr} {c d : Nat} (hk : k = k') (h1 : Own w' w.heap.size A fl.length c fl) (h2 : Own w' w.heap.size B lv.length d lv) (ha : Ap A B) (hb : Below w.heap.size w w') : RetPc w fl lv k (.returned (.tuple #[.agg #[.slice A fl.length c, .slice B lv.length d], .int .i64 k'])) w' := by
  subst hk
  exact ⟨A, c, B, d, rfl, h1, h2, ha, hb⟩
theorem retPc_nil {w w' : World} {fl lv : List Int} {k k' : Int} (hf : fl = []) (hl : lv = []) (hk : k = k') (hb : Below w.heap.size w w') : RetPc w fl lv k (.returned (.tuple #[.agg #[.slice none 0 0, .slice none 0 0], .int .i64 k'])) w' := by
  subst hf hl hk
  exact ⟨none, 0, none, 0, rfl, own_nil _ _, own_nil _ _, (fun g h => by cases h), hb⟩
theorem opF_len {A B : Option Addr} {n c m d : Nat} {ns : List Nd} {ps : List Pp} {zs : List Int} {w : World} (h : IsNet w A n c ns B m d ps) (hm : m ≤ 1048576) : (opF ns ps n zs).length ≤ 1048576 := by
  unfold opF
  split
  · unfold ptF
    split
    · exact slvL_len h hm
    · simp
  · simp
theorem opL_len {A B : Option Addr} {n c m d : Nat} {ns : List Nd} {ps : List Pp} {zs : List Int} {w : World} (h : IsNet w A n c ns B m d ps) (hn : n ≤ 1048576) (hi : Bool) : (opL ns ps n zs hi).length ≤ 1048576 := by
  unfold opL
  split
  · unfold ptL
    split
    · rw [lvR_len]; exact hn
    · simp
  · simp
end Go.Proofs.YtebefamekjjbcaaGreatDoor
