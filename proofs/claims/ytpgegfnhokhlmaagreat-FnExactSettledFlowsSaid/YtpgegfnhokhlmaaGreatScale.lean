/- What ScaleSupplies (of the program and of the reference) does, by walks over its text. Condition: at most 1048576 supplies. -/
import Derived.Test.YtpgegfnhokhlmaaGreatKA
set_option linter.unusedVariables false
set_option maxRecDepth 100000
namespace Go.Proofs.YtpgegfnhokhlmaaGreat
open Go.RowKit Go.Joins Go.Deep

/-- A call returns a slice of its own that reads as zs, and a number, and leaves what was there. -/
def RetInts2 (w : World) (zs : List Int) (k : Int) (e : Ending) (w' : World) : Prop :=
  ∃ A c, e = .returned (.tuple #[.slice A zs.length c, .int .i64 k]) ∧ Own w' w.heap.size A zs.length c zs ∧ Below w.heap.size w w'
theorem retInts2_nil {w w' : World} (k : Int) (h : Below w.heap.size w w') : RetInts2 w [] k (.returned (.tuple #[.slice none 0 0, .int .i64 k])) w' := ⟨none, 0, rfl, own_nil _ _, h⟩

def scl (sc : Int) (zs : List Int) : List Int := zs.map fun z => z * sc
def scaleCode (sc : Int) (zs : List Int) : Int :=
  if 24 < zs.length then 3 else if inB sc 0 64 = false then 2 else if allB zs (-30000) 30000 = false then 2 else if allB (scl sc zs) (-30000) 30000 = false then 2 else 0
def scaleOf (sc : Int) (zs : List Int) : List Int := if scaleCode sc zs = 0 then scl sc zs else []
theorem scl_len (sc : Int) (zs : List Int) : (scl sc zs).length = zs.length := by simp [scl]
theorem scl_at {sc z : Int} {zs : List Int} {k : Nat} (h : zs[k]? = some z) : (scl sc zs)[k]? = some (z * sc) := by simp [scl, h]
theorem scl_take {sc z : Int} {zs : List Int} {k : Nat} (h : zs[k]? = some z) : scl sc (zs.take k) ++ [z * sc] = scl sc (zs.take (k + 1)) := by
  simp [scl, List.take_add_one, h]
theorem mul_sc {z sc : Int} (h1 : -30000 ≤ z) (h2 : z ≤ 30000) (h3 : 0 ≤ sc) (h4 : sc ≤ 64) : -1920000 ≤ z * sc ∧ z * sc ≤ 1920000 := by
  have h5 : z * sc ≤ 30000 * sc := Int.mul_le_mul_of_nonneg_right h2 h3
  have h6 : -30000 * sc ≤ z * sc := Int.mul_le_mul_of_nonneg_right h1 h3
  omega
theorem scl_step {sc z : Int} {zs : List Int} {n k : Nat} (hl : zs.length = n) (hk : k < n) (hz : zs[k]? = some z) :
    (scl sc (zs.take k) ++ List.replicate (n - k) 0).set k (z * sc) = scl sc (zs.take (k + 1)) ++ List.replicate (n - (k + 1)) 0 := by
  rw [← scl_take hz, List.set_append_right _ _ (by simp [scl]; omega), List.append_assoc]
  congr 1
  have e1 : k - (scl sc (zs.take k)).length = 0 := by simp [scl]; omega
  have e2 : n - k = (n - (k + 1)) + 1 := by omega
  rw [e1, e2, List.replicate_succ]
  rfl
theorem all_take {zs : List Int} {lo hi : Int} (k : Nat) (h : allB zs lo hi = true) : allB (zs.take k) lo hi = true := by
  unfold allB at *
  rw [List.all_eq_true] at *
  exact fun x hx => h x (List.mem_of_mem_take hx)

theorem l06Supply_any (z : Int) (w : World) :
    Calls Tryz.prog 130 #[.int .i64 z] w fun e w' => e = .returned (.bool (inB z (-30000) 30000)) ∧ w = w' := by
  go_enter Tryz.func130, Tryz.ntmps130
  go_wp2_with (go_at_call 153; refine (in_any _ _ _ _).mono ?_; rintro e w' ⟨rfl, rfl⟩)
  go_ret
  exact ⟨rfl, rfl⟩

/-- What the search of the reference finds: the first k supplies and their products are in their range. -/
theorem scale_bad {sc z : Int} {zs : List Int} {k : Nat} (h0 : ¬ 24 < zs.length) (h1 : inB sc 0 64 = true) (hz : zs[k]? = some z) (hb : inB z (-30000) 30000 = false ∨ inB (z * sc) (-30000) 30000 = false) : scaleCode sc zs = 2 := by
  unfold scaleCode
  rw [if_neg h0, h1]
  rcases hb with hb | hb
  · rw [all_no hz hb]; simp
  · rw [all_no (scl_at hz) hb]; simp
end Go.Proofs.YtpgegfnhokhlmaaGreat
