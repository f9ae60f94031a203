/- What within, IsUnit (of the program and of the reference), toUnit and the law on IsUnit do, by walks over their text. No condition but that the arguments are integers of their kind. -/
import Derived.Test.YtiofjnohdmminaaNum
set_option linter.unusedVariables false
set_option maxRecDepth 100000
namespace Go.Proofs.Ytiofjnohdmminaa
open Go.RowKit Go.Joins

section
variable {H : Type} {enc : TypeId × Value → H} {W : World} {base : Nat} {v : Value} {d : DataW H} {p : List MemPlace}
theorem opn_unit (hv : Value.okWide Try.prog W .any base 23 v) (h : DataW.Trod enc Try.prog W 0 (fun _ => true) true 23 v d p) (_lt : ∀ x ∈ p, x.block < W.heap.size) :
    ∃ a b c, v = .agg #[.int .i64 a, .int .i64 b, .int .i64 c] ∧ I64 a ∧ I64 b ∧ I64 c := by
  obtain ⟨c0, c1, c2, y0, y1, y2, m, rfl, rfl, rfl, hy0, hy1, hy2⟩ := open_agg3 Try.underlying23 (by kernel_rfl) (by kernel_rfl) hv h
  obtain ⟨a0, rfl, w0⟩ := fld_i64 hy0
  obtain ⟨a1, rfl, w1⟩ := fld_i64 hy1
  obtain ⟨a2, rfl, w2⟩ := fld_i64 hy2
  exact ⟨a0, a1, a2, rfl, w0, w1, w2⟩
end

def unitB (s u d : Int) : Bool := inB s 0 1000000 && (inB u 1 48 && inB d 1 48)

theorem isUnit_any (s u d : Int) (w : World) :
    Calls Try.prog 17 #[.agg #[.int .i64 s, .int .i64 u, .int .i64 d]] w fun e w' => e = .returned (.bool (unitB s u d)) ∧ Below w.heap.size w w' := by
  cases h1 : inB s 0 1000000 <;> cases h2 : inB u 1 48 <;> cases h3 : inB d 1 48
  all_goals
    go_enter Try.func17, Try.ntmps17
    go_wp2_with (go_at_call 47; refine (within_any _ _ _ _).mono ?_; rintro e w' ⟨rfl, rfl⟩)
    go_ret
    exact ⟨by simp [unitB, h1, h2, h3], (Below.refl _ _).alloc (Nat.le_refl _) _⟩
theorem sIsUnit_any (s u d : Int) (w : World) :
    Calls Try.prog 15 #[.agg #[.int .i64 s, .int .i64 u, .int .i64 d]] w fun e w' => e = .returned (.bool (unitB s u d)) ∧ Below w.heap.size w w' := by
  cases h1 : inB s 0 1000000 <;> cases h2 : inB u 1 48 <;> cases h3 : inB d 1 48
  all_goals
    go_enter Try.func15, Try.ntmps15
    go_wp2_with (go_at_call 46; refine (in_any _ _ _ _).mono ?_; rintro e w' ⟨rfl, rfl⟩)
    go_ret
    exact ⟨by simp [unitB, h1, h2, h3], (Below.refl _ _).alloc (Nat.le_refl _) _⟩
theorem toUnit_any (s u d : Int) (w : World) :
    Calls Try.prog 16 #[.agg #[.int .i64 s, .int .i64 u, .int .i64 d]] w fun e w' => e = .returned (.agg #[.int .i64 s, .int .i64 u, .int .i64 d]) ∧ Below w.heap.size w w' := by
  go_enter Try.func16, Try.ntmps16
  go_wp2
  exact bodyPost_ret (v := .agg #[.int .i64 s, .int .i64 u, .int .i64 d]) (by simp [results, Try.results16, go_sem]) rfl ⟨rfl, by
    repeat (first | exact Below.refl _ _ | refine Below.setCell ?_ (by simp <;> omega) _ | refine Below.alloc ?_ (by simp <;> omega) _)⟩
theorem law_FnExactIsUnit (s u d : Int) (w : World) (_h : I64 s ∧ I64 u ∧ I64 d) :
    Calls Try.prog 3 #[.agg #[.int .i64 s, .int .i64 u, .int .i64 d]] w fun e w' => e = .returned (.bool true) ∧ Below w.heap.size w w' := by
  go_enter Try.func3, Try.ntmps3
  go_wp2_with fail
  refine (toUnit_any _ _ _ _).mono ?_
  rintro e w1 ⟨rfl, hb1⟩
  obtain ⟨hc, hf⟩ := bcell hb1
  have hz : w.heap.size < w1.heap.size := by have := hb1.size; simp at this; omega
  go_wp2_with fail
  refine (sIsUnit_any _ _ _ _).mono ?_
  rintro e w2 ⟨rfl, hb2⟩
  obtain ⟨hc2, hf2⟩ := bcell hb2
  have hz2 : w.heap.size < w2.heap.size := by have := hb2.size; omega
  go_wp2_with fail
  refine (toUnit_any _ _ _ _).mono ?_
  rintro e w3 ⟨rfl, hb3⟩
  go_wp2_with fail
  refine (isUnit_any _ _ _ _).mono ?_
  rintro e w4 ⟨rfl, hb4⟩
  go_wp2_with fail
  go_ret
  refine ⟨rfl, ?_⟩
  have h0 : Below w.heap.size w (w.alloc (.cells #[.int .i64 s, .int .i64 u, .int .i64 d] 23)) := (Below.refl _ _).alloc (Nat.le_refl _) _
  exact (((h0.trans (hb1.mono (by simp))).trans (hb2.mono (by omega))).trans (hb3.mono (by omega))).trans (hb4.mono (by have := hb3.size; omega))
end Go.Proofs.Ytiofjnohdmminaa
