/- What IsStore, StoreLimits (of the program and of the reference), toStore and the laws on them do, by walks over their text. No condition but that the arguments are integers of their kind. -/
import Derived.Test.YtiofjnohdmminaaNum
set_option linter.unusedVariables false
namespace Go.Proofs.Ytiofjnohdmminaa
open Go.RowKit Go.Joins

section
variable {H : Type} {enc : TypeId × Value → H} {W : World} {base : Nat} {v : Value} {d : DataW H} {p : List MemPlace}
theorem list5 {l : List Value} (h : l.length = 5) : ∃ a b c d e, l = [a, b, c, d, e] := by
  match l, h with
  | [a, b, c, d, e], _ => exact ⟨a, b, c, d, e, rfl⟩
theorem opn_store (hv : Value.okWide Try.prog W .any base 29 v) (h : DataW.Trod enc Try.prog W 0 (fun _ => true) true 29 v d p) (_lt : ∀ x ∈ p, x.block < W.heap.size) :
    ∃ a b c d e, v = .agg #[.int .i64 a, .int .i64 b, .int .i64 c, .int .i64 d, .int .i64 e] ∧ I64 a ∧ I64 b ∧ I64 c ∧ I64 d ∧ I64 e := by
  obtain ⟨cs, rfl, hl, hg⟩ := opn_fields Try.underlying29 (by kernel_rfl) (by kernel_rfl) hv h
  obtain ⟨c0, c1, c2, c3, c4, rfl⟩ := list5 hl
  obtain ⟨_, _, h0, _⟩ := hg 0 _ _ rfl rfl
  obtain ⟨_, _, h1, _⟩ := hg 1 _ _ rfl rfl
  obtain ⟨_, _, h2, _⟩ := hg 2 _ _ rfl rfl
  obtain ⟨_, _, h3, _⟩ := hg 3 _ _ rfl rfl
  obtain ⟨_, _, h4, _⟩ := hg 4 _ _ rfl rfl
  obtain ⟨a0, rfl, w0⟩ := fld_i64 h0
  obtain ⟨a1, rfl, w1⟩ := fld_i64 h1
  obtain ⟨a2, rfl, w2⟩ := fld_i64 h2
  obtain ⟨a3, rfl, w3⟩ := fld_i64 h3
  obtain ⟨a4, rfl, w4⟩ := fld_i64 h4
  exact ⟨a0, a1, a2, a3, a4, rfl, w0, w1, w2, w3, w4⟩
end

/-- A valid store. -/
def storeB (l h n i o : Int) : Bool := decide (0 ≤ l ∧ l < h ∧ h ≤ 1000000000) && (inB n l h && (inB i 0 30000 && inB o 0 30000))

set_option maxHeartbeats 1000000 in
theorem isStore_any (l h n i o : Int) (w : World) :
    Calls Try.prog 20 #[.agg #[.int .i64 l, .int .i64 h, .int .i64 n, .int .i64 i, .int .i64 o]] w fun e w' => e = .returned (.bool (storeB l h n i o)) ∧ Below w.heap.size w w' := by
  rcases (orP (orP (orP (orB (orB (orB trivial))))) : ¬ 0 ≤ l ∨ 0 ≤ l ∧ (¬ l < h ∨ l < h ∧ (¬ h ≤ 1000000000 ∨ h ≤ 1000000000 ∧ (inB n l h = false ∨ inB n l h = true ∧ (inB i 0 30000 = false ∨ inB i 0 30000 = true ∧ (inB o 0 30000 = false ∨ inB o 0 30000 = true ∧ True))))))
    with h1 | ⟨h1, h2 | ⟨h2, h3 | ⟨h3, h4 | ⟨h4, h5 | ⟨h5, h6 | ⟨h6, _⟩⟩⟩⟩⟩⟩
  all_goals
    first
      | have hfin := Lib.hid (show storeB l h n i o = false by first | (simp [storeB, *]; done) | (simp [storeB, *]; intros; omega))
      | have hfin := Lib.hid (show storeB l h n i o = true by simp [storeB, *])
    go_enter Try.func20, Try.ntmps20
    go_wp2_with (go_at_call 47; refine (within_any _ _ _ _).mono ?_; rintro e w' ⟨rfl, rfl⟩)
    go_ret
    exact ⟨(congrArg (fun b => Ending.returned (.bool b)) hfin.out.symm :), (Below.refl _ _).alloc (Nat.le_refl _) _⟩
set_option maxHeartbeats 1000000 in
theorem sIsStore_any (l h n i o : Int) (w : World) :
    Calls Try.prog 18 #[.agg #[.int .i64 l, .int .i64 h, .int .i64 n, .int .i64 i, .int .i64 o]] w fun e w' => e = .returned (.bool (storeB l h n i o)) ∧ Below w.heap.size w w' := by
  rcases (orP (orP (orP (orB (orB (orB trivial))))) : ¬ 0 ≤ l ∨ 0 ≤ l ∧ (¬ l < h ∨ l < h ∧ (¬ h ≤ 1000000000 ∨ h ≤ 1000000000 ∧ (inB n l h = false ∨ inB n l h = true ∧ (inB i 0 30000 = false ∨ inB i 0 30000 = true ∧ (inB o 0 30000 = false ∨ inB o 0 30000 = true ∧ True))))))
    with h1 | ⟨h1, h2 | ⟨h2, h3 | ⟨h3, h4 | ⟨h4, h5 | ⟨h5, h6 | ⟨h6, _⟩⟩⟩⟩⟩⟩
  all_goals
    first
      | have hfin := Lib.hid (show storeB l h n i o = false by first | (simp [storeB, *]; done) | (simp [storeB, *]; intros; omega))
      | have hfin := Lib.hid (show storeB l h n i o = true by simp [storeB, *])
    go_enter Try.func18, Try.ntmps18
    go_wp2_with (go_at_call 46; refine (in_any _ _ _ _).mono ?_; rintro e w' ⟨rfl, rfl⟩)
    go_ret
    exact ⟨(congrArg (fun b => Ending.returned (.bool b)) hfin.out.symm :), (Below.refl _ _).alloc (Nat.le_refl _) _⟩
theorem toStore_any (l h n i o : Int) (w : World) :
    Calls Try.prog 19 #[.agg #[.int .i64 l, .int .i64 h, .int .i64 n, .int .i64 i, .int .i64 o]] w fun e w' => e = .returned (.agg #[.int .i64 l, .int .i64 h, .int .i64 n, .int .i64 i, .int .i64 o]) ∧ Below w.heap.size w w' := by
  go_enter Try.func19, Try.ntmps19
  go_wp2
  exact bodyPost_ret (v := .agg #[.int .i64 l, .int .i64 h, .int .i64 n, .int .i64 i, .int .i64 o]) (by simp [results, Try.results19, go_sem]) rfl ⟨rfl, by
    repeat (first | exact Below.refl _ _ | refine Below.setCell ?_ (by simp <;> omega) _ | refine Below.alloc ?_ (by simp <;> omega) _)⟩

theorem law_FnExactIsStore (l h n i o : Int) (w : World) (_h : I64 l ∧ I64 h ∧ I64 n ∧ I64 i ∧ I64 o) :
    Calls Try.prog 4 #[.agg #[.int .i64 l, .int .i64 h, .int .i64 n, .int .i64 i, .int .i64 o]] w fun e w' => e = .returned (.bool true) ∧ Below w.heap.size w w' := by
  go_enter Try.func4, Try.ntmps4
  go_wp2_with fail
  refine (toStore_any _ _ _ _ _ _).mono ?_
  rintro e w1 ⟨rfl, hb1⟩
  obtain ⟨hc, hf⟩ := bcell hb1
  have hz : w.heap.size < w1.heap.size := by have := hb1.size; simp at this; omega
  go_wp2_with fail
  refine (sIsStore_any _ _ _ _ _ _).mono ?_
  rintro e w2 ⟨rfl, hb2⟩
  obtain ⟨hc2, hf2⟩ := bcell hb2
  have hz2 : w.heap.size < w2.heap.size := by have := hb2.size; omega
  go_wp2_with fail
  refine (toStore_any _ _ _ _ _ _).mono ?_
  rintro e w3 ⟨rfl, hb3⟩
  go_wp2_with fail
  refine (isStore_any _ _ _ _ _ _).mono ?_
  rintro e w4 ⟨rfl, hb4⟩
  go_wp2_with fail
  go_ret
  refine ⟨rfl, ?_⟩
  have h0 : Below w.heap.size w (w.alloc (.cells #[.int .i64 l, .int .i64 h, .int .i64 n, .int .i64 i, .int .i64 o] 29)) := (Below.refl _ _).alloc (Nat.le_refl _) _
  exact (((h0.trans (hb1.mono (by simp))).trans (hb2.mono (by omega))).trans (hb3.mono (by omega))).trans (hb4.mono (by have := hb3.size; omega))

end Go.Proofs.Ytiofjnohdmminaa
