/- What szCompressor, toCompressor, eqCompressor do, by walks over their text. Conditions: lengths of at most 1048576 (of szCompressor: none); eqCompressor at equal compressors. -/
import Derived.Test.YtgchbajhceddnaaFaceOps
set_option linter.unusedVariables false
namespace Go.Proofs.Ytgchbajhceddnaa
open Go.ChangeShapes Go.WideShapes Go.ChangeAt Go.RowKit Go.Joins Go.Deep

theorem szFaces_any (A : Option Addr) (n c : Nat) (left : Int) (w : World) (hn : n ≤ 9223372036854775807) (h0 : 0 ≤ left) (h1 : left ≤ 1048576) :
    Calls Try.prog 50 #[.slice A n c, .int .i64 left] w fun e w' => e = .returned (.int .i64 (if (n : Int) ≤ left then left - n else -1)) ∧ w = w' := by
  by_cases h : (n : Int) ≤ left
  · rw [if_pos h]
    go_enter Try.func50, Try.ntmps50
    go_wp2_with fail
    go_ret
    exact ⟨rfl, rfl⟩
  · rw [if_neg h]
    go_enter Try.func50, Try.ntmps50
    go_wp2_with fail
    go_ret
    exact ⟨rfl, rfl⟩
theorem szComp_any (A : Option Addr) (n c : Nat) (fu le left : Int) (w : World) (hn : n ≤ 9223372036854775807) (h0 : 0 ≤ left) (h1 : left ≤ 1048576) :
    Calls Try.prog 17 #[.agg #[.slice A n c, .int .i64 fu, .int .i64 le], .int .i64 left] w fun e w' => e = .returned (.int .i64 (if (n : Int) ≤ left then left - n else -1)) ∧ Below w.heap.size w w' := by
  have hs := fun W => szFaces_any A n c left W hn h0 h1
  have hb : ∀ cs t, Below w.heap.size w (w.alloc (.cells cs t)) := fun cs t => (Below.refl _ _).alloc (Nat.le_refl _) _
  by_cases h : (n : Int) ≤ left
  · rw [if_pos h] at hs ⊢
    have HS := Lib.hid hs
    clear hs
    go_enter Try.func17, Try.ntmps17
    go_wp2_with (go_at_call 50; refine (HS.out _).mono ?_; rintro e w' ⟨rfl, rfl⟩)
    go_ret
    exact ⟨rfl, hb _ _⟩
  · rw [if_neg h] at hs ⊢
    have HS := Lib.hid hs
    clear hs
    go_enter Try.func17, Try.ntmps17
    go_wp2_with (go_at_call 50; refine (HS.out _).mono ?_; rintro e w' ⟨rfl, rfl⟩)
    go_ret
    exact ⟨rfl, hb _ _⟩
/-- A call returns a compressor whose faces lie in new memory. -/
def RetC (w : World) (fs : List Fc) (fu le : Int) (e : Ending) (w' : World) : Prop :=
  ∃ A c, e = .returned (.agg #[.slice A fs.length c, .int .i64 fu, .int .i64 le]) ∧ OwnF w' w.heap.size A fs.length c fs ∧ Below w.heap.size w w'
set_option maxHeartbeats 1000000 in
theorem toComp_any (A : Option Addr) (c : Nat) (fs : List Fc) (fu le : Int) (w : World) (h : Faces w A fs.length fs) (hn : fs.length ≤ 1048576) :
    Calls Try.prog 19 #[.agg #[.slice A fs.length c, .int .i64 fu, .int .i64 le]] w (RetC w fs fu le) := by
  have h3 : ∀ a ta b tb d td, Faces (((w.alloc (.cells a ta)).alloc (.cells b tb)).alloc (.cells d td)) A fs.length fs := fun a ta b tb d td => ((h.alloc _).alloc _).alloc _
  go_enter Try.func19, Try.ntmps19
  go_wp2_with fail
  refine (toFaces_any _ _ _ _ _ (h3 _ _ _ _ _ _) hn).mono ?_
  rintro e w1 ⟨A1, c1, rfl, ho1, hb1⟩
  obtain ⟨hc, hf⟩ := bcell hb1
  have hz : w.heap.size + 2 < w1.heap.size := by have := hb1.size; simp at this; omega
  have hw1 : Below w.heap.size w w1 := bthen (by repeat (first | exact Below.refl _ _ | refine Below.alloc ?_ (by simp <;> omega) _)) hb1 (by simp; omega)
  have ho1' : OwnF w1 (w.heap.size + 3) A1 fs.length c1 fs := by simpa using ho1
  clear h3 ho1
  go_wp2_with fail
  refine bodyPost_ret (v := .agg #[.slice A1 fs.length c1, .int .i64 fu, .int .i64 le]) (by simp [results, Try.results19, go_sem, hc]) rfl ⟨A1, c1, rfl, ?_, ?_⟩
  · refine OwnF.mono (B := w.heap.size + 3) ?_ (by omega)
    iterate 6 refine OwnF.low ?_ (by simp) _
    exact ho1'
  · iterate 6 refine Below.setCell ?_ (by simp <;> omega) _
    exact hw1
set_option maxHeartbeats 1000000 in
theorem eqComp_any (A B : Option Addr) (n c d : Nat) (fs : List Fc) (fu le : Int) (w : World) (ha : Faces w A n fs) (hb : Faces w B n fs) (hn : n ≤ 1048576) :
    Calls Try.prog 21 #[.agg #[.slice A n c, .int .i64 fu, .int .i64 le], .agg #[.slice B n d, .int .i64 fu, .int .i64 le]] w fun e w' => e = .returned (.bool true) ∧ Below w.heap.size w w' := by
  have ha3 : ∀ a ta b tb, Faces ((w.alloc (.cells a ta)).alloc (.cells b tb)) A n fs := fun a ta b tb => (ha.alloc _).alloc _
  have hb3 : ∀ a ta b tb, Faces ((w.alloc (.cells a ta)).alloc (.cells b tb)) B n fs := fun a ta b tb => (hb.alloc _).alloc _
  go_enter Try.func21, Try.ntmps21
  go_wp2_with fail
  refine (eqFaces_any _ _ _ _ _ _ _ _ _ (ha3 _ _ _ _) (hb3 _ _ _ _) hn).mono ?_
  rintro e w1 ⟨b, hbt, rfl, hb1⟩
  obtain rfl : b = true := hbt.2 rfl
  obtain ⟨hc, hf⟩ := bcell hb1
  have hz : w.heap.size + 1 < w1.heap.size := by have := hb1.size; simp at this; omega
  have hw1 : Below w.heap.size w w1 := bthen (by repeat (first | exact Below.refl _ _ | refine Below.alloc ?_ (by simp <;> omega) _)) hb1 (by simp; omega)
  clear ha3 hb3
  go_wp2_with fail
  go_ret
  exact ⟨rfl, hw1⟩
end Go.Proofs.Ytgchbajhceddnaa
