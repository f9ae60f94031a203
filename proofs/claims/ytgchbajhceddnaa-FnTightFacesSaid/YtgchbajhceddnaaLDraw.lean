/- The draws of levels and of what a lift needs: what they do, by walks over their text. Condition: a code of at most 4096 bytes. -/
import Derived.Test.YtgchbajhceddnaaCDraw3
set_option linter.unusedVariables false
set_option maxRecDepth 100000
namespace Go.Proofs.Ytgchbajhceddnaa
open Go.ChangeShapes Go.WideShapes Go.ChangeAt Go.RowKit Go.Joins Go.Deep
attribute [local go_sem ↓] Go.wp_at_zero Go.wp_at_succ

/-- A call draws two numbers. -/
def RetDraw2 (w : World) (B : Nat) (A : Option Addr) (n c : Nat) (zs : List Int) (e : Ending) (w' : World) : Prop :=
  ∃ x y : Int, e = .returned (.tuple #[.int .i64 x, .int .i64 y]) ∧ Src w' B A n c zs ∧ w.grownBy w' (some B)
def lvA (j : Nat) : Int := if j = 0 then 0 else if j = 1 then 1 else if j = 2 then 100000000 else 100000001
def lvB (j : Nat) : Int := if j = 0 then -1 else if j = 1 then 0 else if j = 2 then 100000000 else 100000001
theorem lvA_pick {j : Nat} (h : j < 4) : ∀ h', ([.int .i64 0, .int .i64 1, .int .i64 100000000, .int .i64 100000001] : List Value)[j]'h' = .int .i64 (lvA j) := by
  intro h'
  match j, h with
  | 0, _ => rfl
  | 1, _ => rfl
  | 2, _ => rfl
  | 3, _ => rfl
theorem lvB_pick {j : Nat} (h : j < 4) : ∀ h', ([.int .i64 (-1), .int .i64 0, .int .i64 100000000, .int .i64 100000001] : List Value)[j]'h' = .int .i64 (lvB j) := by
  intro h'
  match j, h with
  | 0, _ => rfl
  | 1, _ => rfl
  | 2, _ => rfl
  | 3, _ => rfl
theorem src_drew {W : World} {B : Nat} {A : Option Addr} {n c : Nat} {zs : List Int} (h : Src W B A n c zs) : Src W.drew B A n c zs := h
theorem grown_drew {a w : World} {row : Option Nat} (h : a.grownBy w row) : a.grownBy w.drew row := ⟨h.os, h.tape, h.output, h.size, h.block⟩
theorem nextL {w W : World} (B : Nat) (A : Option Addr) (n c : Nat) (zs : List Int) (hn : n ≤ 4096) (hs : Src W B A n c zs) (hG : w.grownBy W (some B)) :
    Calls Try.prog 69 #[.pointer (some ⟨B, 0, none⟩), .int .i64 4] W fun e w' => ∃ j : Nat, j < 4 ∧ e = .returned (.int .i64 (j : Int)) ∧ Src w' B A n c zs ∧ w.grownBy w' (some B) ∧ Hid (∀ b i, b < W.heap.size → b ≠ B → w'.cell? ⟨b, i, none⟩ = W.cell? ⟨b, i, none⟩) ∧ W.heap.size ≤ w'.heap.size := by
  refine (next_any _ _ _ _ _ _ _ hs hn (by omega) (by omega)).mono ?_
  rintro e w1 ⟨x, hx0, hx1, rfl, hs1, hg1⟩
  obtain ⟨j, rfl⟩ := Int.eq_ofNat_of_zero_le hx0
  exact ⟨j, by omega, rfl, hs1, hG.trans hg1, fun b i h1 h2 => gcell hg1 b i h1 h2, hg1.size⟩
theorem cutp {p q : Prop} (h : p) (k : p → q) : q := k h
theorem qat_then {p : Prop} {w' W : World} {B N : Nat} (hq : ∀ b i, b < N → b ≠ B → w'.cell? ⟨b, i, none⟩ = W.cell? ⟨b, i, none⟩) (b : Nat) (h1 : b < N) (h2 : b ≠ B) (k : (∀ i, w'.cell? ⟨b, i, none⟩ = W.cell? ⟨b, i, none⟩) → p) : p := k fun i => hq b i h1 h2
set_option maxHeartbeats 8000000 in
theorem drawLevels_any (B : Nat) (A : Option Addr) (n c : Nat) (zs : List Int) (w : World) (h : Src w B A n c zs) (hn : n ≤ 4096) :
    Calls Try.prog 70 #[.pointer (some ⟨B, 0, none⟩)] w (RetDraw2 w B A n c zs) := by
  have hlt := h.lt
  go_enter Try.func70, Try.ntmps70
  go_wp2_with fail
  refine (next_any _ _ _ _ _ _ _ h hn (by omega) (by omega)).mono ?_
  rintro e w1 ⟨x, hx0, hx1, rfl, hs1, hg1⟩
  go_wp2_with fail
  refine (next_any _ _ _ _ _ _ _ hs1 hn (by omega) (by omega)).mono ?_
  rintro e w2 ⟨y, hy0, hy1, rfl, hs2, hg2⟩
  have hG2 := hg1.trans hg2
  have hlt2 := hs2.lt
  clear hs1 hg1 hg2
  cases t : (y == 0)
  · go_wp2_with fail
    refine (next_any _ _ _ _ _ _ _ hs2 hn (by omega) (by omega)).mono ?_
    rintro e w3 ⟨z, hz0, hz1, rfl, hs3, hg3⟩
    go_wp2_with fail
    go_ret2
    exact ⟨_, _, rfl, hs3, hG2.trans hg3⟩
  · have HS2 := Lib.hid hs2
    clear hs2 h
    have n2 : w2.heap.size ≠ B := by omega
    have n2' : w2.heap.size + 1 ≠ B := by omega
    go_wp2_with fail
    go_region_with (first
      | (go_at_call 69; refine (nextL (w := w) B A n c zs hn ?_ ?_).mono ?_; (first | exact hs3 | exact hs3.alloc _ | exact (hs3.alloc _).alloc _ | exact src_drew hs3); (first | exact hG3 | exact grown_alloc hG3 _ | exact grown_alloc (grown_alloc hG3 _) _); rintro e w4 ⟨j4, hj4, rfl, hs4, hG4, hq4, hz4⟩; (try simp at hz4); (try (refine cutp (p := w2.heap.size < w4.heap.size) ?_ ?_; (focus omega); intro z4a)); (try (refine cutp (p := w2.heap.size + 1 < w4.heap.size) ?_ ?_; (focus omega); intro z4b)); (try (refine cutp (p := w3.heap.size < w4.heap.size) ?_ ?_; (focus omega); intro z4c)); (try (refine cutp (p := w3.heap.size + 1 < w4.heap.size) ?_ ?_; (focus omega); intro z4d)); (try (refine qat_then hq4.out (w2.heap.size) ?_ n2 ?_; (focus (first | omega | (simp; done) | (simp; omega))); intro u4)); (try (refine qat_then hq4.out (w2.heap.size + 1) ?_ n2' ?_; (focus (first | omega | (simp; done) | (simp; omega))); intro v4)); (try (refine qat_then hq4.out (w3.heap.size) ?_ n3 ?_; (focus (first | omega | (simp; done) | (simp; omega))); intro x4)); (try (refine qat_then hq4.out (w3.heap.size + 1) ?_ n3' ?_; (focus (first | omega | (simp; done) | (simp; omega))); intro y4)); have i4 : (0 : Int) ≤ (j4 : Int) := Int.natCast_nonneg _; have k4 : (j4 : Int) < 4 := (by omega); have pa4 := lvA_pick hj4; have pb4 := lvB_pick hj4; have n4 : w4.heap.size ≠ B := (by have := hs4.lt; omega))
      | (go_at_call 69; (refine (nextL (w := w) B A n c zs hn ?_ ?_).mono ?_; (first | exact src_drew HS2.out | exact src_drew (HS2.out.alloc _) | exact src_drew ((HS2.out.alloc _).alloc _)); (first | exact grown_drew hG2 | exact grown_drew (grown_alloc hG2 _) | exact grown_drew (grown_alloc (grown_alloc hG2 _) _)); rintro e w3 ⟨j3, hj3, rfl, hs3, hG3, hq3, hz3⟩; (try simp at hz3); (try (refine cutp (p := w2.heap.size < w3.heap.size) ?_ ?_; (focus omega); intro z3a)); (try (refine cutp (p := w2.heap.size + 1 < w3.heap.size) ?_ ?_; (focus omega); intro z3b)); (try (refine qat_then hq3.out (w2.heap.size) ?_ n2 ?_; (focus (first | omega | (simp; done) | (simp; omega))); intro u3)); (try (refine qat_then hq3.out (w2.heap.size + 1) ?_ n2' ?_; (focus (first | omega | (simp; done) | (simp; omega))); intro v3)); have i3 : (0 : Int) ≤ (j3 : Int) := Int.natCast_nonneg _; have k3 : (j3 : Int) < 4 := (by omega); have pa3 := lvA_pick hj3; have pb3 := lvB_pick hj3; have n3 : w3.heap.size ≠ B := (by have := hs3.lt; omega); have n3' : w3.heap.size + 1 ≠ B := (by have := hs3.lt; omega))))
    all_goals go_wp2_with fail
    all_goals go_ret2
    all_goals (first | exact ⟨_, _, rfl, hs4, hG4⟩ | exact ⟨_, _, rfl, hs4.alloc _, grown_alloc hG4 _⟩ | exact ⟨_, _, rfl, (hs4.alloc _).alloc _, grown_alloc (grown_alloc hG4 _) _⟩)
end Go.Proofs.Ytgchbajhceddnaa
