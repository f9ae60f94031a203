/- The library's functions on slices of int64 (Sort, BinarySearch, Clone, Contains, Equal), in the words of this seat. Conditions: lengths of at most 1048576. -/
import Derived.Test.YtoijogaogheciaaPushA
import Derived.Shelf.SortM.Plain
import Derived.Shelf.SortM.SortNone
import Derived.Sort.OwnSortedInts
import Derived.Ground.SlgmProg
import Derived.Shelf.SlicesG.SearchI
import Derived.Shelf.SlicesG.Clone
import Derived.Shelf.SlicesG.Equal
import Derived.Shelf.SlicesG.Turned
import Derived.Ground.SlgnProg
set_option linter.unusedVariables false
set_option maxRecDepth 100000
namespace Go.Proofs.Ytoijogaogheciaa
open Go.ChangeShapes Go.WideShapes Go.ChangeAt Go.RowKit Go.Joins Go.Deep Go.Sort Go.Shelf

shelf_lay_g SlLaysM.n5 Slgm 5 at Try 118 as Try.sortL
theorem sort_own {w : World} {B : Nat} {A : Option Addr} {n c : Nat} {zs : List Int} (h : Own w B A n c zs) (hn : n ≤ 1048576) :
    Calls Try.prog 118 #[.slice A n c] w fun e w' => e = .returned (.tuple #[]) ∧ Own w' B A n c (zs.mergeSort fun x y => decide (x ≤ y)) ∧ w.grownBy w' (A.map (·.block)) := by
  have hl := h.len
  by_cases h0 : n = 0
  · subst h0
    have hz : zs = [] := List.eq_nil_of_length_eq_zero hl
    subst hz
    refine (AnyM.slices_Sort_int_none Try.sortL A c w).mono ?_
    rintro e w' ⟨rfl, rfl⟩
    exact ⟨rfl, by simpa using h, ⟨rfl, rfl, rfl, Nat.le_refl _, fun _ _ _ => rfl⟩⟩
  · obtain ⟨g, rfl, hBg, hgl⟩ := h.form (by omega)
    rcases h.1.2 with ⟨e0, _⟩ | ⟨g', cap', cur, e0, hb, hg, hnc, hm, hs, ht⟩
    · cases e0
    · injection e0 with e1 _ e3
      injection e1 with e1
      injection e1 with e1
      subst e1; subst e3
      subst hl
      have ht' : cur.toList.take zs.length = zs.map (Value.int .i64) := by rw [Nat.mul_one] at ht; exact ht
      refine (AnyM.slices_Sort_int Try.sortL g 0 c zs w (holds_of_blockI hg ht') hgl (by omega)).mono ?_
      rintro e w' ⟨rfl, q, os, rfl⟩
      have hlen : (zs.mergeSort fun x y => decide (x ≤ y)).length = zs.length := List.length_mergeSort _
      refine ⟨rfl, ⟨?_, fun z hz => h.2 z ((List.mergeSort_perm _ _).mem_iff.1 hz)⟩, grownBy_sortedI _⟩
      exact ownsRow_sortedI hlen hBg hg hnc hm hs
theorem ints_getD {w : World} {b o n : Nat} {zs : List Int} (h : Ints w (some ⟨b, o, none⟩) n zs) (hn : 0 < n) : ∀ j, j < zs.length → w.cell? ⟨b, o + j, none⟩ = some (.int .i64 (zs.getD j 0)) := by
  intro j hj
  obtain ⟨b', o', e, _, hc⟩ := h.2.2 hn
  injection e with e
  injection e with e1 e2
  subst e1 e2
  rw [hc j (zs[j]) (List.getElem?_eq_getElem hj)]
  simp [List.getD, hj]
shelf_lay_g SlLaysN.n49 Slgn 49 at Try 119 as Try.binL
theorem bin_any {w : World} {A : Option Addr} {n c : Nat} {zs : List Int} (x : Int) (h : Ints w A n zs) (hn0 : 0 < n) (hn : n ≤ 1048576) (hs : zs.Pairwise (· ≤ ·)) :
    Calls Try.prog 119 #[.slice A n c, .int .i64 x] w fun e w' => e = .returned (.tuple #[.int .i64 ((zs.countP (· < x) : Nat) : Int), .bool (zs.contains x)]) ∧ Qt w w' := by
  obtain ⟨b, o, rfl, hb, _⟩ := h.2.2 hn0
  have hl := h.len
  have e : zs.take n = zs := List.take_of_length_le (by omega)
  refine (AnyG.slices_BinarySearch_int Try.binL b o n c zs x w (by omega) (by omega) (ints_getD h hn0) (by rw [e]; exact hs)).mono ?_
  rintro e4 w' ⟨rfl, q, rfl⟩
  rw [e]
  exact ⟨rfl, q, rfl⟩
end Go.Proofs.Ytoijogaogheciaa
