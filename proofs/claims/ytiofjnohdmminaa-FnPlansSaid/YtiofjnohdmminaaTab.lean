/- The reference's table of least costs. No condition. -/
import Derived.Test.YtiofjnohdmminaaPlanV
import Derived.Test.YtiofjnohdmminaaBox1
set_option linter.unusedVariables false
set_option maxRecDepth 100000
namespace Go.Proofs.Ytiofjnohdmminaa
open Go.ChangeShapes Go.WideShapes Go.ChangeAt Go.RowKit Go.Joins Go.Deep

/-- A row of 98 numbers for each hour. -/
structure Tab (w : World) (B tb n1 : Nat) (bk : Nat → Nat) (row : Nat → List Int) : Prop where
  cell : ∀ k, k < n1 → w.cell? ⟨tb, k, none⟩ = some (.slice (some ⟨bk k, 0, none⟩) 98 98)
  own : ∀ k, k < n1 → Own w B (some ⟨bk k, 0, none⟩) 98 98 (row k)
  inj : ∀ i j, i < n1 → j < n1 → bk i = bk j → i = j
theorem Own.set1' {w : World} {B g n c : Nat} {zs : List Int} (h : Own w B (some ⟨g, 0, none⟩) n c zs) (k : Nat) {z : Int} (hz : I64 z) : Own (w.setCell ⟨g, k, none⟩ (.int .i64 z)) B (some ⟨g, 0, none⟩) n c (zs.set k z) ∧ w.grownBy (w.setCell ⟨g, k, none⟩ (.int .i64 z)) (some g) :=
  ⟨h.set_ k hz, (h.1.stored k (.int .i64 z)).2⟩
section
variable {w w' : World} {B tb n1 : Nat} {bk : Nat → Nat} {row : Nat → List Int}
theorem Tab.apart (h : Tab w B tb n1 bk row) {k : Nat} (hk : k < n1) : bk k ≠ tb := by
  intro e
  obtain ⟨g, z, hg, _, _, _, _, hc, _⟩ := (h.own k hk).at_ (show 0 < 98 by omega)
  obtain rfl : bk k = g := by injection hg with hg; injection hg
  rw [e, h.cell 0 (by omega)] at hc
  cases hc
theorem Tab.lt (h : Tab w B tb n1 bk row) (h0 : 0 < n1) : tb < w.heap.size := World.block_lt_of_cell? w _ (h.cell 0 h0)
theorem Tab.row_lt (h : Tab w B tb n1 bk row) {k : Nat} (hk : k < n1) : B ≤ bk k ∧ bk k < w.heap.size := by
  obtain ⟨g, hg, h1, h2⟩ := (h.own k hk).form (by omega)
  obtain rfl : bk k = g := by injection hg with hg; injection hg
  exact ⟨h1, h2⟩
theorem Tab.below (h : Tab w B tb n1 bk row) (hb : Below w.heap.size w w') : Tab w' B tb n1 bk row :=
  ⟨fun k hk => (hb.cell (p := ⟨tb, k, none⟩) (h.lt (by omega))).trans (h.cell k hk), fun k hk => (h.own k hk).below hb, h.inj⟩
theorem Tab.grown {g : Nat} (h : Tab w B tb n1 bk row) (hg : w.grownBy w' (some g)) (h1 : g ≠ tb) (h2 : ∀ k, k < n1 → bk k ≠ g) : Tab w' B tb n1 bk row :=
  ⟨fun k hk => by
    rw [← h.cell k hk]
    exact World.cell?_of_block (hg.block tb (h.lt (by omega)) (fun e => by injection e with e; exact h1 e.symm)), fun k hk => (h.own k hk).grown hg (fun g' e e2 => by injection e with e; injection e with e; injection e2 with e2; exact h2 k hk (e.trans e2.symm)), h.inj⟩
theorem Tab.set (h : Tab w B tb n1 bk row) {k i : Nat} (hk : k < n1) {z : Int} (hz : I64 z) :
    Tab (w.setCell ⟨bk k, i, none⟩ (.int .i64 z)) B tb n1 bk (fun q => if q = k then (row k).set i z else row q) := by
  obtain ⟨h1, h2⟩ := (h.own k hk).set1' i hz
  refine ⟨fun q hq => ?_, fun q hq => ?_, h.inj⟩
  · rw [← h.cell q hq]
    exact World.cell?_of_block (h2.block tb (h.lt (by omega)) (fun e => by injection e with e; exact h.apart hk e.symm))
  · by_cases e : q = k
    · subst e
      simp only [if_true]
      exact h1
    · simp only [if_neg e]
      exact (h.own q hq).grown h2 (fun g' e1 e2 => by injection e1 with e1; injection e1 with e1; injection e2 with e2; exact e (h.inj q k hq hk (e1.trans e2.symm)))
/-- A number of a row: where it lies. -/
theorem Tab.num (h : Tab w B tb n1 bk row) {k i : Nat} (hk : k < n1) (hi : i < 98) {z : Int} (hz : (row k)[i]? = some z) : w.cell? ⟨bk k, i, none⟩ = some (.int .i64 z) ∧ w.frozen? ⟨bk k, i, none⟩ = false := by
  obtain ⟨g, z', hg, _, _, hz', _, hc, hf⟩ := (h.own k hk).at_ hi
  obtain rfl : bk k = g := by injection hg with hg; injection hg
  obtain rfl : z' = z := Option.some.inj (hz'.symm.trans hz)
  exact ⟨hc, hf⟩
end
/-- A row holds the least costs of the hours l. -/
def Good (s u d : Int) (l : List (Int × Int)) (r : List Int) : Prop := ∀ on run : Int, St on run → r[(2 * run + on).toNat]? = some (VS (lst s u d (fun _ => 48) l on run))
/-- .. of the states that come before the state st for rn hours. -/
def Upto (s u d : Int) (l : List (Int × Int)) (st rn : Int) (r : List Int) : Prop := ∀ on run : Int, St on run → (on < st ∨ on = st ∧ run < rn) → r[(2 * run + on).toNat]? = some (VS (lst s u d (fun _ => 48) l on run))
section
variable {s u d : Int} {l : List (Int × Int)} {r : List Int}
theorem upto_zero : Upto s u d l 0 1 r := by
  rintro on run ⟨h1, h2, h3⟩ h
  omega
theorem upto_next {st : Int} (h : Upto s u d l st 49 r) : Upto s u d l (st + 1) 1 r := by
  rintro on run hs h'
  refine h on run hs ?_
  obtain ⟨h1, h2, h3⟩ := hs
  omega
theorem upto_good (h : Upto s u d l 2 1 r) : Good s u d l r := by
  rintro on run hs
  refine h on run hs ?_
  obtain ⟨h1, h2, h3⟩ := hs
  omega
theorem upto_set {st rn : Int} (hl : r.length = 98) (hs : St st rn) (h : Upto s u d l st rn r) : Upto s u d l st (rn + 1) (r.set (2 * rn + st).toNat (VS (lst s u d (fun _ => 48) l st rn))) := by
  rintro on run hs' h'
  obtain ⟨h1, h2, h3⟩ := hs
  obtain ⟨k1, k2, k3⟩ := hs'
  by_cases e : on = st ∧ run = rn
  · obtain ⟨rfl, rfl⟩ := e
    rw [List.getElem?_set_self (by omega)]
  · rw [List.getElem?_set_ne (by omega)]
    exact h on run ⟨k1, k2, k3⟩ (by omega)
theorem good_end (h : ∀ i, i < 98 → r[i]? = some 0) : Good s u d [] r := by
  rintro on run ⟨h1, h2, h3⟩
  rw [h _ (by omega)]
  rfl
end
end Go.Proofs.Ytiofjnohdmminaa
