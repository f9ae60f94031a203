/- Slices of int64: how they read and are owned. No condition. -/
import Derived.Test.YtiofjnohdmminaaNum
import Derived.LoopTactic
import Derived.Laws.OwnMore
import Derived.Deep.AppendLies
import Derived.Deep.OwnRows
set_option linter.unusedVariables false
set_option maxRecDepth 100000
namespace Go.Proofs.Ytiofjnohdmminaa
open Go.ChangeShapes Go.WideShapes Go.ChangeAt Go.RowKit Go.Joins Go.Deep

/-- The slice value '.slice A n c' reads as the integers zs. -/
def Ints (w : World) (A : Option Addr) (n : Nat) (zs : List Int) : Prop :=
  zs.length = n ∧ (∀ z ∈ zs, I64 z) ∧ (0 < n → ∃ b o, A = some ⟨b, o, none⟩ ∧ b < w.heap.size ∧ ∀ k z, zs[k]? = some z → w.cell? ⟨b, o + k, none⟩ = some (.int .i64 z))
/-- The slice value '.slice A n c' owns the integers zs, in a block from B on. -/
def Own (w : World) (B : Nat) (A : Option Addr) (n c : Nat) (zs : List Int) : Prop :=
  w.ownsRow B 2 1 (.slice A n c) n (zs.map (Value.int .i64)) ∧ ∀ z ∈ zs, I64 z
/-- A call returns a slice of its own that reads as zs, and leaves what was there. -/
def RetInts (w : World) (zs : List Int) (e : Ending) (w' : World) : Prop :=
  ∃ A c, e = .returned (.slice A zs.length c) ∧ Own w' w.heap.size A zs.length c zs ∧ Below w.heap.size w w'

section
variable {w w' : World} {A : Option Addr} {n c B g : Nat} {zs : List Int}
theorem Ints.len (h : Ints w A n zs) : zs.length = n := h.1
theorem Ints.at_ (h : Ints w A n zs) {k : Nat} (hk : k < n) : ∃ b o z, A = some ⟨b, o, none⟩ ∧ b < w.heap.size ∧ zs[k]? = some z ∧ I64 z ∧ w.cell? ⟨b, o + k, none⟩ = some (.int .i64 z) := by
  obtain ⟨b, o, e, hb, hc⟩ := h.2.2 (by omega)
  have hz : zs[k]? = some (zs[k]'(by have := h.1; omega)) := List.getElem?_eq_getElem _
  exact ⟨b, o, _, e, hb, hz, h.2.1 _ (List.getElem_mem _), hc k _ hz⟩
theorem Ints.keep (h : Ints w A n zs) (hs : w.heap.size ≤ w'.heap.size) (hk : ∀ b o, A = some ⟨b, o, none⟩ → ∀ i, w'.cell? ⟨b, o + i, none⟩ = w.cell? ⟨b, o + i, none⟩) : Ints w' A n zs :=
  ⟨h.1, h.2.1, fun hn => by
    obtain ⟨b, o, e, hb, hc⟩ := h.2.2 hn
    exact ⟨b, o, e, by omega, fun k z hz => (hk b o e k).trans (hc k z hz)⟩⟩
theorem Ints.below (h : Ints w A n zs) (hb : Below w.heap.size w w') : Ints w' A n zs :=
  ⟨h.1, h.2.1, fun hn => by
    obtain ⟨b, o, e, hlt, hc⟩ := h.2.2 hn
    exact ⟨b, o, e, Nat.lt_of_lt_of_le hlt hb.size, fun k z hz => (hb.cell (p := ⟨b, o + k, none⟩) hlt).trans (hc k z hz)⟩⟩
theorem Ints.alloc (h : Ints w A n zs) (o : Obj) : Ints (w.alloc o) A n zs := h.below ((Below.refl _ _).alloc (Nat.le_refl _) _)
theorem Ints.drewN (h : Ints w A n zs) (k : Nat) : Ints (w.drewN k) A n zs := h
theorem Ints.drew (h : Ints w A n zs) : Ints w.drew A n zs := h
theorem Ints.qt (h : Ints w A n zs) (hq : Qt w w') : Ints w' A n zs := by
  obtain ⟨m, rfl⟩ := hq
  exact h
theorem Own.len (h : Own w B A n c zs) : zs.length = n := by have := h.1.1; simpa using this
theorem Own.form (h : Own w B A n c zs) (hn : 0 < n) : ∃ g, A = some ⟨g, 0, none⟩ ∧ B ≤ g ∧ g < w.heap.size := by
  obtain ⟨g, cap, hv, hb, hlt⟩ := h.1.form hn
  have hA : A = some ⟨g, 0, none⟩ := by injection hv
  exact ⟨g, hA, hb, hlt⟩
theorem Own.ints (h : Own w B A n c zs) : Ints w A n zs := by
  refine ⟨h.len, h.2, fun hn => ?_⟩
  obtain ⟨g, rfl, _, hlt⟩ := h.form hn
  refine ⟨g, 0, rfl, hlt, fun k z hz => ?_⟩
  have hk : k < n := by
    have := (List.getElem?_eq_some_iff.1 hz).1
    have := h.len
    omega
  rw [Nat.zero_add, h.1.cellAt k (by omega)]
  simp [hz]
theorem Own.at_ (h : Own w B A n c zs) {k : Nat} (hk : k < n) : ∃ g z, A = some ⟨g, 0, none⟩ ∧ B ≤ g ∧ g < w.heap.size ∧ zs[k]? = some z ∧ I64 z ∧ w.cell? ⟨g, k, none⟩ = some (.int .i64 z) ∧ w.frozen? ⟨g, k, none⟩ = false := by
  obtain ⟨g, rfl, hb, hlt⟩ := h.form (by omega)
  have hz : zs[k]? = some (zs[k]'(by have := h.len; omega)) := List.getElem?_eq_getElem _
  refine ⟨g, _, rfl, hb, hlt, hz, h.2 _ (List.getElem_mem _), ?_, h.1.frozenAt k⟩
  rw [h.1.cellAt k (by omega)]
  simp [hz]
theorem Own.set_ (h : Own w B (some ⟨g, 0, none⟩) n c zs) (k : Nat) {z : Int} (hz : I64 z) : Own (w.setCell ⟨g, k, none⟩ (.int .i64 z)) B (some ⟨g, 0, none⟩) n c (zs.set k z) := by
  refine ⟨?_, fun y hy => ?_⟩
  · have := (h.1.stored k (.int .i64 z)).1
    rwa [List.map_set]
  · rcases List.mem_or_eq_of_mem_set hy with hy | rfl
    · exact h.2 y hy
    · exact hz
theorem Own.below (h : Own w B A n c zs) (hb : Below w.heap.size w w') : Own w' B A n c zs :=
  ⟨h.1.kept (row := none) ⟨hb.os, hb.tape, hb.output, hb.size, fun k hk _ => hb.block k hk⟩ (by
    cases A <;> simp [Value.ownBlock]), h.2⟩
theorem Own.grown {row : Option Nat} (h : Own w B A n c zs) (hg : w.grownBy w' row) (hne : ∀ g, A = some ⟨g, 0, none⟩ → row ≠ some g) : Own w' B A n c zs :=
  ⟨h.1.kept hg (by
    rcases A with _ | ⟨b, o, s⟩
    · exact .inl rfl
    · right
      rcases h.1.2 with ⟨e, _⟩ | ⟨g, cap, cur, e, _⟩
      · cases e
      · have : (some ⟨b, o, s⟩ : Option Addr) = some ⟨g, 0, none⟩ := by injection e
        injection this with this
        injection this with h1 h2 h3
        subst h1 h2 h3
        exact fun hh => hne b rfl hh.symm), h.2⟩
theorem Own.alloc (h : Own w B A n c zs) (o : Obj) : Own (w.alloc o) B A n c zs := h.below ((Below.refl _ _).alloc (Nat.le_refl _) _)
theorem Own.drewN (h : Own w B A n c zs) (k : Nat) : Own (w.drewN k) B A n c zs := h
theorem Own.drew (h : Own w B A n c zs) : Own w.drew B A n c zs := h
theorem Own.qt (h : Own w B A n c zs) (hq : Qt w w') : Own w' B A n c zs := by
  obtain ⟨m, rfl⟩ := hq
  exact h
theorem Own.mono {B' : Nat} (h : Own w B A n c zs) (hB : B' ≤ B) : Own w B' A n c zs := ⟨ownsRow_le h.1 hB, h.2⟩
end
theorem Own.lt {w : World} {B : Nat} {A : Option Addr} {n c : Nat} {zs : List Int} (h : Own w B A n c zs) (g : Nat) (hg : A.map (·.block) = some g) : B ≤ g ∧ g < w.heap.size := by
  refine h.1.lt g ?_
  cases A with
  | none => cases hg
  | some a => exact hg
/-- A row that was made later lies in another block. -/
theorem own_apart {w w' : World} {B B' : Nat} {A A' : Option Addr} {n c n' c' : Nat} {zs zs' : List Int} (h : Own w B A n c zs) (h' : Own w' B' A' n' c' zs') (hB : w.heap.size ≤ B') :
    (∀ g, A' = some ⟨g, 0, none⟩ → A.map (·.block) ≠ some g) ∧ (∀ g, A = some ⟨g, 0, none⟩ → A'.map (·.block) ≠ some g) := by
  refine ⟨fun g hg hh => ?_, fun g hg hh => ?_⟩
  · have h1 := (h.lt g hh).2
    have h2 := (h'.lt g (by rw [hg]; rfl)).1
    omega
  · have h1 := (h.lt g (by rw [hg]; rfl)).2
    have h2 := (h'.lt g hh).1
    omega
theorem own_ge {w : World} {B B' : Nat} {A : Option Addr} {n c : Nat} {zs : List Int} (h : Own w B A n c zs) (hB : B' ≤ B) : ∀ g, A.map (·.block) = some g → B' ≤ g :=
  fun g hg => Nat.le_trans hB (h.lt g hg).1
theorem I64.zero : I64 0 := rfl

section
variable {H : Type} {enc : TypeId × Value → H} {W : World} {base : Nat} {v : Value} {d : DataW H} {p : List MemPlace}
theorem rd_ints {fuel : Nat} {v : Value} {y : DataW H × List MemPlace} (h : DataW.trod enc Try.prog W 0 (fun _ => true) true fuel 36 [v] = some y) :
    ∃ A n c zs, v = .slice A n c ∧ Ints W A n zs ∧ n ≤ c ∧ c ≤ maxLen := by
  rcases open_ints Try.underlying36 Try.underlying2 (by kernel_rfl) h with ⟨hcs, _⟩ | ⟨x, l, c, zs, hcs, _, hl, hm, hz, hx, hcell, hwz⟩
  · simp at hcs
    subst hcs
    exact ⟨none, 0, 0, [], rfl, ⟨rfl, (fun z hz => absurd hz List.not_mem_nil), fun h => absurd h (by omega)⟩, by omega, by unfold maxLen; omega⟩
  · simp at hcs
    subst hcs
    have hzl : zs.length = c := by simpa using hz
    refine ⟨some x, l, c, zs.take l, rfl, ⟨by simp; omega, fun z hz => hwz z (List.mem_of_mem_take hz), fun hn => ?_⟩, hl, hm⟩
    obtain ⟨b, off, spot⟩ := x
    have h0 := hcell 0 (by omega)
    have hspot : spot = none := by simpa [Addr.add] using World.cell?_spot h0
    subst hspot
    have hbl := World.block_lt_of_cell? W _ h0
    refine ⟨b, off, rfl, by simpa [Addr.add] using hbl, fun k z hk => ?_⟩
    obtain ⟨hk1, hk2⟩ := List.getElem?_eq_some_iff.1 hk
    have hkl : k < zs.length := by simp at hk1; omega
    have hc := hcell k hkl
    rw [List.getElem_take] at hk2
    subst hk2
    by_cases h0 : k = 0
    · subst h0
      simpa [Addr.add, List.getElem?_eq_getElem hkl] using hc
    · simpa [Addr.add, h0, List.getElem?_eq_getElem hkl] using hc
theorem opn_ints (hv : Value.okWide Try.prog W .any base 36 v) (h : DataW.Trod enc Try.prog W 0 (fun _ => true) true 36 v d p) (_lt : ∀ x ∈ p, x.block < W.heap.size) :
    ∃ A n c zs, v = .slice A n c ∧ Ints W A n zs ∧ n ≤ c ∧ c ≤ maxLen := by
  obtain ⟨a0, len0, cap0, rfl⟩ := okWide_slice Try.underlying36 hv
  obtain ⟨fuel, hf⟩ := h
  exact rd_ints (y := (d, p)) (by simpa [Value.cells] using hf)
end
end Go.Proofs.Ytiofjnohdmminaa
