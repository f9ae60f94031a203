/- Small laws on worlds, slices and arguments, shared by the walks of this seat. No condition. What within and l01In do, by walks over their text. No condition but that the arguments are integers. Slices of int64: how they read and are owned. No condition. What toInt64S, eqInt64S, markInt64S, heldInt64S do, by walks over their text. Conditions: lengths of at most 1048576. One number appended to a slice of int64 that the call itself made. Condition: a length of at most 2^40. Slices of structs of one-cell fields: how they read and are owned. No condition. What the tests of lists of numbers (allWithin, l15Bits, l15Costs, areHours, l15Hours) do, by walks over their text. Conditions: lengths of at most 1048576. The empty slice of int64. No condition. Slices of nodes and of pipes, networks: how they read. No condition but that the numbers fit their kind. What toNode, toNodeS, eqNode, eqNodeS and their likes for pipes do, by walks over their text. Conditions: lengths of at most 1048576. What szNode, szNodeS, szPipeS, szNetwork, toNetwork, eqNetwork do, by walks over their text. Conditions: lengths of at most 1048576, but for the sz. Names of nodes: what isName and l02Name do, by walks over their text. No condition but that the string fits in memory. What IsNode, nodeIndex, IsNetwork of the program and of the reference do, by walks over their text. No condition but that the numbers fit their kind. What nodeIndex, isNodeOf, l02Pipe, IsNetwork of the program and of the reference do, by walks over their text. No condition but that the numbers fit their kind. What IsNetwork of the program does, by a walk over its text. No condition but that the numbers fit their kind. What IsNetwork of the reference does, by a walk over its text. No condition but that the numbers fit their kind. Networks as arguments: how they read, and what a call that returns one gives. No condition. Structs appended to slices of the call's own, whole slices copied. Condition: lengths of at most 2^40. A block of memory that is known whole. No condition. Where rows lie. No condition. What markText, markNodeS, markPipeS, markNetwork, heldNodeS, heldPipeS, heldNetwork do, by walks over their text. Conditions: lengths of at most 1048576. Where rows lie; marks that begin with 1. Conditions: lengths of at most 1048576. What the tests of flow lists, supplies, levels and their codes do, by walks over their text. Conditions: lengths of at most 1048576. -/
import Derived.Test.YtpgegfnhokhlmaaProg
import Derived.WalkKit
import Derived.WalkLawsBesides
import Derived.WalkSpells
import Derived.ProofKit
import Derived.OpenShut
import Derived.Outline
import Derived.Below
import Derived.Lib.Hide
import Derived.Lib.SmallJoins
import Derived.Deep.RegionHeld3
import Derived.Deep.DrawnRows
import Derived.Deep.QuietTactic
import Derived.BigQuiet
import Derived.LoopTactic
import Derived.Laws.OwnMore
import Derived.Deep.AppendLies
import Derived.Deep.OwnRows
import Derived.OwnWalk
import Derived.Deep.Slices
import Derived.Deep.RegionWith
import Derived.Laws.AppendOwnNone
import Derived.RowKit3
import Derived.Laws.BytesArg
set_option linter.unusedVariables false
set_option maxRecDepth 100000
namespace Go.Proofs.Ytpgegfnhokhlmaa
open Go.ChangeShapes Go.WideShapes Go.ChangeAt Go.RowKit Go.Joins Go.Deep

/-- A test that fails, or holds and the rest follows. -/
theorem orP {p r : Prop} (h : r) : ¬ p ∨ p ∧ r := by
  by_cases hp : p
  · exact .inr ⟨hp, h⟩
  · exact .inl hp
theorem orB {a : Bool} {r : Prop} (h : r) : a = false ∨ a = true ∧ r := by
  cases a
  · exact .inl rfl
  · exact .inr ⟨rfl, h⟩

/-- A fact that no tactic takes apart. -/
structure Kept (p : Prop) : Prop where
  out : p
theorem bcell {W w1 : World} (hb : Below W.heap.size W w1) : (∀ b o, b < W.heap.size → w1.cell? ⟨b, o, none⟩ = W.cell? ⟨b, o, none⟩) ∧ (∀ b o, b < W.heap.size → w1.frozen? ⟨b, o, none⟩ = W.frozen? ⟨b, o, none⟩) :=
  ⟨fun b o h => hb.cell (p := ⟨b, o, none⟩) h, fun b o h => hb.frozen (p := ⟨b, o, none⟩) h⟩
/-- One call behind another. -/
theorem bthen {B : Nat} {w w1 w2 : World} (h : Below B w w1) (k : Below w1.heap.size w1 w2) (hB : B ≤ w1.heap.size) : Below B w w2 := h.trans (k.mono hB)

theorem ri {a b : Int} (h : a = b) : Ending.returned (.int .i64 a) = .returned (.int .i64 b) := by rw [h]
theorem rb {a b : Bool} (h : a = b) : Ending.returned (.bool a) = .returned (.bool b) := by rw [h]
theorem ri2 {a b c d : Int} (h : a = b) (k : c = d) : Ending.returned (.tuple #[.int .i64 a, .int .i64 c]) = .returned (.tuple #[.int .i64 b, .int .i64 d]) := by rw [h, k]
theorem ri3 {a b c d x y : Int} (h : a = b) (k : c = d) (m : x = y) : Ending.returned (.tuple #[.int .i64 a, .int .i64 c, .int .i64 x]) = .returned (.tuple #[.int .i64 b, .int .i64 d, .int .i64 y]) := by rw [h, k, m]
theorem below_drewN {B : Nat} {a w : World} (h : Below B a w) (n : Nat) : Below B a (w.drewN n) := ⟨h.os, h.tape, h.output, h.size, h.block⟩
/-- Only draws lie between the two worlds. -/
def Qt (w w' : World) : Prop := ∃ m, w' = w.drewN m
theorem Qt.refl (w : World) : Qt w w := ⟨0, rfl⟩
theorem Qt.drewN {w w' : World} (h : Qt w w') (n : Nat) : Qt w (w'.drewN n) := by
  obtain ⟨m, rfl⟩ := h
  exact ⟨m + n, by rw [World.drewN_drewN]⟩
theorem Qt.trans {a b c : World} (h : Qt a b) (k : Qt b c) : Qt a c := by
  obtain ⟨n, rfl⟩ := k
  exact h.drewN n
theorem Qt.below {w w' : World} (h : Qt w w') (B : Nat) : Below B w w' := by
  obtain ⟨m, rfl⟩ := h
  exact below_drewN (Below.refl _ _) m
theorem Qt.cell {w w' : World} (h : Qt w w') (p : Addr) : w'.cell? p = w.cell? p := by
  obtain ⟨m, rfl⟩ := h
  rfl

def I64 (a : Int) : Prop := (Lit.int .i64 a).wf = true
theorem I64.lo {a : Int} (h : I64 a) : -9223372036854775808 ≤ a := by
  have := bounds_i64 h; omega
theorem I64.hi {a : Int} (h : I64 a) : a ≤ 9223372036854775807 := by
  have := bounds_i64 h; omega

section
variable {H : Type} {enc : TypeId × Value → H} {W : World} {base : Nat} {v : Value} {d : DataW H} {p : List MemPlace}
theorem opn_i64 (hv : Value.okWide Try.prog W .any base 2 v) (h : DataW.Trod enc Try.prog W 0 (fun _ => true) true 2 v d p) (_lt : ∀ x ∈ p, x.block < W.heap.size) :
    ∃ a, v = .int .i64 a ∧ I64 a := by
  obtain ⟨x, rfl, rfl, rfl, wx⟩ := open_int Try.underlying2 hv h
  exact ⟨x, rfl, wx⟩
theorem fld_i64 {n : Nat} {v : Value} {y : DataW H × List MemPlace} (h : DataW.trod enc Try.prog W 0 (fun _ => true) true n 2 [v] = some y) : ∃ a, v = .int .i64 a ∧ I64 a := by
  obtain ⟨a, e0, rfl, wa⟩ := DataW.trod_int Try.underlying2 h
  simp at e0
  exact ⟨a, e0, wa⟩
/-- A struct of one-cell fields that came in by value: its cells, each with its reading. -/
theorem opn_fields {t : TypeId} {fs : Array Field} (hs : Try.prog.underlying t = some (.struct fs)) (hone : oneCellFields Try.prog fs = true) (hC : Try.prog.cellsOf t = fs.size)
    (hv : Value.okWide Try.prog W .any base t v) (h : DataW.Trod enc Try.prog W 0 (fun _ => true) true t v d p) :
    ∃ cs : List Value, v = .agg cs.toArray ∧ cs.length = fs.size ∧ ∀ (i : Nat) (f : Field) (c : Value), fs[i]? = some f → cs[i]? = some c →
      ∃ (n : Nat) (y : DataW H × List MemPlace), DataW.trod enc Try.prog W 0 (fun _ => true) true n f.type [c] = some y ∧ y.2 ⊆ p := by
  obtain ⟨⟨cs⟩, rfl, hsz⟩ := okWide_struct hs hv
  obtain ⟨fuel, hf⟩ := h
  obtain ⟨xs, n, _, hx, _, hlen, hg⟩ := DataW.trod_struct hs hf
  simp only [Prod.mk.injEq] at hx
  refine ⟨cs, rfl, by simpa [hC] using hsz, fun i f c hi hc => ?_⟩
  obtain ⟨ho, hk⟩ := hone_of hone i f hi
  have h1 := hg i f hi
  rw [ho, hk] at h1
  have hl : i < fs.size := (Array.getElem?_eq_some_iff.1 hi).1
  have hx' : xs[i]? = some xs[i] := List.getElem?_eq_getElem (by omega)
  rw [hx'] at h1
  have e : List.take 1 (List.drop i (Value.agg ⟨cs⟩).cells.toList) = [c] := by
    obtain ⟨hi', rfl⟩ := List.getElem?_eq_some_iff.1 hc
    show List.take 1 (List.drop i cs) = _
    rw [List.drop_eq_getElem_cons hi']
    rfl
  rw [e] at h1
  refine ⟨n, _, h1, ?_⟩
  rw [hx.2]
  intro q hq
  exact List.mem_flatMap.2 ⟨_, List.getElem_mem (by omega), hq⟩
end
end Go.Proofs.Ytpgegfnhokhlmaa
set_option linter.unusedVariables false
set_option maxRecDepth 100000
namespace Go.Proofs.Ytpgegfnhokhlmaa
open Go.RowKit

/-- 'lo ≤ n ≤ hi', as a Bool. -/
def inB (n lo hi : Int) : Bool := decide (lo ≤ n) && decide (n ≤ hi)
theorem inB_iff (n lo hi : Int) : inB n lo hi = true ↔ lo ≤ n ∧ n ≤ hi := by simp [inB]
theorem inB_no (n lo hi : Int) : inB n lo hi = false ↔ ¬ (lo ≤ n ∧ n ≤ hi) := by
  rw [← inB_iff]; simp

theorem within_any (n lo hi : Int) (w : World) :
    Calls Try.prog 32 #[.int .i64 n, .int .i64 lo, .int .i64 hi] w fun e w' => e = .returned (.bool (inB n lo hi)) ∧ w = w' := by
  by_cases h1 : lo ≤ n <;> by_cases h2 : n ≤ hi <;>
  · go_enter Try.func32, Try.ntmps32
    go_wp2
    go_ret
    exact ⟨by simp [inB, h1, h2], rfl⟩
theorem in_any (n lo hi : Int) (w : World) :
    Calls Try.prog 43 #[.int .i64 n, .int .i64 lo, .int .i64 hi] w fun e w' => e = .returned (.bool (inB n lo hi)) ∧ w = w' := by
  by_cases h1 : lo ≤ n <;> by_cases h2 : n ≤ hi <;>
  · go_enter Try.func43, Try.ntmps43
    go_wp2
    go_ret
    exact ⟨by simp [inB, h1, h2], rfl⟩
end Go.Proofs.Ytpgegfnhokhlmaa
set_option linter.unusedVariables false
set_option maxRecDepth 100000
namespace Go.Proofs.Ytpgegfnhokhlmaa
open Go.ChangeShapes Go.WideShapes Go.ChangeAt Go.RowKit Go.Joins Go.Deep

/-- The slice value '.slice A n c' reads as the integers zs. -/
def Ints (w : World) (A : Option Addr) (n : Nat) (zs : List Int) : Prop :=
  zs.length = n ∧ (∀ z ∈ zs, I64 z) ∧ (0 < n → ∃ b o, A = some ⟨b, o, none⟩ ∧ b < w.heap.size ∧ ∀ k z, zs[k]? = some z → w.cell? ⟨b, o + k, none⟩ = some (.int .i64 z))
/-- The slice value '.slice A n c' owns the integers zs, in a block from B on. -/
def Own (w : World) (B : Nat) (A : Option Addr) (n c : Nat) (zs : List Int) : Prop :=
  w.ownsRow B 2 1 (.slice A n c) n (zs.map (Value.int .i64)) ∧ ∀ z ∈ zs, I64 z
/-- A call returns a slice of its own that reads as zs, and leaves what was there. -/
def RetInts (w : World) (zs : List Int) (e : Ending) (w' : World) : Prop :=
  ∃ A c, e = .returned (.slice A zs.length c) ∧ Own w' w.heap.size A zs.length c zs ∧ Below w.heap.size w w'

section
variable {w w' : World} {A : Option Addr} {n c B g : Nat} {zs : List Int}
theorem Ints.len (h : Ints w A n zs) : zs.length = n := h.1
theorem Ints.at_ (h : Ints w A n zs) {k : Nat} (hk : k < n) : ∃ b o z, A = some ⟨b, o, none⟩ ∧ b < w.heap.size ∧ zs[k]? = some z ∧ I64 z ∧ w.cell? ⟨b, o + k, none⟩ = some (.int .i64 z) := by
  obtain ⟨b, o, e, hb, hc⟩ := h.2.2 (by omega)
  have hz : zs[k]? = some (zs[k]'(by have := h.1; omega)) := List.getElem?_eq_getElem _
  exact ⟨b, o, _, e, hb, hz, h.2.1 _ (List.getElem_mem _), hc k _ hz⟩
theorem Ints.keep (h : Ints w A n zs) (hs : w.heap.size ≤ w'.heap.size) (hk : ∀ b o, A = some ⟨b, o, none⟩ → ∀ i, w'.cell? ⟨b, o + i, none⟩ = w.cell? ⟨b, o + i, none⟩) : Ints w' A n zs :=
  ⟨h.1, h.2.1, fun hn => by
    obtain ⟨b, o, e, hb, hc⟩ := h.2.2 hn
    exact ⟨b, o, e, by omega, fun k z hz => (hk b o e k).trans (hc k z hz)⟩⟩
theorem Ints.below (h : Ints w A n zs) (hb : Below w.heap.size w w') : Ints w' A n zs :=
  ⟨h.1, h.2.1, fun hn => by
    obtain ⟨b, o, e, hlt, hc⟩ := h.2.2 hn
    exact ⟨b, o, e, Nat.lt_of_lt_of_le hlt hb.size, fun k z hz => (hb.cell (p := ⟨b, o + k, none⟩) hlt).trans (hc k z hz)⟩⟩
theorem Ints.alloc (h : Ints w A n zs) (o : Obj) : Ints (w.alloc o) A n zs := h.below ((Below.refl _ _).alloc (Nat.le_refl _) _)
theorem Ints.drewN (h : Ints w A n zs) (k : Nat) : Ints (w.drewN k) A n zs := h
theorem Ints.drew (h : Ints w A n zs) : Ints w.drew A n zs := h
theorem Ints.qt (h : Ints w A n zs) (hq : Qt w w') : Ints w' A n zs := by
  obtain ⟨m, rfl⟩ := hq
  exact h
theorem Own.len (h : Own w B A n c zs) : zs.length = n := by have := h.1.1; simpa using this
theorem Own.form (h : Own w B A n c zs) (hn : 0 < n) : ∃ g, A = some ⟨g, 0, none⟩ ∧ B ≤ g ∧ g < w.heap.size := by
  obtain ⟨g, cap, hv, hb, hlt⟩ := h.1.form hn
  have hA : A = some ⟨g, 0, none⟩ := by injection hv
  exact ⟨g, hA, hb, hlt⟩
theorem Own.ints (h : Own w B A n c zs) : Ints w A n zs := by
  refine ⟨h.len, h.2, fun hn => ?_⟩
  obtain ⟨g, rfl, _, hlt⟩ := h.form hn
  refine ⟨g, 0, rfl, hlt, fun k z hz => ?_⟩
  have hk : k < n := by
    have := (List.getElem?_eq_some_iff.1 hz).1
    have := h.len
    omega
  rw [Nat.zero_add, h.1.cellAt k (by omega)]
  simp [hz]
theorem Own.at_ (h : Own w B A n c zs) {k : Nat} (hk : k < n) : ∃ g z, A = some ⟨g, 0, none⟩ ∧ B ≤ g ∧ g < w.heap.size ∧ zs[k]? = some z ∧ I64 z ∧ w.cell? ⟨g, k, none⟩ = some (.int .i64 z) ∧ w.frozen? ⟨g, k, none⟩ = false := by
  obtain ⟨g, rfl, hb, hlt⟩ := h.form (by omega)
  have hz : zs[k]? = some (zs[k]'(by have := h.len; omega)) := List.getElem?_eq_getElem _
  refine ⟨g, _, rfl, hb, hlt, hz, h.2 _ (List.getElem_mem _), ?_, h.1.frozenAt k⟩
  rw [h.1.cellAt k (by omega)]
  simp [hz]
theorem Own.set_ (h : Own w B (some ⟨g, 0, none⟩) n c zs) (k : Nat) {z : Int} (hz : I64 z) : Own (w.setCell ⟨g, k, none⟩ (.int .i64 z)) B (some ⟨g, 0, none⟩) n c (zs.set k z) := by
  refine ⟨?_, fun y hy => ?_⟩
  · have := (h.1.stored k (.int .i64 z)).1
    rwa [List.map_set]
  · rcases List.mem_or_eq_of_mem_set hy with hy | rfl
    · exact h.2 y hy
    · exact hz
theorem Own.below (h : Own w B A n c zs) (hb : Below w.heap.size w w') : Own w' B A n c zs :=
  ⟨h.1.kept (row := none) ⟨hb.os, hb.tape, hb.output, hb.size, fun k hk _ => hb.block k hk⟩ (by
    cases A <;> simp [Value.ownBlock]), h.2⟩
theorem Own.grown {row : Option Nat} (h : Own w B A n c zs) (hg : w.grownBy w' row) (hne : ∀ g, A = some ⟨g, 0, none⟩ → row ≠ some g) : Own w' B A n c zs :=
  ⟨h.1.kept hg (by
    rcases A with _ | ⟨b, o, s⟩
    · exact .inl rfl
    · right
      rcases h.1.2 with ⟨e, _⟩ | ⟨g, cap, cur, e, _⟩
      · cases e
      · have : (some ⟨b, o, s⟩ : Option Addr) = some ⟨g, 0, none⟩ := by injection e
        injection this with this
        injection this with h1 h2 h3
        subst h1 h2 h3
        exact fun hh => hne b rfl hh.symm), h.2⟩
theorem Own.alloc (h : Own w B A n c zs) (o : Obj) : Own (w.alloc o) B A n c zs := h.below ((Below.refl _ _).alloc (Nat.le_refl _) _)
theorem Own.drewN (h : Own w B A n c zs) (k : Nat) : Own (w.drewN k) B A n c zs := h
theorem Own.drew (h : Own w B A n c zs) : Own w.drew B A n c zs := h
theorem Own.qt (h : Own w B A n c zs) (hq : Qt w w') : Own w' B A n c zs := by
  obtain ⟨m, rfl⟩ := hq
  exact h
theorem Own.mono {B' : Nat} (h : Own w B A n c zs) (hB : B' ≤ B) : Own w B' A n c zs := ⟨ownsRow_le h.1 hB, h.2⟩
end
theorem Own.lt {w : World} {B : Nat} {A : Option Addr} {n c : Nat} {zs : List Int} (h : Own w B A n c zs) (g : Nat) (hg : A.map (·.block) = some g) : B ≤ g ∧ g < w.heap.size := by
  refine h.1.lt g ?_
  cases A with
  | none => cases hg
  | some a => exact hg
/-- A row that was made later lies in another block. -/
theorem own_apart {w w' : World} {B B' : Nat} {A A' : Option Addr} {n c n' c' : Nat} {zs zs' : List Int} (h : Own w B A n c zs) (h' : Own w' B' A' n' c' zs') (hB : w.heap.size ≤ B') :
    (∀ g, A' = some ⟨g, 0, none⟩ → A.map (·.block) ≠ some g) ∧ (∀ g, A = some ⟨g, 0, none⟩ → A'.map (·.block) ≠ some g) := by
  refine ⟨fun g hg hh => ?_, fun g hg hh => ?_⟩
  · have h1 := (h.lt g hh).2
    have h2 := (h'.lt g (by rw [hg]; rfl)).1
    omega
  · have h1 := (h.lt g (by rw [hg]; rfl)).2
    have h2 := (h'.lt g hh).1
    omega
theorem own_ge {w : World} {B B' : Nat} {A : Option Addr} {n c : Nat} {zs : List Int} (h : Own w B A n c zs) (hB : B' ≤ B) : ∀ g, A.map (·.block) = some g → B' ≤ g :=
  fun g hg => Nat.le_trans hB (h.lt g hg).1
theorem I64.zero : I64 0 := rfl

section
variable {H : Type} {enc : TypeId × Value → H} {W : World} {base : Nat} {v : Value} {d : DataW H} {p : List MemPlace}
theorem rd_ints {fuel : Nat} {v : Value} {y : DataW H × List MemPlace} (h : DataW.trod enc Try.prog W 0 (fun _ => true) true fuel 27 [v] = some y) :
    ∃ A n c zs, v = .slice A n c ∧ Ints W A n zs ∧ n ≤ c ∧ c ≤ maxLen := by
  rcases open_ints Try.underlying27 Try.underlying2 (by kernel_rfl) h with ⟨hcs, _⟩ | ⟨x, l, c, zs, hcs, _, hl, hm, hz, hx, hcell, hwz⟩
  · simp at hcs
    subst hcs
    exact ⟨none, 0, 0, [], rfl, ⟨rfl, (fun z hz => absurd hz List.not_mem_nil), fun h => absurd h (by omega)⟩, by omega, by unfold maxLen; omega⟩
  · simp at hcs
    subst hcs
    have hzl : zs.length = c := by simpa using hz
    refine ⟨some x, l, c, zs.take l, rfl, ⟨by simp; omega, fun z hz => hwz z (List.mem_of_mem_take hz), fun hn => ?_⟩, hl, hm⟩
    obtain ⟨b, off, spot⟩ := x
    have h0 := hcell 0 (by omega)
    have hspot : spot = none := by simpa [Addr.add] using World.cell?_spot h0
    subst hspot
    have hbl := World.block_lt_of_cell? W _ h0
    refine ⟨b, off, rfl, by simpa [Addr.add] using hbl, fun k z hk => ?_⟩
    obtain ⟨hk1, hk2⟩ := List.getElem?_eq_some_iff.1 hk
    have hkl : k < zs.length := by simp at hk1; omega
    have hc := hcell k hkl
    rw [List.getElem_take] at hk2
    subst hk2
    by_cases h0 : k = 0
    · subst h0
      simpa [Addr.add, List.getElem?_eq_getElem hkl] using hc
    · simpa [Addr.add, h0, List.getElem?_eq_getElem hkl] using hc
theorem opn_ints (hv : Value.okWide Try.prog W .any base 27 v) (h : DataW.Trod enc Try.prog W 0 (fun _ => true) true 27 v d p) (_lt : ∀ x ∈ p, x.block < W.heap.size) :
    ∃ A n c zs, v = .slice A n c ∧ Ints W A n zs ∧ n ≤ c ∧ c ≤ maxLen := by
  obtain ⟨a0, len0, cap0, rfl⟩ := okWide_slice Try.underlying27 hv
  obtain ⟨fuel, hf⟩ := h
  exact rd_ints (y := (d, p)) (by simpa [Value.cells] using hf)
end
end Go.Proofs.Ytpgegfnhokhlmaa
set_option linter.unusedVariables false
set_option maxRecDepth 100000
namespace Go.Proofs.Ytpgegfnhokhlmaa
open Go.ChangeShapes Go.WideShapes Go.ChangeAt Go.RowKit Go.Joins Go.Deep

theorem info_i64 : (Try.prog.info? 2).map (fun i => (i.zero, i.size, i.bytes)) = some (some (.int .i64 0), 1, 8) := by kernel_rfl
theorem own_zeros (w : World) (n : Nat) (hn : n ≤ 1048576) : Own (w.alloc (.cells (madeCells #[.int .i64 0] n) 2)) w.heap.size (some ⟨w.heap.size, 0, none⟩) n n (List.replicate n 0) := by
  refine ⟨?_, fun z hz => by rw [(List.mem_replicate.1 hz).2]; exact I64.zero⟩
  have h := World.ownsRow_lit (base := w.heap.size) (e := 2) (size := 1) w (madeCells #[.int .i64 0] n) n (Nat.le_refl _) (by unfold maxLen; omega) (by simp [madeCells])
  have e : (madeCells #[.int .i64 0] n).toList = (List.replicate n (0 : Int)).map (Value.int .i64) := by
    apply List.ext_getElem?
    intro i
    by_cases hi : i < n <;> simp [madeCells, hi, Nat.mod_one]
  rwa [e] at h
theorem retInts_of {w w' : World} {A : Option Addr} {n c : Nat} {zs : List Int} (hl : zs.length = n) (ho : Own w' w.heap.size A n c zs) (hb : Below w.heap.size w w') : RetInts w zs (.returned (.slice A n c)) w' := by
  subst hl
  exact ⟨_, _, rfl, ho, hb⟩
theorem copy_step {zs : List Int} {n k : Nat} {z : Int} (hl : zs.length = n) (hk : k < n) (hz : zs[k]? = some z) :
    (zs.take k ++ List.replicate (n - k) 0).set k z = zs.take (k + 1) ++ List.replicate (n - (k + 1)) 0 := by
  obtain ⟨hk', rfl⟩ := List.getElem?_eq_some_iff.1 hz
  rw [List.set_append_right _ _ (by simp; omega), List.take_succ_eq_append_getElem hk', List.append_assoc]
  congr 1
  have e1 : k - (zs.take k).length = 0 := by simp; omega
  have e2 : n - k = (n - (k + 1)) + 1 := by omega
  rw [e1, e2, List.replicate_succ]
  rfl

theorem eq_take_succ {xs ys : List Int} {k : Nat} {z : Int} (h : xs.take k = ys.take k) (hx : xs[k]? = some z) (hy : ys[k]? = some z) : xs.take (k + 1) = ys.take (k + 1) := by
  rw [List.take_add_one, List.take_add_one, h, hx, hy]

set_option maxHeartbeats 1000000 in
theorem eqInts_any (A B : Option Addr) (n m c d : Nat) (xs ys : List Int) (w : World) (ha : Ints w A n xs) (hb : Ints w B m ys) (hn : n ≤ 1048576) :
    Calls Try.prog 8 #[.slice A n c, .slice B m d] w fun e w' => e = .returned (.bool (decide (xs = ys))) ∧ Qt w w' := by
  have hla := Lib.hid ha.len
  have hlb := Lib.hid hb.len
  by_cases hnm : n = m
  · subst hnm
    have hne : ((n : Int) != (n : Int)) = false := by simp
    go_enter Try.func8, Try.ntmps8
    go_wp2
    go_loopw [5] (fun i wr => ∃ k : Nat, k ≤ n ∧ i = .int .i64 k ∧ xs.take k = ys.take k ∧ Qt w wr) (fun i _ => n - (intOf i).toNat)
    case atStart => exact ⟨0, Nat.zero_le _, rfl, rfl, Qt.refl _⟩
    case round =>
      obtain ⟨k, hk, rfl, hpre, hq⟩ := hrel
      have HP := Lib.hid hpre
      clear hpre
      by_cases hlt : k < n
      · obtain ⟨b, o, x, rfl, hbl, hx, hx64, hcx⟩ := (ha.qt hq).at_ hlt
        obtain ⟨b', o', y, rfl, hbl', hy, hy64, hcy⟩ := (hb.qt hq).at_ hlt
        have HX := Lib.hid hx
        have HY := Lib.hid hy
        clear hx hy
        by_cases hxy : x = y
        · have HE := Lib.hid hxy
          have hbe : (x != y) = false := by simp [hxy]
          clear hxy
          go_wp2
          go_quiet (fail)
          go_wp2
          go_roundw
          case rel => exact ⟨k + 1, by omega, by go_num, eq_take_succ HP.out HX.out (HE.out ▸ HY.out), hq.drewN _⟩
          case measure => simp [intOf]; omega
        · have HE := Lib.hid hxy
          have hbe : (x != y) = true := by simp [hxy]
          clear hxy
          go_wp2
          go_quiet (fail)
          go_wp2
          go_ret
          refine ⟨rb (decide_eq_false ?_).symm, hq.drewN _⟩
          rintro rfl
          exact HE.out (Option.some.inj (HX.out.symm.trans HY.out))
      · go_wp2
        go_ret
        refine ⟨rb (decide_eq_true ?_).symm, hq⟩
        have := HP.out
        rwa [List.take_of_length_le (by have := hla.out; omega), List.take_of_length_le (by have := hlb.out; omega)] at this
  · have HN := Lib.hid hnm
    have hne : ((n : Int) != (m : Int)) = true := by simp; omega
    clear hnm
    go_enter Try.func8, Try.ntmps8
    go_wp2
    go_ret
    refine ⟨rb (decide_eq_false ?_).symm, Qt.refl _⟩
    rintro rfl
    exact HN.out (hla.out.symm.trans hlb.out)

/-- The numbers k, k + 1, .. -/
def marks (k : Int) (n : Nat) : List Int := (List.range n).map fun i : Nat => k + (i : Int)
theorem marks_len (k : Int) (n : Nat) : (marks k n).length = n := by simp [marks]
theorem marks_at (k : Int) {n i : Nat} (h : i < n) : (marks k n)[i]? = some (k + (i : Int)) := by simp [marks, h]
theorem marks_step {zs : List Int} {n j : Nat} (k : Int) (hl : zs.length = n) (hj : j < n) : (marks k j ++ zs.drop j).set j (k + (j : Int)) = marks k (j + 1) ++ zs.drop (j + 1) := by
  rw [List.set_append_right _ _ (by simp [marks_len])]
  have e : List.drop j zs = zs[j] :: zs.drop (j + 1) := by rw [List.drop_eq_getElem_cons (by omega)]
  rw [e, marks_len, Nat.sub_self]
  simp [marks, List.range_succ]
  rw [e]
  rfl

set_option maxHeartbeats 1000000 in
theorem markInts_any (B : Nat) (A : Option Addr) (n c : Nat) (k : Int) (zs : List Int) (w : World) (h : Own w B A n c zs) (hn : n ≤ 1048576) (hk0 : 0 ≤ k) (hk1 : k ≤ 1000000000000) :
    Calls Try.prog 11 #[.slice A n c, .int .i64 k] w fun e w' => e = .returned (.int .i64 (k + (n : Int))) ∧ Own w' B A n c (marks k n) ∧ w.grownBy w' (A.map (·.block)) := by
  have hl := Lib.hid h.len
  go_enter Try.func11, Try.ntmps11
  go_wp2
  go_loopw [1, 5] (fun kk i wr => ∃ j : Nat, j ≤ n ∧ i = .int .i64 j ∧ kk = .int .i64 (k + (j : Int)) ∧ Own wr B A n c (marks k j ++ zs.drop j) ∧ w.grownBy wr (A.map (·.block))) (fun _ i _ => n - (intOf i).toNat)
  case atStart => exact ⟨0, Nat.zero_le _, rfl, by simp, by simpa [marks] using h, World.grownBy.refl w _⟩
  case round =>
    obtain ⟨j, hj, rfl, rfl, hown, hgr⟩ := hrel
    by_cases hlt : j < n
    · obtain ⟨g, z', rfl, hBg, hgl, _, _, hcg, hfg⟩ := hown.at_ hlt
      have hown' := Lib.hid (hown.set_ j (z := k + (j : Int)) (WalkArith.wf_i64 (by omega)))
      have hst := Lib.hid (marks_step k hl.out hlt)
      have hgr' := hgr.trans (hown.1.stored j (.int .i64 (k + (j : Int)))).2
      clear hown
      go_wp2
      go_roundw
      case rel => exact ⟨j + 1, by omega, by go_num, by go_num, by rw [← hst.out]; exact hown'.out, hgr'⟩
      case measure => simp [intOf]; omega
    · go_wp2
      go_ret
      obtain rfl : j = n := by omega
      exact ⟨rfl, by simpa [List.drop_of_length_le (Nat.le_of_eq hl.out)] using hown, hgr⟩
set_option maxHeartbeats 1000000 in
theorem heldInts_any (A : Option Addr) (n c : Nat) (k : Int) (w : World) (h : Ints w A n (marks k n)) (hn : n ≤ 1048576) (hk0 : 0 ≤ k) (hk1 : k ≤ 1000000000000) :
    Calls Try.prog 12 #[.slice A n c, .int .i64 k] w fun e w' => e = .returned (.int .i64 (k + (n : Int))) ∧ w = w' := by
  go_enter Try.func12, Try.ntmps12
  go_wp2
  go_loop [1, 5] (fun kk i => ∃ j : Nat, j ≤ n ∧ i = .int .i64 j ∧ kk = .int .i64 (k + (j : Int))) (fun _ i => n - (intOf i).toNat)
  case atStart => exact ⟨0, Nat.zero_le _, rfl, by simp⟩
  case round =>
    obtain ⟨j, hj, rfl, rfl⟩ := hrel
    by_cases hlt : j < n
    · obtain ⟨b, o, x, rfl, hbl, hx, hx64, hcx⟩ := h.at_ hlt
      obtain rfl : x = k + (j : Int) := Option.some.inj (hx.symm.trans (marks_at k hlt))
      clear hx
      go_wp2
      go_round
      case rel => exact ⟨j + 1, by omega, by go_num, by go_num⟩
      case measure => simp [intOf]; omega
    · go_wp2
      go_ret
      obtain rfl : j = n := by omega
      exact ⟨rfl, rfl⟩
end Go.Proofs.Ytpgegfnhokhlmaa
set_option linter.unusedVariables false
set_option maxRecDepth 100000
namespace Go.Proofs.Ytpgegfnhokhlmaa
open Go.RowKit Go.Joins

theorem wpList_push {ops : Array Oper} {rest : List Oper} {o : Oper} {a : Act} {Q : Exit → Act → World → Prop} (wr : World) (hgd : o.guard = none) (s x : Operand)
    (ho : o.op = .call { callee := .builtin .append, args := #[s, x], argTypes := #[27, 27] }) (B : Nat) (A : Option Addr) (n c : Nat) (zs : List Int) (z : Int)
    (hs : a.eval s = .slice A n c) (hx : a.eval x = .slice (some ⟨wr.heap.size, 0, none⟩) 1 1) (hown : Own wr B A n c zs) (hz : I64 z) (hn : n ≤ 1099511627776) (hB : B ≤ wr.heap.size)
    (h : ∀ g c' w', Own w' B (some ⟨g, 0, none⟩) (n + 1) c' (zs ++ [z]) → Below B wr w' → (wr.alloc (.cells #[.int .i64 z] 2)).grownBy w' (A.map (·.block)) → B ≤ g → wpList Try.prog ops Q rest (a.put o.dst (.slice (some ⟨g, 0, none⟩) (n + 1) c')) w') :
    wpList Try.prog ops Q (o :: rest) a (wr.alloc (.cells #[.int .i64 z] 2)) := by
  obtain ⟨i0, hi0, hz0, hz1, hz2⟩ := info_parts info_i64
  refine wpList_append_own _ hgd s x 27 ho B 2 i0 (.int .i64 0) 1 8 Try.underlying27 hi0 hz0 hz1 hz2 rfl (by decide) (.slice A n c) n (zs.map (Value.int .i64)) hs (hown.alloc _).1 ⟨wr.heap.size, 0, none⟩ 1 1 [.int .i64 z] hx rfl ?_ ?_ (by unfold maxLen; omega) (by omega) (by simp; omega) ?_
  · intro j u hj
    match j, hj with
    | 0, hj => simp at hj; subst hj; simp [Addr.add]
  · intro u hu; simp at hu; subst hu; rfl
  · intro v' w1 hown' hgrow _
    have hl := hown.len
    obtain ⟨g, cap, hv, hb, hlt⟩ := hown'.form (by omega)
    subst hv
    refine h g cap w1 ⟨by simpa using hown', ?_⟩ ?_ (by cases A <;> exact hgrow) hb
    · intro y hy
      rcases List.mem_append.1 hy with hy | hy
      · exact hown.2 y hy
      · simp at hy; subst hy; exact hz
    · refine (((Below.refl B wr).alloc hB _).grown hgrow (by simp; omega) ?_)
      intro k hk
      exact (hown.1.lt k hk).1
theorem wpList_pushH {ops : Array Oper} {rest : List Oper} {o : Oper} {a : Act} {Q : Exit → Act → World → Prop} (wr : World) (hgd : o.guard = none) (s x : Operand)
    (ho : o.op = .call { callee := .builtin .append, args := #[s, x], argTypes := #[27, 27] }) (B : Nat) (A : Option Addr) (n c : Nat) (zs : List Int) (z : Int) (H : Nat) (hH : wr.heap.size = H)
    (hs : a.eval s = .slice A n c) (hx : a.eval x = .slice (some ⟨H, 0, none⟩) 1 1) (hown : Own wr B A n c zs) (hz : I64 z) (hn : n ≤ 1099511627776) (hB : B ≤ wr.heap.size)
    (h : ∀ g c' w', Own w' B (some ⟨g, 0, none⟩) (n + 1) c' (zs ++ [z]) → Below B wr w' → (wr.alloc (.cells #[.int .i64 z] 2)).grownBy w' (A.map (·.block)) → B ≤ g → wpList Try.prog ops Q rest (a.put o.dst (.slice (some ⟨g, 0, none⟩) (n + 1) c')) w') :
    wpList Try.prog ops Q (o :: rest) a (wr.alloc (.cells #[.int .i64 z] 2)) := by
  subst hH
  exact wpList_push wr hgd s x ho B A n c zs z hs hx hown hz hn hB h
end Go.Proofs.Ytpgegfnhokhlmaa
set_option linter.unusedVariables false
set_option maxRecDepth 100000
namespace Go.Proofs.Ytpgegfnhokhlmaa
open Go.ChangeShapes Go.WideShapes Go.ChangeAt Go.RowKit Go.Joins Go.Deep

/-- The run of make([]T, n) for structs of several cells. -/
theorem run_mk {P : Program} (t e : TypeId) (z : Value) (size bytes : Nat) (ht : P.underlying t = some (.slice e)) (hinfo : (P.info? e).map (fun i => (i.zero, i.size, i.bytes)) = some (some z, size, bytes)) (n : Nat) (hn : n ≤ 1099511627776) (hb : bytes ≤ 256) (w : World) :
    (Instr.makeSlice t (.int .i64 (n : Int)) (.int .i64 (n : Int))).run P w = .ok (.slice (some ⟨w.heap.size, 0, none⟩) n n) (w.alloc (.cells (madeCells z.cells (n * size)) e)) := by
  obtain ⟨i, hi, hz, hs, hby⟩ := info_parts hinfo
  subst hs hby
  have h1 : i.bytes * n ≤ 256 * 1099511627776 := Nat.mul_le_mul hb hn
  have h2 : (i.bytes : Int) * (n : Int) ≤ 281474976710656 := by
    have h : ((i.bytes * n : Nat) : Int) ≤ 281474976710656 := by omega
    rwa [Int.natCast_mul] at h
  have hr := run_make (P := P) w t e i z ht hi hz .i64 .i64 n n (by omega) (by omega) h2 (by omega)
  simp only [Int.toNat_natCast] at hr
  exact hr
section
variable {α : Type} (enc : α → List Value) (k : Nat)
/-- The slice value '.slice A n c' of structs of k cells reads as xs; 'enc x': the cells of x. -/
def Recs (w : World) (A : Option Addr) (n : Nat) (xs : List α) : Prop :=
  xs.length = n ∧ (0 < n → ∃ b o, A = some ⟨b, o, none⟩ ∧ b < w.heap.size ∧ ∀ (i : Nat) (x : α), xs[i]? = some x → ∀ (j : Nat) (v : Value), (enc x)[j]? = some v → w.cell? ⟨b, o + i * k + j, none⟩ = some v)
/-- It owns them, in a block from B on; e: the struct's type. -/
def OwnR (e : TypeId) (w : World) (B : Nat) (A : Option Addr) (n c : Nat) (xs : List α) : Prop :=
  w.ownsRow B e k (.slice A n c) n (xs.flatMap enc) ∧ ∀ x ∈ xs, (enc x).length = k
end
section
variable {α : Type} {enc : α → List Value} {k : Nat} {w w' : World} {A : Option Addr} {n c B : Nat} {e : TypeId} {xs : List α}
theorem Recs.len (h : Recs enc k w A n xs) : xs.length = n := h.1
theorem Recs.at_ (h : Recs enc k w A n xs) {i : Nat} (hi : i < n) : ∃ b o x, A = some ⟨b, o, none⟩ ∧ b < w.heap.size ∧ xs[i]? = some x ∧ ∀ (j : Nat) (v : Value), (enc x)[j]? = some v → w.cell? ⟨b, o + i * k + j, none⟩ = some v := by
  obtain ⟨b, o, e, hb, hc⟩ := h.2 (by omega)
  have hz : xs[i]? = some (xs[i]'(by have := h.1; omega)) := List.getElem?_eq_getElem _
  exact ⟨b, o, _, e, hb, hz, hc i _ hz⟩
theorem Recs.below (h : Recs enc k w A n xs) (hb : Below w.heap.size w w') : Recs enc k w' A n xs :=
  ⟨h.1, fun hn => by
    obtain ⟨b, o, e, hlt, hc⟩ := h.2 hn
    exact ⟨b, o, e, Nat.lt_of_lt_of_le hlt hb.size, fun i x hx j v hv => (hb.cell (p := ⟨b, o + i * k + j, none⟩) hlt).trans (hc i x hx j v hv)⟩⟩
theorem Recs.alloc (h : Recs enc k w A n xs) (o : Obj) : Recs enc k (w.alloc o) A n xs := h.below ((Below.refl _ _).alloc (Nat.le_refl _) _)
theorem Recs.qt (h : Recs enc k w A n xs) (hq : Qt w w') : Recs enc k w' A n xs := by
  obtain ⟨m, rfl⟩ := hq
  exact h
theorem flat_len (hk : ∀ x ∈ xs, (enc x).length = k) : (xs.flatMap enc).length = xs.length * k := by
  induction xs with
  | nil => simp
  | cons x xs ih =>
    rw [List.flatMap_cons, List.length_append, ih (fun y hy => hk y (List.mem_cons_of_mem _ hy)), hk x List.mem_cons_self, List.length_cons, Nat.add_mul, Nat.one_mul, Nat.add_comm]
theorem flat_at (hk : ∀ x ∈ xs, (enc x).length = k) {i j : Nat} {x : α} {v : Value} (hx : xs[i]? = some x) (hv : (enc x)[j]? = some v) : (xs.flatMap enc)[i * k + j]? = some v := by
  induction xs generalizing i with
  | nil => simp at hx
  | cons y ys ih =>
    have hy := hk y List.mem_cons_self
    rw [List.flatMap_cons]
    cases i with
    | zero =>
      simp at hx
      subst hx
      have hj : j < (enc y).length := (List.getElem?_eq_some_iff.1 hv).1
      rw [Nat.zero_mul, Nat.zero_add, List.getElem?_append_left hj, hv]
    | succ i =>
      simp at hx
      rw [List.getElem?_append_right (by rw [hy, Nat.succ_mul]; omega), hy]
      rw [show (i + 1) * k + j - k = i * k + j by rw [Nat.succ_mul]; omega]
      exact ih (fun z hz => hk z (List.mem_cons_of_mem _ hz)) hx
theorem OwnR.len (h : OwnR enc k e w B A n c xs) (hk : 0 < k) : xs.length = n := by
  have h1 := h.1.1
  rw [flat_len h.2] at h1
  exact Nat.eq_of_mul_eq_mul_right hk h1
theorem OwnR.form (h : OwnR enc k e w B A n c xs) (hn : 0 < n) : ∃ g, A = some ⟨g, 0, none⟩ ∧ B ≤ g ∧ g < w.heap.size := by
  obtain ⟨g, cap, hv, hb, hlt⟩ := h.1.form hn
  have hA : A = some ⟨g, 0, none⟩ := by injection hv
  exact ⟨g, hA, hb, hlt⟩
theorem OwnR.recs (h : OwnR enc k e w B A n c xs) (hk : 0 < k) : Recs enc k w A n xs := by
  refine ⟨h.len hk, fun hn => ?_⟩
  obtain ⟨g, rfl, _, hlt⟩ := h.form hn
  refine ⟨g, 0, rfl, hlt, fun i x hx j v hv => ?_⟩
  have hc := flat_at h.2 hx hv
  have hj : i * k + j < n * k := by
    have := (List.getElem?_eq_some_iff.1 hc).1
    rwa [h.1.1] at this
  rw [show 0 + i * k + j = i * k + j by omega, h.1.cellAt _ hj]
  exact hc
theorem OwnR.below (h : OwnR enc k e w B A n c xs) (hb : Below w.heap.size w w') : OwnR enc k e w' B A n c xs :=
  ⟨h.1.kept (row := none) ⟨hb.os, hb.tape, hb.output, hb.size, fun k hk _ => hb.block k hk⟩ (by
    cases A <;> simp [Value.ownBlock]), h.2⟩
theorem OwnR.grown {row : Option Nat} (h : OwnR enc k e w B A n c xs) (hg : w.grownBy w' row) (hne : ∀ g, A = some ⟨g, 0, none⟩ → row ≠ some g) : OwnR enc k e w' B A n c xs :=
  ⟨h.1.kept hg (by
    rcases A with _ | ⟨b, o, s⟩
    · exact .inl rfl
    · right
      rcases h.1.2 with ⟨e, _⟩ | ⟨g, cap, cur, e, _⟩
      · cases e
      · have : (some ⟨b, o, s⟩ : Option Addr) = some ⟨g, 0, none⟩ := by injection e
        injection this with this
        injection this with h1 h2 h3
        subst h1 h2 h3
        exact fun hh => hne b rfl hh.symm), h.2⟩
theorem OwnR.lt (h : OwnR enc k e w B A n c xs) (g : Nat) (hg : A.map (·.block) = some g) : B ≤ g ∧ g < w.heap.size := by
  refine h.1.lt g ?_
  cases A with
  | none => cases hg
  | some a => exact hg
theorem OwnR.alloc (h : OwnR enc k e w B A n c xs) (o : Obj) : OwnR enc k e (w.alloc o) B A n c xs := h.below ((Below.refl _ _).alloc (Nat.le_refl _) _)
theorem OwnR.qt (h : OwnR enc k e w B A n c xs) (hq : Qt w w') : OwnR enc k e w' B A n c xs := by
  obtain ⟨m, rfl⟩ := hq
  exact h
theorem OwnR.mono {B' : Nat} (h : OwnR enc k e w B A n c xs) (hB : B' ≤ B) : OwnR enc k e w B' A n c xs := ⟨ownsRow_le h.1 hB, h.2⟩
end

/-- Values laid into a list, a row, from place o on. -/
def putAt : List Value → Nat → List Value → List Value
  | l, _, [] => l
  | l, o, v :: vs => putAt (l.set o v) (o + 1) vs
def putW : World → Nat → Nat → List Value → World
  | w, _, _, [] => w
  | w, g, o, v :: vs => putW (w.setCell ⟨g, o, none⟩ v) g (o + 1) vs
theorem putAt_eq (vs : List Value) : ∀ (l : List Value) (o : Nat), o + vs.length ≤ l.length → putAt l o vs = l.take o ++ (vs ++ l.drop (o + vs.length)) := by
  induction vs with
  | nil => intro l o h; simp [putAt]
  | cons v vs ih =>
    intro l o h
    simp only [List.length_cons] at h
    rw [putAt, ih _ _ (by simp; omega), List.take_succ_eq_append_getElem (by simp; omega), List.take_set_of_le (Nat.le_refl _), List.drop_set_of_lt (by omega)]
    simp
    rw [show o + 1 + vs.length = o + (vs.length + 1) by omega]
section
variable {α : Type} {enc : α → List Value} {k : Nat} {w w' : World} {A : Option Addr} {g n c B : Nat} {e : TypeId} {xs : List α}
theorem flat_take (hk : ∀ x ∈ xs, (enc x).length = k) (i : Nat) (hi : i ≤ xs.length) : (xs.flatMap enc).take (i * k) = (xs.take i).flatMap enc := by
  have e1 : xs.flatMap enc = (xs.take i).flatMap enc ++ (xs.drop i).flatMap enc := by rw [← List.flatMap_append, List.take_append_drop]
  rw [e1, List.take_left' (by rw [flat_len (fun x hx => hk x (List.mem_of_mem_take hx))]; simp; rw [Nat.min_eq_left hi])]
theorem flat_drop (hk : ∀ x ∈ xs, (enc x).length = k) (i : Nat) (hi : i ≤ xs.length) : (xs.flatMap enc).drop (i * k) = (xs.drop i).flatMap enc := by
  have e1 : xs.flatMap enc = (xs.take i).flatMap enc ++ (xs.drop i).flatMap enc := by rw [← List.flatMap_append, List.take_append_drop]
  rw [e1, List.drop_left' (by rw [flat_len (fun x hx => hk x (List.mem_of_mem_take hx))]; simp; rw [Nat.min_eq_left hi])]
theorem flat_put (hk : ∀ x ∈ xs, (enc x).length = k) {i : Nat} (hi : i < xs.length) {x : α} (hx : (enc x).length = k) : putAt (xs.flatMap enc) (i * k) (enc x) = (xs.set i x).flatMap enc := by
  have hl : i * k + k ≤ xs.length * k := by
    have := Nat.mul_le_mul_right k hi
    rw [Nat.succ_mul] at this
    exact this
  rw [putAt_eq _ _ _ (by rw [hx, flat_len hk]; exact hl), hx, show i * k + k = (i + 1) * k by rw [Nat.succ_mul], flat_take hk i (by omega), flat_drop hk (i + 1) (by omega), List.set_eq_take_append_cons_drop, if_pos hi]
  simp
theorem owns_put (vs : List Value) : ∀ (w : World) (o : Nat) (ys : List Value), w.ownsRow B e k (.slice (some ⟨g, 0, none⟩) n c) n ys →
    (putW w g o vs).ownsRow B e k (.slice (some ⟨g, 0, none⟩) n c) n (putAt ys o vs) ∧ w.grownBy (putW w g o vs) (some g) := by
  induction vs with
  | nil => intro w o ys h; exact ⟨h, World.grownBy.refl w _⟩
  | cons v vs ih =>
    intro w o ys h
    have h1 := h.stored o v
    have h2 := ih (w.setCell ⟨g, o, none⟩ v) (o + 1) (ys.set o v) h1.1
    exact ⟨h2.1, h1.2.trans h2.2⟩
theorem OwnR.put (h : OwnR enc k e w B (some ⟨g, 0, none⟩) n c xs) (h0 : 0 < k) {i : Nat} (hi : i < n) {x : α} (hx : (enc x).length = k) :
    OwnR enc k e (putW w g (i * k) (enc x)) B (some ⟨g, 0, none⟩) n c (xs.set i x) ∧ w.grownBy (putW w g (i * k) (enc x)) (some g) := by
  have hl := h.len h0
  obtain ⟨h1, h2⟩ := owns_put (enc x) w (i * k) _ h.1
  rw [flat_put h.2 (by omega) hx] at h1
  refine ⟨⟨h1, fun y hy => ?_⟩, h2⟩
  rcases List.mem_or_eq_of_mem_set hy with hy | rfl
  · exact h.2 y hy
  · exact hx
theorem OwnR.cells (h : OwnR enc k e w B (some ⟨g, 0, none⟩) n c xs) (h0 : 0 < k) {i : Nat} (hi : i < n) : ∃ x, xs[i]? = some x ∧ (∀ j v, (enc x)[j]? = some v → w.cell? ⟨g, i * k + j, none⟩ = some v) ∧ (∀ j, w.frozen? ⟨g, j, none⟩ = false) ∧ B ≤ g ∧ g < w.heap.size := by
  have hl := h.len h0
  obtain ⟨b, o, x, hA, hb, hx, hc⟩ := (h.recs h0).at_ hi
  obtain ⟨rfl, rfl⟩ : g = b ∧ 0 = o := by injection hA with hA; injection hA with h1 h2; exact ⟨h1, h2⟩
  refine ⟨x, hx, fun j v hv => ?_, fun j => h.1.frozenAt j, (h.lt g rfl).1, hb⟩
  have := hc j v hv
  rwa [Nat.zero_add] at this
theorem made_flat {z : Array Value} (x : α) (hz : z.toList = enc x) (h0 : 0 < k) (hs : (enc x).length = k) (n : Nat) : (madeCells z (n * k)).toList = (List.replicate n x).flatMap enc := by
  have hzs : z.size = k := by rw [← Array.length_toList, hz, hs]
  have hall : ∀ y ∈ List.replicate n x, (enc y).length = k := fun y hy => by rw [(List.mem_replicate.1 hy).2]; exact hs
  apply List.ext_getElem?
  intro i
  by_cases hi : i < n * k
  · have hq : i / k < n := Nat.div_lt_of_lt_mul (by rw [Nat.mul_comm]; exact hi)
    have hr : i % k < k := Nat.mod_lt _ h0
    have hx : (List.replicate n x)[i / k]? = some x := by simp [hq]
    have hv : (enc x)[i % k]? = some ((enc x)[i % k]'(by omega)) := List.getElem?_eq_getElem (by omega)
    have := flat_at hall hx hv
    rw [Nat.div_add_mod'] at this
    rw [this]
    have e : z[i % k]! = (enc x)[i % k]'(by omega) := by
      rw [getElem!_pos z (i % k) (by omega), ← Array.getElem_toList]
      simp [hz]
    simp [madeCells, hi, hzs, e]
  · rw [List.getElem?_eq_none (by simp [madeCells]; omega), List.getElem?_eq_none (by rw [flat_len hall]; simp; omega)]
/-- make([]T, n): a row of n zero structs of the call's own. -/
theorem own_made {z : Array Value} {B : Nat} (x : α) (hz : z.toList = enc x) (h0 : 0 < k) (hs : (enc x).length = k) (w : World) (n : Nat) (hn : n ≤ maxLen) (hB : B ≤ w.heap.size) :
    OwnR enc k e (w.alloc (.cells (madeCells z (n * k)) e)) B (some ⟨w.heap.size, 0, none⟩) n n (List.replicate n x) := by
  refine ⟨?_, fun y hy => by rw [(List.mem_replicate.1 hy).2]; exact hs⟩
  have h := World.ownsRow_lit (base := B) (e := e) (size := k) w (madeCells z (n * k)) n hB hn (by simp [madeCells])
  rwa [made_flat x hz h0 hs] at h
theorem ownR_apart {α' : Type} {enc' : α' → List Value} {k' : Nat} {e' : TypeId} {w2 : World} {B' : Nat} {A' : Option Addr} {n' c' : Nat} {xs' : List α'} (h : OwnR enc k e w B A n c xs) (h' : OwnR enc' k' e' w2 B' A' n' c' xs') (hB : w.heap.size ≤ B') :
    (∀ g, A' = some ⟨g, 0, none⟩ → A.map (·.block) ≠ some g) ∧ (∀ g, A = some ⟨g, 0, none⟩ → A'.map (·.block) ≠ some g) := by
  refine ⟨fun g hg hh => ?_, fun g hg hh => ?_⟩
  · have h1 := (h.lt g hh).2
    have h2 := (h'.lt g (by rw [hg]; rfl)).1
    omega
  · have h1 := (h.lt g (by rw [hg]; rfl)).2
    have h2 := (h'.lt g hh).1
    omega
end

section
variable {H : Type} {enc : TypeId × Value → H} {W : World}
/-- A slice of structs of one-cell fields that came in: its cells, each with its reading. -/
theorem rd_fields' {t e : TypeId} {fs : Array Field} {fuel : Nat} {v : Value} {y : DataW H × List MemPlace} (ht : Try.prog.underlying t = some (.slice e)) (he : Try.prog.underlying e = some (.struct fs))
    (hone : oneCellFields Try.prog fs = true) (hC : Try.prog.cellsOf e = fs.size) (h0 : 0 < fs.size) (h : DataW.trod enc Try.prog W 0 (fun _ => true) true fuel t [v] = some y) :
    ∃ (A : Option Addr) (n c : Nat) (f : Nat → Nat → Value), v = .slice A n c ∧ n ≤ c ∧ c ≤ maxLen ∧ (0 < n → ∃ b o, A = some ⟨b, o, none⟩ ∧ b < W.heap.size ∧ ∀ i j, i < n → j < fs.size → W.cell? ⟨b, o + i * fs.size + j, none⟩ = some (f i j)) ∧
      (∀ (i j : Nat) (fd : Field), i < n → fs[j]? = some fd → (∃ (m : Nat) (z : DataW H × List MemPlace), DataW.trod enc Try.prog W 0 (fun _ => true) true m fd.type [f i j] = some z)) ∧ (A = none → c = 0) := by
  rcases open_slice ht h with ⟨h1, _⟩ | ⟨a, len, cap, m, n, D, Pl, hcs, hb, hl, hm, hmm, hx, hi⟩
  · simp at h1
    subst h1
    exact ⟨none, 0, 0, fun _ _ => .int .i64 0, rfl, by omega, by unfold maxLen; omega, fun h => absurd h (by omega), (fun i j fd h => absurd h (by omega)), fun _ => rfl⟩
  · simp at hcs
    subst hcs
    have hml : m = cap := by simpa using hmm
    subst hml
    -- the cells of element i
    have hel : ∀ i, i < len → ∃ cs' : List Value, cs'.length = fs.size ∧ (∀ j, j < fs.size → W.cell? ((a.add (i * fs.size)).add j) = cs'[j]?) ∧ ∀ (j : Nat) (fd : Field) (u : Value), fs[j]? = some fd → cs'[j]? = some u → ∃ (m : Nat) (z : DataW H × List MemPlace), DataW.trod enc Try.prog W 0 (fun _ => true) true m fd.type [u] = some z := by
      intro i hil
      obtain ⟨cs', hc, ht'⟩ := hi i (by omega)
      rw [hC] at hc
      obtain ⟨ys, n', hn', hy, hlen, hyl, hf⟩ := DataW.trod_struct he ht'
      obtain ⟨_, hcl, hat⟩ := World.cells?_some hc
      refine ⟨cs', by rw [hlen, hC], fun j hj => hat j hj, fun j fd u hj hu => ?_⟩
      obtain ⟨ho, hk⟩ := hone_of hone j fd hj
      have h1 := hf j fd hj
      rw [ho, hk] at h1
      have hjl : j < fs.size := (Array.getElem?_eq_some_iff.1 hj).1
      obtain ⟨hjc, rfl⟩ := List.getElem?_eq_some_iff.1 hu
      rw [List.drop_eq_getElem_cons hjc] at h1
      have hys : ys[j]? = some (ys[j]'(by omega)) := List.getElem?_eq_getElem (by omega)
      exact ⟨_, _, h1.trans hys⟩
    obtain ⟨b, off, spot⟩ := a
    refine ⟨some ⟨b, off, spot⟩, len, m, fun i j => (W.cell? ((Addr.add ⟨b, off, spot⟩ (i * fs.size)).add j)).getD (.int .i64 0), rfl, hl, hm, fun hn => ?_, (fun i j fd hil hj => ?_), (fun h => by cases h)⟩
    · obtain ⟨cs0, hl0, hc0, _⟩ := hel 0 hn
      have h00 := hc0 0 h0
      rw [List.getElem?_eq_getElem (by omega)] at h00
      have hspot : spot = none := by simpa [Addr.add] using World.cell?_spot h00
      subst hspot
      have hbl := World.block_lt_of_cell? W _ h00
      refine ⟨b, off, rfl, by simpa [Addr.add] using hbl, fun i j hil hjl => ?_⟩
      obtain ⟨cs', hl', hc', _⟩ := hel i hil
      have hcj := hc' j hjl
      rw [List.getElem?_eq_getElem (by omega)] at hcj
      have ea : (Addr.add ⟨b, off, none⟩ (i * fs.size)).add j = ⟨b, off + i * fs.size + j, none⟩ := by
        unfold Addr.add
        by_cases h1 : i * fs.size = 0 <;> by_cases h2 : j = 0 <;> simp [h1, h2]
      dsimp only
      rw [ea] at hcj ⊢
      rw [hcj]
      rfl
    · obtain ⟨cs', hl', hc', hr'⟩ := hel i hil
      have hjl : j < fs.size := (Array.getElem?_eq_some_iff.1 hj).1
      have hcj := hc' j hjl
      have hu : cs'[j]? = some (cs'[j]'(by omega)) := List.getElem?_eq_getElem (by omega)
      obtain ⟨m', z, hz⟩ := hr' j fd _ hj hu
      refine ⟨m', z, ?_⟩
      dsimp only
      rw [hcj, hu]
      exact hz
theorem rd_fields {t e : TypeId} {fs : Array Field} {fuel : Nat} {v : Value} {y : DataW H × List MemPlace} (ht : Try.prog.underlying t = some (.slice e)) (he : Try.prog.underlying e = some (.struct fs))
    (hone : oneCellFields Try.prog fs = true) (hC : Try.prog.cellsOf e = fs.size) (h0 : 0 < fs.size) (h : DataW.trod enc Try.prog W 0 (fun _ => true) true fuel t [v] = some y) :
    ∃ (A : Option Addr) (n c : Nat) (f : Nat → Nat → Value), v = .slice A n c ∧ n ≤ c ∧ c ≤ maxLen ∧ (0 < n → ∃ b o, A = some ⟨b, o, none⟩ ∧ b < W.heap.size ∧ ∀ i j, i < n → j < fs.size → W.cell? ⟨b, o + i * fs.size + j, none⟩ = some (f i j)) ∧
      ∀ (i j : Nat) (fd : Field), i < n → fs[j]? = some fd → ∃ (m : Nat) (z : DataW H × List MemPlace), DataW.trod enc Try.prog W 0 (fun _ => true) true m fd.type [f i j] = some z := by
  obtain ⟨A, n, c, f, h1, h2, h3, h4, h5, _⟩ := rd_fields' ht he hone hC h0 h
  exact ⟨A, n, c, f, h1, h2, h3, h4, h5⟩
end
end Go.Proofs.Ytpgegfnhokhlmaa
set_option linter.unusedVariables false
set_option maxRecDepth 100000
namespace Go.Proofs.Ytpgegfnhokhlmaa
open Go.RowKit Go.Joins

def allB (zs : List Int) (lo hi : Int) : Bool := zs.all fun z => inB z lo hi
theorem all_no {zs : List Int} {k : Nat} {x lo hi : Int} (hx : zs[k]? = some x) (h : inB x lo hi = false) : allB zs lo hi = false := by
  unfold allB
  rw [List.all_eq_false]
  exact ⟨x, List.mem_of_getElem? hx, by simp [h]⟩
theorem all_step {zs : List Int} {k : Nat} {x lo hi : Int} (hp : allB (zs.take k) lo hi = true) (hx : zs[k]? = some x) (h : inB x lo hi = true) : allB (zs.take (k + 1)) lo hi = true := by
  unfold allB at *
  rw [List.take_add_one, List.all_append, hp, hx]
  simp [h]
theorem all_at {zs : List Int} {k : Nat} {x lo hi : Int} (h : allB zs lo hi = true) (hx : zs[k]? = some x) : lo ≤ x ∧ x ≤ hi := by
  unfold allB at h
  exact (inB_iff _ _ _).1 (List.all_eq_true.1 h x (List.mem_of_getElem? hx))

end Go.Proofs.Ytpgegfnhokhlmaa
set_option linter.unusedVariables false
set_option maxRecDepth 100000
namespace Go.Proofs.Ytpgegfnhokhlmaa
open Go.RowKit Go.Joins Go.Deep

theorem own_nil (w : World) (B : Nat) : Own w B none 0 0 [] := ⟨World.ownsRow_nil _ _ _ _, fun z hz => absurd hz List.not_mem_nil⟩
theorem own_empty (w : World) (B : Nat) (hB : B ≤ w.heap.size) : Own (w.alloc (.cells #[] 2)) B (some ⟨w.heap.size, 0, none⟩) 0 0 [] :=
  ⟨World.ownsRow_lit (size := 1) w #[] 0 hB (Nat.zero_le _) rfl, fun z hz => absurd hz List.not_mem_nil⟩
end Go.Proofs.Ytpgegfnhokhlmaa
set_option linter.unusedVariables false
set_option maxRecDepth 100000
namespace Go.Proofs.Ytpgegfnhokhlmaa
open Go.ChangeShapes Go.WideShapes Go.ChangeAt Go.RowKit Go.Joins Go.Deep

/-- The bytes of a string value. -/
def strOf : Value → ByteArray
  | .string s => s
  | _ => ByteArray.empty
theorem fld_str {H : Type} {enc : TypeId × Value → H} {W : World} {n : Nat} {v : Value} {y : DataW H × List MemPlace} (h : DataW.trod enc Try.prog W 0 (fun _ => true) true n 9 [v] = some y) : ∃ a, v = .string a ∧ a.size ≤ maxLen := by
  obtain ⟨a, e0, rfl, wa⟩ := DataW.trod_string Try.underlying9 h
  simp at e0
  exact ⟨a, e0, wa⟩
/-- A node. -/
structure Nd where
  nm : ByteArray
  lo : Int
  hi : Int
def encN (x : Nd) : List Value := [.string x.nm, .int .i64 x.lo, .int .i64 x.hi]
def okN (x : Nd) : Prop := x.nm.size ≤ maxLen ∧ I64 x.lo ∧ I64 x.hi
/-- A slice of nodes that reads as xs. -/
def Nodes (w : World) (A : Option Addr) (n : Nat) (xs : List Nd) : Prop := Recs encN 3 w A n xs ∧ ∀ x ∈ xs, okN x
section
variable {w w' : World} {A : Option Addr} {n : Nat} {xs : List Nd}
theorem Nodes.len (h : Nodes w A n xs) : xs.length = n := h.1.1
theorem Nodes.at_ (h : Nodes w A n xs) {i : Nat} (hi : i < n) : ∃ b o x, A = some ⟨b, o, none⟩ ∧ b < w.heap.size ∧ xs[i]? = some x ∧ okN x ∧ w.cell? ⟨b, o + i * 3, none⟩ = some (.string x.nm) ∧ w.cell? ⟨b, o + i * 3 + 1, none⟩ = some (.int .i64 x.lo) ∧ w.cell? ⟨b, o + i * 3 + 2, none⟩ = some (.int .i64 x.hi) := by
  obtain ⟨b, o, x, e, hb, hx, hc⟩ := h.1.at_ hi
  exact ⟨b, o, x, e, hb, hx, h.2 x (List.mem_of_getElem? hx), hc 0 _ rfl, hc 1 _ rfl, hc 2 _ rfl⟩
theorem Nodes.below (h : Nodes w A n xs) (hb : Below w.heap.size w w') : Nodes w' A n xs := ⟨h.1.below hb, h.2⟩
theorem Nodes.alloc (h : Nodes w A n xs) (o : Obj) : Nodes (w.alloc o) A n xs := ⟨h.1.alloc o, h.2⟩
theorem Nodes.qt (h : Nodes w A n xs) (hq : Qt w w') : Nodes w' A n xs := ⟨h.1.qt hq, h.2⟩
theorem Nodes.grown {row : Option Nat} (h : Nodes w A n xs) (hg : w.grownBy w' row) (hne : ∀ b o, A = some ⟨b, o, none⟩ → some b ≠ row) : Nodes w' A n xs :=
  ⟨⟨h.1.1, fun hn => by
    obtain ⟨b, o, e, hlt, hc⟩ := h.1.2 hn
    exact ⟨b, o, e, Nat.lt_of_lt_of_le hlt hg.size, fun i x hx j v hv => (World.cell?_of_block (a := ⟨b, o + i * 3 + j, none⟩) (hg.block b hlt (hne b o e))).trans (hc i x hx j v hv)⟩⟩, h.2⟩
end
section
variable {H : Type} {enc : TypeId × Value → H} {W : World} {base : Nat} {v : Value} {d : DataW H} {p : List MemPlace}
theorem rd_nodes {fuel : Nat} {v : Value} {y : DataW H × List MemPlace} (h : DataW.trod enc Try.prog W 0 (fun _ => true) true fuel 22 [v] = some y) :
    ∃ A n c xs, v = .slice A n c ∧ Nodes W A n xs ∧ n ≤ c ∧ c ≤ maxLen ∧ (A = none → c = 0) := by
  obtain ⟨A, n, c, f, rfl, hnc, hcm, hcell, hrd, hnl⟩ := rd_fields' Try.underlying22 Try.underlying53 (by kernel_rfl) (by kernel_rfl) (by decide) h
  have g0 : ∀ i, i < n → ∃ a, f i 0 = .string a ∧ a.size ≤ maxLen := fun i hi => by obtain ⟨m, z, hz⟩ := hrd i 0 _ hi rfl; exact fld_str hz
  have g1 : ∀ i, i < n → ∃ a, f i 1 = .int .i64 a ∧ I64 a := fun i hi => by obtain ⟨m, z, hz⟩ := hrd i 1 _ hi rfl; exact fld_i64 hz
  have g2 : ∀ i, i < n → ∃ a, f i 2 = .int .i64 a ∧ I64 a := fun i hi => by obtain ⟨m, z, hz⟩ := hrd i 2 _ hi rfl; exact fld_i64 hz
  refine ⟨A, n, c, (List.range n).map fun i => ⟨strOf (f i 0), intOf (f i 1), intOf (f i 2)⟩, rfl, ⟨⟨by simp, fun hn => ?_⟩, ?_⟩, hnc, hcm, hnl⟩
  · obtain ⟨b, o, rfl, hb, hc⟩ := hcell hn
    refine ⟨b, o, rfl, hb, fun i x hx j u hu => ?_⟩
    have hi : i < n := by have := (List.getElem?_eq_some_iff.1 hx).1; simpa using this
    have hj : j < 3 := by have := (List.getElem?_eq_some_iff.1 hu).1; simpa [encN] using this
    have hc' := hc i j hi hj
    simp [hi] at hx
    subst hx
    refine hc'.trans ?_
    rw [← hu]
    match j, hj with
    | 0, _ => obtain ⟨a, ha, _⟩ := g0 i hi; simp [encN, ha, strOf]
    | 1, _ => obtain ⟨a, ha, _⟩ := g1 i hi; simp [encN, ha, intOf]
    | 2, _ => obtain ⟨a, ha, _⟩ := g2 i hi; simp [encN, ha, intOf]
  · intro x hx
    obtain ⟨i, hi, rfl⟩ := List.mem_map.1 hx
    have hi' : i < n := by simpa using hi
    obtain ⟨a0, ha0, wa0⟩ := g0 i hi'
    obtain ⟨a1, ha1, wa1⟩ := g1 i hi'
    obtain ⟨a2, ha2, wa2⟩ := g2 i hi'
    exact ⟨by simpa [ha0, strOf] using wa0, by simpa [ha1, intOf] using wa1, by simpa [ha2, intOf] using wa2⟩
end
/-- A pipe. -/
structure Pp where
  fr : Int
  to : Int
  k : Int
  v : Int
  l : Int
def encP (x : Pp) : List Value := [.int .i64 x.fr, .int .i64 x.to, .int .i64 x.k, .int .i64 x.v, .int .i64 x.l]
def okP (x : Pp) : Prop := I64 x.fr ∧ I64 x.to ∧ I64 x.k ∧ I64 x.v ∧ I64 x.l
/-- A slice of pipes that reads as xs. -/
def Pipes (w : World) (A : Option Addr) (n : Nat) (xs : List Pp) : Prop := Recs encP 5 w A n xs ∧ ∀ x ∈ xs, okP x
section
variable {w w' : World} {A : Option Addr} {n : Nat} {xs : List Pp}
theorem Pipes.len (h : Pipes w A n xs) : xs.length = n := h.1.1
theorem Pipes.at_ (h : Pipes w A n xs) {i : Nat} (hi : i < n) : ∃ b o x, A = some ⟨b, o, none⟩ ∧ b < w.heap.size ∧ xs[i]? = some x ∧ okP x ∧ w.cell? ⟨b, o + i * 5, none⟩ = some (.int .i64 x.fr) ∧ w.cell? ⟨b, o + i * 5 + 1, none⟩ = some (.int .i64 x.to) ∧ w.cell? ⟨b, o + i * 5 + 2, none⟩ = some (.int .i64 x.k) ∧ w.cell? ⟨b, o + i * 5 + 3, none⟩ = some (.int .i64 x.v) ∧ w.cell? ⟨b, o + i * 5 + 4, none⟩ = some (.int .i64 x.l) := by
  obtain ⟨b, o, x, e, hb, hx, hc⟩ := h.1.at_ hi
  exact ⟨b, o, x, e, hb, hx, h.2 x (List.mem_of_getElem? hx), hc 0 _ rfl, hc 1 _ rfl, hc 2 _ rfl, hc 3 _ rfl, hc 4 _ rfl⟩
theorem Pipes.below (h : Pipes w A n xs) (hb : Below w.heap.size w w') : Pipes w' A n xs := ⟨h.1.below hb, h.2⟩
theorem Pipes.alloc (h : Pipes w A n xs) (o : Obj) : Pipes (w.alloc o) A n xs := ⟨h.1.alloc o, h.2⟩
theorem Pipes.qt (h : Pipes w A n xs) (hq : Qt w w') : Pipes w' A n xs := ⟨h.1.qt hq, h.2⟩
theorem Pipes.grown {row : Option Nat} (h : Pipes w A n xs) (hg : w.grownBy w' row) (hne : ∀ b o, A = some ⟨b, o, none⟩ → some b ≠ row) : Pipes w' A n xs :=
  ⟨⟨h.1.1, fun hn => by
    obtain ⟨b, o, e, hlt, hc⟩ := h.1.2 hn
    exact ⟨b, o, e, Nat.lt_of_lt_of_le hlt hg.size, fun i x hx j v hv => (World.cell?_of_block (a := ⟨b, o + i * 5 + j, none⟩) (hg.block b hlt (hne b o e))).trans (hc i x hx j v hv)⟩⟩, h.2⟩
end
section
variable {H : Type} {enc : TypeId × Value → H} {W : World} {base : Nat} {v : Value} {d : DataW H} {p : List MemPlace}
theorem rd_pipes {fuel : Nat} {v : Value} {y : DataW H × List MemPlace} (h : DataW.trod enc Try.prog W 0 (fun _ => true) true fuel 23 [v] = some y) :
    ∃ A n c xs, v = .slice A n c ∧ Pipes W A n xs ∧ n ≤ c ∧ c ≤ maxLen ∧ (A = none → c = 0) := by
  obtain ⟨A, n, c, f, rfl, hnc, hcm, hcell, hrd, hnl⟩ := rd_fields' Try.underlying23 Try.underlying61 (by kernel_rfl) (by kernel_rfl) (by decide) h
  have g0 : ∀ i, i < n → ∃ a, f i 0 = .int .i64 a ∧ I64 a := fun i hi => by obtain ⟨m, z, hz⟩ := hrd i 0 _ hi rfl; exact fld_i64 hz
  have g1 : ∀ i, i < n → ∃ a, f i 1 = .int .i64 a ∧ I64 a := fun i hi => by obtain ⟨m, z, hz⟩ := hrd i 1 _ hi rfl; exact fld_i64 hz
  have g2 : ∀ i, i < n → ∃ a, f i 2 = .int .i64 a ∧ I64 a := fun i hi => by obtain ⟨m, z, hz⟩ := hrd i 2 _ hi rfl; exact fld_i64 hz
  have g3 : ∀ i, i < n → ∃ a, f i 3 = .int .i64 a ∧ I64 a := fun i hi => by obtain ⟨m, z, hz⟩ := hrd i 3 _ hi rfl; exact fld_i64 hz
  have g4 : ∀ i, i < n → ∃ a, f i 4 = .int .i64 a ∧ I64 a := fun i hi => by obtain ⟨m, z, hz⟩ := hrd i 4 _ hi rfl; exact fld_i64 hz
  refine ⟨A, n, c, (List.range n).map fun i => ⟨intOf (f i 0), intOf (f i 1), intOf (f i 2), intOf (f i 3), intOf (f i 4)⟩, rfl, ⟨⟨by simp, fun hn => ?_⟩, ?_⟩, hnc, hcm, hnl⟩
  · obtain ⟨b, o, rfl, hb, hc⟩ := hcell hn
    refine ⟨b, o, rfl, hb, fun i x hx j u hu => ?_⟩
    have hi : i < n := by have := (List.getElem?_eq_some_iff.1 hx).1; simpa using this
    have hj : j < 5 := by have := (List.getElem?_eq_some_iff.1 hu).1; simpa [encP] using this
    have hc' := hc i j hi hj
    simp [hi] at hx
    subst hx
    refine hc'.trans ?_
    rw [← hu]
    match j, hj with
    | 0, _ => obtain ⟨a, ha, _⟩ := g0 i hi; simp [encP, ha, intOf]
    | 1, _ => obtain ⟨a, ha, _⟩ := g1 i hi; simp [encP, ha, intOf]
    | 2, _ => obtain ⟨a, ha, _⟩ := g2 i hi; simp [encP, ha, intOf]
    | 3, _ => obtain ⟨a, ha, _⟩ := g3 i hi; simp [encP, ha, intOf]
    | 4, _ => obtain ⟨a, ha, _⟩ := g4 i hi; simp [encP, ha, intOf]
  · intro x hx
    obtain ⟨i, hi, rfl⟩ := List.mem_map.1 hx
    have hi' : i < n := by simpa using hi
    obtain ⟨a0, ha0, wa0⟩ := g0 i hi'
    obtain ⟨a1, ha1, wa1⟩ := g1 i hi'
    obtain ⟨a2, ha2, wa2⟩ := g2 i hi'
    obtain ⟨a3, ha3, wa3⟩ := g3 i hi'
    obtain ⟨a4, ha4, wa4⟩ := g4 i hi'
    exact ⟨by simpa [ha0, intOf] using wa0, by simpa [ha1, intOf] using wa1, by simpa [ha2, intOf] using wa2, by simpa [ha3, intOf] using wa3, by simpa [ha4, intOf] using wa4⟩
end
theorem list2 {l : List Value} (h : l.length = 2) : ∃ a b, l = [a, b] := by
  match l, h with
  | [a, b], _ => exact ⟨a, b, rfl⟩
section
variable {H : Type} {enc : TypeId × Value → H} {W : World} {base : Nat} {v : Value} {d : DataW H} {p : List MemPlace}
theorem opn_net (hv : Value.okWide Try.prog W .any base 25 v) (h : DataW.Trod enc Try.prog W 0 (fun _ => true) true 25 v d p) (_lt : ∀ x ∈ p, x.block < W.heap.size) :
    ∃ A n c ns B m e ps, v = .agg #[.slice A n c, .slice B m e] ∧ Nodes W A n ns ∧ n ≤ c ∧ c ≤ maxLen ∧ Pipes W B m ps ∧ m ≤ e ∧ e ≤ maxLen ∧ (A = none → c = 0) ∧ (B = none → e = 0) := by
  obtain ⟨cs, rfl, hl, hg⟩ := opn_fields Try.underlying25 (by kernel_rfl) (by kernel_rfl) hv h
  obtain ⟨c0, c1, rfl⟩ := list2 hl
  obtain ⟨_, _, h0, _⟩ := hg 0 _ _ rfl rfl
  obtain ⟨_, _, h1, _⟩ := hg 1 _ _ rfl rfl
  obtain ⟨A, n, c, ns, rfl, hf, hnc, hcm, hn1⟩ := rd_nodes h0
  obtain ⟨B, m, e, ps, rfl, hf', hnc', hcm', hn2⟩ := rd_pipes h1
  exact ⟨A, n, c, ns, B, m, e, ps, rfl, hf, hnc, hcm, hf', hnc', hcm', hn1, hn2⟩
theorem opn_str (hv : Value.okWide Try.prog W .any base 9 v) (h : DataW.Trod enc Try.prog W 0 (fun _ => true) true 9 v d p) (_lt : ∀ x ∈ p, x.block < W.heap.size) :
    ∃ s : ByteArray, v = .string s ∧ s.size ≤ maxLen := by
  obtain ⟨s, rfl⟩ := okWide_string Try.underlying9 hv
  obtain ⟨fuel, hf⟩ := h
  obtain ⟨s', h', _, hs⟩ := DataW.trod_string Try.underlying9 hf
  simp [Value.cells] at h'
  subst h'
  exact ⟨s, rfl, hs⟩
end
end Go.Proofs.Ytpgegfnhokhlmaa
set_option linter.unusedVariables false
set_option maxRecDepth 100000
namespace Go.Proofs.Ytpgegfnhokhlmaa
open Go.ChangeShapes Go.WideShapes Go.ChangeAt Go.RowKit Go.Joins Go.Deep
theorem of_nei {a b : Int} (h : (a != b) = false) : a = b := by simpa using h
theorem ne_ofi {a b : Int} (h : (a != b) = true) : a ≠ b := by simpa using h
theorem str_inj {a b : ByteArray} (h : a.toList = b.toList) : a = b := by
  rw [ByteArray.toList_eq a, ByteArray.toList_eq b] at h
  cases a; cases b
  simpa using Array.toList_inj.1 h
theorem of_nes {a b : ByteArray} (h : (!(a.toList == b.toList)) = false) : a = b := by
  simp at h
  exact str_inj h
theorem ne_ofs {a b : ByteArray} (h : (!(a.toList == b.toList)) = true) : a ≠ b := by
  rintro rfl
  simp at h
/-- Two values compared: true if they are the same. -/
def RetEq (w : World) (p : Prop) (e : Ending) (w' : World) : Prop := ∃ b : Bool, (b = true ↔ p) ∧ e = .returned (.bool b) ∧ Below w.heap.size w w'

/-- A slice of nodes of the call's own. -/
def OwnN (w : World) (B : Nat) (A : Option Addr) (n c : Nat) (xs : List Nd) : Prop := OwnR encN 3 55 w B A n c xs ∧ ∀ x ∈ xs, okN x
def RetN (w : World) (xs : List Nd) (e : Ending) (w' : World) : Prop :=
  ∃ A c, e = .returned (.slice A xs.length c) ∧ OwnN w' w.heap.size A xs.length c xs ∧ Below w.heap.size w w'
section
variable {w w' : World} {A : Option Addr} {n c B : Nat} {xs : List Nd}
theorem OwnN.reads (h : OwnN w B A n c xs) : Nodes w A n xs := ⟨h.1.recs (by omega), h.2⟩
theorem OwnN.len (h : OwnN w B A n c xs) : xs.length = n := h.1.len (by omega)
theorem OwnN.below (h : OwnN w B A n c xs) (hb : Below w.heap.size w w') : OwnN w' B A n c xs := ⟨h.1.below hb, h.2⟩
theorem OwnN.low (h : OwnN w B A n c xs) {a : Addr} (ha : a.block < B) (u : Value) : OwnN (w.setCell a u) B A n c xs := ⟨⟨ownsRow_setCell_below h.1.1 ha u, h.1.2⟩, h.2⟩
theorem OwnN.mono {B' : Nat} (h : OwnN w B A n c xs) (hB : B' ≤ B) : OwnN w B' A n c xs := ⟨h.1.mono hB, h.2⟩
theorem OwnN.grown {row : Option Nat} (h : OwnN w B A n c xs) (hg : w.grownBy w' row) (hne : ∀ g, A = some ⟨g, 0, none⟩ → row ≠ some g) : OwnN w' B A n c xs := ⟨h.1.grown hg hne, h.2⟩
end
theorem toNode_any (f : Nd) (w : World) :
    Calls Try.prog 30 #[.agg #[.string f.nm, .int .i64 f.lo, .int .i64 f.hi]] w fun e w' => e = .returned (.agg #[.string f.nm, .int .i64 f.lo, .int .i64 f.hi]) ∧ Below w.heap.size w w' := by
  go_enter Try.func30, Try.ntmps30
  go_wp2
  exact bodyPost_ret (v := .agg #[.string f.nm, .int .i64 f.lo, .int .i64 f.hi]) (by simp [results, Try.results30, go_sem]) rfl ⟨rfl, by
    repeat (first | exact Below.refl _ _ | refine Below.setCell ?_ (by simp <;> omega) _ | refine Below.alloc ?_ (by simp <;> omega) _)⟩
def eqN (f g : Nd) : Bool := decide (f.nm = g.nm) && (decide (f.lo = g.lo) && (decide (f.hi = g.hi)))
theorem eqN_iff (f g : Nd) : eqN f g = true ↔ f = g := by
  cases f; cases g; simp [eqN]
set_option maxHeartbeats 1000000 in
theorem eqNode_any (f g : Nd) (w : World) :
    Calls Try.prog 39 #[.agg #[.string f.nm, .int .i64 f.lo, .int .i64 f.hi], .agg #[.string g.nm, .int .i64 g.lo, .int .i64 g.hi]] w fun e w' => e = .returned (.bool (eqN f g)) ∧ Below w.heap.size w w' := by
  have hb : ∀ cs t ds u, Below w.heap.size w ((w.alloc (.cells cs t)).alloc (.cells ds u)) := fun cs t ds u => ((Below.refl _ _).alloc (Nat.le_refl _) _).alloc (by simp) _
  cases h0 : (!(f.nm.toList == g.nm.toList))
  · cases h1 : (f.lo != g.lo)
    · cases h2 : (f.hi != g.hi)
      · have e0 := of_nes h0
        have e1 := of_nei h1
        have e2 := of_nei h2
        have H := Lib.hid (show eqN f g = true by simp [eqN, e0, e1, e2])
        clear e0 e1 e2
        go_enter Try.func39, Try.ntmps39
        go_wp2
        go_ret
        exact ⟨rb H.out.symm, hb _ _ _ _⟩
      · have e2 := ne_ofi h2
        have H := Lib.hid (show eqN f g = false by simp [eqN, e2])
        clear e2
        go_enter Try.func39, Try.ntmps39
        go_wp2
        go_ret
        exact ⟨rb H.out.symm, hb _ _ _ _⟩
    · have e1 := ne_ofi h1
      have H := Lib.hid (show eqN f g = false by simp [eqN, e1])
      clear e1
      go_enter Try.func39, Try.ntmps39
      go_wp2
      go_ret
      exact ⟨rb H.out.symm, hb _ _ _ _⟩
  · have e0 := ne_ofs h0
    have H := Lib.hid (show eqN f g = false by simp [eqN, e0])
    clear e0
    go_enter Try.func39, Try.ntmps39
    go_wp2
    go_ret
    exact ⟨rb H.out.symm, hb _ _ _ _⟩
def zeroN : Nd := ⟨ByteArray.empty, 0, 0⟩
theorem infoN : (Try.prog.info? 55).map (fun i => (i.zero, i.size, i.bytes)) = some (some (.agg #[.string ByteArray.empty, .int .i64 0, .int .i64 0]), 3, 32) := by kernel_rfl
theorem copyN {fs : List Nd} {n i : Nat} {f : Nd} (hl : fs.length = n) (hi : i < n) (hf : fs[i]? = some f) :
    (fs.take i ++ List.replicate (n - i) zeroN).set i f = fs.take (i + 1) ++ List.replicate (n - (i + 1)) zeroN := by
  obtain ⟨hk', rfl⟩ := List.getElem?_eq_some_iff.1 hf
  rw [List.set_append_right _ _ (by simp; omega), List.take_succ_eq_append_getElem hk', List.append_assoc]
  congr 1
  have e1 : i - (fs.take i).length = 0 := by simp; omega
  have e2 : n - i = (n - (i + 1)) + 1 := by omega
  rw [e1, e2, List.replicate_succ]
  rfl
theorem retN_of {w w' : World} {A : Option Addr} {n c : Nat} {fs : List Nd} (hl : fs.length = n) (ho : OwnR encN 3 55 w' w.heap.size A n c fs) (hk : ∀ f ∈ fs, okN f) (hb : Below w.heap.size w w') : RetN w fs (.returned (.slice A n c)) w' := by
  subst hl
  exact ⟨_, _, rfl, ⟨ho, hk⟩, hb⟩
set_option maxHeartbeats 4000000 in
theorem toNodes_any (A : Option Addr) (n c : Nat) (fs : List Nd) (w : World) (h : Nodes w A n fs) (hn : n ≤ 1048576) :
    Calls Try.prog 18 #[.slice A n c] w (RetN w fs) := by
  have hmk := fun W => run_mk (P := Try.prog) 30 55 (.agg #[.string ByteArray.empty, .int .i64 0, .int .i64 0]) 3 32 Try.underlying30 infoN n (by omega) (by omega) W
  have hl := Lib.hid h.len
  go_enter Try.func18, Try.ntmps18
  go_wp2
  clear hmk
  go_loopw [4] (fun ii wr => ∃ k : Nat, k ≤ n ∧ ii = .int .i64 k ∧ OwnR encN 3 55 wr w.heap.size (some ⟨w.heap.size, 0, none⟩) n n (fs.take k ++ List.replicate (n - k) zeroN) ∧ Below w.heap.size w wr) (fun ii _ => n - (intOf ii).toNat)
  case atStart => exact ⟨0, Nat.zero_le _, rfl, by simpa using own_made (enc := encN) (k := 3) (e := 55) (z := #[.string ByteArray.empty, .int .i64 0, .int .i64 0]) zeroN rfl (by omega) rfl w n (by unfold maxLen; omega) (Nat.le_refl _), (Below.refl _ _).alloc (Nat.le_refl _) _⟩
  case round =>
    obtain ⟨k, hk, rfl, hown, hb⟩ := hrel
    by_cases hlt : k < n
    · obtain ⟨b, o, f, rfl, hbl, hf, hok, hc0, hc1, hc2⟩ := (h.below hb).at_ hlt
      have hst := Lib.hid (copyN hl.out hlt hf)
      clear hf
      go_wp2_with fail
      refine (toNode_any f _).mono ?_
      rintro e w1 ⟨rfl, hb1⟩
      have hown1 := hown.below hb1
      have hb1' := bthen hb hb1 hb.size
      obtain ⟨x, hx, hcs, hfs, _, hgl⟩ := hown1.cells (by omega) hlt
      have c0 := hcs 0 _ rfl
      have f0 := hfs (k * 3)
      have c1 := hcs 1 _ rfl
      have f1 := hfs (k * 3 + 1)
      have c2 := hcs 2 _ rfl
      have f2 := hfs (k * 3 + 2)
      obtain ⟨hput, hgr⟩ := hown1.put (by omega) hlt (x := f) rfl
      have HPUT := Lib.hid hput
      have HGR := Lib.hid hgr
      clear hown hown1 hcs hfs hput hgr hx hc0 hc1 hc2
      rw [Nat.add_zero] at c0
      go_wp2_with fail
      go_roundw
      case rel => exact ⟨k + 1, by omega, by go_num, by rw [← hst.out]; exact HPUT.out, hb1'.grown HGR.out hb1'.size (fun g hg => by injection hg with hg; omega)⟩
      case measure => simp [intOf]; omega
    · go_wp2_with fail
      go_ret
      obtain rfl : k = n := by omega
      exact retN_of hl.out (by simpa [List.take_of_length_le (Nat.le_of_eq hl.out)] using hown) h.2 hb
theorem takeN {xs ys : List Nd} {k : Nat} {z : Nd} (h : xs.take k = ys.take k) (hx : xs[k]? = some z) (hy : ys[k]? = some z) : xs.take (k + 1) = ys.take (k + 1) := by
  rw [List.take_add_one, List.take_add_one, h, hx, hy]
section
attribute [local go_sem ↓] Go.wp_at_zero Go.wp_at_succ
set_option maxHeartbeats 4000000 in
theorem eqNodes_any (A B : Option Addr) (n m c d : Nat) (xs ys : List Nd) (w : World) (ha : Nodes w A n xs) (hb : Nodes w B m ys) (hn : n ≤ 1048576) :
    Calls Try.prog 22 #[.slice A n c, .slice B m d] w (RetEq w (xs = ys)) := by
  have hla := Lib.hid ha.len
  have hlb := Lib.hid hb.len
  by_cases hnm : n = m
  · subst hnm
    have hne : ((n : Int) != (n : Int)) = false := by simp
    go_enter Try.func22, Try.ntmps22
    go_wp2_with fail
    go_loopw [5] (fun i wr => ∃ k : Nat, k ≤ n ∧ i = .int .i64 k ∧ Hid (xs.take k = ys.take k) ∧ Below w.heap.size w wr) (fun i _ => n - (intOf i).toNat)
    case atStart => exact ⟨0, Nat.zero_le _, rfl, rfl, Below.refl _ _⟩
    case round =>
      obtain ⟨k, hk, rfl, HP, hw⟩ := hrel
      by_cases hlt : k < n
      · obtain ⟨b, o, f, rfl, hbl, hx, hx64, hx0, hx1, hx2⟩ := (ha.below hw).at_ hlt
        obtain ⟨b', o', g, rfl, hbl', hy, hy64, hy0, hy1, hy2⟩ := (hb.below hw).at_ hlt
        have HX := Lib.hid hx
        have HY := Lib.hid hy
        have hwd := hw.drew
        have hbs := hw.size
        have k0 : (0 : Int) ≤ (k : Int) := by omega
        have k1 : (k : Int) < (n : Int) := by omega
        clear hx hy
        cases hfg : eqN f g
        all_goals
          have HE := Lib.hid hfg
          go_wp2_with fail
          go_region_held3 (fun w' => b < w'.heap.size ∧ b' < w'.heap.size ∧ w.heap.size ≤ w'.heap.size ∧ w'.cell? ⟨b, o + k * 3, none⟩ = some (.string f.nm) ∧ w'.cell? ⟨b, o + k * 3 + 1, none⟩ = some (.int .i64 f.lo) ∧ w'.cell? ⟨b, o + k * 3 + 2, none⟩ = some (.int .i64 f.hi) ∧ w'.cell? ⟨b', o' + k * 3, none⟩ = some (.string g.nm) ∧ w'.cell? ⟨b', o' + k * 3 + 1, none⟩ = some (.int .i64 g.lo) ∧ w'.cell? ⟨b', o' + k * 3 + 2, none⟩ = some (.int .i64 g.hi) ∧ Below w.heap.size w w')
            (first | go_keep | (go_split_ands; refine ⟨by have := hb2.size; omega, by have := hb2.size; omega, by have := hb2.size; omega, ?_, ?_, ?_, ?_, ?_, ?_, bthen ‹_› hb2 (by assumption)⟩ <;> (rw [hb2.cell (by simp; omega)]; assumption)))
            (first | (go_at_call 39; refine (eqNode_any f g _).mono ?_; rintro e w2 ⟨rfl, hb2⟩))
          go_wp2_with fail
        · go_ret
          rename_i hh
          refine ⟨false, ⟨(fun h => by cases h), fun h => ?_⟩, rfl, hh.2.2.2.2.2.2.2.2.2⟩
          subst h
          have e := Option.some.inj (HX.out.symm.trans HY.out)
          have := HE.out
          rw [(eqN_iff f g).2 e] at this
          cases this
        · rename_i hh
          go_roundw
          case rel => exact ⟨k + 1, by omega, by go_num, takeN HP.out HX.out ((eqN_iff f g).1 HE.out ▸ HY.out), hh.2.2.2.2.2.2.2.2.2⟩
          case measure => simp [intOf]; omega
      · go_wp2_with fail
        go_ret
        refine ⟨true, ⟨fun _ => ?_, fun _ => rfl⟩, rfl, hw⟩
        have := HP.out
        rwa [List.take_of_length_le (by have := hla.out; omega), List.take_of_length_le (by have := hlb.out; omega)] at this
  · have HN := Lib.hid hnm
    have hne : ((n : Int) != (m : Int)) = true := by simp; omega
    clear hnm
    go_enter Try.func22, Try.ntmps22
    go_wp2_with fail
    go_ret
    refine ⟨false, ⟨(fun h => by cases h), fun h => ?_⟩, rfl, Below.refl _ _⟩
    subst h
    exact absurd (hla.out.symm.trans hlb.out) HN.out
end

/-- A slice of pipes of the call's own. -/
def OwnP (w : World) (B : Nat) (A : Option Addr) (n c : Nat) (xs : List Pp) : Prop := OwnR encP 5 58 w B A n c xs ∧ ∀ x ∈ xs, okP x
def RetP (w : World) (xs : List Pp) (e : Ending) (w' : World) : Prop :=
  ∃ A c, e = .returned (.slice A xs.length c) ∧ OwnP w' w.heap.size A xs.length c xs ∧ Below w.heap.size w w'
section
variable {w w' : World} {A : Option Addr} {n c B : Nat} {xs : List Pp}
theorem OwnP.reads (h : OwnP w B A n c xs) : Pipes w A n xs := ⟨h.1.recs (by omega), h.2⟩
theorem OwnP.len (h : OwnP w B A n c xs) : xs.length = n := h.1.len (by omega)
theorem OwnP.below (h : OwnP w B A n c xs) (hb : Below w.heap.size w w') : OwnP w' B A n c xs := ⟨h.1.below hb, h.2⟩
theorem OwnP.low (h : OwnP w B A n c xs) {a : Addr} (ha : a.block < B) (u : Value) : OwnP (w.setCell a u) B A n c xs := ⟨⟨ownsRow_setCell_below h.1.1 ha u, h.1.2⟩, h.2⟩
theorem OwnP.mono {B' : Nat} (h : OwnP w B A n c xs) (hB : B' ≤ B) : OwnP w B' A n c xs := ⟨h.1.mono hB, h.2⟩
theorem OwnP.grown {row : Option Nat} (h : OwnP w B A n c xs) (hg : w.grownBy w' row) (hne : ∀ g, A = some ⟨g, 0, none⟩ → row ≠ some g) : OwnP w' B A n c xs := ⟨h.1.grown hg hne, h.2⟩
end
theorem toPipe_any (f : Pp) (w : World) :
    Calls Try.prog 31 #[.agg #[.int .i64 f.fr, .int .i64 f.to, .int .i64 f.k, .int .i64 f.v, .int .i64 f.l]] w fun e w' => e = .returned (.agg #[.int .i64 f.fr, .int .i64 f.to, .int .i64 f.k, .int .i64 f.v, .int .i64 f.l]) ∧ Below w.heap.size w w' := by
  go_enter Try.func31, Try.ntmps31
  go_wp2
  exact bodyPost_ret (v := .agg #[.int .i64 f.fr, .int .i64 f.to, .int .i64 f.k, .int .i64 f.v, .int .i64 f.l]) (by simp [results, Try.results31, go_sem]) rfl ⟨rfl, by
    repeat (first | exact Below.refl _ _ | refine Below.setCell ?_ (by simp <;> omega) _ | refine Below.alloc ?_ (by simp <;> omega) _)⟩
def eqP (f g : Pp) : Bool := decide (f.fr = g.fr) && (decide (f.to = g.to) && (decide (f.k = g.k) && (decide (f.v = g.v) && (decide (f.l = g.l)))))
theorem eqP_iff (f g : Pp) : eqP f g = true ↔ f = g := by
  cases f; cases g; simp [eqP]
set_option maxHeartbeats 1000000 in
theorem eqPipe_any (f g : Pp) (w : World) :
    Calls Try.prog 40 #[.agg #[.int .i64 f.fr, .int .i64 f.to, .int .i64 f.k, .int .i64 f.v, .int .i64 f.l], .agg #[.int .i64 g.fr, .int .i64 g.to, .int .i64 g.k, .int .i64 g.v, .int .i64 g.l]] w fun e w' => e = .returned (.bool (eqP f g)) ∧ Below w.heap.size w w' := by
  have hb : ∀ cs t ds u, Below w.heap.size w ((w.alloc (.cells cs t)).alloc (.cells ds u)) := fun cs t ds u => ((Below.refl _ _).alloc (Nat.le_refl _) _).alloc (by simp) _
  cases h0 : (f.fr != g.fr)
  · cases h1 : (f.to != g.to)
    · cases h2 : (f.k != g.k)
      · cases h3 : (f.v != g.v)
        · cases h4 : (f.l != g.l)
          · have e0 := of_nei h0
            have e1 := of_nei h1
            have e2 := of_nei h2
            have e3 := of_nei h3
            have e4 := of_nei h4
            have H := Lib.hid (show eqP f g = true by simp [eqP, e0, e1, e2, e3, e4])
            clear e0 e1 e2 e3 e4
            go_enter Try.func40, Try.ntmps40
            go_wp2
            go_ret
            exact ⟨rb H.out.symm, hb _ _ _ _⟩
          · have e4 := ne_ofi h4
            have H := Lib.hid (show eqP f g = false by simp [eqP, e4])
            clear e4
            go_enter Try.func40, Try.ntmps40
            go_wp2
            go_ret
            exact ⟨rb H.out.symm, hb _ _ _ _⟩
        · have e3 := ne_ofi h3
          have H := Lib.hid (show eqP f g = false by simp [eqP, e3])
          clear e3
          go_enter Try.func40, Try.ntmps40
          go_wp2
          go_ret
          exact ⟨rb H.out.symm, hb _ _ _ _⟩
      · have e2 := ne_ofi h2
        have H := Lib.hid (show eqP f g = false by simp [eqP, e2])
        clear e2
        go_enter Try.func40, Try.ntmps40
        go_wp2
        go_ret
        exact ⟨rb H.out.symm, hb _ _ _ _⟩
    · have e1 := ne_ofi h1
      have H := Lib.hid (show eqP f g = false by simp [eqP, e1])
      clear e1
      go_enter Try.func40, Try.ntmps40
      go_wp2
      go_ret
      exact ⟨rb H.out.symm, hb _ _ _ _⟩
  · have e0 := ne_ofi h0
    have H := Lib.hid (show eqP f g = false by simp [eqP, e0])
    clear e0
    go_enter Try.func40, Try.ntmps40
    go_wp2
    go_ret
    exact ⟨rb H.out.symm, hb _ _ _ _⟩
def zeroP : Pp := ⟨0, 0, 0, 0, 0⟩
theorem infoP : (Try.prog.info? 58).map (fun i => (i.zero, i.size, i.bytes)) = some (some (.agg #[.int .i64 0, .int .i64 0, .int .i64 0, .int .i64 0, .int .i64 0]), 5, 40) := by kernel_rfl
theorem copyP {fs : List Pp} {n i : Nat} {f : Pp} (hl : fs.length = n) (hi : i < n) (hf : fs[i]? = some f) :
    (fs.take i ++ List.replicate (n - i) zeroP).set i f = fs.take (i + 1) ++ List.replicate (n - (i + 1)) zeroP := by
  obtain ⟨hk', rfl⟩ := List.getElem?_eq_some_iff.1 hf
  rw [List.set_append_right _ _ (by simp; omega), List.take_succ_eq_append_getElem hk', List.append_assoc]
  congr 1
  have e1 : i - (fs.take i).length = 0 := by simp; omega
  have e2 : n - i = (n - (i + 1)) + 1 := by omega
  rw [e1, e2, List.replicate_succ]
  rfl
theorem retP_of {w w' : World} {A : Option Addr} {n c : Nat} {fs : List Pp} (hl : fs.length = n) (ho : OwnR encP 5 58 w' w.heap.size A n c fs) (hk : ∀ f ∈ fs, okP f) (hb : Below w.heap.size w w') : RetP w fs (.returned (.slice A n c)) w' := by
  subst hl
  exact ⟨_, _, rfl, ⟨ho, hk⟩, hb⟩
set_option maxHeartbeats 4000000 in
theorem toPipes_any (A : Option Addr) (n c : Nat) (fs : List Pp) (w : World) (h : Pipes w A n fs) (hn : n ≤ 1048576) :
    Calls Try.prog 19 #[.slice A n c] w (RetP w fs) := by
  have hmk := fun W => run_mk (P := Try.prog) 31 58 (.agg #[.int .i64 0, .int .i64 0, .int .i64 0, .int .i64 0, .int .i64 0]) 5 40 Try.underlying31 infoP n (by omega) (by omega) W
  have hl := Lib.hid h.len
  go_enter Try.func19, Try.ntmps19
  go_wp2
  clear hmk
  go_loopw [4] (fun ii wr => ∃ k : Nat, k ≤ n ∧ ii = .int .i64 k ∧ OwnR encP 5 58 wr w.heap.size (some ⟨w.heap.size, 0, none⟩) n n (fs.take k ++ List.replicate (n - k) zeroP) ∧ Below w.heap.size w wr) (fun ii _ => n - (intOf ii).toNat)
  case atStart => exact ⟨0, Nat.zero_le _, rfl, by simpa using own_made (enc := encP) (k := 5) (e := 58) (z := #[.int .i64 0, .int .i64 0, .int .i64 0, .int .i64 0, .int .i64 0]) zeroP rfl (by omega) rfl w n (by unfold maxLen; omega) (Nat.le_refl _), (Below.refl _ _).alloc (Nat.le_refl _) _⟩
  case round =>
    obtain ⟨k, hk, rfl, hown, hb⟩ := hrel
    by_cases hlt : k < n
    · obtain ⟨b, o, f, rfl, hbl, hf, hok, hc0, hc1, hc2, hc3, hc4⟩ := (h.below hb).at_ hlt
      have hst := Lib.hid (copyP hl.out hlt hf)
      clear hf
      go_wp2_with fail
      refine (toPipe_any f _).mono ?_
      rintro e w1 ⟨rfl, hb1⟩
      have hown1 := hown.below hb1
      have hb1' := bthen hb hb1 hb.size
      obtain ⟨x, hx, hcs, hfs, _, hgl⟩ := hown1.cells (by omega) hlt
      have c0 := hcs 0 _ rfl
      have f0 := hfs (k * 5)
      have c1 := hcs 1 _ rfl
      have f1 := hfs (k * 5 + 1)
      have c2 := hcs 2 _ rfl
      have f2 := hfs (k * 5 + 2)
      have c3 := hcs 3 _ rfl
      have f3 := hfs (k * 5 + 3)
      have c4 := hcs 4 _ rfl
      have f4 := hfs (k * 5 + 4)
      obtain ⟨hput, hgr⟩ := hown1.put (by omega) hlt (x := f) rfl
      have HPUT := Lib.hid hput
      have HGR := Lib.hid hgr
      clear hown hown1 hcs hfs hput hgr hx hc0 hc1 hc2 hc3 hc4
      rw [Nat.add_zero] at c0
      go_wp2_with fail
      go_roundw
      case rel => exact ⟨k + 1, by omega, by go_num, by rw [← hst.out]; exact HPUT.out, hb1'.grown HGR.out hb1'.size (fun g hg => by injection hg with hg; omega)⟩
      case measure => simp [intOf]; omega
    · go_wp2_with fail
      go_ret
      obtain rfl : k = n := by omega
      exact retP_of hl.out (by simpa [List.take_of_length_le (Nat.le_of_eq hl.out)] using hown) h.2 hb
theorem takeP {xs ys : List Pp} {k : Nat} {z : Pp} (h : xs.take k = ys.take k) (hx : xs[k]? = some z) (hy : ys[k]? = some z) : xs.take (k + 1) = ys.take (k + 1) := by
  rw [List.take_add_one, List.take_add_one, h, hx, hy]
section
attribute [local go_sem ↓] Go.wp_at_zero Go.wp_at_succ
set_option maxHeartbeats 4000000 in
theorem eqPipes_any (A B : Option Addr) (n m c d : Nat) (xs ys : List Pp) (w : World) (ha : Pipes w A n xs) (hb : Pipes w B m ys) (hn : n ≤ 1048576) :
    Calls Try.prog 23 #[.slice A n c, .slice B m d] w (RetEq w (xs = ys)) := by
  have hla := Lib.hid ha.len
  have hlb := Lib.hid hb.len
  by_cases hnm : n = m
  · subst hnm
    have hne : ((n : Int) != (n : Int)) = false := by simp
    go_enter Try.func23, Try.ntmps23
    go_wp2_with fail
    go_loopw [5] (fun i wr => ∃ k : Nat, k ≤ n ∧ i = .int .i64 k ∧ Hid (xs.take k = ys.take k) ∧ Below w.heap.size w wr) (fun i _ => n - (intOf i).toNat)
    case atStart => exact ⟨0, Nat.zero_le _, rfl, rfl, Below.refl _ _⟩
    case round =>
      obtain ⟨k, hk, rfl, HP, hw⟩ := hrel
      by_cases hlt : k < n
      · obtain ⟨b, o, f, rfl, hbl, hx, hx64, hx0, hx1, hx2, hx3, hx4⟩ := (ha.below hw).at_ hlt
        obtain ⟨b', o', g, rfl, hbl', hy, hy64, hy0, hy1, hy2, hy3, hy4⟩ := (hb.below hw).at_ hlt
        have HX := Lib.hid hx
        have HY := Lib.hid hy
        have hwd := hw.drew
        have hbs := hw.size
        have k0 : (0 : Int) ≤ (k : Int) := by omega
        have k1 : (k : Int) < (n : Int) := by omega
        clear hx hy
        cases hfg : eqP f g
        all_goals
          have HE := Lib.hid hfg
          go_wp2_with fail
          go_region_held3 (fun w' => b < w'.heap.size ∧ b' < w'.heap.size ∧ w.heap.size ≤ w'.heap.size ∧ w'.cell? ⟨b, o + k * 5, none⟩ = some (.int .i64 f.fr) ∧ w'.cell? ⟨b, o + k * 5 + 1, none⟩ = some (.int .i64 f.to) ∧ w'.cell? ⟨b, o + k * 5 + 2, none⟩ = some (.int .i64 f.k) ∧ w'.cell? ⟨b, o + k * 5 + 3, none⟩ = some (.int .i64 f.v) ∧ w'.cell? ⟨b, o + k * 5 + 4, none⟩ = some (.int .i64 f.l) ∧ w'.cell? ⟨b', o' + k * 5, none⟩ = some (.int .i64 g.fr) ∧ w'.cell? ⟨b', o' + k * 5 + 1, none⟩ = some (.int .i64 g.to) ∧ w'.cell? ⟨b', o' + k * 5 + 2, none⟩ = some (.int .i64 g.k) ∧ w'.cell? ⟨b', o' + k * 5 + 3, none⟩ = some (.int .i64 g.v) ∧ w'.cell? ⟨b', o' + k * 5 + 4, none⟩ = some (.int .i64 g.l) ∧ Below w.heap.size w w')
            (first | go_keep | (go_split_ands; refine ⟨by have := hb2.size; omega, by have := hb2.size; omega, by have := hb2.size; omega, ?_, ?_, ?_, ?_, ?_, ?_, ?_, ?_, ?_, ?_, bthen ‹_› hb2 (by assumption)⟩ <;> (rw [hb2.cell (by simp; omega)]; assumption)))
            (first | (go_at_call 40; refine (eqPipe_any f g _).mono ?_; rintro e w2 ⟨rfl, hb2⟩))
          go_wp2_with fail
        · go_ret
          rename_i hh
          refine ⟨false, ⟨(fun h => by cases h), fun h => ?_⟩, rfl, hh.2.2.2.2.2.2.2.2.2.2.2.2.2⟩
          subst h
          have e := Option.some.inj (HX.out.symm.trans HY.out)
          have := HE.out
          rw [(eqP_iff f g).2 e] at this
          cases this
        · rename_i hh
          go_roundw
          case rel => exact ⟨k + 1, by omega, by go_num, takeP HP.out HX.out ((eqP_iff f g).1 HE.out ▸ HY.out), hh.2.2.2.2.2.2.2.2.2.2.2.2.2⟩
          case measure => simp [intOf]; omega
      · go_wp2_with fail
        go_ret
        refine ⟨true, ⟨fun _ => ?_, fun _ => rfl⟩, rfl, hw⟩
        have := HP.out
        rwa [List.take_of_length_le (by have := hla.out; omega), List.take_of_length_le (by have := hlb.out; omega)] at this
  · have HN := Lib.hid hnm
    have hne : ((n : Int) != (m : Int)) = true := by simp; omega
    clear hnm
    go_enter Try.func23, Try.ntmps23
    go_wp2_with fail
    go_ret
    refine ⟨false, ⟨(fun h => by cases h), fun h => ?_⟩, rfl, Below.refl _ _⟩
    subst h
    exact absurd (hla.out.symm.trans hlb.out) HN.out
end
end Go.Proofs.Ytpgegfnhokhlmaa
set_option linter.unusedVariables false
set_option maxRecDepth 100000
namespace Go.Proofs.Ytpgegfnhokhlmaa
open Go.ChangeShapes Go.WideShapes Go.ChangeAt Go.RowKit Go.Joins Go.Deep

/-- What is left behind a count: -1, or what is left, the count taken off. -/
def RetLeft (w : World) (left n : Int) (e : Ending) (w' : World) : Prop :=
  ∃ r : Int, e = .returned (.int .i64 r) ∧ (r = -1 ∨ 0 ≤ r ∧ r + n ≤ left) ∧ Below w.heap.size w w'

theorem szPipes_any (A : Option Addr) (n c : Nat) (left : Int) (w : World) (hn : n ≤ maxLen) (h0 : 0 ≤ left) (hl : left ≤ 1048576) :
    Calls Try.prog 14 #[.slice A n c, .int .i64 left] w (RetLeft w left n) := by
  unfold maxLen at hn
  by_cases h : left - (n : Int) < 0
  all_goals
    go_enter Try.func14, Try.ntmps14
    go_wp2
    go_ret
  · exact ⟨_, rfl, .inl rfl, Below.refl _ _⟩
  · exact ⟨_, rfl, .inr ⟨by omega, by omega⟩, Below.refl _ _⟩
theorem szNode_any (f : Nd) (left : Int) (w : World) (hn : f.nm.size ≤ maxLen) (h0 : 0 ≤ left) (hl : left ≤ 1048576) :
    Calls Try.prog 26 #[.agg #[.string f.nm, .int .i64 f.lo, .int .i64 f.hi], .int .i64 left] w (RetLeft w left 0) := by
  unfold maxLen at hn
  have hb : ∀ cs t, Below w.heap.size w (w.alloc (.cells cs t)) := fun cs t => (Below.refl _ _).alloc (Nat.le_refl _) _
  by_cases h : left - (f.nm.size : Int) < 0
  all_goals
    go_enter Try.func26, Try.ntmps26
    go_wp2
    go_ret
  · exact ⟨_, rfl, .inl rfl, hb _ _⟩
  · exact ⟨_, rfl, .inr ⟨by omega, by omega⟩, hb _ _⟩
set_option maxHeartbeats 2000000 in
theorem szNodes_any (A : Option Addr) (n c : Nat) (fs : List Nd) (left : Int) (w : World) (h : Nodes w A n fs) (hn : n ≤ maxLen) (h0 : 0 ≤ left) (hl : left ≤ 1048576) :
    Calls Try.prog 13 #[.slice A n c, .int .i64 left] w (RetLeft w left n) := by
  unfold maxLen at hn
  by_cases hs : left - (n : Int) < 0
  · go_enter Try.func13, Try.ntmps13
    go_wp2
    go_ret
    exact ⟨_, rfl, .inl rfl, Below.refl _ _⟩
  go_enter Try.func13, Try.ntmps13
  go_wp2_with fail
  go_loopw [1, 5] (fun l ii wr => ∃ (k : Nat) (r : Int), k ≤ n ∧ ii = .int .i64 k ∧ l = .int .i64 r ∧ 0 ≤ r ∧ r + n ≤ left ∧ Below w.heap.size w wr) (fun _ ii _ => n - (intOf ii).toNat)
  case atStart => exact ⟨0, _, Nat.zero_le _, rfl, rfl, by omega, by omega, Below.refl _ _⟩
  case round =>
    obtain ⟨k, r, hk, rfl, rfl, hr0, hr, hb⟩ := hrel
    by_cases hlt : k < n
    · obtain ⟨b, o, f, rfl, hbl, hf, hok, hc0, hc1, hc2⟩ := (h.below hb).at_ hlt
      have HF := Lib.hid hf
      clear hf
      go_wp2_with fail
      refine (szNode_any f r _ hok.1 hr0 (by omega)).mono ?_
      rintro e w1 ⟨r1, rfl, h1, hb1⟩
      have hb' := bthen hb hb1 hb.size
      rcases h1 with rfl | ⟨h10, h1l⟩
      · go_wp2_with fail
        go_ret
        exact ⟨_, rfl, .inl rfl, hb'⟩
      · go_wp2_with fail
        go_roundw
        case rel => exact ⟨k + 1, r1, by omega, by go_num, rfl, h10, by omega, hb'⟩
        case measure => simp [intOf]; omega
    · go_wp2_with fail
      go_ret
      exact ⟨_, rfl, .inr ⟨hr0, hr⟩, hb⟩
set_option maxHeartbeats 2000000 in
theorem szNet_any (A B : Option Addr) (n c m d : Nat) (fs : List Nd) (left : Int) (w : World) (h : Nodes w A n fs) (hn : n ≤ maxLen) (hm : m ≤ maxLen) (h0 : 0 ≤ left) (hl : left ≤ 1048576) :
    Calls Try.prog 4 #[.agg #[.slice A n c, .slice B m d], .int .i64 left] w (RetLeft w left (n + m)) := by
  have hb0 : ∀ cs t, Below w.heap.size w (w.alloc (.cells cs t)) := fun cs t => (Below.refl _ _).alloc (Nat.le_refl _) _
  go_enter Try.func4, Try.ntmps4
  go_wp2_with fail
  refine (szNodes_any A n c fs left _ (h.alloc _) hn h0 hl).mono ?_
  rintro e w1 ⟨r1, rfl, h1, hb1⟩
  obtain ⟨hc, hf⟩ := bcell hb1
  have hz : w.heap.size < w1.heap.size := by have := hb1.size; simp at this; omega
  have hb' := bthen (hb0 _ _) hb1 (by simp)
  have x1 : w1.cell? ⟨w.heap.size, 1, none⟩ = some (.slice B m d) := by rw [hc _ _ (by simp)]; simp
  rcases h1 with rfl | ⟨h10, h1l⟩
  · go_wp2_with fail
    go_ret
    exact ⟨_, rfl, .inl rfl, hb'⟩
  · clear hc hf
    go_wp2_with fail
    refine (szPipes_any B m d r1 _ hm h10 (by omega)).mono ?_
    rintro e w2 ⟨r2, rfl, h2, hb2⟩
    have hb'' := bthen hb' hb2 hb'.size
    rcases h2 with rfl | ⟨h20, h2l⟩
    · go_wp2_with fail
      go_ret
      exact ⟨_, rfl, .inl rfl, hb''⟩
    · go_wp2_with fail
      go_ret
      exact ⟨_, rfl, .inr ⟨h20, by omega⟩, hb''⟩

/-- A call returns a network whose lists lie in new memory. -/
def RetNet (w : World) (xs : List Nd) (ys : List Pp) (e : Ending) (w' : World) : Prop :=
  ∃ A c B d, e = .returned (.agg #[.slice A xs.length c, .slice B ys.length d]) ∧ OwnN w' w.heap.size A xs.length c xs ∧ OwnP w' w.heap.size B ys.length d ys ∧ Below w.heap.size w w'
set_option maxHeartbeats 2000000 in
theorem toNet_any (A B : Option Addr) (c d : Nat) (xs : List Nd) (ys : List Pp) (w : World) (h : Nodes w A xs.length xs) (k : Pipes w B ys.length ys) (hn : xs.length ≤ 1048576) (hm : ys.length ≤ 1048576) :
    Calls Try.prog 6 #[.agg #[.slice A xs.length c, .slice B ys.length d]] w (RetNet w xs ys) := by
  have h3 : ∀ a ta b tb d td, Nodes (((w.alloc (.cells a ta)).alloc (.cells b tb)).alloc (.cells d td)) A xs.length xs := fun a ta b tb d td => ((h.alloc _).alloc _).alloc _
  have k3 : ∀ a ta b tb d td, Pipes (((w.alloc (.cells a ta)).alloc (.cells b tb)).alloc (.cells d td)) B ys.length ys := fun a ta b tb d td => ((k.alloc _).alloc _).alloc _
  go_enter Try.func6, Try.ntmps6
  go_wp2_with fail
  have k3' := k3 #[.slice A xs.length c, .slice B ys.length d] 25 #[.slice none 0 0, .slice none 0 0] 33 #[.slice none 0 0, .slice none 0 0] 33
  refine (toNodes_any _ _ _ _ _ (h3 _ _ _ _ _ _) hn).mono ?_
  rintro e w1 ⟨A1, c1, rfl, ho1, hb1⟩
  obtain ⟨hc, hf⟩ := bcell hb1
  have hz : w.heap.size + 2 < w1.heap.size := by have := hb1.size; simp at this; omega
  have hw1 : Below w.heap.size w w1 := bthen (by repeat (first | exact Below.refl _ _ | refine Below.alloc ?_ (by simp <;> omega) _)) hb1 (by simp; omega)
  have hB : OwnN w1 (w.heap.size + 3) A1 xs.length c1 xs := by simpa using ho1
  have hk1 := k3'.below hb1
  have hb2' := hw1.setCell (p := ⟨w.heap.size + 1 + 1, 0, none⟩) (by simp; omega) (.slice A1 xs.length c1)
  have hz1 : (w1.setCell ⟨w.heap.size + 1 + 1, 0, none⟩ (.slice A1 xs.length c1)).heap.size = w1.heap.size := by simp [World.setCell]
  have hB1 : OwnN (w1.setCell ⟨w.heap.size + 1 + 1, 0, none⟩ (.slice A1 xs.length c1)) (w.heap.size + 3) A1 xs.length c1 xs := hB.low (by simp) _
  clear h3 k3 ho1 k3' hk1
  go_wp2_with fail
  refine (toPipes_any _ _ _ _ _ (k.below hb2') hm).mono ?_
  rintro e w2 ⟨A2, c2, rfl, ho2, hb2⟩
  have hB2 := hB1.below hb2
  have hw2 := bthen hb2' hb2 hb2'.size
  obtain ⟨hc2, hf2⟩ := bcell hb2
  have hz2 : w.heap.size + 2 < w2.heap.size := by have := hb2.size; omega
  have x0 : w2.cell? ⟨w.heap.size, 1, none⟩ = some (.slice B ys.length d) := by rw [hc2 _ _ (by omega)]; simp [go_sem, hc]
  have y0 : w2.cell? ⟨w.heap.size + 1 + 1, 0, none⟩ = some (.slice A1 xs.length c1) := by rw [hc2 _ _ (by omega)]; simp [go_sem, hc]
  have y1 : w2.cell? ⟨w.heap.size + 1 + 1, 1, none⟩ = some (.slice none 0 0) := by rw [hc2 _ _ (by omega)]; simp [go_sem, hc]
  have z0 : w2.cell? ⟨w.heap.size + 1, 0, none⟩ = some (.slice none 0 0) := by rw [hc2 _ _ (by omega)]; simp [go_sem, hc]
  have z1 : w2.cell? ⟨w.heap.size + 1, 1, none⟩ = some (.slice none 0 0) := by rw [hc2 _ _ (by omega)]; simp [go_sem, hc]
  have f1 : w2.frozen? ⟨w.heap.size + 1 + 1, 1, none⟩ = false := by rw [hf2 _ _ (by omega)]; simp [go_sem, hf]
  have f2 : w2.frozen? ⟨w.heap.size + 1, 0, none⟩ = false := by rw [hf2 _ _ (by omega)]; simp [go_sem, hf]
  have f3 : w2.frozen? ⟨w.heap.size + 1, 1, none⟩ = false := by rw [hf2 _ _ (by omega)]; simp [go_sem, hf]
  have ho2' : OwnP w2 (w.heap.size + 3) A2 ys.length c2 ys := ho2.mono (by omega)
  clear ho2 hB hB1 hc hf hc2 hf2
  go_wp2_with fail
  refine bodyPost_ret (v := .agg #[.slice A1 xs.length c1, .slice A2 ys.length c2]) (by simp [results, Try.results6, go_sem, z0, z1]) rfl ⟨A1, c1, A2, c2, rfl, ?_, ?_, ?_⟩
  · refine OwnN.mono (B := w.heap.size + 3) ?_ (by omega)
    iterate 3 refine OwnN.low ?_ (by simp) _
    exact hB2
  · refine OwnP.mono (B := w.heap.size + 3) ?_ (by omega)
    iterate 3 refine OwnP.low ?_ (by simp) _
    exact ho2'
  · iterate 3 refine Below.setCell ?_ (by simp <;> omega) _
    exact hw2
set_option maxHeartbeats 2000000 in
theorem eqNet_any (A B A' B' : Option Addr) (n m n' m' c d c' d' : Nat) (xs xs' : List Nd) (ys ys' : List Pp) (w : World) (h : Nodes w A n xs) (k : Pipes w B m ys) (h' : Nodes w A' n' xs') (k' : Pipes w B' m' ys') (hn : n ≤ 1048576) (hm : m ≤ 1048576) :
    Calls Try.prog 9 #[.agg #[.slice A n c, .slice B m d], .agg #[.slice A' n' c', .slice B' m' d']] w (RetEq w (xs = xs' ∧ ys = ys')) := by
  have hw0 : ∀ a ta b tb, Below w.heap.size w ((w.alloc (.cells a ta)).alloc (.cells b tb)) := fun a ta b tb => ((Below.refl _ _).alloc (Nat.le_refl _) _).alloc (by simp) _
  go_enter Try.func9, Try.ntmps9
  go_wp2_with fail
  refine (eqNodes_any _ _ _ _ _ _ _ _ _ (h.below (hw0 _ _ _ _)) (h'.below (hw0 _ _ _ _)) hn).mono ?_
  rintro e w1 ⟨b1, hb1, rfl, hq1⟩
  obtain ⟨hc, hf⟩ := bcell hq1
  have hz : w.heap.size + 1 < w1.heap.size := by have := hq1.size; simp at this; omega
  have hw1 := bthen (hw0 _ _ _ _) hq1 (by simp; omega)
  have x1 : w1.cell? ⟨w.heap.size, 1, none⟩ = some (.slice B m d) := by rw [hc _ _ (by simp; omega)]; simp
  have x2 : w1.cell? ⟨w.heap.size + 1, 1, none⟩ = some (.slice B' m' d') := by rw [hc _ _ (by simp)]; simp
  have HB := Lib.hid hb1
  clear hb1 hc hf
  cases b1
  · go_wp2_with fail
    go_ret
    exact ⟨false, ⟨(fun h => by cases h), fun h => absurd (HB.out.2 h.1) (by simp)⟩, rfl, hw1⟩
  go_wp2_with fail
  refine (eqPipes_any _ _ _ _ _ _ _ _ _ (k.below hw1) (k'.below hw1) hm).mono ?_
  rintro e w2 ⟨b2, hb2, rfl, hq2⟩
  have HB2 := Lib.hid hb2
  have hw2 := bthen hw1 hq2 hw1.size
  clear hb2
  cases b2
  · go_wp2_with fail
    go_ret
    exact ⟨false, ⟨(fun h => by cases h), fun h => absurd (HB2.out.2 h.2) (by simp)⟩, rfl, hw2⟩
  · go_wp2_with fail
    go_ret
    exact ⟨true, ⟨fun _ => ⟨HB.out.1 (by trivial), HB2.out.1 (by trivial)⟩, fun _ => rfl⟩, rfl, hw2⟩
end Go.Proofs.Ytpgegfnhokhlmaa
set_option linter.unusedVariables false
set_option maxRecDepth 100000
namespace Go.Proofs.Ytpgegfnhokhlmaa
open Go.ChangeShapes Go.WideShapes Go.ChangeAt Go.RowKit Go.Joins Go.Deep

/-- A letter or a digit. -/
def nameC (c : UInt8) : Bool := (decide (97 ≤ (c.toNat : Int)) && decide ((c.toNat : Int) ≤ 122)) || (decide (48 ≤ (c.toNat : Int)) && decide ((c.toNat : Int) ≤ 57))
def nameB (s : ByteArray) : Bool := decide (1 ≤ s.size) && (decide (s.size ≤ 8) && s.data.toList.all nameC)
theorem nameC_ways (c : UInt8) : ((97 ≤ (c.toNat : Int) ∧ (c.toNat : Int) ≤ 122) ∧ Hid (nameC c = true)) ∨ ((97 ≤ (c.toNat : Int) ∧ ¬ (c.toNat : Int) ≤ 122 ∧ 48 ≤ (c.toNat : Int) ∧ ¬ (c.toNat : Int) ≤ 57) ∧ Hid (nameC c = false)) ∨ ((¬ 97 ≤ (c.toNat : Int) ∧ 48 ≤ (c.toNat : Int) ∧ (c.toNat : Int) ≤ 57) ∧ Hid (nameC c = true)) ∨
    ((¬ 97 ≤ (c.toNat : Int) ∧ 48 ≤ (c.toNat : Int) ∧ ¬ (c.toNat : Int) ≤ 57) ∧ Hid (nameC c = false)) ∨ ((¬ 97 ≤ (c.toNat : Int) ∧ ¬ 48 ≤ (c.toNat : Int)) ∧ Hid (nameC c = false)) := by
  have e : nameC c = decide ((97 ≤ (c.toNat : Int) ∧ (c.toNat : Int) ≤ 122) ∨ (48 ≤ (c.toNat : Int) ∧ (c.toNat : Int) ≤ 57)) := by simp [nameC]
  have y : (97 ≤ (c.toNat : Int) ∧ (c.toNat : Int) ≤ 122) ∨ (48 ≤ (c.toNat : Int) ∧ (c.toNat : Int) ≤ 57) → nameC c = true := fun h => by rw [e]; exact decide_eq_true h
  have n : ¬ ((97 ≤ (c.toNat : Int) ∧ (c.toNat : Int) ≤ 122) ∨ (48 ≤ (c.toNat : Int) ∧ (c.toNat : Int) ≤ 57)) → nameC c = false := fun h => by rw [e]; exact decide_eq_false h
  generalize (c.toNat : Int) = z at *
  by_cases a : 97 ≤ z
  · by_cases b : z ≤ 122
    · exact .inl ⟨⟨a, b⟩, y (.inl ⟨a, b⟩)⟩
    · exact .inr (.inl ⟨⟨a, b, by omega, by omega⟩, n (by omega)⟩)
  · by_cases b : 48 ≤ z
    · by_cases d : z ≤ 57
      · exact .inr (.inr (.inl ⟨⟨a, b, d⟩, y (.inr ⟨b, d⟩)⟩))
      · exact .inr (.inr (.inr (.inl ⟨⟨a, b, d⟩, n (by omega)⟩)))
    · exact .inr (.inr (.inr (.inr ⟨⟨a, b⟩, n (by omega)⟩)))
theorem take_snoc (s : ByteArray) (k : Nat) (h : k < s.size) : s.data.toList.take (k + 1) = s.data.toList.take k ++ [s[k]] := by
  rw [List.take_succ_eq_append_getElem (by simpa using h)]; rfl
theorem name_step {s : ByteArray} {k : Nat} (h : k < s.size) (hp : (s.data.toList.take k).all nameC = true) (hc : nameC s[k] = true) : (s.data.toList.take (k + 1)).all nameC = true := by
  rw [take_snoc s k h, List.all_append, hp]; simp [hc]
theorem name_bad {s : ByteArray} {k : Nat} (h : k < s.size) (hc : nameC s[k] = false) : s.data.toList.all nameC = false := by
  rw [List.all_eq_false]
  refine ⟨s[k], ?_, by simp [hc]⟩
  have : s.data.toList[k]? = some s[k] := by rw [List.getElem?_eq_getElem (by simpa using h)]; rfl
  exact List.mem_of_getElem? this
theorem name_all {s : ByteArray} {k : Nat} (h : ¬ k < s.size) (hp : (s.data.toList.take k).all nameC = true) : s.data.toList.all nameC = true := by
  rwa [List.take_of_length_le (by simp; omega)] at hp
set_option maxHeartbeats 2000000 in
theorem isName_any (s : ByteArray) (w : World) (hs : s.size ≤ maxLen) :
    Calls Try.prog 46 #[.string s] w fun e w' => e = .returned (.bool (nameB s)) ∧ w = w' := by
  unfold maxLen at hs
  by_cases h1 : s.size < 1
  · have e := Lib.hid (show nameB s = false by unfold nameB; rw [decide_eq_false (by omega)]; rfl)
    go_enter Try.func46, Try.ntmps46
    go_wp2
    go_ret
    exact ⟨rb e.out.symm, rfl⟩
  by_cases h2 : 8 < s.size
  · have e := Lib.hid (show nameB s = false by unfold nameB; rw [decide_eq_false (by omega : ¬ s.size ≤ 8)]; simp)
    go_enter Try.func46, Try.ntmps46
    go_wp2
    go_ret
    exact ⟨rb e.out.symm, rfl⟩
  have HE := Lib.hid (show nameB s = s.data.toList.all nameC by unfold nameB; rw [decide_eq_true (by omega : 1 ≤ s.size), decide_eq_true (by omega : s.size ≤ 8)]; rfl)
  go_enter Try.func46, Try.ntmps46
  go_wp2
  go_loop [3] (fun i => ∃ k : Nat, k ≤ s.size ∧ i = .int .i64 k ∧ Hid ((s.data.toList.take k).all nameC = true)) (fun i => s.size - (intOf i).toNat)
  case atStart => exact ⟨0, Nat.zero_le _, rfl, rfl⟩
  case round =>
    obtain ⟨k, hk, rfl, HP⟩ := hrel
    by_cases hlt : k < s.size
    · rcases nameC_ways s[k] with ⟨⟨a, b⟩, HC⟩ | ⟨⟨a, b, c, d⟩, HC⟩ | ⟨⟨a, b, c⟩, HC⟩ | ⟨⟨a, b, c⟩, HC⟩ | ⟨⟨a, b⟩, HC⟩
      all_goals go_wp2
      all_goals first
        | (exfalso; omega)
        | (go_round
           case rel => exact ⟨k + 1, by omega, by go_num, name_step hlt HP.out HC.out⟩
           case measure => simp [intOf]; omega)
        | (go_ret
           exact ⟨rb (by rw [HE.out, name_bad hlt HC.out]), rfl⟩)
    · go_wp2
      go_ret
      exact ⟨rb (by rw [HE.out, name_all hlt HP.out]), rfl⟩
set_option maxHeartbeats 2000000 in
theorem sName_any (s : ByteArray) (w : World) (hs : s.size ≤ maxLen) :
    Calls Try.prog 42 #[.string s] w fun e w' => e = .returned (.bool (nameB s)) ∧ w = w' := by
  unfold maxLen at hs
  go_enter Try.func42, Try.ntmps42
  go_wp2
  go_loop [3] (fun i => ∃ k : Nat, k ≤ s.size ∧ i = .int .i64 k ∧ Hid ((s.data.toList.take k).all nameC = true)) (fun i => s.size - (intOf i).toNat)
  case atStart => exact ⟨0, Nat.zero_le _, rfl, rfl⟩
  case round =>
    obtain ⟨k, hk, rfl, HP⟩ := hrel
    by_cases hlt : k < s.size
    · rcases nameC_ways s[k] with ⟨⟨a, b⟩, HC⟩ | ⟨⟨a, b, c, d⟩, HC⟩ | ⟨⟨a, b, c⟩, HC⟩ | ⟨⟨a, b, c⟩, HC⟩ | ⟨⟨a, b⟩, HC⟩
      all_goals go_wp2
      all_goals first
        | (exfalso; omega)
        | (go_round
           case rel => exact ⟨k + 1, by omega, by go_num, name_step hlt HP.out HC.out⟩
           case measure => simp [intOf]; omega)
        | (go_ret
           exact ⟨rb (by unfold nameB; rw [name_bad hlt HC.out]; simp), rfl⟩)
    · have HA := Lib.hid (name_all hlt HP.out)
      by_cases h1 : 1 ≤ s.size
      · by_cases h2 : s.size ≤ 8
        · go_wp2
          go_ret
          exact ⟨rb (by unfold nameB; rw [HA.out]; first | (simp [h1, h2]; done) | (simp [h1, h2]; omega) | (rw [Bool.eq_iff_iff]; simp; omega)), rfl⟩
        · go_wp2
          go_ret
          exact ⟨rb (by unfold nameB; rw [HA.out]; first | (simp [h1, h2]; done) | (simp [h1, h2]; omega) | (rw [Bool.eq_iff_iff]; simp; omega)), rfl⟩
      · go_wp2
        go_ret
        exact ⟨rb (by unfold nameB; rw [HA.out]; first | (simp [h1]; done) | (simp [h1]; omega) | (rw [Bool.eq_iff_iff]; simp; omega)), rfl⟩
end Go.Proofs.Ytpgegfnhokhlmaa
set_option linter.unusedVariables false
set_option maxRecDepth 100000
namespace Go.Proofs.Ytpgegfnhokhlmaa
open Go.ChangeShapes Go.WideShapes Go.ChangeAt Go.RowKit Go.Joins Go.Deep

def nodeB (x : Nd) : Bool := nameB x.nm && (decide (0 ≤ x.lo) && (decide (x.lo ≤ x.hi) && decide (x.hi ≤ 100000000)))
def pipeB (n : Int) (x : Pp) : Bool := inB x.fr 0 (n - 1) && (inB x.to 0 (n - 1) && (decide (x.fr ≠ x.to) && (inB x.k 1 1000 && (inB x.v 0 1000000 && inB x.l 1 30000))))
/-- The first k nodes are valid, with different names. -/
def okTo (ns : List Nd) (k : Nat) : Prop := ∀ i x, i < k → ns[i]? = some x → nodeB x = true ∧ ∀ j y, j < i → ns[j]? = some y → y.nm ≠ x.nm
def NetOk (ns : List Nd) (ps : List Pp) : Prop := 1 ≤ ns.length ∧ ns.length ≤ 24 ∧ ps.length ≤ 40 ∧ okTo ns ns.length ∧ ∀ p ∈ ps, pipeB ns.length p = true

set_option maxHeartbeats 1000000 in
theorem isNode_any (f : Nd) (w : World) (hs : f.nm.size ≤ maxLen) :
    Calls Try.prog 33 #[.agg #[.string f.nm, .int .i64 f.lo, .int .i64 f.hi]] w fun e w' => e = .returned (.bool (nodeB f)) ∧ Below w.heap.size w w' := by
  rcases (orB (orP (orP (orP trivial))) : nameB f.nm = false ∨ nameB f.nm = true ∧ (¬ 0 ≤ f.lo ∨ 0 ≤ f.lo ∧ (¬ f.lo ≤ f.hi ∨ f.lo ≤ f.hi ∧ (¬ f.hi ≤ 100000000 ∨ f.hi ≤ 100000000 ∧ True)))) with h1 | ⟨h1, h2 | ⟨h2, h3 | ⟨h3, h4 | ⟨h4, _⟩⟩⟩⟩
  all_goals
    go_enter Try.func33, Try.ntmps33
    go_wp2_with (go_at_call 46; refine (isName_any _ _ hs).mono ?_; rintro e w' ⟨rfl, rfl⟩)
    go_ret
    exact ⟨rb (by unfold nodeB; first | (simp [h1]; done) | (simp [h1, h2]; done) | (simp [h1, h2, h3]; done) | (simp [h1, h2, h3, h4]; done) | (simp [h1]; omega)), (Below.refl _ _).alloc (Nat.le_refl _) _⟩
set_option maxHeartbeats 1000000 in
theorem sIsNode_any (f : Nd) (w : World) (hs : f.nm.size ≤ maxLen) :
    Calls Try.prog 27 #[.agg #[.string f.nm, .int .i64 f.lo, .int .i64 f.hi]] w fun e w' => e = .returned (.bool (nodeB f)) ∧ Below w.heap.size w w' := by
  rcases (orB (orP (orP (orP trivial))) : nameB f.nm = false ∨ nameB f.nm = true ∧ (¬ 0 ≤ f.lo ∨ 0 ≤ f.lo ∧ (¬ f.lo ≤ f.hi ∨ f.lo ≤ f.hi ∧ (¬ f.hi ≤ 100000000 ∨ f.hi ≤ 100000000 ∧ True)))) with h1 | ⟨h1, h2 | ⟨h2, h3 | ⟨h3, h4 | ⟨h4, _⟩⟩⟩⟩
  all_goals
    go_enter Try.func27, Try.ntmps27
    go_wp2_with (go_at_call 42; refine (sName_any _ _ hs).mono ?_; rintro e w' ⟨rfl, rfl⟩)
    go_ret
    exact ⟨rb (by unfold nodeB; first | (simp [h1]; done) | (simp [h1, h2]; done) | (simp [h1, h2, h3]; done) | (simp [h1, h2, h3, h4]; done) | (simp [h1]; omega)), (Below.refl _ _).alloc (Nat.le_refl _) _⟩
/-- The first node with a name, or -1. -/
def nodeAt (ns : List Nd) (s : ByteArray) (r : Int) : Prop :=
  (r = -1 ∧ ∀ (j : Nat) (y : Nd), ns[j]? = some y → y.nm ≠ s) ∨ ∃ (i : Nat) (x : Nd), r = i ∧ ns[i]? = some x ∧ x.nm = s ∧ ∀ (j : Nat) (y : Nd), j < i → ns[j]? = some y → y.nm ≠ s
set_option maxHeartbeats 1000000 in
theorem isIt_any (f : Nd) (s : ByteArray) (g : Nat) (w : World) (hg : g < w.heap.size) (hc : w.cell? ⟨g, 0, none⟩ = some (.string s)) :
    Calls Try.prog 48 #[.agg #[.string f.nm, .int .i64 f.lo, .int .i64 f.hi], .pointer (some ⟨g, 0, none⟩)] w fun e w' => e = .returned (.bool (f.nm.toList == s.toList)) ∧ Below w.heap.size w w' := by
  go_enter Try.func48, Try.ntmps48
  go_wp2_with fail
  go_ret
  exact ⟨rfl, (Below.refl _ _).alloc (Nat.le_refl _) _⟩
theorem nx_step {ns : List Nd} {s : ByteArray} {k : Nat} {f : Nd} (h : ∀ (j : Nat) (y : Nd), j < k → ns[j]? = some y → y.nm ≠ s) (hf : ns[k]? = some f) (hne : f.nm ≠ s) : ∀ (j : Nat) (y : Nd), j < k + 1 → ns[j]? = some y → y.nm ≠ s := by
  intro j y hj hy
  by_cases e : j = k
  · subst e
    rw [hf] at hy
    exact Option.some.inj hy ▸ hne
  · exact h j y (by omega) hy
theorem str_eq {a b : ByteArray} (h : (a.toList == b.toList) = true) : a = b := str_inj (by simpa using h)
theorem str_ne {a b : ByteArray} (h : (a.toList == b.toList) = false) : a ≠ b := by
  rintro rfl
  simp at h
set_option maxHeartbeats 2000000 in
theorem idxFunc_any (A : Option Addr) (n c : Nat) (ns : List Nd) (s : ByteArray) (g : Nat) (w : World) (h : Nodes w A n ns) (hn : n ≤ maxLen) (hg : g < w.heap.size) (hc : w.cell? ⟨g, 0, none⟩ = some (.string s)) :
    Calls Try.prog 47 #[.slice A n c, .func (.func 48) #[] #[.pointer (some ⟨g, 0, none⟩)]] w fun e w' => ∃ r, e = .returned (.int .i64 r) ∧ nodeAt ns s r ∧ Below w.heap.size w w' := by
  unfold maxLen at hn
  have hl := Lib.hid h.len
  go_enter Try.func47, Try.ntmps47
  go_wp2_with fail
  go_loopw [8] (fun ii wr => ∃ k : Nat, k ≤ n ∧ ii = .int .i64 k ∧ Hid (∀ (j : Nat) (y : Nd), j < k → ns[j]? = some y → y.nm ≠ s) ∧ Below w.heap.size w wr) (fun ii _ => n - (intOf ii).toNat)
  case atStart => exact ⟨0, Nat.zero_le _, rfl, (fun j y hj => absurd hj (by omega)), Below.refl _ _⟩
  case round =>
    obtain ⟨k, hk, rfl, HP, hb⟩ := hrel
    by_cases hlt : k < n
    · obtain ⟨b, o, f, rfl, hbl, hf, hok, hc0, hc1, hc2⟩ := (h.below hb).at_ hlt
      have HF := Lib.hid hf
      clear hf
      have hc' := (hb.cell (p := ⟨g, 0, none⟩) hg).trans hc
      have hg' := Nat.lt_of_lt_of_le hg hb.size
      cases hE : (f.nm.toList == s.toList)
      all_goals
        have HE := Lib.hid hE
        clear hE
        go_wp2_with fail
        refine (isIt_any f s g _ hg' hc').mono ?_
        rintro e w1 ⟨rfl, hb1⟩
        have hb' := bthen hb hb1 hb.size
        rw [HE.out]
        go_wp2_with fail
      · go_roundw
        case rel => exact ⟨k + 1, by omega, by go_num, nx_step HP.out HF.out (str_ne HE.out), hb'⟩
        case measure => simp [intOf]; omega
      · go_ret
        exact ⟨_, rfl, .inr ⟨k, f, rfl, HF.out, str_eq HE.out, HP.out⟩, hb'⟩
    · go_wp2_with fail
      go_ret
      obtain rfl : k = n := by omega
      exact ⟨_, rfl, .inl ⟨rfl, fun j y hj => HP.out j y (by have := (List.getElem?_eq_some_iff.1 hj).1; have := hl.out; omega) hj⟩, hb⟩
end Go.Proofs.Ytpgegfnhokhlmaa
set_option linter.unusedVariables false
set_option maxRecDepth 100000
namespace Go.Proofs.Ytpgegfnhokhlmaa
open Go.ChangeShapes Go.WideShapes Go.ChangeAt Go.RowKit Go.Joins Go.Deep

set_option maxHeartbeats 2000000 in
theorem nodeIndex_any (A B : Option Addr) (n c m d : Nat) (ns : List Nd) (s : ByteArray) (w : World) (h : Nodes w A n ns) (hn : n ≤ maxLen) :
    Calls Try.prog 34 #[.agg #[.slice A n c, .slice B m d], .string s] w fun e w' => ∃ r, e = .returned (.int .i64 r) ∧ nodeAt ns s r ∧ Below w.heap.size w w' := by
  have hmf : ∀ (fn : Fn) (first cap : Array Value) (w : World), (Instr.makeFunc fn first cap).run Try.prog w = .ok (.func fn first cap) w := fun _ _ _ _ => rfl
  have hw0 : ∀ a ta b tb, Below w.heap.size w ((w.alloc (.cells a ta)).alloc (.cells b tb)) := fun a ta b tb => ((Below.refl _ _).alloc (Nat.le_refl _) _).alloc (by simp) _
  go_enter Try.func34, Try.ntmps34
  go_wp2_with fail
  refine (idxFunc_any A n c ns s _ _ (h.below (hw0 _ _ _ _)) hn (by simp) (by simp)).mono ?_
  rintro e w1 ⟨r, rfl, hr, hb1⟩
  have HR := Lib.hid hr
  clear hr
  go_wp2_with fail
  go_ret
  exact ⟨r, rfl, HR.out, bthen (hw0 _ _ _ _) hb1 (by simp; omega)⟩
theorem isNodeOf_any (A B : Option Addr) (n c m d : Nat) (z : Int) (w : World) (hn : n ≤ maxLen) :
    Calls Try.prog 35 #[.agg #[.slice A n c, .slice B m d], .int .i64 z] w fun e w' => e = .returned (.bool (inB z 0 (n - 1))) ∧ Below w.heap.size w w' := by
  unfold maxLen at hn
  go_enter Try.func35, Try.ntmps35
  go_wp2_with (go_at_call 32; refine (within_any _ _ _ _).mono ?_; rintro e w' ⟨rfl, rfl⟩)
  go_ret
  exact ⟨rfl, (Below.refl _ _).alloc (Nat.le_refl _) _⟩
theorem pipe_ways (n : Int) (x : Pp) : (inB x.fr 0 (n - 1) = false ∧ pipeB n x = false) ∨ (inB x.fr 0 (n - 1) = true ∧ inB x.to 0 (n - 1) = false ∧ pipeB n x = false) ∨ (inB x.fr 0 (n - 1) = true ∧ inB x.to 0 (n - 1) = true ∧ (x.fr == x.to) = true ∧ pipeB n x = false) ∨
    (inB x.fr 0 (n - 1) = true ∧ inB x.to 0 (n - 1) = true ∧ (x.fr == x.to) = false ∧ inB x.k 1 1000 = false ∧ pipeB n x = false) ∨ (inB x.fr 0 (n - 1) = true ∧ inB x.to 0 (n - 1) = true ∧ (x.fr == x.to) = false ∧ inB x.k 1 1000 = true ∧ inB x.v 0 1000000 = false ∧ pipeB n x = false) ∨
    (inB x.fr 0 (n - 1) = true ∧ inB x.to 0 (n - 1) = true ∧ (x.fr == x.to) = false ∧ inB x.k 1 1000 = true ∧ inB x.v 0 1000000 = true ∧ inB x.l 1 30000 = false ∧ pipeB n x = false) ∨ (inB x.fr 0 (n - 1) = true ∧ inB x.to 0 (n - 1) = true ∧ (x.fr == x.to) = false ∧ inB x.k 1 1000 = true ∧ inB x.v 0 1000000 = true ∧ inB x.l 1 30000 = true ∧ pipeB n x = true) := by
  unfold pipeB
  have e : decide (x.fr ≠ x.to) = !(x.fr == x.to) := by
    by_cases h : x.fr = x.to <;> simp [h]
  rw [e]
  cases inB x.fr 0 (n - 1) <;> cases inB x.to 0 (n - 1) <;> cases (x.fr == x.to) <;> cases inB x.k 1 1000 <;> cases inB x.v 0 1000000 <;> cases inB x.l 1 30000 <;> simp
/-- The same, one test behind the other. -/
theorem pipe_ways2 (n : Int) (x : Pp) : (inB x.fr 0 (n - 1) = false ∧ pipeB n x = false) ∨ (inB x.fr 0 (n - 1) = true ∧ ((inB x.to 0 (n - 1) = false ∧ pipeB n x = false) ∨ (inB x.to 0 (n - 1) = true ∧ (((x.fr == x.to) = true ∧ pipeB n x = false) ∨
    ((x.fr == x.to) = false ∧ inB x.k 1 1000 = false ∧ pipeB n x = false) ∨ ((x.fr == x.to) = false ∧ inB x.k 1 1000 = true ∧ inB x.v 0 1000000 = false ∧ pipeB n x = false) ∨ ((x.fr == x.to) = false ∧ inB x.k 1 1000 = true ∧ inB x.v 0 1000000 = true ∧ inB x.l 1 30000 = false ∧ pipeB n x = false) ∨
    ((x.fr == x.to) = false ∧ inB x.k 1 1000 = true ∧ inB x.v 0 1000000 = true ∧ inB x.l 1 30000 = true ∧ pipeB n x = true))))) := by
  unfold pipeB
  have e : decide (x.fr ≠ x.to) = !(x.fr == x.to) := by
    by_cases h : x.fr = x.to <;> simp [h]
  rw [e]
  cases inB x.fr 0 (n - 1) <;> cases inB x.to 0 (n - 1) <;> cases (x.fr == x.to) <;> cases inB x.k 1 1000 <;> cases inB x.v 0 1000000 <;> cases inB x.l 1 30000 <;> simp
set_option maxHeartbeats 2000000 in
theorem sPipe_any (x : Pp) (n : Int) (w : World) (h0 : 0 ≤ n) (h1 : n ≤ maxLen) :
    Calls Try.prog 28 #[.agg #[.int .i64 x.fr, .int .i64 x.to, .int .i64 x.k, .int .i64 x.v, .int .i64 x.l], .int .i64 n] w fun e w' => e = .returned (.bool (pipeB n x)) ∧ Below w.heap.size w w' := by
  unfold maxLen at h1
  have hb : ∀ cs t, Below w.heap.size w (w.alloc (.cells cs t)) := fun cs t => (Below.refl _ _).alloc (Nat.le_refl _) _
  rcases pipe_ways n x with ⟨t1, tf⟩ | ⟨t1, t2, tf⟩ | ⟨t1, t2, t3, tf⟩ | ⟨t1, t2, t3, t4, tf⟩ | ⟨t1, t2, t3, t4, t5, tf⟩ | ⟨t1, t2, t3, t4, t5, t6, tf⟩ | ⟨t1, t2, t3, t4, t5, t6, tf⟩
  all_goals
    have TF := Lib.hid tf
    clear tf
    try have t3' : (x.fr != x.to) = !(x.fr == x.to) := rfl
    try rw [t3] at t3'
    go_enter Try.func28, Try.ntmps28
    go_wp2_with (go_at_call 43; refine (in_any _ _ _ _).mono ?_; rintro e w' ⟨rfl, rfl⟩)
    go_ret
    exact ⟨rb (by first | (rw [TF.out]; done) | (rw [TF.out]; assumption)), hb _ _⟩
/-- The facts of a network's valid nodes, one more. -/
theorem okTo_step {ns : List Nd} {k : Nat} {f : Nd} (h : okTo ns k) (hf : ns[k]? = some f) (hb : nodeB f = true) (hd : ∀ (j : Nat) (y : Nd), j < k → ns[j]? = some y → y.nm ≠ f.nm) : okTo ns (k + 1) := by
  intro i x hi hx
  by_cases e : i = k
  · subst e
    obtain rfl : f = x := Option.some.inj (hf.symm.trans hx)
    exact ⟨hb, hd⟩
  · exact h i x (by omega) hx
theorem pall_step {n : Int} {ps : List Pp} {k : Nat} {f : Pp} (h : ∀ p ∈ ps.take k, pipeB n p = true) (hf : ps[k]? = some f) (hb : pipeB n f = true) : ∀ p ∈ ps.take (k + 1), pipeB n p = true := by
  intro p hp
  rw [List.take_add_one, hf] at hp
  simp at hp
  rcases hp with hp | rfl
  · exact h p hp
  · exact hb
theorem Nodes.take_ {w : World} {A : Option Addr} {n : Nat} {ns : List Nd} (h : Nodes w A n ns) {k : Nat} (hk : k ≤ n) : Nodes w A k (ns.take k) := by
  refine ⟨⟨by simp; have := h.len; omega, fun h0 => ?_⟩, fun x hx => h.2 x (List.mem_of_mem_take hx)⟩
  obtain ⟨b, o, e, hb, hc⟩ := h.1.2 (by omega)
  refine ⟨b, o, e, hb, fun i x hx j v hv => hc i x ?_ j v hv⟩
  rw [List.getElem?_take] at hx
  by_cases hi : i < k <;> simp [hi] at hx
  exact hx
theorem nodeAt_take {ns : List Nd} {s : ByteArray} {k : Nat} {r : Int} (h : nodeAt (ns.take k) s r) : (r < 0 ∧ ∀ (j : Nat) (y : Nd), j < k → ns[j]? = some y → y.nm ≠ s) ∨ (0 ≤ r ∧ ∃ (j : Nat) (y : Nd), j < k ∧ ns[j]? = some y ∧ y.nm = s) := by
  rcases h with ⟨rfl, h⟩ | ⟨i, x, rfl, hx, hs, _⟩
  · refine .inl ⟨by omega, fun j y hj hy => h j y ?_⟩
    rw [List.getElem?_take, if_pos hj, hy]
  · refine .inr ⟨by omega, i, x, ?_, ?_, hs⟩
    · rw [List.getElem?_take] at hx
      by_cases hi : i < k <;> simp [hi] at hx
      exact hi
    · rw [List.getElem?_take] at hx
      by_cases hi : i < k <;> simp [hi] at hx
      exact hx
theorem not_net {ns : List Nd} {ps : List Pp} {p : Prop} {w w' : World} (h : ¬ NetOk ns ps) (hb : Below w.heap.size w w') : RetEq w (NetOk ns ps) (.returned (.bool false)) w' := ⟨false, ⟨(fun h => by cases h), fun k => absurd k h⟩, rfl, hb⟩
end Go.Proofs.Ytpgegfnhokhlmaa
set_option linter.unusedVariables false
set_option maxRecDepth 100000
namespace Go.Proofs.Ytpgegfnhokhlmaa
open Go.ChangeShapes Go.WideShapes Go.ChangeAt Go.RowKit Go.Joins Go.Deep
attribute [local go_sem ↓] Go.wp_at_zero Go.wp_at_succ

set_option maxHeartbeats 1000000 in
theorem isNet_any (A B : Option Addr) (n c m d : Nat) (ns : List Nd) (ps : List Pp) (w : World) (h : Nodes w A n ns) (k : Pipes w B m ps) (hn : n ≤ c ∧ c ≤ maxLen) (hm : m ≤ maxLen) :
    Calls Try.prog 20 #[.agg #[.slice A n c, .slice B m d]] w (RetEq w (NetOk ns ps)) := by
  unfold maxLen at hn hm
  have hl := Lib.hid h.len
  have hlp := Lib.hid k.len
  have hb0 : ∀ cs t, Below w.heap.size w (w.alloc (.cells cs t)) := fun cs t => (Below.refl _ _).alloc (Nat.le_refl _) _
  rcases (orB (orP trivial) : inB n 1 24 = false ∨ inB n 1 24 = true ∧ (¬ (m : Int) ≤ 40 ∨ (m : Int) ≤ 40 ∧ True)) with h1 | ⟨h1, h2 | ⟨h2, _⟩⟩
  · have H := Lib.hid (show ¬ NetOk ns ps from fun hh => (inB_no _ _ _).1 h1 (by have := hh.1; have := hh.2.1; have := hl.out; omega))
    go_enter Try.func20, Try.ntmps20
    go_wp2_with (go_at_call 32; refine (within_any _ _ _ _).mono ?_; rintro e w' ⟨rfl, rfl⟩)
    go_ret
    exact not_net (p := True) H.out (hb0 _ _)
  · have H := Lib.hid (show ¬ NetOk ns ps from fun hh => h2 (by have := hh.2.2.1; have := hlp.out; omega))
    go_enter Try.func20, Try.ntmps20
    go_wp2_with (go_at_call 32; refine (within_any _ _ _ _).mono ?_; rintro e w' ⟨rfl, rfl⟩)
    go_ret
    exact not_net (p := True) H.out (hb0 _ _)
  have hn24 : 1 ≤ n ∧ n ≤ 24 := by have := (inB_iff _ _ _).1 h1; omega
  have hm40 : m ≤ 40 := by omega
  go_enter Try.func20, Try.ntmps20
  go_wp2_with (go_at_call 32; refine (within_any _ _ _ _).mono ?_; rintro e w' ⟨rfl, rfl⟩)
  have q0 : (w.alloc (.cells #[.slice A n c, .slice B m d] 33)).cell? ⟨w.heap.size, 0, none⟩ = some (.slice A n c) := by simp
  have q1 : (w.alloc (.cells #[.slice A n c, .slice B m d] 33)).cell? ⟨w.heap.size, 1, none⟩ = some (.slice B m d) := by simp
  have hI := h.alloc (.cells #[.slice A n c, .slice B m d] 33)
  have kI := k.alloc (.cells #[.slice A n c, .slice B m d] 33)
  have hw0 := hb0 #[.slice A n c, .slice B m d] 33
  have hsz : (w.alloc (.cells #[.slice A n c, .slice B m d] 33)).heap.size = w.heap.size + 1 := by simp
  generalize w.alloc (.cells #[.slice A n c, .slice B m d] 33) = W at *
  have hszl : w.heap.size < W.heap.size := by omega
  clear hsz
  go_loopw [21] (fun ii wr => ∃ k : Nat, k ≤ n ∧ ii = .int .i64 k ∧ Hid (okTo ns k) ∧ Below W.heap.size W wr) (fun ii _ => n - (intOf ii).toNat)
  case atStart => exact ⟨0, Nat.zero_le _, rfl, (fun i x hi => absurd hi (by omega)), Below.refl _ _⟩
  case round =>
    obtain ⟨k, hk, rfl, HP, hb⟩ := hrel
    have hx' := (hb.cell (p := ⟨w.heap.size, 0, none⟩) hszl).trans q0
    have hx1 := (hb.cell (p := ⟨w.heap.size, 1, none⟩) hszl).trans q1
    by_cases hlt : k < n
    · obtain ⟨b, o, f, rfl, hbl, hf, hok, hc0, hc1, hc2⟩ := (hI.below hb).at_ hlt
      have HF := Lib.hid hf
      clear hf
      go_wp2_with fail
      have v0 : (wr.alloc (.cells #[.string f.nm, .int .i64 f.lo, .int .i64 f.hi] 55)).cell? ⟨wr.heap.size, 0, none⟩ = some (.string f.nm) := by simp
      have v1 : (wr.alloc (.cells #[.string f.nm, .int .i64 f.lo, .int .i64 f.hi] 55)).cell? ⟨wr.heap.size, 1, none⟩ = some (.int .i64 f.lo) := by simp
      have v2 : (wr.alloc (.cells #[.string f.nm, .int .i64 f.lo, .int .i64 f.hi] 55)).cell? ⟨wr.heap.size, 2, none⟩ = some (.int .i64 f.hi) := by simp
      have v3 : wr.heap.size < (wr.alloc (.cells #[.string f.nm, .int .i64 f.lo, .int .i64 f.hi] 55)).heap.size := by simp
      have hbV := hb.alloc hb.size (.cells #[.string f.nm, .int .i64 f.lo, .int .i64 f.hi] 55)
      generalize wr.alloc (.cells #[.string f.nm, .int .i64 f.lo, .int .i64 f.hi] 55) = V at *
      have v4 := (hbV.cell (p := ⟨w.heap.size, 0, none⟩) hszl).trans q0
      have hwr := Nat.lt_of_lt_of_le hszl hb.size
      have kV : Kept (Below W.heap.size W V.drew) := ⟨hbV.drew⟩
      have k0 : (0 : Int) ≤ (k : Int) := by omega
      have k1 : (k : Int) ≤ (c : Int) := by omega
      have kc : k ≤ c := by omega
      clear hbV hx' hx1 hc0 hc1 hc2
      cases hfg : nodeB f
      · have HE := Lib.hid hfg
        refine wp_region_held_drew (S := (fun w' => wr.heap.size < w'.heap.size ∧ w'.cell? ⟨wr.heap.size, 0, none⟩ = some (.string f.nm) ∧ w'.cell? ⟨wr.heap.size, 1, none⟩ = some (.int .i64 f.lo) ∧ w'.cell? ⟨wr.heap.size, 2, none⟩ = some (.int .i64 f.hi) ∧ Kept (Below W.heap.size W w'))) (by kernel_rfl) ?_ (fun hHeld => ?_)
        · go_keep
        refine wpAnyH_take (i := 0) (oi := ⟨some 26, _, _, _, _, _⟩) (v := .agg #[.string f.nm, .int .i64 f.lo, .int .i64 f.hi]) rfl (by kernel_rfl) (by kernel_rfl) (by kernel_rfl) (fun _ _ _ h => h) (Or.inl ⟨by rfl, by intro w hSw; (try dsimp only at hSw); go_simp⟩) (by assumption) ?_
        simp only [Act.put, List.setIfInBounds_toArray, List.set_cons_zero, List.set_cons_succ]
        refine wpAnyH_ready (rs := [1]) (by kernel_rfl) (by simp) ?_
        refine AllReadyH.cons rfl (fun K hK => ?_) AllReadyH.nil
        go_simp
        refine (isNode_any f _ hok.1).mono ?_
        rintro e w2 ⟨rfl, hb2⟩
        go_wp2_with fail
        refine hK.out _ _ ?_ (fun hHeld2 => ?_)
        · (go_split_ands; refine ⟨by have := hb2.size; omega, ?_, ?_, ?_, ⟨bthen (Kept.out ‹Kept (Below _ _ _)›) hb2 (Kept.out ‹Kept (Below _ _ _)›).size⟩⟩ <;> (rw [hb2.cell (by simp; omega)]; assumption))
        clear hK K
        refine wpAnyH_take (i := 2) (oi := ⟨some 28, _, _, _, _, _⟩) (v := .bool true) rfl (by kernel_rfl) (by kernel_rfl) (by kernel_rfl) (fun _ _ _ h => h) (Or.inl ⟨by rfl, by intro w hSw; (try dsimp only at hSw); go_simp⟩) (by assumption) ?_
        simp only [Act.put, List.setIfInBounds_toArray, List.set_cons_zero, List.set_cons_succ]
        refine wpAnyH_take (i := 3) (oi := ⟨some 29, _, _, _, _, _⟩) (v := .bool true) rfl (by kernel_rfl) (by kernel_rfl) (by kernel_rfl) (fun _ _ _ h => h) (Or.inl ⟨by rfl, by intro w hSw; (try dsimp only at hSw); go_simp⟩) (by assumption) ?_
        simp only [Act.put, List.setIfInBounds_toArray, List.set_cons_zero, List.set_cons_succ]
        refine wpAnyH_take (i := 4) (oi := ⟨some 30, _, _, _, _, _⟩) (v := undef) rfl (by kernel_rfl) (by kernel_rfl) (by kernel_rfl) (fun _ _ _ h => h) (Or.inr ⟨by rfl, rfl⟩) (by assumption) ?_
        simp only [Act.put, List.setIfInBounds_toArray, List.set_cons_zero, List.set_cons_succ]
        refine wpAnyH_take (i := 5) (oi := ⟨some 31, _, _, _, _, _⟩) (v := undef) rfl (by kernel_rfl) (by kernel_rfl) (by kernel_rfl) (fun _ _ _ h => h) (Or.inr ⟨by rfl, rfl⟩) (by assumption) ?_
        simp only [Act.put, List.setIfInBounds_toArray, List.set_cons_zero, List.set_cons_succ]
        refine wpAnyH_take (i := 6) (oi := ⟨some 32, _, _, _, _, _⟩) (v := undef) rfl (by kernel_rfl) (by kernel_rfl) (by kernel_rfl) (fun _ _ _ h => h) (Or.inr ⟨by rfl, rfl⟩) (by assumption) ?_
        simp only [Act.put, List.setIfInBounds_toArray, List.set_cons_zero, List.set_cons_succ]
        refine wpAnyH_take (i := 7) (oi := ⟨some 33, _, _, _, _, _⟩) (v := undef) rfl (by kernel_rfl) (by kernel_rfl) (by kernel_rfl) (fun _ _ _ h => h) (Or.inr ⟨by rfl, rfl⟩) (by assumption) ?_
        simp only [Act.put, List.setIfInBounds_toArray, List.set_cons_zero, List.set_cons_succ]
        refine wpAnyH_take (i := 8) (oi := ⟨some 34, _, _, _, _, _⟩) (v := undef) rfl (by kernel_rfl) (by kernel_rfl) (by kernel_rfl) (fun _ _ _ h => h) (Or.inr ⟨by rfl, rfl⟩) (by assumption) ?_
        simp only [Act.put, List.setIfInBounds_toArray, List.set_cons_zero, List.set_cons_succ]
        refine wpAnyH_take (i := 9) (oi := ⟨some 35, _, _, _, _, _⟩) (v := undef) rfl (by kernel_rfl) (by kernel_rfl) (by kernel_rfl) (fun _ _ _ h => h) (Or.inr ⟨by rfl, rfl⟩) (by assumption) ?_
        simp only [Act.put, List.setIfInBounds_toArray, List.set_cons_zero, List.set_cons_succ]
        refine wpAnyH_take (i := 10) (oi := ⟨some 36, _, _, _, _, _⟩) (v := undef) rfl (by kernel_rfl) (by kernel_rfl) (by kernel_rfl) (fun _ _ _ h => h) (Or.inr ⟨by rfl, rfl⟩) (by assumption) ?_
        simp only [Act.put, List.setIfInBounds_toArray, List.set_cons_zero, List.set_cons_succ]
        refine wpAnyH_take (i := 11) (oi := ⟨some 37, _, _, _, _, _⟩) (v := undef) rfl (by kernel_rfl) (by kernel_rfl) (by kernel_rfl) (fun _ _ _ h => h) (Or.inr ⟨by rfl, rfl⟩) (by assumption) ?_
        simp only [Act.put, List.setIfInBounds_toArray, List.set_cons_zero, List.set_cons_succ]
        refine wpAnyH_take (i := 12) (oi := ⟨some 38, _, _, _, _, _⟩) (v := undef) rfl (by kernel_rfl) (by kernel_rfl) (by kernel_rfl) (fun _ _ _ h => h) (Or.inr ⟨by rfl, rfl⟩) (by assumption) ?_
        simp only [Act.put, List.setIfInBounds_toArray, List.set_cons_zero, List.set_cons_succ]
        refine wpAnyH_take (i := 13) (oi := ⟨some 39, _, _, _, _, _⟩) (v := .bool true) rfl (by kernel_rfl) (by kernel_rfl) (by kernel_rfl) (fun _ _ _ h => h) (Or.inl ⟨by rfl, by intro w hSw; (try dsimp only at hSw); go_simp⟩) (by assumption) ?_
        simp only [Act.put, List.setIfInBounds_toArray, List.set_cons_zero, List.set_cons_succ]
        refine wpAnyH_done (by kernel_rfl) ?_ _
        go_wp2_with fail
        go_ret
        exact not_net (p := True) (fun hh => absurd (hh.2.2.2.1 k f (by have := hl.out; omega) HF.out).1 (by simp [HE.out])) (bthen hw0 hHeld2.2.2.2.2.out hw0.size)
      · have HE := Lib.hid hfg
        go_region_held3 (fun w' => wr.heap.size < w'.heap.size ∧ w'.cell? ⟨wr.heap.size, 0, none⟩ = some (.string f.nm) ∧ w'.cell? ⟨wr.heap.size, 1, none⟩ = some (.int .i64 f.lo) ∧ w'.cell? ⟨wr.heap.size, 2, none⟩ = some (.int .i64 f.hi) ∧ w'.cell? ⟨w.heap.size, 0, none⟩ = some (.slice (some ⟨b, o, none⟩) n c) ∧ Kept (Below W.heap.size W w'))
          (first | go_keep | (go_split_ands; refine ⟨by have := hb2.size; omega, ?_, ?_, ?_, ?_, ⟨bthen (Kept.out ‹Kept (Below _ _ _)›) hb2 (Kept.out ‹Kept (Below _ _ _)›).size⟩⟩ <;> (rw [hb2.cell (by simp; omega)]; assumption)))
          (first | (go_at_call 33; refine (isNode_any f _ hok.1).mono ?_; rintro e w2 ⟨rfl, hb2⟩) | (go_at_call 34; go_split_ands; refine (nodeIndex_any _ none k c 0 0 (ns.take k) f.nm _ ((hI.below (Kept.out ‹Kept (Below _ _ _)›)).take_ hk) (by unfold maxLen; omega)).mono ?_; rintro e w3 ⟨r, rfl, hr, hb2⟩))
        rename_i hh
        obtain ⟨_, _, _, _, _, ⟨hbn⟩⟩ := hh
        rcases nodeAt_take hr with ⟨r0, hd⟩ | ⟨r0, j, y, hj, hy, hs⟩
        · have HD := Lib.hid hd
          clear hr hd
          go_wp2_with fail
          go_roundw
          case rel => exact ⟨k + 1, by omega, by go_num, okTo_step HP.out HF.out HE.out HD.out, hbn⟩
          case measure => simp [intOf]; omega
        · have HY := Lib.hid hy
          have HS := Lib.hid hs
          clear hr hy hs
          go_wp2_with fail
          go_ret
          exact not_net (p := True) (fun hh => (hh.2.2.2.1 k f (by have := hl.out; omega) HF.out).2 j y hj HY.out HS.out) (bthen hw0 hbn hw0.size)
    · obtain rfl : k = n := by omega
      have HK := Lib.hid HP.out
      clear HP
      go_wp2_with fail
      have hbw := hb
      go_loopw [44] (fun ii wr => ∃ k : Nat, k ≤ m ∧ ii = .int .i64 k ∧ Hid (∀ p ∈ ps.take k, pipeB ns.length p = true) ∧ Below W.heap.size W wr) (fun ii _ => m - (intOf ii).toNat)
      case atStart => exact ⟨0, Nat.zero_le _, rfl, (fun p hp => absurd hp (by simp)), hbw⟩
      case round =>
        obtain ⟨j, hj, rfl, HP, hb⟩ := hrel
        have hx' := (hb.cell (p := ⟨w.heap.size, 0, none⟩) hszl).trans q0
        have hx1 := (hb.cell (p := ⟨w.heap.size, 1, none⟩) hszl).trans q1
        by_cases hlt : j < m
        · obtain ⟨b, o, f, rfl, hbl, hf, hok, hc0, hc1, hc2, hc3, hc4⟩ := (kI.below hb).at_ hlt
          have HF := Lib.hid hf
          clear hf
          have hwr := Nat.lt_of_lt_of_le hszl hb.size
          have hb2 := hb.alloc hb.size (.cells #[.int .i64 f.fr, .int .i64 f.to, .int .i64 f.k, .int .i64 f.v, .int .i64 f.l] 58)
          go_wp2_with fail
          have v0 : (wr.alloc (.cells #[.int .i64 f.fr, .int .i64 f.to, .int .i64 f.k, .int .i64 f.v, .int .i64 f.l] 58)).cell? ⟨wr.heap.size, 0, none⟩ = some (.int .i64 f.fr) := by simp
          have v1 : (wr.alloc (.cells #[.int .i64 f.fr, .int .i64 f.to, .int .i64 f.k, .int .i64 f.v, .int .i64 f.l] 58)).cell? ⟨wr.heap.size, 1, none⟩ = some (.int .i64 f.to) := by simp
          have v2 : (wr.alloc (.cells #[.int .i64 f.fr, .int .i64 f.to, .int .i64 f.k, .int .i64 f.v, .int .i64 f.l] 58)).cell? ⟨wr.heap.size, 2, none⟩ = some (.int .i64 f.k) := by simp
          have v3 : (wr.alloc (.cells #[.int .i64 f.fr, .int .i64 f.to, .int .i64 f.k, .int .i64 f.v, .int .i64 f.l] 58)).cell? ⟨wr.heap.size, 3, none⟩ = some (.int .i64 f.v) := by simp
          have v4 : (wr.alloc (.cells #[.int .i64 f.fr, .int .i64 f.to, .int .i64 f.k, .int .i64 f.v, .int .i64 f.l] 58)).cell? ⟨wr.heap.size, 4, none⟩ = some (.int .i64 f.l) := by simp
          have v5 : wr.heap.size < (wr.alloc (.cells #[.int .i64 f.fr, .int .i64 f.to, .int .i64 f.k, .int .i64 f.v, .int .i64 f.l] 58)).heap.size := by simp
          generalize wr.alloc (.cells #[.int .i64 f.fr, .int .i64 f.to, .int .i64 f.k, .int .i64 f.v, .int .i64 f.l] 58) = V at *
          have qa := (hb2.cell (p := ⟨w.heap.size, 0, none⟩) hszl).trans q0
          have qb := (hb2.cell (p := ⟨w.heap.size, 1, none⟩) hszl).trans q1
          clear hx' hx1 hc0 hc1 hc2 hc3 hc4
          refine (isNodeOf_any _ _ _ _ _ _ _ _ (by unfold maxLen; omega)).mono ?_
          rintro e w2 ⟨rfl, hb3⟩
          have hb4 := bthen hb2 hb3 hb2.size
          have x0 : w2.cell? ⟨wr.heap.size, 0, none⟩ = some (.int .i64 f.fr) := (hb3.cell (by first | assumption | (simp; omega))).trans v0
          have x1 : w2.cell? ⟨wr.heap.size, 1, none⟩ = some (.int .i64 f.to) := (hb3.cell (by first | assumption | (simp; omega))).trans v1
          have x2 : w2.cell? ⟨wr.heap.size, 2, none⟩ = some (.int .i64 f.k) := (hb3.cell (by first | assumption | (simp; omega))).trans v2
          have x3 : w2.cell? ⟨wr.heap.size, 3, none⟩ = some (.int .i64 f.v) := (hb3.cell (by first | assumption | (simp; omega))).trans v3
          have x4 : w2.cell? ⟨wr.heap.size, 4, none⟩ = some (.int .i64 f.l) := (hb3.cell (by first | assumption | (simp; omega))).trans v4
          have x5 := Nat.lt_of_lt_of_le v5 hb3.size
          have xa := (hb4.cell (p := ⟨w.heap.size, 0, none⟩) hszl).trans q0
          have xb := (hb4.cell (p := ⟨w.heap.size, 1, none⟩) hszl).trans q1
          clear v0 v1 v2 v3 v4 v5 qa qb hb2 hb3
          rcases pipe_ways2 _ f with ⟨t1, tf⟩ | ⟨t1, H⟩
          · have TF := Lib.hid tf
            clear tf
            rw [t1]
            go_wp2_with fail
            go_ret
            exact not_net (p := True) (fun hh => absurd (hh.2.2.2.2 f (List.mem_of_getElem? HF.out)) (by rw [hl.out, TF.out]; simp)) (bthen hw0 hb4 hw0.size)
          rw [t1]
          go_wp2_with fail
          refine (isNodeOf_any _ _ _ _ _ _ _ _ (by unfold maxLen; omega)).mono ?_
          rintro e w3 ⟨rfl, hb5⟩
          have hb6 := bthen hb4 hb5 hb4.size
          have y0 : w3.cell? ⟨wr.heap.size, 0, none⟩ = some (.int .i64 f.fr) := (hb5.cell (by first | assumption | (simp; omega))).trans x0
          have y1 : w3.cell? ⟨wr.heap.size, 1, none⟩ = some (.int .i64 f.to) := (hb5.cell (by first | assumption | (simp; omega))).trans x1
          have y2 : w3.cell? ⟨wr.heap.size, 2, none⟩ = some (.int .i64 f.k) := (hb5.cell (by first | assumption | (simp; omega))).trans x2
          have y3 : w3.cell? ⟨wr.heap.size, 3, none⟩ = some (.int .i64 f.v) := (hb5.cell (by first | assumption | (simp; omega))).trans x3
          have y4 : w3.cell? ⟨wr.heap.size, 4, none⟩ = some (.int .i64 f.l) := (hb5.cell (by first | assumption | (simp; omega))).trans x4
          have y5 := Nat.lt_of_lt_of_le x5 hb5.size
          have ya := (hb6.cell (p := ⟨w.heap.size, 0, none⟩) hszl).trans q0
          have yb := (hb6.cell (p := ⟨w.heap.size, 1, none⟩) hszl).trans q1
          clear x0 x1 x2 x3 x4 x5 xa xb hb4 hb5
          rcases H with ⟨t2, tf⟩ | ⟨t2, ⟨t3, tf⟩ | ⟨t3, t4, tf⟩ | ⟨t3, t4, t5, tf⟩ | ⟨t3, t4, t5, t6, tf⟩ | ⟨t3, t4, t5, t6, tf⟩⟩
          all_goals
            have TF := Lib.hid tf
            clear tf
            rw [t2]
            go_wp2_with (go_at_call 32; refine (within_any _ _ _ _).mono ?_; rintro e w' ⟨rfl, rfl⟩)
          iterate 5
            · go_ret
              exact not_net (p := True) (fun hh => absurd (hh.2.2.2.2 f (List.mem_of_getElem? HF.out)) (by rw [hl.out, TF.out]; simp)) (bthen hw0 hb6 hw0.size)
          go_roundw
          case rel => exact ⟨j + 1, by omega, by go_num, pall_step HP.out HF.out (by rw [hl.out]; exact TF.out), hb6⟩
          case measure => simp [intOf]; omega
        · go_wp2_with fail
          go_ret
          exact ⟨true, ⟨fun _ => ⟨by have := hl.out; omega, by have := hl.out; omega, by have := hlp.out; omega, by rw [hl.out]; exact HK.out, fun p hp => HP.out p (by rwa [List.take_of_length_le (by have := hlp.out; omega)])⟩, fun _ => rfl⟩, rfl, bthen hw0 hb hw0.size⟩
end Go.Proofs.Ytpgegfnhokhlmaa
set_option linter.unusedVariables false
set_option maxRecDepth 100000
namespace Go.Proofs.Ytpgegfnhokhlmaa
open Go.ChangeShapes Go.WideShapes Go.ChangeAt Go.RowKit Go.Joins Go.Deep
attribute [local go_sem ↓] Go.wp_at_zero Go.wp_at_succ

set_option maxHeartbeats 2000000 in
theorem sIsNet_any (A B : Option Addr) (n c m d : Nat) (ns : List Nd) (ps : List Pp) (w : World) (h : Nodes w A n ns) (hP : Pipes w B m ps) (hn : n ≤ maxLen) (hm : m ≤ maxLen) :
    Calls Try.prog 15 #[.agg #[.slice A n c, .slice B m d]] w (RetEq w (NetOk ns ps)) := by
  unfold maxLen at hn hm
  have hl := Lib.hid h.len
  have hlp := Lib.hid hP.len
  have hb0 : ∀ cs t, Below w.heap.size w (w.alloc (.cells cs t)) := fun cs t => (Below.refl _ _).alloc (Nat.le_refl _) _
  rcases (orP (orP (orP trivial)) : ¬ 1 ≤ (n : Int) ∨ 1 ≤ (n : Int) ∧ (¬ (n : Int) ≤ 24 ∨ (n : Int) ≤ 24 ∧ (¬ (m : Int) ≤ 40 ∨ (m : Int) ≤ 40 ∧ True))) with h0 | ⟨h0, h1 | ⟨h1, h2 | ⟨h2, _⟩⟩⟩
  case inr.inr.inr =>
    have hn24 : 1 ≤ n ∧ n ≤ 24 := by omega
    have hm40 : m ≤ 40 := by omega
    go_enter Try.func15, Try.ntmps15
    go_wp2_with fail
    have q0 : (w.alloc (.cells #[.slice A n c, .slice B m d] 33)).cell? ⟨w.heap.size, 0, none⟩ = some (.slice A n c) := by simp
    have q1 : (w.alloc (.cells #[.slice A n c, .slice B m d] 33)).cell? ⟨w.heap.size, 1, none⟩ = some (.slice B m d) := by simp
    have hI := h.alloc (.cells #[.slice A n c, .slice B m d] 33)
    have kI := hP.alloc (.cells #[.slice A n c, .slice B m d] 33)
    have hw0 := hb0 #[.slice A n c, .slice B m d] 33
    have hsz : (w.alloc (.cells #[.slice A n c, .slice B m d] 33)).heap.size = w.heap.size + 1 := by simp
    generalize w.alloc (.cells #[.slice A n c, .slice B m d] 33) = W at *
    have hszl : w.heap.size < W.heap.size := by omega
    clear hsz
    go_loopw [3] (fun ii wr => ∃ k : Nat, k ≤ n ∧ ii = .int .i64 k ∧ Hid (okTo ns k) ∧ Below W.heap.size W wr) (fun ii _ => n - (intOf ii).toNat)
    case atStart => exact ⟨0, Nat.zero_le _, rfl, (fun i x hi => absurd hi (by omega)), Below.refl _ _⟩
    case round =>
      obtain ⟨k, hk, rfl, HP, hb⟩ := hrel
      have hx' := (hb.cell (p := ⟨w.heap.size, 0, none⟩) hszl).trans q0
      have hx1 := (hb.cell (p := ⟨w.heap.size, 1, none⟩) hszl).trans q1
      by_cases hlt : k < n
      · obtain ⟨b, o, f, rfl, hbl, hf, hok, hc0, hc1, hc2⟩ := (hI.below hb).at_ hlt
        have HF := Lib.hid hf
        clear hf
        go_wp2_with fail
        refine (sIsNode_any f _ hok.1).mono ?_
        rintro e w1 ⟨rfl, hb1⟩
        have hb' := bthen hb hb1 hb.size
        cases hfg : nodeB f
        · have HE := Lib.hid hfg
          clear hfg
          go_wp2_with fail
          go_ret
          exact not_net (p := True) (fun hh => absurd (hh.2.2.2.1 k f (by have := hl.out; omega) HF.out).1 (by simp [HE.out])) (bthen hw0 hb' hw0.size)
        have HE := Lib.hid hfg
        clear hfg hx' hx1 hc0 hc1 hc2
        go_wp2_with fail
        go_loopw [4] (fun jj wr => ∃ j : Nat, j ≤ k ∧ jj = .int .i64 j ∧ Hid (∀ (i : Nat) (y : Nd), i < j → ns[i]? = some y → y.nm ≠ f.nm) ∧ Below W.heap.size W wr) (fun jj _ => k - (intOf jj).toNat)
        case atStart => exact ⟨0, Nat.zero_le _, rfl, (fun i x hi => absurd hi (by omega)), hb'⟩
        case round =>
          obtain ⟨j, hj, rfl, HJ, hbj⟩ := hrel
          have hx' := (hbj.cell (p := ⟨w.heap.size, 0, none⟩) hszl).trans q0
          by_cases hlt2 : j < k
          · obtain ⟨b1, o1, f1, he1, hbl1, hf1, _, hc0, _, _⟩ := (hI.below hbj).at_ hlt
            obtain ⟨b2, o2, g, he2, hbl2, hg, _, hc2, _, _⟩ := (hI.below hbj).at_ (show j < n by omega)
            obtain ⟨rfl, rfl⟩ : b = b1 ∧ o = o1 := by injection he1 with he1; injection he1 with h1 h2; exact ⟨h1, h2⟩
            obtain ⟨rfl, rfl⟩ : b = b2 ∧ o = o2 := by injection he2 with he2; injection he2 with h1 h2; exact ⟨h1, h2⟩
            obtain rfl : f = f1 := Option.some.inj (HF.out.symm.trans hf1)
            have HG := Lib.hid hg
            have k0 : (0 : Int) ≤ (k : Int) := by omega
            have k1 : (k : Int) < (n : Int) := by omega
            have j0 : (0 : Int) ≤ (j : Int) := by omega
            have j1 : (j : Int) < (n : Int) := by omega
            clear he1 he2 hf1 hg
            cases hE : (f.nm.toList == g.nm.toList)
            all_goals
              have HE2 := Lib.hid hE
              go_wp2_with fail
              go_quiet (fail)
              go_wp2_with fail
            · go_roundw
              case rel => exact ⟨j + 1, by omega, by go_num, nx_step HJ.out HG.out (Ne.symm (str_ne HE2.out)), below_drewN hbj _⟩
              case measure => simp [intOf]; omega
            · go_ret
              exact not_net (p := True) (fun hh => (hh.2.2.2.1 k f (by have := hl.out; omega) HF.out).2 j g hlt2 HG.out (str_eq HE2.out).symm) (bthen hw0 (below_drewN hbj _) hw0.size)
          · obtain rfl : j = k := by omega
            go_wp2_with fail
            go_roundw
            case rel => exact ⟨j + 1, by omega, by go_num, okTo_step HP.out HF.out HE.out HJ.out, hbj⟩
            case measure => simp [intOf]; omega
      · obtain rfl : k = n := by omega
        have HK := Lib.hid HP.out
        clear HP
        go_wp2_with fail
        have hbw := hb
        go_loopw [5] (fun ii wr => ∃ k : Nat, k ≤ m ∧ ii = .int .i64 k ∧ Hid (∀ p ∈ ps.take k, pipeB ns.length p = true) ∧ Below W.heap.size W wr) (fun ii _ => m - (intOf ii).toNat)
        case atStart => exact ⟨0, Nat.zero_le _, rfl, (fun p hp => absurd hp (by simp)), hbw⟩
        case round =>
          obtain ⟨j, hj, rfl, HP, hb⟩ := hrel
          have hx' := (hb.cell (p := ⟨w.heap.size, 0, none⟩) hszl).trans q0
          have hx1 := (hb.cell (p := ⟨w.heap.size, 1, none⟩) hszl).trans q1
          have hwr := Nat.lt_of_lt_of_le hszl hb.size
          by_cases hlt : j < m
          · obtain ⟨b, o, f, rfl, hbl, hf, hok, hc0, hc1, hc2, hc3, hc4⟩ := (kI.below hb).at_ hlt
            have HF := Lib.hid hf
            clear hf
            have kV : Kept (Below W.heap.size W wr.drew) := ⟨hb.drew⟩
            have j0 : (0 : Int) ≤ (j : Int) := by omega
            have j1 : (j : Int) < (m : Int) := by omega
            cases hfg : pipeB k f
            all_goals
              have HE := Lib.hid hfg
              go_wp2_with fail
              go_region_held3 (fun w' => w.heap.size < w'.heap.size ∧ b < w'.heap.size ∧ w'.cell? ⟨w.heap.size, 0, none⟩ = some (.slice A k c) ∧ w'.cell? ⟨w.heap.size, 1, none⟩ = some (.slice (some ⟨b, o, none⟩) m d) ∧ w'.cell? ⟨b, o + j * 5, none⟩ = some (.int .i64 f.fr) ∧ w'.cell? ⟨b, o + j * 5 + 1, none⟩ = some (.int .i64 f.to) ∧ w'.cell? ⟨b, o + j * 5 + 2, none⟩ = some (.int .i64 f.k) ∧ w'.cell? ⟨b, o + j * 5 + 3, none⟩ = some (.int .i64 f.v) ∧ w'.cell? ⟨b, o + j * 5 + 4, none⟩ = some (.int .i64 f.l) ∧ Kept (Below W.heap.size W w'))
                (first | go_keep | (go_split_ands; refine ⟨by have := hb2.size; omega, by have := hb2.size; omega, ?_, ?_, ?_, ?_, ?_, ?_, ?_, ⟨bthen (Kept.out ‹Kept (Below _ _ _)›) hb2 (Kept.out ‹Kept (Below _ _ _)›).size⟩⟩ <;> (rw [hb2.cell (by simp; omega)]; assumption)))
                (first | (go_at_call 28; refine (sPipe_any f _ _ (by omega) (by unfold maxLen; omega)).mono ?_; rintro e w2 ⟨rfl, hb2⟩))
              go_wp2_with fail
              rename_i hh
              obtain ⟨_, _, _, _, _, _, _, _, _, ⟨hbn⟩⟩ := hh
            · go_ret
              exact not_net (p := True) (fun hh => absurd (hh.2.2.2.2 f (List.mem_of_getElem? HF.out)) (by rw [hl.out, HE.out]; simp)) (bthen hw0 hbn hw0.size)
            · go_roundw
              case rel => exact ⟨j + 1, by omega, by go_num, pall_step HP.out HF.out (by rw [hl.out]; exact HE.out), hbn⟩
              case measure => simp [intOf]; omega
          · go_wp2_with fail
            go_ret
            exact ⟨true, ⟨fun _ => ⟨by have := hl.out; omega, by have := hl.out; omega, by have := hlp.out; omega, by rw [hl.out]; exact HK.out, fun p hp => HP.out p (by rwa [List.take_of_length_le (by have := hlp.out; omega)])⟩, fun _ => rfl⟩, rfl, bthen hw0 hb hw0.size⟩
  all_goals
    have H := Lib.hid (show ¬ NetOk ns ps from fun hh => by have := hh.1; have := hh.2.1; have := hh.2.2.1; have := hl.out; have := hlp.out; omega)
    go_enter Try.func15, Try.ntmps15
    go_wp2_with fail
    go_ret
    exact not_net (p := True) H.out (hb0 _ _)
end Go.Proofs.Ytpgegfnhokhlmaa
set_option linter.unusedVariables false
set_option maxRecDepth 100000
namespace Go.Proofs.Ytpgegfnhokhlmaa
open Go.ChangeShapes Go.WideShapes Go.ChangeAt Go.RowKit Go.Joins Go.Deep

/-- A network reads as the nodes ns and the pipes ps. -/
structure IsNet (w : World) (A : Option Addr) (n c : Nat) (ns : List Nd) (B : Option Addr) (m d : Nat) (ps : List Pp) : Prop where
  nodes : Nodes w A n ns
  capA : n ≤ c ∧ c ≤ maxLen
  pipes : Pipes w B m ps
  capB : m ≤ d ∧ d ≤ maxLen
  nilA : A = none → c = 0
  nilB : B = none → d = 0
section
variable {w w' : World} {A B : Option Addr} {n c m d : Nat} {ns : List Nd} {ps : List Pp}
theorem IsNet.below (h : IsNet w A n c ns B m d ps) (hb : Below w.heap.size w w') : IsNet w' A n c ns B m d ps := ⟨h.nodes.below hb, h.capA, h.pipes.below hb, h.capB, h.nilA, h.nilB⟩
theorem IsNet.alloc (h : IsNet w A n c ns B m d ps) (o : Obj) : IsNet (w.alloc o) A n c ns B m d ps := h.below ((Below.refl _ _).alloc (Nat.le_refl _) _)
theorem IsNet.drew (h : IsNet w A n c ns B m d ps) : IsNet w.drew A n c ns B m d ps := h.below ((Below.refl _ _).drew)
end
theorem OwnN.cap {w : World} {B : Nat} {A : Option Addr} {n c : Nat} {xs : List Nd} (h : OwnN w B A n c xs) : n ≤ c ∧ c ≤ maxLen := by
  rcases h.1.1.2 with ⟨e, h0⟩ | ⟨g, cap, cur, e, _, _, h1, h2, _⟩
  · injection e with e1 e2 e3
    subst e2 e3
    exact ⟨Nat.le_refl _, by unfold maxLen; omega⟩
  · injection e with e1 e2 e3
    subst e3
    exact ⟨h1, h2⟩
theorem OwnP.cap {w : World} {B : Nat} {A : Option Addr} {n c : Nat} {xs : List Pp} (h : OwnP w B A n c xs) : n ≤ c ∧ c ≤ maxLen := by
  rcases h.1.1.2 with ⟨e, h0⟩ | ⟨g, cap, cur, e, _, _, h1, h2, _⟩
  · injection e with e1 e2 e3
    subst e2 e3
    exact ⟨Nat.le_refl _, by unfold maxLen; omega⟩
  · injection e with e1 e2 e3
    subst e3
    exact ⟨h1, h2⟩
theorem OwnR.nil_ {α : Type} {enc : α → List Value} {k : Nat} {e : TypeId} {w : World} {B : Nat} {A : Option Addr} {n c : Nat} {xs : List α} (h : OwnR enc k e w B A n c xs) : A = none → c = 0 := by
  intro hA
  rcases h.1.2 with ⟨e, h0⟩ | ⟨g, cap, cur, e, _⟩
  · injection e
  · subst hA
    injection e with e1
    cases e1
theorem OwnN.nil_ {w : World} {B : Nat} {A : Option Addr} {n c : Nat} {xs : List Nd} (h : OwnN w B A n c xs) : A = none → c = 0 := h.1.nil_
theorem OwnP.nil_ {w : World} {B : Nat} {A : Option Addr} {n c : Nat} {xs : List Pp} (h : OwnP w B A n c xs) : A = none → c = 0 := h.1.nil_
/-- A network of the call's own, its lists in blocks from C on. -/
structure OwnNet (w : World) (C : Nat) (A : Option Addr) (n c : Nat) (ns : List Nd) (B : Option Addr) (m d : Nat) (ps : List Pp) : Prop where
  nodes : OwnN w C A n c ns
  pipes : OwnP w C B m d ps
theorem OwnNet.reads {w : World} {C : Nat} {A : Option Addr} {n c : Nat} {ns : List Nd} {B : Option Addr} {m d : Nat} {ps : List Pp} (h : OwnNet w C A n c ns B m d ps) : IsNet w A n c ns B m d ps := ⟨h.nodes.reads, h.nodes.cap, h.pipes.reads, h.pipes.cap, h.nodes.nil_, h.pipes.nil_⟩
theorem OwnNet.below {w w' : World} {C : Nat} {A : Option Addr} {n c : Nat} {ns : List Nd} {B : Option Addr} {m d : Nat} {ps : List Pp} (h : OwnNet w C A n c ns B m d ps) (hb : Below w.heap.size w w') : OwnNet w' C A n c ns B m d ps := ⟨h.nodes.below hb, h.pipes.below hb⟩
/-- toNetwork, in these words. -/
theorem toNetw_any (A B : Option Addr) (n c m d : Nat) (ns : List Nd) (ps : List Pp) (w : World) (h : IsNet w A n c ns B m d ps) (hn : n ≤ 1048576) (hm : m ≤ 1048576) :
    Calls Try.prog 6 #[.agg #[.slice A n c, .slice B m d]] w fun e w' => ∃ A' c' B' d', e = .returned (.agg #[.slice A' n c', .slice B' m d']) ∧ OwnNet w' w.heap.size A' n c' ns B' m d' ps ∧ Below w.heap.size w w' := by
  obtain rfl : ns.length = n := h.nodes.len
  obtain rfl : ps.length = m := h.pipes.len
  refine (toNet_any A B c d ns ps w h.nodes h.pipes hn hm).mono ?_
  rintro e w' ⟨A', c', B', d', rfl, h1, h2, h3⟩
  exact ⟨A', c', B', d', rfl, ⟨h1, h2⟩, h3⟩
theorem opn_netw {H : Type} {enc : TypeId × Value → H} {W : World} {base : Nat} {v : Value} {d : DataW H} {p : List MemPlace} (hv : Value.okWide Try.prog W .any base 25 v) (h : DataW.Trod enc Try.prog W 0 (fun _ => true) true 25 v d p) (_lt : ∀ x ∈ p, x.block < W.heap.size) :
    ∃ A n c ns B m e ps, v = .agg #[.slice A n c, .slice B m e] ∧ IsNet W A n c ns B m e ps := by
  obtain ⟨A, n, c, ns, B, m, e, ps, rfl, h1, h2, h3, h4, h5, h6, h7, h8⟩ := opn_net hv h _lt
  exact ⟨A, n, c, ns, B, m, e, ps, rfl, ⟨h1, ⟨h2, h3⟩, h4, ⟨h5, h6⟩, h7, h8⟩⟩
theorem isNetw_any (A B : Option Addr) (n c m d : Nat) (ns : List Nd) (ps : List Pp) (w : World) (h : IsNet w A n c ns B m d ps) :
    Calls Try.prog 20 #[.agg #[.slice A n c, .slice B m d]] w (RetEq w (NetOk ns ps)) := isNet_any A B n c m d ns ps w h.nodes h.pipes h.capA (Nat.le_trans h.capB.1 h.capB.2)
theorem sIsNetw_any (A B : Option Addr) (n c m d : Nat) (ns : List Nd) (ps : List Pp) (w : World) (h : IsNet w A n c ns B m d ps) :
    Calls Try.prog 15 #[.agg #[.slice A n c, .slice B m d]] w (RetEq w (NetOk ns ps)) := sIsNet_any A B n c m d ns ps w h.nodes h.pipes (Nat.le_trans h.capA.1 h.capA.2) (Nat.le_trans h.capB.1 h.capB.2)
/-- A box that holds a network. -/
structure BoxN (w : World) (g : Nat) (A : Option Addr) (n c : Nat) (B : Option Addr) (m d : Nat) : Prop where
  lt : g < w.heap.size
  c0 : w.cell? ⟨g, 0, none⟩ = some (.slice A n c)
  c1 : w.cell? ⟨g, 1, none⟩ = some (.slice B m d)
theorem BoxN.below {w w' : World} {g : Nat} {A : Option Addr} {n c : Nat} {B : Option Addr} {m d : Nat} (h : BoxN w g A n c B m d) (hb : Below w.heap.size w w') : BoxN w' g A n c B m d :=
  ⟨Nat.lt_of_lt_of_le h.lt hb.size, (hb.cell h.lt).trans h.c0, (hb.cell h.lt).trans h.c1⟩
theorem boxN_of {w : World} {A : Option Addr} {n c : Nat} {B : Option Addr} {m d : Nat} (t : TypeId) : BoxN (w.alloc (.cells #[.slice A n c, .slice B m d] t)) w.heap.size A n c B m d := ⟨by simp, by simp, by simp⟩
end Go.Proofs.Ytpgegfnhokhlmaa
set_option linter.unusedVariables false
set_option maxRecDepth 100000
namespace Go.Proofs.Ytpgegfnhokhlmaa
open Go.RowKit Go.Joins

/-- append(s, ys...): the elements of a slice that reads as ys behind those of an owned one. -/
theorem wpList_catR {α : Type} {enc : α → List Value} {k bytes : Nat} {e t : TypeId} {z : Value} {ops : Array Oper} {rest : List Oper} {o : Oper} {a : Act} {Q : Exit → Act → World → Prop} (wr : World) (hgd : o.guard = none) (s x : Operand)
    (ho : o.op = .call { callee := .builtin .append, args := #[s, x], argTypes := #[t, t] }) (ht : Try.prog.underlying t = some (.slice e)) (hinfo : (Try.prog.info? e).map (fun i => (i.zero, i.size, i.bytes)) = some (some z, k, bytes)) (hzs : z.cells.size = k) (hk : 0 < k) (hby : bytes ≤ 64)
    (B : Nat) (A : Option Addr) (n c : Nat) (xs : List α) (A' : Option Addr) (m c' : Nat) (ys : List α) (hnil : A' = none → c' = 0) (hs : a.eval s = .slice A n c) (hx : a.eval x = .slice A' m c') (hown : OwnR enc k e wr B A n c xs) (hr : Recs enc k wr A' m ys)
    (hey : ∀ y ∈ ys, (enc y).length = k) (h1 : ∀ y ∈ ys, ∀ u ∈ enc y, u.oneCell' = true) (hn : n ≤ 1099511627776) (hm : m ≤ 1099511627776) (hB : B ≤ wr.heap.size)
    (h : ∀ A2 c2 w', OwnR enc k e w' B A2 (n + m) c2 (xs ++ ys) → Below B wr w' → wr.grownBy w' (A.map (·.block)) → (A = none ∨ A2 ≠ none) → wpList Try.prog ops Q rest (a.put o.dst (.slice A2 (n + m) c2)) w') :
    wpList Try.prog ops Q (o :: rest) a wr := by
  obtain ⟨i0, hi0, hz0, hz1, hz2⟩ := info_parts hinfo
  have hlt := hown.lt
  rcases A' with _ | ad
  · obtain rfl := hnil rfl
    obtain rfl : m = 0 := by
      rcases Nat.eq_zero_or_pos m with h0 | h0
      · exact h0
      · obtain ⟨b, o', e', _⟩ := hr.2 h0
        cases e'
    have hy : ys = [] := List.length_eq_zero_iff.1 hr.len
    subst hy
    refine wpList_append_own_none hgd s x t ho B e i0 k ht hi0 (.slice A n c) n (xs.flatMap enc) hs hown.1 hx ?_
    exact h A c wr (by simpa using hown) (Below.refl _ _) (World.grownBy.refl wr _) (by cases A <;> simp)
  · refine wpList_append_own _ hgd s x t ho B e i0 z k bytes ht hi0 hz0 hz1 hz2 hzs hk (.slice A n c) n (xs.flatMap enc) hs hown.1 ad m c' (ys.flatMap enc) hx (by rw [flat_len hey, hr.len]) ?_ ?_ (by unfold maxLen; omega) ?_ hB ?_
    · intro j u hj
      have hjl := (List.getElem?_eq_some_iff.1 hj).1
      rw [flat_len hey, hr.len] at hjl
      have hm0 : 0 < m := by
        rcases Nat.eq_zero_or_pos m with h0 | h0
        · subst h0; simp at hjl
        · exact h0
      obtain ⟨b, o', e', hb, hc⟩ := hr.2 hm0
      injection e' with e'
      subst e'
      have hq : j / k < m := Nat.div_lt_of_lt_mul (by rw [Nat.mul_comm]; exact hjl)
      have hr' : j % k < k := Nat.mod_lt _ hk
      have hyl : j / k < ys.length := by rw [hr.len]; exact hq
      have hy : ys[j / k]? = some ys[j / k] := List.getElem?_eq_getElem hyl
      have hev := hey _ (List.getElem_mem hyl)
      have hv : (enc ys[j / k])[j % k]? = some ((enc ys[j / k])[j % k]'(by omega)) := List.getElem?_eq_getElem (by omega)
      have hf := flat_at hey hy hv
      rw [Nat.div_add_mod'] at hf
      rw [hf] at hj
      injection hj with hj
      subst hj
      have := hc _ _ hy _ _ hv
      rw [Nat.add_assoc, Nat.div_add_mod'] at this
      have ea : (⟨b, o', none⟩ : Addr).add j = ⟨b, o' + j, none⟩ := by
        unfold Addr.add
        by_cases h1 : j = 0 <;> simp [h1]
      rw [ea]
      exact this
    · intro u hu
      obtain ⟨y, hy, hu⟩ := List.mem_flatMap.1 hu
      exact h1 y hy u hu
    · have : (n + m) * bytes ≤ (n + m) * 64 := Nat.mul_le_mul_left _ hby
      omega
    · intro v' w1 hown' hgrow hnn
      have hnone : A = none → m = 0 ∨ v' ≠ .slice none 0 0 := fun hA => by
        rcases Nat.eq_zero_or_pos m with h0 | h0
        · exact .inl h0
        · exact .inr fun hv => by have := (hnn.1 hv).2; omega
      rcases hown'.2 with ⟨e', h0⟩ | ⟨g, cap, cur, e', _⟩
      · have hm0 : n + m = 0 := h0
        subst e'
        have := h none 0 w1 ⟨by rw [List.flatMap_append, hm0]; rw [hm0] at hown'; exact hown', by
          intro y hy
          rcases List.mem_append.1 hy with hy | hy
          · exact hown.2 y hy
          · exact hey y hy⟩ (((Below.refl B wr)).grown hgrow hB (fun g hg => (hown.1.lt g hg).1)) (by cases A <;> exact hgrow) (.inl (by
            have := (hnn.1 rfl).1
            injection this))
        rwa [hm0] at this
      · subst e'
        refine h (some ⟨g, 0, none⟩) cap w1 ⟨by rw [List.flatMap_append]; exact hown', ?_⟩ (((Below.refl B wr)).grown hgrow hB (fun g hg => (hown.1.lt g hg).1)) (by cases A <;> exact hgrow) (.inr (by simp))
        intro y hy
        rcases List.mem_append.1 hy with hy | hy
        · exact hown.2 y hy
        · exact hey y hy
/-- append(s, x) of one struct. -/
theorem wpList_pushR {α : Type} {enc : α → List Value} {k bytes : Nat} {e t : TypeId} {z : Value} {ops : Array Oper} {rest : List Oper} {o : Oper} {a : Act} {Q : Exit → Act → World → Prop} (wr : World) (hgd : o.guard = none) (s x : Operand)
    (ho : o.op = .call { callee := .builtin .append, args := #[s, x], argTypes := #[t, t] }) (ht : Try.prog.underlying t = some (.slice e)) (hinfo : (Try.prog.info? e).map (fun i => (i.zero, i.size, i.bytes)) = some (some z, k, bytes)) (hzs : z.cells.size = k) (hk : 0 < k) (hby : bytes ≤ 64)
    (B : Nat) (A : Option Addr) (n c : Nat) (xs : List α) (y : α) (cs : Array Value) (hcs : cs.toList = enc y) (H : Nat) (hH : wr.heap.size = H) (hs : a.eval s = .slice A n c) (hx : a.eval x = .slice (some ⟨H, 0, none⟩) 1 1) (hown : OwnR enc k e wr B A n c xs)
    (hey : (enc y).length = k) (h1 : ∀ u ∈ enc y, u.oneCell' = true) (hn : n ≤ 1099511627776) (hB : B ≤ wr.heap.size)
    (h : ∀ g c2 w', OwnR enc k e w' B (some ⟨g, 0, none⟩) (n + 1) c2 (xs ++ [y]) → Below B wr w' → (wr.alloc (.cells cs e)).grownBy w' (A.map (·.block)) → B ≤ g → wpList Try.prog ops Q rest (a.put o.dst (.slice (some ⟨g, 0, none⟩) (n + 1) c2)) w') :
    wpList Try.prog ops Q (o :: rest) a (wr.alloc (.cells cs e)) := by
  subst hH
  have hrec : Recs enc k (wr.alloc (.cells cs e)) (some ⟨wr.heap.size, 0, none⟩) 1 [y] := by
    refine ⟨rfl, fun _ => ⟨wr.heap.size, 0, rfl, by simp, fun i x hx j v hv => ?_⟩⟩
    match i, hx with
    | 0, hx =>
      simp at hx
      subst hx
      rw [← hcs] at hv
      simp at hv
      simp [hv]
  refine wpList_catR (enc := enc) (wr.alloc (.cells cs e)) hgd s x ho ht hinfo hzs hk hby B A n c xs (some ⟨wr.heap.size, 0, none⟩) 1 1 [y] (fun h => by cases h) hs hx (hown.alloc _) hrec (fun y' hy => by simp at hy; subst hy; exact hey) (fun y' hy => by simp at hy; subst hy; exact h1) hn (by omega) (by simp; omega) ?_
  intro A2 c2 w' ho2 hb2 hg2 _
  obtain ⟨g, rfl, hg, _⟩ := ho2.form (by omega)
  exact h g c2 w' ho2 (((Below.refl B wr).alloc hB _).trans hb2) hg2 hg
theorem ownR_nil {α : Type} (enc : α → List Value) (k : Nat) (e : TypeId) (w : World) (B : Nat) : OwnR enc k e w B none 0 0 [] := ⟨World.ownsRow_nil _ _ _ _, fun z hz => absurd hz List.not_mem_nil⟩
theorem ownR_empty {α : Type} (enc : α → List Value) (k : Nat) (e : TypeId) (w : World) (B : Nat) (hB : B ≤ w.heap.size) : OwnR enc k e (w.alloc (.cells #[] e)) B (some ⟨w.heap.size, 0, none⟩) 0 0 [] :=
  ⟨World.ownsRow_lit (size := k) w #[] 0 hB (Nat.zero_le _) (by simp), fun z hz => absurd hz List.not_mem_nil⟩
end Go.Proofs.Ytpgegfnhokhlmaa
set_option linter.unusedVariables false
set_option maxRecDepth 100000
namespace Go.Proofs.Ytpgegfnhokhlmaa
open Go.ChangeShapes Go.WideShapes Go.ChangeAt Go.RowKit Go.Joins Go.Deep

/-- Block g holds the cells cs. -/
def Box (w : World) (g : Nat) (cs : Array Value) (t : TypeId) : Prop := w.heap[g]? = some (.cells cs t (0, 0))
section
variable {w w' : World} {g : Nat} {cs : Array Value} {t : TypeId}
theorem Box.lt (h : Box w g cs t) : g < w.heap.size := (Array.getElem?_eq_some_iff.1 h).1
theorem Box.cell (h : Box w g cs t) (i : Nat) : w.cell? ⟨g, i, none⟩ = cs[i]? := by
  simp [World.cell?, show w.heap[g]? = _ from h]
theorem Box.free (h : Box w g cs t) (i : Nat) : w.frozen? ⟨g, i, none⟩ = false := by
  simp [World.frozen?, show w.heap[g]? = _ from h]
theorem Box.keep (h : Box w g cs t) (hk : w'.heap[g]? = w.heap[g]?) : Box w' g cs t := hk.trans h
theorem Box.alloc (h : Box w g cs t) (o : Obj) : Box (w.alloc o) g cs t := h.keep (Below.heap_alloc w o g h.lt)
theorem Box.below {B : Nat} (h : Box w g cs t) (hb : Below B w w') (hg : g < B) : Box w' g cs t := h.keep (hb.block g hg)
theorem Box.belowA (h : Box w g cs t) (hb : Below w.heap.size w w') : Box w' g cs t := h.below hb h.lt
theorem Box.grown {row : Option Nat} (h : Box w g cs t) (hg : w.grownBy w' row) (hne : row ≠ some g) : Box w' g cs t := h.keep (hg.block g h.lt (fun e => hne e.symm))
theorem Box.other (h : Box w g cs t) {a : Addr} (ha : a.block ≠ g) (u : Value) : Box (w.setCell a u) g cs t := h.keep (Below.heap_setCell w a u g (fun e => ha e.symm))
theorem Box.drewN (h : Box w g cs t) (n : Nat) : Box (w.drewN n) g cs t := h
theorem Box.drew (h : Box w g cs t) : Box w.drew g cs t := h
theorem Box.qt (h : Box w g cs t) (hq : Qt w w') : Box w' g cs t := by
  obtain ⟨m, rfl⟩ := hq
  exact h
theorem Box.set (h : Box w g cs t) (i : Nat) (u : Value) : Box (w.setCell ⟨g, i, none⟩ u) g (cs.setIfInBounds i u) t := by
  have hl := h.lt
  unfold Box at *
  unfold World.setCell
  have he : w.heap[g] = Obj.cells cs t (0, 0) := by
    rw [Array.getElem?_eq_getElem hl] at h
    exact Option.some.inj h
  simp [hl, Array.getElem_modify, he]
theorem box_new (w : World) (cs : Array Value) (t : TypeId) : Box (w.alloc (.cells cs t)) w.heap.size cs t := by
  unfold Box
  exact heap_alloc_new w _
theorem box_at (w : World) (cs : Array Value) (t : TypeId) {g : Nat} (hg : g = w.heap.size) : Box (w.alloc (.cells cs t)) g cs t := by subst hg; exact box_new w cs t
end
/-- A row of the call's own lies in another block than a box below its base. -/
theorem box_row {w : World} {B g : Nat} {e : TypeId} {k n : Nat} {A : Option Addr} {c : Nat} {xs : List Value} (h : w.ownsRow B e k (.slice A n c) n xs) (hg : g < B) : A.map (·.block) ≠ some g := by
  intro hh
  have := h.lt g (by
    cases A with
    | none => cases hh
    | some a => exact hh)
  omega
end Go.Proofs.Ytpgegfnhokhlmaa
set_option linter.unusedVariables false
set_option maxRecDepth 100000
namespace Go.Proofs.Ytpgegfnhokhlmaa
open Go.ChangeShapes Go.WideShapes Go.ChangeAt Go.RowKit Go.Joins Go.Deep

theorem rowsT_apart {w : World} {B B' : Nat} {e e' : TypeId} {k k' n n' : Nat} {v v' : Value} {xs ys : List Value} (h : w.ownsRow B e k v n xs) (h' : w.ownsRow B' e' k' v' n' ys) (hne : e ≠ e') : ∀ g, v.ownBlock = some g → v'.ownBlock ≠ some g := by
  intro g hg hg'
  rcases h.2 with ⟨rfl, _⟩ | ⟨g1, cap, cur, rfl, _, hb, _⟩
  · cases hg
  · rcases h'.2 with ⟨rfl, _⟩ | ⟨g2, cap', cur', rfl, _, hb', _⟩
    · cases hg'
    · simp [Value.ownBlock] at hg hg'
      subst hg hg'
      rw [hb] at hb'
      injection hb' with hb'
      injection hb' with _ hb'
      exact hne hb'
/-- A slice's row lies in a block from L on and below U. -/
def Rw (A : Option Addr) (L U : Nat) : Prop := ∀ g, A.map (·.block) = some g → L ≤ g ∧ g < U
theorem Own.rw_ {w : World} {B : Nat} {A : Option Addr} {n c : Nat} {zs : List Int} (h : Own w B A n c zs) : Rw A B w.heap.size := fun g hg => h.lt g hg
theorem OwnR.rw_ {α : Type} {enc : α → List Value} {k : Nat} {e : TypeId} {w : World} {B : Nat} {A : Option Addr} {n c : Nat} {xs : List α} (h : OwnR enc k e w B A n c xs) : Rw A B w.heap.size := fun g hg => h.lt g hg
theorem rw_apart {A A' : Option Addr} {L U L' U' : Nat} (hx : Rw A L U) (hy : Rw A' L' U') (h : U ≤ L' ∨ U' ≤ L) : ∀ g, A = some ⟨g, 0, none⟩ → A'.map (·.block) ≠ some g := by
  intro g hg hh
  have h1 := hx g (by rw [hg]; rfl)
  have h2 := hy g hh
  omega
theorem rw_box {A : Option Addr} {L U g : Nat} (hx : Rw A L U) (h : g < L ∨ U ≤ g) : A.map (·.block) ≠ some g := by
  intro hh
  have := hx g hh
  omega
theorem rw_ge {A : Option Addr} {L U B : Nat} (hx : Rw A L U) (h : B ≤ L) : ∀ g, A.map (·.block) = some g → B ≤ g := fun g hg => Nat.le_trans h (hx g hg).1
/-- Two rows lie in different blocks. -/
def Ap (A A' : Option Addr) : Prop := ∀ g, A.map (·.block) = some g → A'.map (·.block) ≠ some g
theorem Ap.symm {A A' : Option Addr} (h : Ap A A') : Ap A' A := fun g h1 h2 => h g h2 h1
theorem Ap.row {A A' : Option Addr} (h : Ap A A') : ∀ g, A = some ⟨g, 0, none⟩ → A'.map (·.block) ≠ some g := fun g hg => h g (by rw [hg]; rfl)
theorem ap_of {w : World} {B B' : Nat} {e e' : TypeId} {k k' n n' c c' : Nat} {A A' : Option Addr} {xs ys : List Value} (h : w.ownsRow B e k (.slice A n c) n xs) (h' : w.ownsRow B' e' k' (.slice A' n' c') n' ys) (hne : e ≠ e') : Ap A A' := by
  intro g h1 h2
  refine rowsT_apart h h' hne g ?_ ?_
  · cases A with
    | none => cases h1
    | some a => exact h1
  · cases A' with
    | none => cases h2
    | some a => exact h2
theorem OwnNet.grown {w w' : World} {row : Option Nat} {C : Nat} {A : Option Addr} {n c : Nat} {ns : List Nd} {B : Option Addr} {m d : Nat} {ps : List Pp} (h : OwnNet w C A n c ns B m d ps) (hg : w.grownBy w' row) (h1 : ∀ g, A = some ⟨g, 0, none⟩ → row ≠ some g) (h2 : ∀ g, B = some ⟨g, 0, none⟩ → row ≠ some g) : OwnNet w' C A n c ns B m d ps :=
  ⟨h.nodes.grown hg h1, ⟨h.pipes.1.grown hg h2, h.pipes.2⟩⟩
end Go.Proofs.Ytpgegfnhokhlmaa
set_option linter.unusedVariables false
set_option maxRecDepth 100000
namespace Go.Proofs.Ytpgegfnhokhlmaa
open Go.ChangeShapes Go.WideShapes Go.ChangeAt Go.RowKit Go.Joins Go.Deep

/-- The decimal digits of a number ahead of a text. -/
def mdig (k : Nat) (t : ByteArray) : ByteArray := if h : k = 0 then t else mdig (k / 10) (strOfNums [48 + (k : Int) % 10] ++ t)
termination_by k
decreasing_by omega
def mtx (k : Nat) : ByteArray := ⟨#[109]⟩ ++ mdig k ByteArray.empty
theorem mdig_zero (t : ByteArray) : mdig 0 t = t := by rw [mdig]; rfl
theorem mdig_pos {k : Nat} (h : 0 < k) (t : ByteArray) : mdig k t = mdig (k / 10) (strOfNums [48 + (k : Int) % 10] ++ t) := by
  rw [mdig, dif_neg (by omega)]
set_option maxHeartbeats 1000000 in
theorem markText_any (k : Nat) (w : World) (h0 : 0 < k) (h1 : k ≤ 1000000000000) :
    Calls Try.prog 41 #[.int .i64 k] w fun e w' => e = .returned (.string (mtx k)) ∧ Below w.heap.size w w' := by
  have d1 : decide (k = 0) = false := by simp; omega
  go_enter Try.func41, Try.ntmps41
  go_wp2_with fail
  go_loopw [0, 3] (fun kk tt wr => ∃ (j : Nat) (t : ByteArray), j ≤ k ∧ t.size + j ≤ k ∧ kk = .int .i64 j ∧ tt = .string t ∧ Hid (mdig j t = mdig k ByteArray.empty) ∧ Below w.heap.size w wr) (fun kk _ _ => (intOf kk).toNat)
  case atStart => exact ⟨k, ByteArray.empty, Nat.le_refl _, by simp, rfl, rfl, rfl, Below.refl _ _⟩
  case round =>
    obtain ⟨j, t, hj, hts, rfl, rfl, HT, hb⟩ := hrel
    by_cases hlt : 0 < j
    · have hrun := run_convert_bytes_arg (P := Try.prog) (wr.alloc (.cells #[.int .u8 (48 + (j : Int) % 10)] 5)) 82 5 Try.underlying82 Try.underlying5 wr.heap.size 0 1 1 [48 + (j : Int) % 10] rfl (fun i hi => by
        obtain rfl : i = 0 := by omega
        simp) 9 Try.underlying9
      have HD := Lib.hid (mdig_pos hlt t)
      have hs1 : (strOfNums [48 + (j : Int) % 10]).size = 1 := strOfNums_size _
      have hsz : ¬ 9223372036854775807 < (strOfNums [48 + (j : Int) % 10]).size + t.size := by omega
      have hs2 : (strOfNums [48 + (j : Int) % 10] ++ t).size + j / 10 ≤ k := by rw [ByteArray.size_append]; omega
      clear hs1
      go_wp2_with fail
      go_roundw
      case rel => exact ⟨j / 10, _, by omega, hs2, by go_num, rfl, HD.out.symm.trans HT.out, hb.alloc hb.size _⟩
      case measure => simp [intOf]; omega
    · obtain rfl : j = 0 := by omega
      have hsz : ¬ 9223372036854775807 < (⟨#[109]⟩ : ByteArray).size + t.size := by
        have : (⟨#[109]⟩ : ByteArray).size = 1 := rfl
        omega
      go_wp2_with fail
      go_ret
      have ht := HT.out
      rw [mdig_zero] at ht
      exact ⟨by rw [ht]; rfl, hb⟩
/-- The marks of nodes and of pipes. -/
def mkN (k n : Nat) : List Nd := (List.range n).map fun i : Nat => ⟨mtx (k + 3 * i), ((k : Int) + 3 * (i : Int) + 1), ((k : Int) + 3 * (i : Int) + 1 + 1)⟩
def mkP (k n : Nat) : List Pp := (List.range n).map fun i : Nat => ⟨((k : Int) + 5 * (i : Int)), ((k : Int) + 5 * (i : Int) + 1), ((k : Int) + 5 * (i : Int) + 1 + 1), ((k : Int) + 5 * (i : Int) + 1 + 1 + 1), ((k : Int) + 5 * (i : Int) + 1 + 1 + 1 + 1)⟩
theorem mkN_len (k n : Nat) : (mkN k n).length = n := by simp [mkN]
theorem mkP_len (k n : Nat) : (mkP k n).length = n := by simp [mkP]
theorem mkN_at (k : Nat) {n i : Nat} (h : i < n) : (mkN k n)[i]? = some ⟨mtx (k + 3 * i), ((k : Int) + 3 * (i : Int) + 1), ((k : Int) + 3 * (i : Int) + 1 + 1)⟩ := by simp [mkN, h]
theorem mkP_at (k : Nat) {n i : Nat} (h : i < n) : (mkP k n)[i]? = some ⟨((k : Int) + 5 * (i : Int)), ((k : Int) + 5 * (i : Int) + 1), ((k : Int) + 5 * (i : Int) + 1 + 1), ((k : Int) + 5 * (i : Int) + 1 + 1 + 1), ((k : Int) + 5 * (i : Int) + 1 + 1 + 1 + 1)⟩ := by simp [mkP, h]
theorem mkN_step {zs : List Nd} {n j : Nat} (k : Nat) (hl : zs.length = n) (hj : j < n) : (mkN k j ++ zs.drop j).set j ⟨mtx (k + 3 * j), ((k : Int) + 3 * (j : Int) + 1), ((k : Int) + 3 * (j : Int) + 1 + 1)⟩ = mkN k (j + 1) ++ zs.drop (j + 1) := by
  rw [List.set_append_right _ _ (by simp [mkN_len])]
  have e : List.drop j zs = zs[j] :: zs.drop (j + 1) := by rw [List.drop_eq_getElem_cons (by omega)]
  rw [e, mkN_len, Nat.sub_self]
  simp [mkN, List.range_succ]
  rw [e]
  rfl
theorem mkP_step {zs : List Pp} {n j : Nat} (k : Nat) (hl : zs.length = n) (hj : j < n) : (mkP k j ++ zs.drop j).set j ⟨((k : Int) + 5 * (j : Int)), ((k : Int) + 5 * (j : Int) + 1), ((k : Int) + 5 * (j : Int) + 1 + 1), ((k : Int) + 5 * (j : Int) + 1 + 1 + 1), ((k : Int) + 5 * (j : Int) + 1 + 1 + 1 + 1)⟩ = mkP k (j + 1) ++ zs.drop (j + 1) := by
  rw [List.set_append_right _ _ (by simp [mkP_len])]
  have e : List.drop j zs = zs[j] :: zs.drop (j + 1) := by rw [List.drop_eq_getElem_cons (by omega)]
  rw [e, mkP_len, Nat.sub_self]
  simp [mkP, List.range_succ]
  rw [e]
  rfl
set_option maxHeartbeats 2000000 in
theorem markNodes_any (B : Nat) (A : Option Addr) (n c k : Nat) (xs : List Nd) (w : World) (h : OwnR encN 3 55 w B A n c xs) (hn : n ≤ 1048576) (hk0 : 0 < k) (hk1 : k ≤ 100000000000) :
    Calls Try.prog 24 #[.slice A n c, .int .i64 k] w fun e w' => e = .returned (.int .i64 ((k : Int) + 3 * (n : Int))) ∧ OwnR encN 3 55 w' B A n c (mkN k n) ∧ w.grownBy w' (A.map (·.block)) := by
  have hl := Lib.hid (h.len (by omega))
  go_enter Try.func24, Try.ntmps24
  go_wp2_with fail
  go_loopw [1, 5] (fun kk ii wr => ∃ j : Nat, j ≤ n ∧ ii = .int .i64 j ∧ kk = .int .i64 ((k : Int) + 3 * (j : Int)) ∧ OwnR encN 3 55 wr B A n c (mkN k j ++ xs.drop j) ∧ w.grownBy wr (A.map (·.block))) (fun _ ii _ => n - (intOf ii).toNat)
  case atStart => exact ⟨0, Nat.zero_le _, rfl, by simp, by simpa [mkN] using h, World.grownBy.refl w _⟩
  case round =>
    obtain ⟨j, hj, rfl, rfl, hown, hgr⟩ := hrel
    by_cases hlt : j < n
    · have hst := Lib.hid (mkN_step k hl.out hlt)
      obtain ⟨g, rfl, hBg, hgl⟩ := hown.form (by omega)
      go_wp2_with fail
      refine (markText_any (k + 3 * j) _ (by omega) (by omega)).mono ?_
      rintro e w1 ⟨rfl, hb1⟩
      have hown1 := hown.below hb1
      have hgr1 : w.grownBy w1 (some g) := hgr.trans ⟨hb1.os, hb1.tape, hb1.output, hb1.size, fun i hi _ => hb1.block i hi⟩
      obtain ⟨x, hx, hcs, hfs, _, hgl1⟩ := hown1.cells (by omega) hlt
      have c0 := hcs 0 _ rfl
      have f0 := hfs (j * 3)
      have c1 := hcs 1 _ rfl
      have f1 := hfs (j * 3 + 1)
      have c2 := hcs 2 _ rfl
      have f2 := hfs (j * 3 + 2)
      obtain ⟨hput, hgr2⟩ := hown1.put (by omega) hlt (x := ⟨mtx (k + 3 * j), ((k : Int) + 3 * (j : Int) + 1), ((k : Int) + 3 * (j : Int) + 1 + 1)⟩) rfl
      have HPUT := Lib.hid hput
      have HGR := Lib.hid (hgr1.trans hgr2)
      clear hown hown1 hcs hfs hput hgr2 hx hgr hgr1
      rw [Nat.add_zero] at c0
      go_wp2_with fail
      go_roundw
      case rel => exact ⟨j + 1, by omega, by go_num, by go_num, by rw [← hst.out]; exact HPUT.out, HGR.out⟩
      case measure => simp [intOf]; omega
    · go_wp2_with fail
      go_ret
      obtain rfl : j = n := by omega
      exact ⟨rfl, by simpa [List.drop_of_length_le (Nat.le_of_eq hl.out)] using hown, hgr⟩
set_option maxHeartbeats 2000000 in
theorem markPipes_any (B : Nat) (A : Option Addr) (n c k : Nat) (xs : List Pp) (w : World) (h : OwnR encP 5 58 w B A n c xs) (hn : n ≤ 1048576) (hk1 : k ≤ 100000000000) :
    Calls Try.prog 25 #[.slice A n c, .int .i64 k] w fun e w' => e = .returned (.int .i64 ((k : Int) + 5 * (n : Int))) ∧ OwnR encP 5 58 w' B A n c (mkP k n) ∧ w.grownBy w' (A.map (·.block)) := by
  have hl := Lib.hid (h.len (by omega))
  go_enter Try.func25, Try.ntmps25
  go_wp2_with fail
  go_loopw [1, 5] (fun kk ii wr => ∃ j : Nat, j ≤ n ∧ ii = .int .i64 j ∧ kk = .int .i64 ((k : Int) + 5 * (j : Int)) ∧ OwnR encP 5 58 wr B A n c (mkP k j ++ xs.drop j) ∧ w.grownBy wr (A.map (·.block))) (fun _ ii _ => n - (intOf ii).toNat)
  case atStart => exact ⟨0, Nat.zero_le _, rfl, by simp, by simpa [mkP] using h, World.grownBy.refl w _⟩
  case round =>
    obtain ⟨j, hj, rfl, rfl, hown, hgr⟩ := hrel
    by_cases hlt : j < n
    · have hst := Lib.hid (mkP_step k hl.out hlt)
      obtain ⟨g, rfl, hBg, hgl⟩ := hown.form (by omega)
      obtain ⟨x, hx, hcs, hfs, _, hgl1⟩ := hown.cells (by omega) hlt
      have c0 := hcs 0 _ rfl
      have f0 := hfs (j * 5)
      have c1 := hcs 1 _ rfl
      have f1 := hfs (j * 5 + 1)
      have c2 := hcs 2 _ rfl
      have f2 := hfs (j * 5 + 2)
      have c3 := hcs 3 _ rfl
      have f3 := hfs (j * 5 + 3)
      have c4 := hcs 4 _ rfl
      have f4 := hfs (j * 5 + 4)
      obtain ⟨hput, hgr2⟩ := hown.put (by omega) hlt (x := ⟨((k : Int) + 5 * (j : Int)), ((k : Int) + 5 * (j : Int) + 1), ((k : Int) + 5 * (j : Int) + 1 + 1), ((k : Int) + 5 * (j : Int) + 1 + 1 + 1), ((k : Int) + 5 * (j : Int) + 1 + 1 + 1 + 1)⟩) rfl
      have HPUT := Lib.hid hput
      have HGR := Lib.hid (hgr.trans hgr2)
      clear hown hcs hfs hput hgr2 hx hgr
      rw [Nat.add_zero] at c0
      go_wp2_with fail
      go_roundw
      case rel => exact ⟨j + 1, by omega, by go_num, by go_num, by rw [← hst.out]; exact HPUT.out, HGR.out⟩
      case measure => simp [intOf]; omega
    · go_wp2_with fail
      go_ret
      obtain rfl : j = n := by omega
      exact ⟨rfl, by simpa [List.drop_of_length_le (Nat.le_of_eq hl.out)] using hown, hgr⟩
theorem grown_alloc {w w' : World} {row : Option Nat} (h : w.grownBy w' row) (o : Obj) : w.grownBy (w'.alloc o) row := h.trans ⟨rfl, rfl, rfl, by simp, fun k hk _ => Below.heap_alloc w' o k hk⟩
theorem alloc_grown {w : World} (o : Obj) (row : Option Nat) : w.grownBy (w.alloc o) row := grown_alloc (World.grownBy.refl w row) o
theorem nodes_pipes_apart {w : World} {B B' : Nat} {A A' : Option Addr} {n c n' c' : Nat} {zs : List Nd} {xs : List Pp} (h : OwnR encN 3 55 w B A n c zs) (h' : OwnR encP 5 58 w B' A' n' c' xs) :
    (∀ g, A = some ⟨g, 0, none⟩ → A'.map (·.block) ≠ some g) ∧ (∀ g, A' = some ⟨g, 0, none⟩ → A.map (·.block) ≠ some g) := by
  have h1 := rowsT_apart h.1 h'.1 (by decide)
  refine ⟨fun g hg hh => h1 g (by subst hg; rfl) ?_, fun g hg hh => h1 g ?_ (by subst hg; rfl)⟩
  · cases A' with
    | none => cases hh
    | some a => exact hh
  · cases A with
    | none => cases hh
    | some a => exact hh
set_option maxHeartbeats 2000000 in
theorem markNet_any (C D : Nat) (A B : Option Addr) (n c m d : Nat) (k : Nat) (ns : List Nd) (ps : List Pp) (w : World) (h1 : OwnR encN 3 55 w C A n c ns) (h2 : OwnR encP 5 58 w D B m d ps) (hn : n ≤ 1048576) (hm : m ≤ 1048576) (hk0 : 0 < k) (hk1 : k ≤ 10000000000) :
    Calls Try.prog 10 #[.agg #[.slice A n c, .slice B m d], .int .i64 k] w fun e w' => e = .returned (.int .i64 ((k : Int) + 3 * (n : Int) + 5 * (m : Int))) ∧ OwnR encN 3 55 w' C A n c (mkN k n) ∧ OwnR encP 5 58 w' D B m d (mkP (k + 3 * n) m) ∧
      ∃ w1, w.grownBy w1 (A.map (·.block)) ∧ w1.grownBy w' (B.map (·.block)) := by
  have hl1 := h1.lt
  have bx := box_new w #[.slice A n c, .slice B m d] 33
  go_enter Try.func10, Try.ntmps10
  go_wp2_with fail
  refine (markNodes_any C A n c k ns _ (h1.alloc _) hn hk0 (by omega)).mono ?_
  rintro e w1 ⟨rfl, ho1, hg1⟩
  have bx1 := bx.grown hg1 (fun hh => by have := (hl1 _ hh).2; omega)
  have xl := bx1.lt
  have x1 : w1.cell? ⟨w.heap.size, 1, none⟩ = some (.slice B m d) := bx1.cell 1
  have hp1 := (h2.alloc (.cells #[.slice A n c, .slice B m d] 33)).grown hg1 (nodes_pipes_apart h1 h2).2
  have hG := (alloc_grown (w := w) (.cells #[.slice A n c, .slice B m d] 33) (A.map (·.block))).trans hg1
  have ek : ((k : Int) + 3 * (n : Int)) = ((k + 3 * n : Nat) : Int) := by omega
  rw [ek]
  have HEK := Lib.hid ek
  clear ek hl1 hg1
  go_wp2_with fail
  refine (markPipes_any D B m d (k + 3 * n) ps _ hp1 hm (by omega)).mono ?_
  rintro e w2 ⟨rfl, ho2, hg2⟩
  have ho1' := ho1.grown hg2 (nodes_pipes_apart ho1 hp1).1
  go_wp2_with fail
  go_ret
  exact ⟨ri (by omega), ho1', ho2, w1, hG, hg2⟩
end Go.Proofs.Ytpgegfnhokhlmaa
set_option linter.unusedVariables false
set_option maxRecDepth 100000
namespace Go.Proofs.Ytpgegfnhokhlmaa
open Go.ChangeShapes Go.WideShapes Go.ChangeAt Go.RowKit Go.Joins Go.Deep

theorem markNet1_any (C D : Nat) (A B : Option Addr) (n c m d : Nat) (ns : List Nd) (ps : List Pp) (w : World) (h1 : OwnR encN 3 55 w C A n c ns) (h2 : OwnR encP 5 58 w D B m d ps) (hn : n ≤ 1048576) (hm : m ≤ 1048576) :
    Calls Try.prog 10 #[.agg #[.slice A n c, .slice B m d], .int .i64 1] w fun e w' => e = .returned (.int .i64 (1 + 3 * (n : Int) + 5 * (m : Int))) ∧ OwnR encN 3 55 w' C A n c (mkN 1 n) ∧ OwnR encP 5 58 w' D B m d (mkP (1 + 3 * n) m) ∧
      ∃ w1, w.grownBy w1 (A.map (·.block)) ∧ w1.grownBy w' (B.map (·.block)) :=
  markNet_any C D A B n c m d 1 ns ps w h1 h2 hn hm (by omega) (by omega)
end Go.Proofs.Ytpgegfnhokhlmaa
set_option linter.unusedVariables false
set_option maxRecDepth 100000
namespace Go.Proofs.Ytpgegfnhokhlmaa
open Go.ChangeShapes Go.WideShapes Go.ChangeAt Go.RowKit Go.Joins Go.Deep

def flB (m : Nat) (zs : List Int) : Bool := decide (zs.length = m) && allB zs (-30000) 30000
def lvB (m : Nat) (zs : List Int) : Bool := decide (zs.length = m) && allB zs (-1000000000000000000) 1000000000000000000
theorem flB_len {m : Nat} {zs : List Int} (h : flB m zs = true) : zs.length = m := by
  unfold flB at h
  simp at h
  exact h.1
theorem flB_all {m : Nat} {zs : List Int} (h : flB m zs = true) : allB zs (-30000) 30000 = true := by
  unfold flB at h
  rw [Bool.and_eq_true] at h
  exact h.2
theorem lvB_len {m : Nat} {zs : List Int} (h : lvB m zs = true) : zs.length = m := by
  unfold lvB at h
  simp at h
  exact h.1
theorem lvB_all {m : Nat} {zs : List Int} (h : lvB m zs = true) : allB zs (-1000000000000000000) 1000000000000000000 = true := by
  unfold lvB at h
  rw [Bool.and_eq_true] at h
  exact h.2
/-- The code of a network and a list of numbers. -/
noncomputable def codeF (ns : List Nd) (ps : List Pp) (m : Nat) (zs : List Int) : Int := @ite _ (NetOk ns ps) (Classical.propDecidable _) (if flB m zs = true then 0 else 3) 1
theorem codeF_net {ns : List Nd} {ps : List Pp} {m : Nat} {zs : List Int} (h : ¬ NetOk ns ps) : codeF ns ps m zs = 1 := if_neg h
theorem codeF_bad {ns : List Nd} {ps : List Pp} {m : Nat} {zs : List Int} (h : NetOk ns ps) (hf : flB m zs = false) : codeF ns ps m zs = 3 := by
  unfold codeF
  rw [if_pos h, if_neg (by rw [hf]; decide)]
theorem codeF_ok {ns : List Nd} {ps : List Pp} {m : Nat} {zs : List Int} (h : NetOk ns ps) (hf : flB m zs = true) : codeF ns ps m zs = 0 := by
  unfold codeF
  rw [if_pos h, if_pos hf]
theorem codeF_in (ns : List Nd) (ps : List Pp) (m : Nat) (zs : List Int) : (codeF ns ps m zs = 0 ∧ NetOk ns ps ∧ flB m zs = true) ∨ codeF ns ps m zs = 1 ∨ codeF ns ps m zs = 3 := by
  by_cases h : NetOk ns ps
  · cases hf : flB m zs
    · exact .inr (.inr (codeF_bad h hf))
    · exact .inl ⟨codeF_ok h hf, h, rfl⟩
  · exact .inr (.inl (codeF_net h))
end Go.Proofs.Ytpgegfnhokhlmaa
