/- What bestPlan does, by a walk over its text. Conditions: within their bounds, 1 to 48 hours. -/
import Derived.Test.YtiofjnohdmminaaLeast
set_option linter.unusedVariables false
set_option maxRecDepth 100000
namespace Go.Proofs.Ytiofjnohdmminaa
open Go.ChangeShapes Go.WideShapes Go.ChangeAt Go.RowKit Go.Joins Go.Deep
attribute [local go_sem ↓] Go.wp_at_zero Go.wp_at_succ

def encM (b : Nat) : List Value := [.map (some b)]
theorem info_map : (Try.prog.info? 83).map (fun i => (i.zero, i.size, i.bytes)) = some (some (.map none), 1, 8) := by kernel_rfl
/-- The maps while they are made. -/
structure MapsB (w : World) (B : Nat) (tA : Option Addr) (k tc : Nat) (bl : List Nat) (g : Nat → Int → Int → Option Int) : Prop where
  own : OwnR encM 1 83 w B tA k tc bl
  sl : ∀ j b, bl[j]? = some b → B ≤ b ∧ Slot w b (g j)
  nd : bl.Nodup
section
variable {w w' : World} {B : Nat} {tA : Option Addr} {k tc : Nat} {bl : List Nat} {g : Nat → Int → Int → Option Int}
theorem MapsB.ap (h : MapsB w B tA k tc bl g) {j b : Nat} (hb : bl[j]? = some b) : tA.map (·.block) ≠ some b := by
  intro e
  have hl := h.own.len (by decide)
  have hk : 0 < k := by
    have := (List.getElem?_eq_some_iff.1 hb).1
    omega
  obtain ⟨g', rfl, _, _⟩ := h.own.form hk
  obtain rfl : g' = b := by injection e
  obtain ⟨x, hx, hcs, _⟩ := h.own.cells (by decide) hk
  have h1 := hcs 0 (.map (some x)) rfl
  obtain ⟨es, clock, e2⟩ := (h.sl j g' hb).2.map_
  rw [show 0 * 1 + 0 = 0 from rfl, map_nocell e2] at h1
  cases h1
theorem MapsB.lt (h : MapsB w B tA k tc bl g) {j b : Nat} (hb : bl[j]? = some b) : b < w.heap.size := by
  obtain ⟨es, clock, e2⟩ := (h.sl j b hb).2.map_
  exact (Array.getElem?_eq_some_iff.1 e2).1
theorem MapsB.push {g' c2 : Nat} (h : MapsB w B tA k tc bl g) (hB : B ≤ w.heap.size) {x : Array Value} {w2 : World} (hw2 : w2 = (w.alloc (.map #[] 0)).alloc (.cells x 83))
    (ho : OwnR encM 1 83 w' B (some ⟨g', 0, none⟩) (k + 1) c2 (bl ++ [w.heap.size])) (hg : w2.grownBy w' (tA.map (·.block))) : MapsB w' B (some ⟨g', 0, none⟩) (k + 1) c2 (bl ++ [w.heap.size]) g := by
  subst hw2
  have hl := h.own.len (by decide)
  refine ⟨ho, fun j b hb => ?_, ?_⟩
  · by_cases hj : j < bl.length
    · rw [List.getElem?_append_left hj] at hb
      refine ⟨(h.sl j b hb).1, (h.sl j b hb).2.keep ?_⟩
      have hlt := h.lt hb
      rw [hg.block b (by simp; omega) (fun e => h.ap hb e.symm), Below.heap_alloc _ _ _ (by simp; omega), Below.heap_alloc _ _ _ hlt]
    · rw [List.getElem?_append_right (by omega)] at hb
      have hj2 : j - bl.length = 0 := by
        have := (List.getElem?_eq_some_iff.1 hb).1
        simp at this
        omega
      rw [hj2] at hb
      simp at hb
      subst hb
      refine ⟨hB, (slot_new w (g j)).keep ?_⟩
      rw [hg.block _ (by simp; omega) (fun e => by
        have := (h.own.lt _ e.symm).2
        omega), Below.heap_alloc _ _ _ (by simp)]
  · refine List.nodup_append.2 ⟨h.nd, by simp, fun a ha b hb => ?_⟩
    simp at hb
    subst hb
    rintro rfl
    obtain ⟨j, hj⟩ := List.getElem?_of_mem ha
    have := h.lt hj
    omega
theorem OwnR.same {α : Type} {enc : α → List Value} {z : Nat} {e : TypeId} {n c : Nat} {xs : List α} (h : OwnR enc z e w B tA n c xs) (hk : ∀ g, tA = some ⟨g, 0, none⟩ → w'.heap[g]? = w.heap[g]?) : OwnR enc z e w' B tA n c xs := by
  refine ⟨⟨h.1.1, ?_⟩, h.2⟩
  rcases h.1.2 with e | ⟨g, cap, cur, e1, e2, e3, e4⟩
  · exact .inl e
  · refine .inr ⟨g, cap, cur, e1, e2, ?_, e4⟩
    have hA : tA = some ⟨g, 0, none⟩ := by injection e1
    rw [hk g hA]
    exact e3
theorem Own.same2 {B : Nat} {A : Option Addr} {n c : Nat} {zs : List Int} (h : Own w B A n c zs) (hk : ∀ g, A = some ⟨g, 0, none⟩ → w'.heap[g]? = w.heap[g]?) : Own w' B A n c zs := by
  refine ⟨⟨h.1.1, ?_⟩, h.2⟩
  rcases h.1.2 with e | ⟨g, cap, cur, e1, e2, e3, e4⟩
  · exact .inl e
  · refine .inr ⟨g, cap, cur, e1, e2, ?_, e4⟩
    have hA : A = some ⟨g, 0, none⟩ := by injection e1
    rw [hk g hA]
    exact e3
/-- A store into another block, below the base. -/
theorem MapsB.set (h : MapsB w B tA k tc bl g) {a : Addr} (ha : a.block < B) (v : Value) : MapsB (w.setCell a v) B tA k tc bl g :=
  ⟨h.own.same (fun g' e => Below.heap_setCell w a v g' (fun e2 => by
    have := (h.own.lt g' (by rw [e]; rfl)).1
    omega)), fun j b hj => ⟨(h.sl j b hj).1, (h.sl j b hj).2.keep (Below.heap_setCell w a v b (fun e2 => by
    have := (h.sl j b hj).1
    omega))⟩, h.nd⟩
theorem MapsB.keepAll (h : MapsB w B tA k tc bl g) (hb : Below w.heap.size w w') : MapsB w' B tA k tc bl g :=
  ⟨h.own.below hb, fun j b hj => ⟨(h.sl j b hj).1, (h.sl j b hj).2.keep (hb.block b (h.lt hj))⟩, h.nd⟩
theorem MapsB.pln {A C : Option Addr} {n ca cc kb pb : Nat} {s u d : Int} {cs ms : List Int} (h : MapsB w B (some ⟨kb, 0, none⟩) n tc bl (fun j on long => lst s u d (capO u d) ((cs.zip ms).drop j) on long))
    (hb : Box w pb #[.int .i64 s, .int .i64 u, .int .i64 d, .slice A n ca, .slice C n cc, .slice (some ⟨kb, 0, none⟩) n tc] 82) (ic : Ints w A n cs) (im : Ints w C n ms) (hf : Fits s u d (cs.zip ms)) : Pln w pb kb (fun j => bl.getD j 0) A C n ca cc tc s u d cs ms := by
  have hl := h.own.len (by decide)
  have hat : ∀ k, k < n → bl[k]? = some (bl.getD k 0) := fun k hk => by
    rw [List.getD_eq_getElem?_getD, List.getElem?_eq_getElem (by omega)]
    rfl
  refine ⟨hb, ic, im, fun j hj => ?_, fun j hj => (h.sl j _ (hat j hj)).2, fun i j hi hj e => ?_, hf⟩
  · obtain ⟨x, hx, hcs, _⟩ := h.own.cells (by decide) hj
    have h1 := hcs 0 (.map (some x)) rfl
    obtain rfl : x = bl.getD j 0 := Option.some.inj (hx.symm.trans (hat j hj))
    rw [Nat.mul_one, Nat.add_zero] at h1
    exact h1
  · have h1 := hat i hi
    have h2 := hat j hj
    rw [e] at h1
    exact (List.getElem?_inj (i := i) (by omega) h.nd).1 (h1.trans h2.symm)
/-- All the planner's blocks lie below B2. -/
def Pinned (pb kb : Nat) (bm : Nat → Nat) (A C : Option Addr) (n B2 : Nat) : Prop := pb < B2 ∧ kb < B2 ∧ (∀ j, j < n → bm j < B2) ∧ (∀ b o, A = some ⟨b, o, none⟩ → b < B2) ∧ (∀ b o, C = some ⟨b, o, none⟩ → b < B2)
theorem Pln.pinned {pb kb : Nat} {bm : Nat → Nat} {A C : Option Addr} {n ca cc ck : Nat} {s u d : Int} {cs ms : List Int} (h : Pln w pb kb bm A C n ca cc ck s u d cs ms) (hn : 0 < n) : Pinned pb kb bm A C n w.heap.size := by
  refine ⟨h.box.lt, World.block_lt_of_cell? w _ (h.kn 0 hn), fun j hj => ?_, fun b o e => ?_, fun b o e => ?_⟩
  · obtain ⟨es, clock, e2⟩ := (h.sl j hj).map_
    exact (Array.getElem?_eq_some_iff.1 e2).1
  · obtain ⟨b', o', e', hb, _⟩ := h.ic.2.2 hn
    rw [e] at e'
    injection e' with e'
    injection e' with e'
    omega
  · obtain ⟨b', o', e', hb, _⟩ := h.im.2.2 hn
    rw [e] at e'
    injection e' with e'
    injection e' with e'
    omega
theorem Ints.belowB {A : Option Addr} {n B2 : Nat} {zs : List Int} (h : Ints w A n zs) (hb : Below B2 w w') (hA : ∀ b o, A = some ⟨b, o, none⟩ → b < B2) : Ints w' A n zs :=
  h.keep hb.size (fun b o e i => hb.cell (p := ⟨b, o + i, none⟩) (hA b o e))
theorem Pln.belowB {B2 pb kb : Nat} {bm : Nat → Nat} {A C : Option Addr} {n ca cc ck : Nat} {s u d : Int} {cs ms : List Int} (h : Pln w pb kb bm A C n ca cc ck s u d cs ms) (hp : Pinned pb kb bm A C n B2) (hb : Below B2 w w') : Pln w' pb kb bm A C n ca cc ck s u d cs ms :=
  ⟨h.box.below hb hp.1, h.ic.belowB hb hp.2.2.2.1, h.im.belowB hb hp.2.2.2.2, fun j hj => (hb.cell (p := ⟨kb, j, none⟩) hp.2.1).trans (h.kn j hj), fun j hj => (h.sl j hj).keep (hb.block _ (hp.2.2.1 j hj)), h.inj, h.fit⟩
end
/-- What bestPlan returns. -/
def RetPlan (s u d : Int) (cs ms : List Int) (w : World) (e : Ending) (w' : World) : Prop :=
  ∃ A2 c2, e = .returned (.tuple #[.slice A2 (if lst s u d (capO u d) (cs.zip ms) 0 d = none then [] else plan s u d (capO u d) (cs.zip ms) 0 d).length c2, .int .i64 ((lst s u d (capO u d) (cs.zip ms) 0 d).getD 0), .int .i64 (if lst s u d (capO u d) (cs.zip ms) 0 d = none then 7 else 0)]) ∧
    Own w' w.heap.size A2 (if lst s u d (capO u d) (cs.zip ms) 0 d = none then [] else plan s u d (capO u d) (cs.zip ms) 0 d).length c2 (if lst s u d (capO u d) (cs.zip ms) 0 d = none then [] else plan s u d (capO u d) (cs.zip ms) 0 d) ∧ Below w.heap.size w w'
theorem retPlan_none {s u d : Int} {cs ms : List Int} {w w' : World} (h : lst s u d (capO u d) (cs.zip ms) 0 d = none) (hb : Below w.heap.size w w') : RetPlan s u d cs ms w (.returned (.tuple #[.slice none 0 0, .int .i64 0, .int .i64 7])) w' := by
  unfold RetPlan
  rw [h]
  exact ⟨none, 0, rfl, ⟨World.ownsRow_nil _ _ _ _, fun z hz => absurd hz List.not_mem_nil⟩, hb⟩
theorem retPlan_some {s u d t : Int} {cs ms zs : List Int} {w w' : World} {A2 : Option Addr} {q c2 : Nat} (h : lst s u d (capO u d) (cs.zip ms) 0 d = some t) (hz : zs = plan s u d (capO u d) (cs.zip ms) 0 d) (ho : Own w' w.heap.size A2 q c2 zs) (hb : Below w.heap.size w w') :
    RetPlan s u d cs ms w (.returned (.tuple #[.slice A2 q c2, .int .i64 t, .int .i64 0])) w' := by
  obtain rfl := ho.len
  subst hz
  unfold RetPlan
  rw [h]
  simp only [reduceCtorEq, if_false, Option.getD_some]
  exact ⟨A2, c2, rfl, ho, hb⟩
end Go.Proofs.Ytiofjnohdmminaa
