/- The program's planner: its cells, its lists, its maps. No condition. -/
import Derived.Test.YtiofjnohdmminaaMemo
set_option linter.unusedVariables false
set_option maxRecDepth 100000
namespace Go.Proofs.Ytiofjnohdmminaa
open Go.ChangeShapes Go.WideShapes Go.ChangeAt Go.RowKit Go.Joins Go.Deep

/-- Of the blocks that were there only those of M have turned. -/
structure Tn (M : Nat → Prop) (w w' : World) : Prop where
  os : w'.os = w.os
  tape : w'.tape = w.tape
  output : w'.output = w.output
  size : w.heap.size ≤ w'.heap.size
  block : ∀ k, k < w.heap.size → ¬ M k → w'.heap[k]? = w.heap[k]?
section
variable {M : Nat → Prop} {w w' w'' : World}
theorem Tn.refl (M : Nat → Prop) (w : World) : Tn M w w := ⟨rfl, rfl, rfl, Nat.le_refl _, fun _ _ _ => rfl⟩
theorem Tn.trans (h : Tn M w w') (k : Tn M w' w'') : Tn M w w'' :=
  ⟨k.os.trans h.os, k.tape.trans h.tape, k.output.trans h.output, Nat.le_trans h.size k.size, fun i hi hm => (k.block i (Nat.lt_of_lt_of_le hi h.size) hm).trans (h.block i hi hm)⟩
theorem Tn.of_below (h : Below w.heap.size w w') : Tn M w w' := ⟨h.os, h.tape, h.output, h.size, fun k hk _ => h.block k hk⟩
theorem Tn.of_grown {b : Nat} (h : w.grownBy w' (some b)) (hb : M b) : Tn M w w' :=
  ⟨h.os, h.tape, h.output, h.size, fun k hk hm => h.block k hk (fun e => by injection e with e; exact hm (e ▸ hb))⟩
theorem Tn.below {B : Nat} (h : Tn M w w') (hM : ∀ k, M k → B ≤ k) (hB : B ≤ w.heap.size) : Below B w w' :=
  ⟨h.os, h.tape, h.output, h.size, fun k hk => h.block k (by omega) (fun hm => by have := hM k hm; omega)⟩
theorem Box.tn {g : Nat} {cs : Array Value} {t : TypeId} (h : Box w g cs t) (ht : Tn M w w') (hM : ¬ M g) : Box w' g cs t := h.keep (ht.block g h.lt hM)
theorem Own.tn {B : Nat} {A : Option Addr} {n c : Nat} {zs : List Int} (h : Own w B A n c zs) (ht : Tn M w w') (hM : ∀ g, A = some ⟨g, 0, none⟩ → ¬ M g) : Own w' B A n c zs := by
  refine ⟨⟨h.1.1, ?_⟩, h.2⟩
  rcases h.1.2 with e | ⟨g, cap, cur, e1, e2, e3, e4⟩
  · exact .inl e
  · refine .inr ⟨g, cap, cur, e1, e2, ?_, e4⟩
    have hA : A = some ⟨g, 0, none⟩ := by injection e1
    rw [ht.block g (Array.getElem?_eq_some_iff.1 e3).1 (hM g hA)]
    exact e3
end
theorem map_nocell {w : World} {b : Nat} {es : Array MapEntry} {clock : Nat} (h : w.heap[b]? = some (.map es clock)) (o : Nat) : w.cell? ⟨b, o, none⟩ = none := by simp [World.cell?, h]
/-- The blocks of the first n maps. -/
def Mo (bm : Nat → Nat) (n : Nat) (k : Nat) : Prop := ∃ j, j < n ∧ k = bm j
/-- The planner in block pb: a unit, costs, musts, and a map for each hour. -/
structure Pln (w : World) (pb kb : Nat) (bm : Nat → Nat) (A C : Option Addr) (n ca cc ck : Nat) (s u d : Int) (cs ms : List Int) : Prop where
  box : Box w pb #[.int .i64 s, .int .i64 u, .int .i64 d, .slice A n ca, .slice C n cc, .slice (some ⟨kb, 0, none⟩) n ck] 82
  ic : Ints w A n cs
  im : Ints w C n ms
  kn : ∀ j, j < n → w.cell? ⟨kb, j, none⟩ = some (.map (some (bm j)))
  sl : ∀ j, j < n → Slot w (bm j) (fun on long => lst s u d (capO u d) ((cs.zip ms).drop j) on long)
  inj : ∀ i j, i < n → j < n → bm i = bm j → i = j
  fit : Fits s u d (cs.zip ms)
section
variable {w w' : World} {pb kb : Nat} {bm : Nat → Nat} {A C : Option Addr} {n ca cc ck : Nat} {s u d : Int} {cs ms : List Int}
theorem Pln.isMap (h : Pln w pb kb bm A C n ca cc ck s u d cs ms) {g : Nat} (hg : Mo bm n g) : ∃ es clock, w.heap[g]? = some (.map es clock) := by
  obtain ⟨j, hj, rfl⟩ := hg
  exact (h.sl j hj).map_
theorem Pln.noBox (h : Pln w pb kb bm A C n ca cc ck s u d cs ms) {g : Nat} {l : Array Value} {t : TypeId} (hb : Box w g l t) : ¬ Mo bm n g := by
  intro hg
  obtain ⟨es, clock, e⟩ := h.isMap hg
  unfold Box at hb
  rw [hb] at e
  cases e
theorem Pln.noCell (h : Pln w pb kb bm A C n ca cc ck s u d cs ms) {g o : Nat} {v : Value} (hb : w.cell? ⟨g, o, none⟩ = some v) : ¬ Mo bm n g := by
  intro hg
  obtain ⟨es, clock, e⟩ := h.isMap hg
  rw [map_nocell e] at hb
  cases hb
theorem Pln.noOwn (h : Pln w pb kb bm A C n ca cc ck s u d cs ms) {B : Nat} {A' : Option Addr} {m c : Nat} {zs : List Int} (ho : Own w B A' m c zs) : ∀ g, A' = some ⟨g, 0, none⟩ → ¬ Mo bm n g := by
  intro g hA hg
  obtain ⟨es, clock, e⟩ := h.isMap hg
  rcases ho.1.2 with ⟨e1, _⟩ | ⟨g', cap, cur, e1, _, e3, _⟩
  · subst hA; cases e1
  · subst hA
    injection e1 with e1
    injection e1 with e1
    injection e1 with e1
    subst e1
    rw [e3] at e
    cases e
theorem Pln.ints_tn (h : Pln w pb kb bm A C n ca cc ck s u d cs ms) (ht : Tn (Mo bm n) w w') {A' : Option Addr} {zs : List Int} (hi : Ints w A' n zs) : Ints w' A' n zs := by
  refine ⟨hi.1, hi.2.1, fun hn => ?_⟩
  obtain ⟨b, o, e, hb, hc⟩ := hi.2.2 hn
  refine ⟨b, o, e, Nat.lt_of_lt_of_le hb ht.size, fun k z hz => ?_⟩
  have hcz := hc k z hz
  rw [← hcz]
  exact World.cell?_of_block (ht.block b hb (h.noCell hcz))
theorem Pln.tn (h : Pln w pb kb bm A C n ca cc ck s u d cs ms) (ht : Tn (Mo bm n) w w') (hs : ∀ j, j < n → Slot w' (bm j) (fun on long => lst s u d (capO u d) ((cs.zip ms).drop j) on long)) : Pln w' pb kb bm A C n ca cc ck s u d cs ms :=
  ⟨h.box.tn ht (h.noBox h.box), h.ints_tn ht h.ic, h.ints_tn ht h.im, fun j hj => by
    have hc := h.kn j hj
    rw [← hc]
    exact World.cell?_of_block (ht.block kb (World.block_lt_of_cell? w _ hc) (h.noCell hc)), hs, h.inj, h.fit⟩
theorem Pln.below (h : Pln w pb kb bm A C n ca cc ck s u d cs ms) (hb : Below w.heap.size w w') : Pln w' pb kb bm A C n ca cc ck s u d cs ms :=
  h.tn (Tn.of_below hb) (fun j hj => by
    have hs := h.sl j hj
    obtain ⟨es, clock, e⟩ := hs.map_
    exact hs.keep (hb.block _ (Array.getElem?_eq_some_iff.1 e).1))
theorem Pln.drew (h : Pln w pb kb bm A C n ca cc ck s u d cs ms) : Pln w.drew pb kb bm A C n ca cc ck s u d cs ms := h.below ((Below.refl _ _).drew)
theorem Pln.stored (h : Pln w pb kb bm A C n ca cc ck s u d cs ms) {j : Nat} (hj : j < n) (hg : w.grownBy w' (some (bm j))) (hs : Slot w' (bm j) (fun on long => lst s u d (capO u d) ((cs.zip ms).drop j) on long)) : Pln w' pb kb bm A C n ca cc ck s u d cs ms :=
  h.tn (Tn.of_grown hg ⟨j, hj, rfl⟩) (fun i hi => by
    by_cases e : i = j
    · subst e; exact hs
    · have h2 := h.sl i hi
      obtain ⟨es, clock, e2⟩ := h2.map_
      exact h2.keep (hg.block _ (Array.getElem?_eq_some_iff.1 e2).1 (fun hh => by injection hh with hh; exact e (h.inj i j hi hj hh))))
theorem Pln.at_ (h : Pln w pb kb bm A C n ca cc ck s u d cs ms) {j : Nat} (hj : j < n) : ∃ c m, cs[j]? = some c ∧ ms[j]? = some m ∧ (cs.zip ms).drop j = (c, m) :: (cs.zip ms).drop (j + 1) ∧ (c, m) ∈ cs.zip ms := by
  have h1 := h.ic.len
  have h2 := h.im.len
  have hl : j < (cs.zip ms).length := by rw [List.length_zip]; omega
  refine ⟨cs[j], ms[j], List.getElem?_eq_getElem (by omega), List.getElem?_eq_getElem (by omega), ?_, ?_⟩
  · rw [List.drop_eq_getElem_cons hl]; simp
  · have := List.getElem_mem hl
    simpa using this
theorem Pln.n48 (h : Pln w pb kb bm A C n ca cc ck s u d cs ms) : n ≤ 48 := by
  have h1 := h.ic.len
  have h2 := h.im.len
  have h3 := h.fit.hn
  rw [List.length_zip] at h3
  omega
theorem Pln.end_ (h : Pln w pb kb bm A C n ca cc ck s u d cs ms) : (cs.zip ms).drop n = [] := by
  have h1 := h.ic.len
  have h2 := h.im.len
  exact List.drop_eq_nil_of_le (by rw [List.length_zip]; omega)
end
end Go.Proofs.Ytiofjnohdmminaa
