/- Slices of faces and compressors: how they read; what IsCompressor (of the program and of the reference) does, by walks over their text. No condition but that the numbers fit their kind. -/
import Derived.Test.YtgchbajhceddnaaNum
import Derived.Test.YtgchbajhceddnaaRecs
set_option linter.unusedVariables false
set_option maxRecDepth 100000
namespace Go.Proofs.Ytgchbajhceddnaa
open Go.ChangeShapes Go.WideShapes Go.ChangeAt Go.RowKit Go.Joins Go.Deep

/-- A face: P, Q, R. -/
structure Fc where
  p : Int
  q : Int
  r : Int
def encF (f : Fc) : List Value := [.int .i64 f.p, .int .i64 f.q, .int .i64 f.r]
def okF (f : Fc) : Prop := I64 f.p ∧ I64 f.q ∧ I64 f.r
/-- A slice of faces that reads as fs. -/
def Faces (w : World) (A : Option Addr) (n : Nat) (fs : List Fc) : Prop := Recs encF 3 w A n fs ∧ ∀ f ∈ fs, okF f
section
variable {w w' : World} {A : Option Addr} {n : Nat} {fs : List Fc}
theorem Faces.len (h : Faces w A n fs) : fs.length = n := h.1.1
theorem Faces.at_ (h : Faces w A n fs) {i : Nat} (hi : i < n) : ∃ b o f, A = some ⟨b, o, none⟩ ∧ b < w.heap.size ∧ fs[i]? = some f ∧ okF f ∧ w.cell? ⟨b, o + i * 3, none⟩ = some (.int .i64 f.p) ∧ w.cell? ⟨b, o + i * 3 + 1, none⟩ = some (.int .i64 f.q) ∧ w.cell? ⟨b, o + i * 3 + 2, none⟩ = some (.int .i64 f.r) := by
  obtain ⟨b, o, x, e, hb, hx, hc⟩ := h.1.at_ hi
  exact ⟨b, o, x, e, hb, hx, h.2 x (List.mem_of_getElem? hx), hc 0 _ rfl, hc 1 _ rfl, hc 2 _ rfl⟩
theorem Faces.below (h : Faces w A n fs) (hb : Below w.heap.size w w') : Faces w' A n fs := ⟨h.1.below hb, h.2⟩
theorem Faces.alloc (h : Faces w A n fs) (o : Obj) : Faces (w.alloc o) A n fs := ⟨h.1.alloc o, h.2⟩
theorem Faces.qt (h : Faces w A n fs) (hq : Qt w w') : Faces w' A n fs := ⟨h.1.qt hq, h.2⟩
end

section
variable {H : Type} {enc : TypeId × Value → H} {W : World} {base : Nat} {v : Value} {d : DataW H} {p : List MemPlace}
theorem rd_faces {fuel : Nat} {v : Value} {y : DataW H × List MemPlace} (h : DataW.trod enc Try.prog W 0 (fun _ => true) true fuel 25 [v] = some y) :
    ∃ A n c fs, v = .slice A n c ∧ Faces W A n fs ∧ n ≤ c ∧ c ≤ maxLen := by
  obtain ⟨A, n, c, f, rfl, hnc, hcm, hcell, hrd⟩ := rd_fields Try.underlying25 Try.underlying85 (by kernel_rfl) (by kernel_rfl) (by decide) h
  have hint : ∀ i j, i < n → j < 3 → ∃ a, f i j = .int .i64 a ∧ I64 a := by
    intro i j hi hj
    match j, hj with
    | 0, _ => obtain ⟨m, z, hz⟩ := hrd i 0 _ hi rfl; exact fld_i64 hz
    | 1, _ => obtain ⟨m, z, hz⟩ := hrd i 1 _ hi rfl; exact fld_i64 hz
    | 2, _ => obtain ⟨m, z, hz⟩ := hrd i 2 _ hi rfl; exact fld_i64 hz
  refine ⟨A, n, c, (List.range n).map fun i => ⟨intOf (f i 0), intOf (f i 1), intOf (f i 2)⟩, rfl, ⟨⟨by simp, fun hn => ?_⟩, ?_⟩, hnc, hcm⟩
  · obtain ⟨b, o, rfl, hb, hc⟩ := hcell hn
    refine ⟨b, o, rfl, hb, fun i x hx j u hu => ?_⟩
    have hi : i < n := by have := (List.getElem?_eq_some_iff.1 hx).1; simpa using this
    have hj : j < 3 := by have := (List.getElem?_eq_some_iff.1 hu).1; simpa [encF] using this
    have hc' := hc i j hi hj
    simp [hi] at hx
    subst hx
    obtain ⟨a, ha, _⟩ := hint i j hi hj
    refine hc'.trans ?_
    rw [← hu]
    match j, hj with
    | 0, _ => simp [encF, ha, intOf]
    | 1, _ => simp [encF, ha, intOf]
    | 2, _ => simp [encF, ha, intOf]
  · intro x hx
    obtain ⟨i, hi, rfl⟩ := List.mem_map.1 hx
    have hi' : i < n := by simpa using hi
    obtain ⟨a, ha, wa⟩ := hint i 0 hi' (by omega)
    obtain ⟨b, hb, wb⟩ := hint i 1 hi' (by omega)
    obtain ⟨c, hc, wc⟩ := hint i 2 hi' (by omega)
    exact ⟨by simpa [ha, intOf] using wa, by simpa [hb, intOf] using wb, by simpa [hc, intOf] using wc⟩
theorem list3 {l : List Value} (h : l.length = 3) : ∃ a b c, l = [a, b, c] := by
  match l, h with
  | [a, b, c], _ => exact ⟨a, b, c, rfl⟩
theorem opn_comp (hv : Value.okWide Try.prog W .any base 27 v) (h : DataW.Trod enc Try.prog W 0 (fun _ => true) true 27 v d p) (_lt : ∀ x ∈ p, x.block < W.heap.size) :
    ∃ A n c fs fu le, v = .agg #[.slice A n c, .int .i64 fu, .int .i64 le] ∧ Faces W A n fs ∧ n ≤ c ∧ c ≤ maxLen ∧ I64 fu ∧ I64 le := by
  obtain ⟨cs, rfl, hl, hg⟩ := opn_fields Try.underlying27 (by kernel_rfl) (by kernel_rfl) hv h
  obtain ⟨c0, c1, c2, rfl⟩ := list3 hl
  obtain ⟨_, _, h0, _⟩ := hg 0 _ _ rfl rfl
  obtain ⟨_, _, h1, _⟩ := hg 1 _ _ rfl rfl
  obtain ⟨_, _, h2, _⟩ := hg 2 _ _ rfl rfl
  obtain ⟨A, n, c, fs, rfl, hf, hnc, hcm⟩ := rd_faces h0
  obtain ⟨a1, rfl, w1⟩ := fld_i64 h1
  obtain ⟨a2, rfl, w2⟩ := fld_i64 h2
  exact ⟨A, n, c, fs, a1, a2, rfl, hf, hnc, hcm, w1, w2⟩
end

/-- A valid face; a valid compressor. -/
def faceB (f : Fc) : Bool := inB f.p (-1000) 1000 && (inB f.q (-1000) 1000 && (!(f.p == 0 && f.q == 0) && inB f.r (-100000000) 100000000))
def compB (n : Nat) (fs : List Fc) (fu le : Int) : Bool := inB n 1 8 && (inB fu 0 1000 && (inB le 0 30000 && fs.all faceB))
theorem faces_no {fs : List Fc} {i : Nat} {f : Fc} (hx : fs[i]? = some f) (h : faceB f = false) : fs.all faceB = false := by
  rw [List.all_eq_false]
  exact ⟨f, List.mem_of_getElem? hx, by simp [h]⟩
theorem faces_step {fs : List Fc} {i : Nat} {f : Fc} (hp : (fs.take i).all faceB = true) (hx : fs[i]? = some f) (h : faceB f = true) : (fs.take (i + 1)).all faceB = true := by
  rw [List.take_add_one, List.all_append, hp, hx]
  simp [h]
/-- The ways through the test of a face. -/
theorem face_ways (f : Fc) :
    (inB f.p (-1000) 1000 = false ∧ faceB f = false) ∨ (inB f.p (-1000) 1000 = true ∧ inB f.q (-1000) 1000 = false ∧ faceB f = false) ∨
    (inB f.p (-1000) 1000 = true ∧ inB f.q (-1000) 1000 = true ∧ (f.p == 0) = true ∧ (f.q == 0) = true ∧ faceB f = false) ∨
    (inB f.p (-1000) 1000 = true ∧ inB f.q (-1000) 1000 = true ∧ (f.p == 0) = true ∧ (f.q == 0) = false ∧ inB f.r (-100000000) 100000000 = false ∧ faceB f = false) ∨
    (inB f.p (-1000) 1000 = true ∧ inB f.q (-1000) 1000 = true ∧ (f.p == 0) = false ∧ inB f.r (-100000000) 100000000 = false ∧ faceB f = false) ∨
    (inB f.p (-1000) 1000 = true ∧ inB f.q (-1000) 1000 = true ∧ (f.p == 0) = true ∧ (f.q == 0) = false ∧ inB f.r (-100000000) 100000000 = true ∧ faceB f = true) ∨
    (inB f.p (-1000) 1000 = true ∧ inB f.q (-1000) 1000 = true ∧ (f.p == 0) = false ∧ inB f.r (-100000000) 100000000 = true ∧ faceB f = true) := by
  unfold faceB
  generalize inB f.p (-1000) 1000 = a
  generalize inB f.q (-1000) 1000 = b
  generalize inB f.r (-100000000) 100000000 = c
  generalize (f.p == 0) = d
  generalize (f.q == 0) = e
  revert a b c d e
  decide
end Go.Proofs.Ytgchbajhceddnaa
