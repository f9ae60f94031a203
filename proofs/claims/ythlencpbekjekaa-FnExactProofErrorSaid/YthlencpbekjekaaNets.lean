/- Slices of nodes and of pipes, networks: how they read. No condition but that the numbers fit their kind. -/
import Derived.Test.YthlencpbekjekaaNum
import Derived.Test.YthlencpbekjekaaRecs
set_option linter.unusedVariables false
set_option maxRecDepth 100000
namespace Go.Proofs.Ythlencpbekjekaa
open Go.ChangeShapes Go.WideShapes Go.ChangeAt Go.RowKit Go.Joins Go.Deep

/-- The bytes of a string value. -/
def strOf : Value → ByteArray
  | .string s => s
  | _ => ByteArray.empty
theorem fld_str {H : Type} {enc : TypeId × Value → H} {W : World} {n : Nat} {v : Value} {y : DataW H × List MemPlace} (h : DataW.trod enc Try.prog W 0 (fun _ => true) true n 9 [v] = some y) : ∃ a, v = .string a ∧ a.size ≤ maxLen := by
  obtain ⟨a, e0, rfl, wa⟩ := DataW.trod_string Try.underlying9 h
  simp at e0
  exact ⟨a, e0, wa⟩
/-- A node. -/
structure Nd where
  nm : ByteArray
  lo : Int
  hi : Int
def encN (x : Nd) : List Value := [.string x.nm, .int .i64 x.lo, .int .i64 x.hi]
def okN (x : Nd) : Prop := x.nm.size ≤ maxLen ∧ I64 x.lo ∧ I64 x.hi
/-- A slice of nodes that reads as xs. -/
def Nodes (w : World) (A : Option Addr) (n : Nat) (xs : List Nd) : Prop := Recs encN 3 w A n xs ∧ ∀ x ∈ xs, okN x
section
variable {w w' : World} {A : Option Addr} {n : Nat} {xs : List Nd}
theorem Nodes.len (h : Nodes w A n xs) : xs.length = n := h.1.1
theorem Nodes.at_ (h : Nodes w A n xs) {i : Nat} (hi : i < n) : ∃ b o x, A = some ⟨b, o, none⟩ ∧ b < w.heap.size ∧ xs[i]? = some x ∧ okN x ∧ w.cell? ⟨b, o + i * 3, none⟩ = some (.string x.nm) ∧ w.cell? ⟨b, o + i * 3 + 1, none⟩ = some (.int .i64 x.lo) ∧ w.cell? ⟨b, o + i * 3 + 2, none⟩ = some (.int .i64 x.hi) := by
  obtain ⟨b, o, x, e, hb, hx, hc⟩ := h.1.at_ hi
  exact ⟨b, o, x, e, hb, hx, h.2 x (List.mem_of_getElem? hx), hc 0 _ rfl, hc 1 _ rfl, hc 2 _ rfl⟩
theorem Nodes.below (h : Nodes w A n xs) (hb : Below w.heap.size w w') : Nodes w' A n xs := ⟨h.1.below hb, h.2⟩
theorem Nodes.alloc (h : Nodes w A n xs) (o : Obj) : Nodes (w.alloc o) A n xs := ⟨h.1.alloc o, h.2⟩
theorem Nodes.qt (h : Nodes w A n xs) (hq : Qt w w') : Nodes w' A n xs := ⟨h.1.qt hq, h.2⟩
theorem Nodes.grown {row : Option Nat} (h : Nodes w A n xs) (hg : w.grownBy w' row) (hne : ∀ b o, A = some ⟨b, o, none⟩ → some b ≠ row) : Nodes w' A n xs :=
  ⟨⟨h.1.1, fun hn => by
    obtain ⟨b, o, e, hlt, hc⟩ := h.1.2 hn
    exact ⟨b, o, e, Nat.lt_of_lt_of_le hlt hg.size, fun i x hx j v hv => (World.cell?_of_block (a := ⟨b, o + i * 3 + j, none⟩) (hg.block b hlt (hne b o e))).trans (hc i x hx j v hv)⟩⟩, h.2⟩
end
section
variable {H : Type} {enc : TypeId × Value → H} {W : World} {base : Nat} {v : Value} {d : DataW H} {p : List MemPlace}
theorem rd_nodes {fuel : Nat} {v : Value} {y : DataW H × List MemPlace} (h : DataW.trod enc Try.prog W 0 (fun _ => true) true fuel 22 [v] = some y) :
    ∃ A n c xs, v = .slice A n c ∧ Nodes W A n xs ∧ n ≤ c ∧ c ≤ maxLen ∧ (A = none → c = 0) := by
  obtain ⟨A, n, c, f, rfl, hnc, hcm, hcell, hrd, hnl⟩ := rd_fields' Try.underlying22 Try.underlying61 (by kernel_rfl) (by kernel_rfl) (by decide) h
  have g0 : ∀ i, i < n → ∃ a, f i 0 = .string a ∧ a.size ≤ maxLen := fun i hi => by obtain ⟨m, z, hz⟩ := hrd i 0 _ hi rfl; exact fld_str hz
  have g1 : ∀ i, i < n → ∃ a, f i 1 = .int .i64 a ∧ I64 a := fun i hi => by obtain ⟨m, z, hz⟩ := hrd i 1 _ hi rfl; exact fld_i64 hz
  have g2 : ∀ i, i < n → ∃ a, f i 2 = .int .i64 a ∧ I64 a := fun i hi => by obtain ⟨m, z, hz⟩ := hrd i 2 _ hi rfl; exact fld_i64 hz
  refine ⟨A, n, c, (List.range n).map fun i => ⟨strOf (f i 0), intOf (f i 1), intOf (f i 2)⟩, rfl, ⟨⟨by simp, fun hn => ?_⟩, ?_⟩, hnc, hcm, hnl⟩
  · obtain ⟨b, o, rfl, hb, hc⟩ := hcell hn
    refine ⟨b, o, rfl, hb, fun i x hx j u hu => ?_⟩
    have hi : i < n := by have := (List.getElem?_eq_some_iff.1 hx).1; simpa using this
    have hj : j < 3 := by have := (List.getElem?_eq_some_iff.1 hu).1; simpa [encN] using this
    have hc' := hc i j hi hj
    simp [hi] at hx
    subst hx
    refine hc'.trans ?_
    rw [← hu]
    match j, hj with
    | 0, _ => obtain ⟨a, ha, _⟩ := g0 i hi; simp [encN, ha, strOf]
    | 1, _ => obtain ⟨a, ha, _⟩ := g1 i hi; simp [encN, ha, intOf]
    | 2, _ => obtain ⟨a, ha, _⟩ := g2 i hi; simp [encN, ha, intOf]
  · intro x hx
    obtain ⟨i, hi, rfl⟩ := List.mem_map.1 hx
    have hi' : i < n := by simpa using hi
    obtain ⟨a0, ha0, wa0⟩ := g0 i hi'
    obtain ⟨a1, ha1, wa1⟩ := g1 i hi'
    obtain ⟨a2, ha2, wa2⟩ := g2 i hi'
    exact ⟨by simpa [ha0, strOf] using wa0, by simpa [ha1, intOf] using wa1, by simpa [ha2, intOf] using wa2⟩
end
/-- A pipe. -/
structure Pp where
  fr : Int
  to : Int
  k : Int
  v : Int
  l : Int
def encP (x : Pp) : List Value := [.int .i64 x.fr, .int .i64 x.to, .int .i64 x.k, .int .i64 x.v, .int .i64 x.l]
def okP (x : Pp) : Prop := I64 x.fr ∧ I64 x.to ∧ I64 x.k ∧ I64 x.v ∧ I64 x.l
/-- A slice of pipes that reads as xs. -/
def Pipes (w : World) (A : Option Addr) (n : Nat) (xs : List Pp) : Prop := Recs encP 5 w A n xs ∧ ∀ x ∈ xs, okP x
section
variable {w w' : World} {A : Option Addr} {n : Nat} {xs : List Pp}
theorem Pipes.len (h : Pipes w A n xs) : xs.length = n := h.1.1
theorem Pipes.at_ (h : Pipes w A n xs) {i : Nat} (hi : i < n) : ∃ b o x, A = some ⟨b, o, none⟩ ∧ b < w.heap.size ∧ xs[i]? = some x ∧ okP x ∧ w.cell? ⟨b, o + i * 5, none⟩ = some (.int .i64 x.fr) ∧ w.cell? ⟨b, o + i * 5 + 1, none⟩ = some (.int .i64 x.to) ∧ w.cell? ⟨b, o + i * 5 + 2, none⟩ = some (.int .i64 x.k) ∧ w.cell? ⟨b, o + i * 5 + 3, none⟩ = some (.int .i64 x.v) ∧ w.cell? ⟨b, o + i * 5 + 4, none⟩ = some (.int .i64 x.l) := by
  obtain ⟨b, o, x, e, hb, hx, hc⟩ := h.1.at_ hi
  exact ⟨b, o, x, e, hb, hx, h.2 x (List.mem_of_getElem? hx), hc 0 _ rfl, hc 1 _ rfl, hc 2 _ rfl, hc 3 _ rfl, hc 4 _ rfl⟩
theorem Pipes.below (h : Pipes w A n xs) (hb : Below w.heap.size w w') : Pipes w' A n xs := ⟨h.1.below hb, h.2⟩
theorem Pipes.alloc (h : Pipes w A n xs) (o : Obj) : Pipes (w.alloc o) A n xs := ⟨h.1.alloc o, h.2⟩
theorem Pipes.qt (h : Pipes w A n xs) (hq : Qt w w') : Pipes w' A n xs := ⟨h.1.qt hq, h.2⟩
theorem Pipes.grown {row : Option Nat} (h : Pipes w A n xs) (hg : w.grownBy w' row) (hne : ∀ b o, A = some ⟨b, o, none⟩ → some b ≠ row) : Pipes w' A n xs :=
  ⟨⟨h.1.1, fun hn => by
    obtain ⟨b, o, e, hlt, hc⟩ := h.1.2 hn
    exact ⟨b, o, e, Nat.lt_of_lt_of_le hlt hg.size, fun i x hx j v hv => (World.cell?_of_block (a := ⟨b, o + i * 5 + j, none⟩) (hg.block b hlt (hne b o e))).trans (hc i x hx j v hv)⟩⟩, h.2⟩
end
section
variable {H : Type} {enc : TypeId × Value → H} {W : World} {base : Nat} {v : Value} {d : DataW H} {p : List MemPlace}
theorem rd_pipes {fuel : Nat} {v : Value} {y : DataW H × List MemPlace} (h : DataW.trod enc Try.prog W 0 (fun _ => true) true fuel 23 [v] = some y) :
    ∃ A n c xs, v = .slice A n c ∧ Pipes W A n xs ∧ n ≤ c ∧ c ≤ maxLen ∧ (A = none → c = 0) := by
  obtain ⟨A, n, c, f, rfl, hnc, hcm, hcell, hrd, hnl⟩ := rd_fields' Try.underlying23 Try.underlying70 (by kernel_rfl) (by kernel_rfl) (by decide) h
  have g0 : ∀ i, i < n → ∃ a, f i 0 = .int .i64 a ∧ I64 a := fun i hi => by obtain ⟨m, z, hz⟩ := hrd i 0 _ hi rfl; exact fld_i64 hz
  have g1 : ∀ i, i < n → ∃ a, f i 1 = .int .i64 a ∧ I64 a := fun i hi => by obtain ⟨m, z, hz⟩ := hrd i 1 _ hi rfl; exact fld_i64 hz
  have g2 : ∀ i, i < n → ∃ a, f i 2 = .int .i64 a ∧ I64 a := fun i hi => by obtain ⟨m, z, hz⟩ := hrd i 2 _ hi rfl; exact fld_i64 hz
  have g3 : ∀ i, i < n → ∃ a, f i 3 = .int .i64 a ∧ I64 a := fun i hi => by obtain ⟨m, z, hz⟩ := hrd i 3 _ hi rfl; exact fld_i64 hz
  have g4 : ∀ i, i < n → ∃ a, f i 4 = .int .i64 a ∧ I64 a := fun i hi => by obtain ⟨m, z, hz⟩ := hrd i 4 _ hi rfl; exact fld_i64 hz
  refine ⟨A, n, c, (List.range n).map fun i => ⟨intOf (f i 0), intOf (f i 1), intOf (f i 2), intOf (f i 3), intOf (f i 4)⟩, rfl, ⟨⟨by simp, fun hn => ?_⟩, ?_⟩, hnc, hcm, hnl⟩
  · obtain ⟨b, o, rfl, hb, hc⟩ := hcell hn
    refine ⟨b, o, rfl, hb, fun i x hx j u hu => ?_⟩
    have hi : i < n := by have := (List.getElem?_eq_some_iff.1 hx).1; simpa using this
    have hj : j < 5 := by have := (List.getElem?_eq_some_iff.1 hu).1; simpa [encP] using this
    have hc' := hc i j hi hj
    simp [hi] at hx
    subst hx
    refine hc'.trans ?_
    rw [← hu]
    match j, hj with
    | 0, _ => obtain ⟨a, ha, _⟩ := g0 i hi; simp [encP, ha, intOf]
    | 1, _ => obtain ⟨a, ha, _⟩ := g1 i hi; simp [encP, ha, intOf]
    | 2, _ => obtain ⟨a, ha, _⟩ := g2 i hi; simp [encP, ha, intOf]
    | 3, _ => obtain ⟨a, ha, _⟩ := g3 i hi; simp [encP, ha, intOf]
    | 4, _ => obtain ⟨a, ha, _⟩ := g4 i hi; simp [encP, ha, intOf]
  · intro x hx
    obtain ⟨i, hi, rfl⟩ := List.mem_map.1 hx
    have hi' : i < n := by simpa using hi
    obtain ⟨a0, ha0, wa0⟩ := g0 i hi'
    obtain ⟨a1, ha1, wa1⟩ := g1 i hi'
    obtain ⟨a2, ha2, wa2⟩ := g2 i hi'
    obtain ⟨a3, ha3, wa3⟩ := g3 i hi'
    obtain ⟨a4, ha4, wa4⟩ := g4 i hi'
    exact ⟨by simpa [ha0, intOf] using wa0, by simpa [ha1, intOf] using wa1, by simpa [ha2, intOf] using wa2, by simpa [ha3, intOf] using wa3, by simpa [ha4, intOf] using wa4⟩
end
theorem list2 {l : List Value} (h : l.length = 2) : ∃ a b, l = [a, b] := by
  match l, h with
  | [a, b], _ => exact ⟨a, b, rfl⟩
section
variable {H : Type} {enc : TypeId × Value → H} {W : World} {base : Nat} {v : Value} {d : DataW H} {p : List MemPlace}
theorem opn_net (hv : Value.okWide Try.prog W .any base 25 v) (h : DataW.Trod enc Try.prog W 0 (fun _ => true) true 25 v d p) (_lt : ∀ x ∈ p, x.block < W.heap.size) :
    ∃ A n c ns B m e ps, v = .agg #[.slice A n c, .slice B m e] ∧ Nodes W A n ns ∧ n ≤ c ∧ c ≤ maxLen ∧ Pipes W B m ps ∧ m ≤ e ∧ e ≤ maxLen ∧ (A = none → c = 0) ∧ (B = none → e = 0) := by
  obtain ⟨cs, rfl, hl, hg⟩ := opn_fields Try.underlying25 (by kernel_rfl) (by kernel_rfl) hv h
  obtain ⟨c0, c1, rfl⟩ := list2 hl
  obtain ⟨_, _, h0, _⟩ := hg 0 _ _ rfl rfl
  obtain ⟨_, _, h1, _⟩ := hg 1 _ _ rfl rfl
  obtain ⟨A, n, c, ns, rfl, hf, hnc, hcm, hn1⟩ := rd_nodes h0
  obtain ⟨B, m, e, ps, rfl, hf', hnc', hcm', hn2⟩ := rd_pipes h1
  exact ⟨A, n, c, ns, B, m, e, ps, rfl, hf, hnc, hcm, hf', hnc', hcm', hn1, hn2⟩
theorem opn_str (hv : Value.okWide Try.prog W .any base 9 v) (h : DataW.Trod enc Try.prog W 0 (fun _ => true) true 9 v d p) (_lt : ∀ x ∈ p, x.block < W.heap.size) :
    ∃ s : ByteArray, v = .string s ∧ s.size ≤ maxLen := by
  obtain ⟨s, rfl⟩ := okWide_string Try.underlying9 hv
  obtain ⟨fuel, hf⟩ := h
  obtain ⟨s', h', _, hs⟩ := DataW.trod_string Try.underlying9 hf
  simp [Value.cells] at h'
  subst h'
  exact ⟨s, rfl, hs⟩
end
end Go.Proofs.Ythlencpbekjekaa
