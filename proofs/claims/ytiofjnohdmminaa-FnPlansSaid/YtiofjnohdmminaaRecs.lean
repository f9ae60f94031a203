/- Slices of structs of one-cell fields: how they read and are owned. No condition. -/
import Derived.Test.YtiofjnohdmminaaBase
import Derived.LoopTactic
import Derived.Laws.OwnMore
import Derived.Deep.AppendLies
import Derived.Deep.OwnRows
import Derived.Deep.Slices
set_option linter.unusedVariables false
set_option maxRecDepth 100000
namespace Go.Proofs.Ytiofjnohdmminaa
open Go.ChangeShapes Go.WideShapes Go.ChangeAt Go.RowKit Go.Joins Go.Deep

/-- The run of make([]T, n) for structs of several cells. -/
theorem run_mk {P : Program} (t e : TypeId) (z : Value) (size bytes : Nat) (ht : P.underlying t = some (.slice e)) (hinfo : (P.info? e).map (fun i => (i.zero, i.size, i.bytes)) = some (some z, size, bytes)) (n : Nat) (hn : n ≤ 1099511627776) (hb : bytes ≤ 256) (w : World) :
    (Instr.makeSlice t (.int .i64 (n : Int)) (.int .i64 (n : Int))).run P w = .ok (.slice (some ⟨w.heap.size, 0, none⟩) n n) (w.alloc (.cells (madeCells z.cells (n * size)) e)) := by
  obtain ⟨i, hi, hz, hs, hby⟩ := info_parts hinfo
  subst hs hby
  have h1 : i.bytes * n ≤ 256 * 1099511627776 := Nat.mul_le_mul hb hn
  have h2 : (i.bytes : Int) * (n : Int) ≤ 281474976710656 := by
    have h : ((i.bytes * n : Nat) : Int) ≤ 281474976710656 := by omega
    rwa [Int.natCast_mul] at h
  have hr := run_make (P := P) w t e i z ht hi hz .i64 .i64 n n (by omega) (by omega) h2 (by omega)
  simp only [Int.toNat_natCast] at hr
  exact hr
section
variable {α : Type} (enc : α → List Value) (k : Nat)
/-- The slice value '.slice A n c' of structs of k cells reads as xs; 'enc x': the cells of x. -/
def Recs (w : World) (A : Option Addr) (n : Nat) (xs : List α) : Prop :=
  xs.length = n ∧ (0 < n → ∃ b o, A = some ⟨b, o, none⟩ ∧ b < w.heap.size ∧ ∀ (i : Nat) (x : α), xs[i]? = some x → ∀ (j : Nat) (v : Value), (enc x)[j]? = some v → w.cell? ⟨b, o + i * k + j, none⟩ = some v)
/-- It owns them, in a block from B on; e: the struct's type. -/
def OwnR (e : TypeId) (w : World) (B : Nat) (A : Option Addr) (n c : Nat) (xs : List α) : Prop :=
  w.ownsRow B e k (.slice A n c) n (xs.flatMap enc) ∧ ∀ x ∈ xs, (enc x).length = k
end
section
variable {α : Type} {enc : α → List Value} {k : Nat} {w w' : World} {A : Option Addr} {n c B : Nat} {e : TypeId} {xs : List α}
theorem Recs.len (h : Recs enc k w A n xs) : xs.length = n := h.1
theorem Recs.at_ (h : Recs enc k w A n xs) {i : Nat} (hi : i < n) : ∃ b o x, A = some ⟨b, o, none⟩ ∧ b < w.heap.size ∧ xs[i]? = some x ∧ ∀ (j : Nat) (v : Value), (enc x)[j]? = some v → w.cell? ⟨b, o + i * k + j, none⟩ = some v := by
  obtain ⟨b, o, e, hb, hc⟩ := h.2 (by omega)
  have hz : xs[i]? = some (xs[i]'(by have := h.1; omega)) := List.getElem?_eq_getElem _
  exact ⟨b, o, _, e, hb, hz, hc i _ hz⟩
theorem Recs.below (h : Recs enc k w A n xs) (hb : Below w.heap.size w w') : Recs enc k w' A n xs :=
  ⟨h.1, fun hn => by
    obtain ⟨b, o, e, hlt, hc⟩ := h.2 hn
    exact ⟨b, o, e, Nat.lt_of_lt_of_le hlt hb.size, fun i x hx j v hv => (hb.cell (p := ⟨b, o + i * k + j, none⟩) hlt).trans (hc i x hx j v hv)⟩⟩
theorem Recs.alloc (h : Recs enc k w A n xs) (o : Obj) : Recs enc k (w.alloc o) A n xs := h.below ((Below.refl _ _).alloc (Nat.le_refl _) _)
theorem Recs.qt (h : Recs enc k w A n xs) (hq : Qt w w') : Recs enc k w' A n xs := by
  obtain ⟨m, rfl⟩ := hq
  exact h
theorem flat_len (hk : ∀ x ∈ xs, (enc x).length = k) : (xs.flatMap enc).length = xs.length * k := by
  induction xs with
  | nil => simp
  | cons x xs ih =>
    rw [List.flatMap_cons, List.length_append, ih (fun y hy => hk y (List.mem_cons_of_mem _ hy)), hk x List.mem_cons_self, List.length_cons, Nat.add_mul, Nat.one_mul, Nat.add_comm]
theorem flat_at (hk : ∀ x ∈ xs, (enc x).length = k) {i j : Nat} {x : α} {v : Value} (hx : xs[i]? = some x) (hv : (enc x)[j]? = some v) : (xs.flatMap enc)[i * k + j]? = some v := by
  induction xs generalizing i with
  | nil => simp at hx
  | cons y ys ih =>
    have hy := hk y List.mem_cons_self
    rw [List.flatMap_cons]
    cases i with
    | zero =>
      simp at hx
      subst hx
      have hj : j < (enc y).length := (List.getElem?_eq_some_iff.1 hv).1
      rw [Nat.zero_mul, Nat.zero_add, List.getElem?_append_left hj, hv]
    | succ i =>
      simp at hx
      rw [List.getElem?_append_right (by rw [hy, Nat.succ_mul]; omega), hy]
      rw [show (i + 1) * k + j - k = i * k + j by rw [Nat.succ_mul]; omega]
      exact ih (fun z hz => hk z (List.mem_cons_of_mem _ hz)) hx
theorem OwnR.len (h : OwnR enc k e w B A n c xs) (hk : 0 < k) : xs.length = n := by
  have h1 := h.1.1
  rw [flat_len h.2] at h1
  exact Nat.eq_of_mul_eq_mul_right hk h1
theorem OwnR.form (h : OwnR enc k e w B A n c xs) (hn : 0 < n) : ∃ g, A = some ⟨g, 0, none⟩ ∧ B ≤ g ∧ g < w.heap.size := by
  obtain ⟨g, cap, hv, hb, hlt⟩ := h.1.form hn
  have hA : A = some ⟨g, 0, none⟩ := by injection hv
  exact ⟨g, hA, hb, hlt⟩
theorem OwnR.recs (h : OwnR enc k e w B A n c xs) (hk : 0 < k) : Recs enc k w A n xs := by
  refine ⟨h.len hk, fun hn => ?_⟩
  obtain ⟨g, rfl, _, hlt⟩ := h.form hn
  refine ⟨g, 0, rfl, hlt, fun i x hx j v hv => ?_⟩
  have hc := flat_at h.2 hx hv
  have hj : i * k + j < n * k := by
    have := (List.getElem?_eq_some_iff.1 hc).1
    rwa [h.1.1] at this
  rw [show 0 + i * k + j = i * k + j by omega, h.1.cellAt _ hj]
  exact hc
theorem OwnR.below (h : OwnR enc k e w B A n c xs) (hb : Below w.heap.size w w') : OwnR enc k e w' B A n c xs :=
  ⟨h.1.kept (row := none) ⟨hb.os, hb.tape, hb.output, hb.size, fun k hk _ => hb.block k hk⟩ (by
    cases A <;> simp [Value.ownBlock]), h.2⟩
theorem OwnR.grown {row : Option Nat} (h : OwnR enc k e w B A n c xs) (hg : w.grownBy w' row) (hne : ∀ g, A = some ⟨g, 0, none⟩ → row ≠ some g) : OwnR enc k e w' B A n c xs :=
  ⟨h.1.kept hg (by
    rcases A with _ | ⟨b, o, s⟩
    · exact .inl rfl
    · right
      rcases h.1.2 with ⟨e, _⟩ | ⟨g, cap, cur, e, _⟩
      · cases e
      · have : (some ⟨b, o, s⟩ : Option Addr) = some ⟨g, 0, none⟩ := by injection e
        injection this with this
        injection this with h1 h2 h3
        subst h1 h2 h3
        exact fun hh => hne b rfl hh.symm), h.2⟩
theorem OwnR.lt (h : OwnR enc k e w B A n c xs) (g : Nat) (hg : A.map (·.block) = some g) : B ≤ g ∧ g < w.heap.size := by
  refine h.1.lt g ?_
  cases A with
  | none => cases hg
  | some a => exact hg
theorem OwnR.alloc (h : OwnR enc k e w B A n c xs) (o : Obj) : OwnR enc k e (w.alloc o) B A n c xs := h.below ((Below.refl _ _).alloc (Nat.le_refl _) _)
theorem OwnR.qt (h : OwnR enc k e w B A n c xs) (hq : Qt w w') : OwnR enc k e w' B A n c xs := by
  obtain ⟨m, rfl⟩ := hq
  exact h
theorem OwnR.mono {B' : Nat} (h : OwnR enc k e w B A n c xs) (hB : B' ≤ B) : OwnR enc k e w B' A n c xs := ⟨ownsRow_le h.1 hB, h.2⟩
end

/-- Values laid into a list, a row, from place o on. -/
def putAt : List Value → Nat → List Value → List Value
  | l, _, [] => l
  | l, o, v :: vs => putAt (l.set o v) (o + 1) vs
def putW : World → Nat → Nat → List Value → World
  | w, _, _, [] => w
  | w, g, o, v :: vs => putW (w.setCell ⟨g, o, none⟩ v) g (o + 1) vs
theorem putAt_eq (vs : List Value) : ∀ (l : List Value) (o : Nat), o + vs.length ≤ l.length → putAt l o vs = l.take o ++ (vs ++ l.drop (o + vs.length)) := by
  induction vs with
  | nil => intro l o h; simp [putAt]
  | cons v vs ih =>
    intro l o h
    simp only [List.length_cons] at h
    rw [putAt, ih _ _ (by simp; omega), List.take_succ_eq_append_getElem (by simp; omega), List.take_set_of_le (Nat.le_refl _), List.drop_set_of_lt (by omega)]
    simp
    rw [show o + 1 + vs.length = o + (vs.length + 1) by omega]
section
variable {α : Type} {enc : α → List Value} {k : Nat} {w w' : World} {A : Option Addr} {g n c B : Nat} {e : TypeId} {xs : List α}
theorem flat_take (hk : ∀ x ∈ xs, (enc x).length = k) (i : Nat) (hi : i ≤ xs.length) : (xs.flatMap enc).take (i * k) = (xs.take i).flatMap enc := by
  have e1 : xs.flatMap enc = (xs.take i).flatMap enc ++ (xs.drop i).flatMap enc := by rw [← List.flatMap_append, List.take_append_drop]
  rw [e1, List.take_left' (by rw [flat_len (fun x hx => hk x (List.mem_of_mem_take hx))]; simp; rw [Nat.min_eq_left hi])]
theorem flat_drop (hk : ∀ x ∈ xs, (enc x).length = k) (i : Nat) (hi : i ≤ xs.length) : (xs.flatMap enc).drop (i * k) = (xs.drop i).flatMap enc := by
  have e1 : xs.flatMap enc = (xs.take i).flatMap enc ++ (xs.drop i).flatMap enc := by rw [← List.flatMap_append, List.take_append_drop]
  rw [e1, List.drop_left' (by rw [flat_len (fun x hx => hk x (List.mem_of_mem_take hx))]; simp; rw [Nat.min_eq_left hi])]
theorem flat_put (hk : ∀ x ∈ xs, (enc x).length = k) {i : Nat} (hi : i < xs.length) {x : α} (hx : (enc x).length = k) : putAt (xs.flatMap enc) (i * k) (enc x) = (xs.set i x).flatMap enc := by
  have hl : i * k + k ≤ xs.length * k := by
    have := Nat.mul_le_mul_right k hi
    rw [Nat.succ_mul] at this
    exact this
  rw [putAt_eq _ _ _ (by rw [hx, flat_len hk]; exact hl), hx, show i * k + k = (i + 1) * k by rw [Nat.succ_mul], flat_take hk i (by omega), flat_drop hk (i + 1) (by omega), List.set_eq_take_append_cons_drop, if_pos hi]
  simp
theorem owns_put (vs : List Value) : ∀ (w : World) (o : Nat) (ys : List Value), w.ownsRow B e k (.slice (some ⟨g, 0, none⟩) n c) n ys →
    (putW w g o vs).ownsRow B e k (.slice (some ⟨g, 0, none⟩) n c) n (putAt ys o vs) ∧ w.grownBy (putW w g o vs) (some g) := by
  induction vs with
  | nil => intro w o ys h; exact ⟨h, World.grownBy.refl w _⟩
  | cons v vs ih =>
    intro w o ys h
    have h1 := h.stored o v
    have h2 := ih (w.setCell ⟨g, o, none⟩ v) (o + 1) (ys.set o v) h1.1
    exact ⟨h2.1, h1.2.trans h2.2⟩
theorem OwnR.put (h : OwnR enc k e w B (some ⟨g, 0, none⟩) n c xs) (h0 : 0 < k) {i : Nat} (hi : i < n) {x : α} (hx : (enc x).length = k) :
    OwnR enc k e (putW w g (i * k) (enc x)) B (some ⟨g, 0, none⟩) n c (xs.set i x) ∧ w.grownBy (putW w g (i * k) (enc x)) (some g) := by
  have hl := h.len h0
  obtain ⟨h1, h2⟩ := owns_put (enc x) w (i * k) _ h.1
  rw [flat_put h.2 (by omega) hx] at h1
  refine ⟨⟨h1, fun y hy => ?_⟩, h2⟩
  rcases List.mem_or_eq_of_mem_set hy with hy | rfl
  · exact h.2 y hy
  · exact hx
theorem OwnR.cells (h : OwnR enc k e w B (some ⟨g, 0, none⟩) n c xs) (h0 : 0 < k) {i : Nat} (hi : i < n) : ∃ x, xs[i]? = some x ∧ (∀ j v, (enc x)[j]? = some v → w.cell? ⟨g, i * k + j, none⟩ = some v) ∧ (∀ j, w.frozen? ⟨g, j, none⟩ = false) ∧ B ≤ g ∧ g < w.heap.size := by
  have hl := h.len h0
  obtain ⟨b, o, x, hA, hb, hx, hc⟩ := (h.recs h0).at_ hi
  obtain ⟨rfl, rfl⟩ : g = b ∧ 0 = o := by injection hA with hA; injection hA with h1 h2; exact ⟨h1, h2⟩
  refine ⟨x, hx, fun j v hv => ?_, fun j => h.1.frozenAt j, (h.lt g rfl).1, hb⟩
  have := hc j v hv
  rwa [Nat.zero_add] at this
theorem made_flat {z : Array Value} (x : α) (hz : z.toList = enc x) (h0 : 0 < k) (hs : (enc x).length = k) (n : Nat) : (madeCells z (n * k)).toList = (List.replicate n x).flatMap enc := by
  have hzs : z.size = k := by rw [← Array.length_toList, hz, hs]
  have hall : ∀ y ∈ List.replicate n x, (enc y).length = k := fun y hy => by rw [(List.mem_replicate.1 hy).2]; exact hs
  apply List.ext_getElem?
  intro i
  by_cases hi : i < n * k
  · have hq : i / k < n := Nat.div_lt_of_lt_mul (by rw [Nat.mul_comm]; exact hi)
    have hr : i % k < k := Nat.mod_lt _ h0
    have hx : (List.replicate n x)[i / k]? = some x := by simp [hq]
    have hv : (enc x)[i % k]? = some ((enc x)[i % k]'(by omega)) := List.getElem?_eq_getElem (by omega)
    have := flat_at hall hx hv
    rw [Nat.div_add_mod'] at this
    rw [this]
    have e : z[i % k]! = (enc x)[i % k]'(by omega) := by
      rw [getElem!_pos z (i % k) (by omega), ← Array.getElem_toList]
      simp [hz]
    simp [madeCells, hi, hzs, e]
  · rw [List.getElem?_eq_none (by simp [madeCells]; omega), List.getElem?_eq_none (by rw [flat_len hall]; simp; omega)]
/-- make([]T, n): a row of n zero structs of the call's own. -/
theorem own_made {z : Array Value} {B : Nat} (x : α) (hz : z.toList = enc x) (h0 : 0 < k) (hs : (enc x).length = k) (w : World) (n : Nat) (hn : n ≤ maxLen) (hB : B ≤ w.heap.size) :
    OwnR enc k e (w.alloc (.cells (madeCells z (n * k)) e)) B (some ⟨w.heap.size, 0, none⟩) n n (List.replicate n x) := by
  refine ⟨?_, fun y hy => by rw [(List.mem_replicate.1 hy).2]; exact hs⟩
  have h := World.ownsRow_lit (base := B) (e := e) (size := k) w (madeCells z (n * k)) n hB hn (by simp [madeCells])
  rwa [made_flat x hz h0 hs] at h
theorem ownR_apart {α' : Type} {enc' : α' → List Value} {k' : Nat} {e' : TypeId} {w2 : World} {B' : Nat} {A' : Option Addr} {n' c' : Nat} {xs' : List α'} (h : OwnR enc k e w B A n c xs) (h' : OwnR enc' k' e' w2 B' A' n' c' xs') (hB : w.heap.size ≤ B') :
    (∀ g, A' = some ⟨g, 0, none⟩ → A.map (·.block) ≠ some g) ∧ (∀ g, A = some ⟨g, 0, none⟩ → A'.map (·.block) ≠ some g) := by
  refine ⟨fun g hg hh => ?_, fun g hg hh => ?_⟩
  · have h1 := (h.lt g hh).2
    have h2 := (h'.lt g (by rw [hg]; rfl)).1
    omega
  · have h1 := (h.lt g (by rw [hg]; rfl)).2
    have h2 := (h'.lt g hh).1
    omega
end

section
variable {H : Type} {enc : TypeId × Value → H} {W : World}
/-- A slice of structs of one-cell fields that came in: its cells, each with its reading. -/
theorem rd_fields' {t e : TypeId} {fs : Array Field} {fuel : Nat} {v : Value} {y : DataW H × List MemPlace} (ht : Try.prog.underlying t = some (.slice e)) (he : Try.prog.underlying e = some (.struct fs))
    (hone : oneCellFields Try.prog fs = true) (hC : Try.prog.cellsOf e = fs.size) (h0 : 0 < fs.size) (h : DataW.trod enc Try.prog W 0 (fun _ => true) true fuel t [v] = some y) :
    ∃ (A : Option Addr) (n c : Nat) (f : Nat → Nat → Value), v = .slice A n c ∧ n ≤ c ∧ c ≤ maxLen ∧ (0 < n → ∃ b o, A = some ⟨b, o, none⟩ ∧ b < W.heap.size ∧ ∀ i j, i < n → j < fs.size → W.cell? ⟨b, o + i * fs.size + j, none⟩ = some (f i j)) ∧
      (∀ (i j : Nat) (fd : Field), i < n → fs[j]? = some fd → (∃ (m : Nat) (z : DataW H × List MemPlace), DataW.trod enc Try.prog W 0 (fun _ => true) true m fd.type [f i j] = some z)) ∧ (A = none → c = 0) := by
  rcases open_slice ht h with ⟨h1, _⟩ | ⟨a, len, cap, m, n, D, Pl, hcs, hb, hl, hm, hmm, hx, hi⟩
  · simp at h1
    subst h1
    exact ⟨none, 0, 0, fun _ _ => .int .i64 0, rfl, by omega, by unfold maxLen; omega, fun h => absurd h (by omega), (fun i j fd h => absurd h (by omega)), fun _ => rfl⟩
  · simp at hcs
    subst hcs
    have hml : m = cap := by simpa using hmm
    subst hml
    -- the cells of element i
    have hel : ∀ i, i < len → ∃ cs' : List Value, cs'.length = fs.size ∧ (∀ j, j < fs.size → W.cell? ((a.add (i * fs.size)).add j) = cs'[j]?) ∧ ∀ (j : Nat) (fd : Field) (u : Value), fs[j]? = some fd → cs'[j]? = some u → ∃ (m : Nat) (z : DataW H × List MemPlace), DataW.trod enc Try.prog W 0 (fun _ => true) true m fd.type [u] = some z := by
      intro i hil
      obtain ⟨cs', hc, ht'⟩ := hi i (by omega)
      rw [hC] at hc
      obtain ⟨ys, n', hn', hy, hlen, hyl, hf⟩ := DataW.trod_struct he ht'
      obtain ⟨_, hcl, hat⟩ := World.cells?_some hc
      refine ⟨cs', by rw [hlen, hC], fun j hj => hat j hj, fun j fd u hj hu => ?_⟩
      obtain ⟨ho, hk⟩ := hone_of hone j fd hj
      have h1 := hf j fd hj
      rw [ho, hk] at h1
      have hjl : j < fs.size := (Array.getElem?_eq_some_iff.1 hj).1
      obtain ⟨hjc, rfl⟩ := List.getElem?_eq_some_iff.1 hu
      rw [List.drop_eq_getElem_cons hjc] at h1
      have hys : ys[j]? = some (ys[j]'(by omega)) := List.getElem?_eq_getElem (by omega)
      exact ⟨_, _, h1.trans hys⟩
    obtain ⟨b, off, spot⟩ := a
    refine ⟨some ⟨b, off, spot⟩, len, m, fun i j => (W.cell? ((Addr.add ⟨b, off, spot⟩ (i * fs.size)).add j)).getD (.int .i64 0), rfl, hl, hm, fun hn => ?_, (fun i j fd hil hj => ?_), (fun h => by cases h)⟩
    · obtain ⟨cs0, hl0, hc0, _⟩ := hel 0 hn
      have h00 := hc0 0 h0
      rw [List.getElem?_eq_getElem (by omega)] at h00
      have hspot : spot = none := by simpa [Addr.add] using World.cell?_spot h00
      subst hspot
      have hbl := World.block_lt_of_cell? W _ h00
      refine ⟨b, off, rfl, by simpa [Addr.add] using hbl, fun i j hil hjl => ?_⟩
      obtain ⟨cs', hl', hc', _⟩ := hel i hil
      have hcj := hc' j hjl
      rw [List.getElem?_eq_getElem (by omega)] at hcj
      have ea : (Addr.add ⟨b, off, none⟩ (i * fs.size)).add j = ⟨b, off + i * fs.size + j, none⟩ := by
        unfold Addr.add
        by_cases h1 : i * fs.size = 0 <;> by_cases h2 : j = 0 <;> simp [h1, h2]
      dsimp only
      rw [ea] at hcj ⊢
      rw [hcj]
      rfl
    · obtain ⟨cs', hl', hc', hr'⟩ := hel i hil
      have hjl : j < fs.size := (Array.getElem?_eq_some_iff.1 hj).1
      have hcj := hc' j hjl
      have hu : cs'[j]? = some (cs'[j]'(by omega)) := List.getElem?_eq_getElem (by omega)
      obtain ⟨m', z, hz⟩ := hr' j fd _ hj hu
      refine ⟨m', z, ?_⟩
      dsimp only
      rw [hcj, hu]
      exact hz
theorem rd_fields {t e : TypeId} {fs : Array Field} {fuel : Nat} {v : Value} {y : DataW H × List MemPlace} (ht : Try.prog.underlying t = some (.slice e)) (he : Try.prog.underlying e = some (.struct fs))
    (hone : oneCellFields Try.prog fs = true) (hC : Try.prog.cellsOf e = fs.size) (h0 : 0 < fs.size) (h : DataW.trod enc Try.prog W 0 (fun _ => true) true fuel t [v] = some y) :
    ∃ (A : Option Addr) (n c : Nat) (f : Nat → Nat → Value), v = .slice A n c ∧ n ≤ c ∧ c ≤ maxLen ∧ (0 < n → ∃ b o, A = some ⟨b, o, none⟩ ∧ b < W.heap.size ∧ ∀ i j, i < n → j < fs.size → W.cell? ⟨b, o + i * fs.size + j, none⟩ = some (f i j)) ∧
      ∀ (i j : Nat) (fd : Field), i < n → fs[j]? = some fd → ∃ (m : Nat) (z : DataW H × List MemPlace), DataW.trod enc Try.prog W 0 (fun _ => true) true m fd.type [f i j] = some z := by
  obtain ⟨A, n, c, f, h1, h2, h3, h4, h5, _⟩ := rd_fields' ht he hone hC h0 h
  exact ⟨A, n, c, f, h1, h2, h3, h4, h5⟩
end
end Go.Proofs.Ytiofjnohdmminaa
