/- A network's pipes as a graph; what pipesAt, otherEnd, l02At, l02Other do, by walks over their text. Condition: a valid network. One number appended to a slice of the call's own, told where the row then lies. Condition: a length of at most 2^40. What l04Search does, by a walk over its text. Condition: a valid network. What searchFrom does, by a walk over its text. Condition: a valid network. What componentsOf and l04Components do, by walks over their text. Condition: a valid network. The library's functions on slices of int64 (Sort, BinarySearch, Clone, Contains, Equal), in the words of this seat. Conditions: lengths of at most 1048576. What forestOf, l04Forest, chordsOf, l05Chords, l02Has do, by walks over their text. Condition: a valid network. Slices of int64 appended whole to a slice of the call's own. Conditions: lengths of at most 2^40. What chordsOf, l05Chords, l02Has do, by walks over their text. Condition: a valid network. Elements of a slice of int64 told by getD. No condition. What absOf, l01Abs, l01Signed, dropOf, l07Drop do, by walks over their text. Conditions: numbers of at most 2^60. -/
import Derived.Test.YtebefamekjjbcaaDoorKA
import Derived.Test.YtebefamekjjbcaaDoorKG
import Derived.IntWalk
import Derived.Maps.AppendAt
import Derived.RegionTactic
import Derived.BigRegion
import Derived.Deep.DeepCutAuto
import Derived.Shelf.SortM.Plain
import Derived.Shelf.SortM.SortNone
import Derived.Sort.OwnSortedInts
import Derived.Ground.SlgmProg
import Derived.Shelf.SlicesG.SearchI
import Derived.Shelf.SlicesG.Clone
import Derived.Shelf.SlicesG.Equal
import Derived.Shelf.SlicesG.Turned
import Derived.Ground.SlgnProg
set_option linter.unusedVariables false
set_option maxRecDepth 100000
namespace Go.Proofs.YtebefamekjjbcaaDoor
open Go.ChangeShapes Go.WideShapes Go.ChangeAt Go.RowKit Go.Joins Go.Deep

/-- The ends of the pipes. -/
def esOf (ps : List Pp) : Es := ps.map fun p => (p.fr.toNat, p.to.toNat)
/-- Natural numbers as they lie in memory. -/
def cN (l : List Nat) : List Int := l.map fun i : Nat => (i : Int)
theorem esOf_len (ps : List Pp) : (esOf ps).length = ps.length := by simp [esOf]
theorem pipe_ok {ns : List Nd} {ps : List Pp} {i : Nat} {p : Pp} (h : NetOk ns ps) (hp : ps[i]? = some p) : (p.fr = (efr (esOf ps) i : Int)) ∧ (p.to = (eto (esOf ps) i : Int)) ∧ efr (esOf ps) i < ns.length ∧ eto (esOf ps) i < ns.length ∧ efr (esOf ps) i ≠ eto (esOf ps) i ∧ (1 ≤ p.k ∧ p.k ≤ 1000) ∧ (1 ≤ p.l ∧ p.l ≤ 30000) := by
  have h1 := h.2.2.2.2 p (List.mem_of_getElem? hp)
  unfold pipeB at h1
  simp only [Bool.and_eq_true, inB_iff, decide_eq_true_eq] at h1
  have e : (esOf ps).getD i (0, 0) = (p.fr.toNat, p.to.toNat) := by simp [esOf, List.getD, hp]
  unfold efr eto
  rw [e]
  obtain ⟨a, b, c, d, _, f⟩ := h1
  refine ⟨by show p.fr = ((p.fr.toNat : Nat) : Int); omega, by show p.to = ((p.to.toNat : Nat) : Int); omega, by show p.fr.toNat < _; omega, by show p.to.toNat < _; omega, by show p.fr.toNat ≠ p.to.toNat; omega, d, f⟩
theorem net_good {ns : List Nd} {ps : List Pp} (h : NetOk ns ps) : Good (esOf ps) ns.length := by
  intro i hi
  rw [esOf_len] at hi
  have hp : ps[i]? = some ps[i] := List.getElem?_eq_getElem hi
  obtain ⟨_, _, h1, h2, h3, _⟩ := pipe_ok h hp
  exact ⟨h1, h2, h3⟩
theorem cN_len (l : List Nat) : (cN l).length = l.length := by simp [cN]
theorem cN_at {l : List Nat} {k v : Nat} (h : l[k]? = some v) : (cN l)[k]? = some (v : Int) := by simp [cN, h]
theorem cN_get {l : List Nat} {k : Nat} {z : Int} (h : (cN l)[k]? = some z) : ∃ v : Nat, l[k]? = some v ∧ z = v := by
  simp [cN] at h
  obtain ⟨v, h1, h2⟩ := h
  exact ⟨v, h1, h2.symm⟩
/-- The pipes at a node, the first k of all. -/
def incTo (es : Es) (v k : Nat) : List Nat := (List.range k).filter fun i => efr es i == v || eto es i == v
theorem incTo_step (es : Es) (v k : Nat) : incTo es v (k + 1) = if (efr es k == v || eto es k == v) = true then incTo es v k ++ [k] else incTo es v k := by
  unfold incTo
  rw [List.range_succ, List.filter_append]
  by_cases h : (efr es k == v || eto es k == v) = true
  · rw [if_pos h]; simp [h]
  · rw [if_neg h]; simp at h; simp [h]
theorem incTo_len (es : Es) (v k : Nat) : (incTo es v k).length ≤ k := by
  unfold incTo
  exact Nat.le_trans (List.length_filter_le _ _) (by simp)
theorem inc_ways (es : Es) (v k : Nat) : ((((efr es k : Int)) == (v : Int)) = true ∧ incTo es v (k + 1) = incTo es v k ++ [k]) ∨ ((((efr es k : Int)) == (v : Int)) = false ∧ (((eto es k : Int)) == (v : Int)) = true ∧ incTo es v (k + 1) = incTo es v k ++ [k]) ∨
    ((((efr es k : Int)) == (v : Int)) = false ∧ (((eto es k : Int)) == (v : Int)) = false ∧ incTo es v (k + 1) = incTo es v k) := by
  have key : ∀ a b : Nat, (((a : Int)) == (b : Int)) = (a == b) := by
    intro a b
    rw [Bool.eq_iff_iff, beq_iff_eq, beq_iff_eq]
    omega
  rw [key, key, incTo_step]
  by_cases h1 : (efr es k == v) = true
  · left; simp [h1]
  · have h1' : (efr es k == v) = false := by simpa using h1
    by_cases h2 : (eto es k == v) = true
    · right; left; simp [h1', h2]
    · have h2' : (eto es k == v) = false := by simpa using h2
      right; right; simp [h1', h2']
theorem othI {es : Es} {i v : Nat} : (oth es i v : Int) = if ((efr es i : Int) == (v : Int)) = true then (eto es i : Int) else (efr es i : Int) := by
  unfold oth
  by_cases h : efr es i = v
  · simp [h]
  · have : ¬ (efr es i : Int) = v := by omega
    simp [h, this]
theorem oth_sum {es : Es} {n i v : Nat} (hg : Good es n) (hi : i ∈ inc es v) : (oth es i v : Int) = (efr es i : Int) + (eto es i : Int) - (v : Int) := by
  obtain ⟨hil, he⟩ := inc_mem.1 hi
  have := hg i hil
  unfold oth
  split <;> omega
end Go.Proofs.YtebefamekjjbcaaDoor
set_option linter.unusedVariables false
set_option maxRecDepth 100000
namespace Go.Proofs.YtebefamekjjbcaaDoor
open Go.RowKit Go.Joins

theorem wpList_pushA {ops : Array Oper} {rest : List Oper} {o : Oper} {a : Act} {Q : Exit → Act → World → Prop} (wr : World) (hgd : o.guard = none) (s x : Operand)
    (ho : o.op = .call { callee := .builtin .append, args := #[s, x], argTypes := #[26, 26] }) (B : Nat) (A : Option Addr) (n c : Nat) (zs : List Int) (z : Int) (H : Nat) (hH : wr.heap.size = H)
    (hs : a.eval s = .slice A n c) (hx : a.eval x = .slice (some ⟨H, 0, none⟩) 1 1) (hown : Own wr B A n c zs) (hz : I64 z) (hn : n ≤ 1099511627776) (hB : B ≤ wr.heap.size)
    (h : ∀ g c' w', Own w' B (some ⟨g, 0, none⟩) (n + 1) c' (zs ++ [z]) → Below B wr w' → wr.grownBy w' (A.map (·.block)) → B ≤ g → (A.map (·.block) = some g ∨ wr.heap.size < g) → wpList Tryd.prog ops Q rest (a.put o.dst (.slice (some ⟨g, 0, none⟩) (n + 1) c')) w') :
    wpList Tryd.prog ops Q (o :: rest) a (wr.alloc (.cells #[.int .i64 z] 2)) := by
  subst hH
  obtain ⟨i0, hi0, hz0, hz1, hz2⟩ := info_parts info_i64
  refine wpList_append_own_at _ hgd s x 26 ho B 2 i0 (.int .i64 0) 1 8 Tryd.underlying26 hi0 hz0 hz1 hz2 rfl (by decide) (.slice A n c) n (zs.map (Value.int .i64)) hs (hown.alloc _).1 ⟨wr.heap.size, 0, none⟩ 1 1 [.int .i64 z] hx rfl ?_ ?_ (by unfold maxLen; omega) (by omega) (by simp; omega) ?_
  · intro j u hj
    match j, hj with
    | 0, hj => simp at hj; subst hj; simp [Addr.add]
  · intro u hu; simp at hu; subst hu; rfl
  · intro v' w1 hown' hgrow _ hat
    have hl := hown.len
    obtain ⟨g, cap, hv, hb, hlt⟩ := hown'.form (by omega)
    subst hv
    have hA : (Value.slice A n c).ownBlock = A.map (·.block) := by cases A <;> rfl
    have hg2 : wr.grownBy w1 (A.map (·.block)) := by
      have h0 : wr.grownBy (wr.alloc (.cells #[.int .i64 z] 2)) (A.map (·.block)) := ⟨rfl, rfl, rfl, by simp, fun k hk _ => Below.heap_alloc wr _ k hk⟩
      rw [hA] at hgrow
      exact h0.trans hgrow
    refine h g cap w1 ⟨by simpa using hown', ?_⟩ ?_ hg2 hb ?_
    · intro y hy
      rcases List.mem_append.1 hy with hy | hy
      · exact hown.2 y hy
      · simp at hy; subst hy; exact hz
    · exact (Below.refl B wr).grown hg2 hB (fun k hk => (hown.lt k hk).1)
    · rw [hA] at hat
      rcases hat with hat | hat
      · left; rw [← hat]; rfl
      · right
        have : (Value.slice (some ⟨g, 0, none⟩) (n + 1) cap).ownBlock = some g := rfl
        rw [this] at hat
        injection hat with hat
        simp at hat
        omega
theorem Ints.grown {w w' : World} {A : Option Addr} {n : Nat} {zs : List Int} {row : Option Nat} (h : Ints w A n zs) (hg : w.grownBy w' row) (hne : ∀ g, A.map (·.block) = some g → row ≠ some g) : Ints w' A n zs :=
  ⟨h.1, h.2.1, fun hn => by
    obtain ⟨b, o, e, hlt, hc⟩ := h.2.2 hn
    exact ⟨b, o, e, Nat.lt_of_lt_of_le hlt hg.size, fun k z hz => (World.cell?_of_block (a := ⟨b, o + k, none⟩) (hg.block b hlt (fun hh => hne b (by rw [e]; rfl) hh.symm))).trans (hc k z hz)⟩⟩
end Go.Proofs.YtebefamekjjbcaaDoor
set_option linter.unusedVariables false
set_option maxRecDepth 100000
namespace Go.Proofs.YtebefamekjjbcaaDoor
open Go.ChangeShapes Go.WideShapes Go.ChangeAt Go.RowKit Go.Joins Go.Deep
attribute [local go_sem ↓] Go.wp_at_zero Go.wp_at_succ

/-- Entries as they lie in memory. -/
def encO : Option Nat → Int
  | none => -1
  | some i => (i : Int)
def encE (l : List (Option Nat)) : List Int := l.map encO
def seenL (n : Nat) (ord : List Nat) : List Bool := (List.range n).map fun v => decide (v ∈ ord)
def encBl (b : Bool) : List Value := [.bool b]
theorem encE_len (l : List (Option Nat)) : (encE l).length = l.length := by simp [encE]
theorem encE_set (l : List (Option Nat)) (o i : Nat) : encE (l.set o (some i)) = (encE l).set o (i : Int) := by
  unfold encE
  rw [List.map_set]
  rfl
theorem encE_none (n : Nat) : encE (List.replicate n none) = List.replicate n (-1) := by simp [encE, encO]
theorem seenL_len (n : Nat) (ord : List Nat) : (seenL n ord).length = n := by simp [seenL]
theorem seenL_at {n v : Nat} (ord : List Nat) (hv : v < n) : (seenL n ord)[v]? = some (decide (v ∈ ord)) := by simp [seenL, hv]
theorem seenL_add (n : Nat) (ord : List Nat) (o : Nat) : seenL n (ord ++ [o]) = (seenL n ord).set o true := by
  apply List.ext_getElem?
  intro i
  by_cases hi : i < n
  · rw [seenL_at _ hi]
    by_cases e : o = i
    · subst e
      rw [List.getElem?_set_self (by rw [seenL_len]; exact hi)]
      simp
    · rw [List.getElem?_set_ne e, seenL_at _ hi]
      have e' : ¬ i = o := fun h => e h.symm
      simp [e']
  · rw [List.getElem?_eq_none (by rw [seenL_len]; omega), List.getElem?_eq_none (by rw [List.length_set, seenL_len]; omega)]
/-- The search from a node, in the middle of its pipes. -/
def vst (es : Es) (v : Nat) (st : St) (i : Nat) : St := ((inc es v).take i).foldl (visit es v) st
theorem vst_zero (es : Es) (v : Nat) (st : St) : vst es v st 0 = st := rfl
theorem vst_succ {es : Es} {v : Nat} {st : St} {i p : Nat} (h : (inc es v)[i]? = some p) : vst es v st (i + 1) = visit es v (vst es v st i) p := by
  unfold vst
  rw [List.take_add_one, h, List.foldl_append]
  rfl
theorem vst_inv {es : Es} {n s v k : Nat} {st : St} (hg : Good es n) (h : Inv es n s st) (hk : st.ord[k]? = some v) (i : Nat) : Inv es n s (vst es v st i) ∧ (vst es v st i).ord[k]? = some v ∧ (vst es v st i).ord.length ≤ n := by
  obtain ⟨h1, h2, _⟩ := fold_inv hg ((inc es v).take i) st h hk (fun j hj => List.mem_of_mem_take hj)
  exact ⟨h1, pre_at h2 hk, nodup_len h1.nd h1.lt⟩
theorem vst_full {es : Es} {v : Nat} {st : St} {k i : Nat} (hk : st.ord[k]? = some v) (hi : (inc es v).length ≤ i) : vst es v st i = stepB es st k := by
  unfold vst stepB
  rw [hk, List.take_of_length_le hi]
theorem visit_old {es : Es} {v p : Nat} {st : St} (h : oth es p v ∈ st.ord) : visit es v st p = st := if_pos h
theorem visit_new {es : Es} {v p : Nat} {st : St} (h : oth es p v ∉ st.ord) : (visit es v st p).ord = st.ord ++ [oth es p v] ∧ (visit es v st p).ent = st.ent.set (oth es p v) (some p) := by
  unfold visit
  rw [if_neg h]
  exact ⟨rfl, rfl⟩
theorem info_bool : (Tryd.prog.info? 4).map (fun i => (i.zero, i.size, i.bytes)) = some (some (.bool false), 1, 1) := by kernel_rfl
/-- A row of bools of the call's own. -/
def OwnL (w : World) (B g n c : Nat) (bs : List Bool) : Prop := OwnR encBl 1 4 w B (some ⟨g, 0, none⟩) n c bs
section
variable {w w' : World} {B g n c : Nat} {bs : List Bool}
theorem OwnL.at_ (h : OwnL w B g n c bs) {i : Nat} (hi : i < n) : ∃ b, bs[i]? = some b ∧ w.cell? ⟨g, i, none⟩ = some (.bool b) ∧ w.frozen? ⟨g, i, none⟩ = false ∧ g < w.heap.size := by
  obtain ⟨b, hb, hc, hf, _, hl⟩ := OwnR.cells h (by omega) hi
  have h0 := hc 0 _ rfl
  rw [Nat.mul_one, Nat.add_zero] at h0
  exact ⟨b, hb, h0, hf i, hl⟩
theorem OwnL.set_ (h : OwnL w B g n c bs) {i : Nat} (hi : i < n) (b : Bool) : OwnL (w.setCell ⟨g, i, none⟩ (.bool b)) B g n c (bs.set i b) ∧ w.grownBy (w.setCell ⟨g, i, none⟩ (.bool b)) (some g) := by
  have h1 := OwnR.put h (by omega) hi (x := b) rfl
  rw [Nat.mul_one] at h1
  exact h1
theorem OwnL.below (h : OwnL w B g n c bs) (hb : Below w.heap.size w w') : OwnL w' B g n c bs := OwnR.below h hb
theorem OwnL.alloc (h : OwnL w B g n c bs) (o : Obj) : OwnL (w.alloc o) B g n c bs := OwnR.alloc h o
theorem OwnL.grown {row : Option Nat} (h : OwnL w B g n c bs) (hg : w.grownBy w' row) (hne : row ≠ some g) : OwnL w' B g n c bs := OwnR.grown h hg (fun x hx => by injection hx with hx; injection hx with hx; rw [← hx]; exact hne)
end
theorem Own.set2 {w : World} {B g n c : Nat} {zs : List Int} (h : Own w B (some ⟨g, 0, none⟩) n c zs) (k : Nat) {z : Int} (hz : I64 z) : Own (w.setCell ⟨g, k, none⟩ (.int .i64 z)) B (some ⟨g, 0, none⟩) n c (zs.set k z) ∧ w.grownBy (w.setCell ⟨g, k, none⟩ (.int .i64 z)) (some g) := ⟨h.set_ k hz, (h.1.stored k (.int .i64 z)).2⟩
theorem Own.ne {w : World} {B : Nat} {A : Option Addr} {n c g : Nat} {zs : List Int} (h : Own w B A n c zs) (hg : g < B) : A.map (·.block) ≠ some g := box_row h.1 hg
theorem Own.grown2 {w w' : World} {B : Nat} {A : Option Addr} {n c g : Nat} {zs : List Int} (h : Own w B A n c zs) (hgr : w.grownBy w' (some g)) (hg : g < B) : Own w' B A n c zs := h.grown hgr (fun x hx hh => by
  have h1 := (h.lt x (by rw [hx]; rfl)).1
  injection hh with hh
  omega)
/-- What a search leaves: the entries and the order, in memory of its own. -/
def RetSrch (w : World) (st : St) (e : Ending) (w' : World) : Prop :=
  ∃ A c B d, e = .returned (.tuple #[.slice A st.ent.length c, .slice B st.ord.length d]) ∧ Own w' w.heap.size A st.ent.length c (encE st.ent) ∧ Own w' w.heap.size B st.ord.length d (cN st.ord) ∧ Below w.heap.size w w'
theorem own_one (w : World) (B : Nat) (v : Nat) (hv : v < 1000) (hB : B ≤ w.heap.size) : Own (w.alloc (.cells #[.int .i64 (v : Int)] 2)) B (some ⟨w.heap.size, 0, none⟩) 1 1 [(v : Int)] :=
  ⟨World.ownsRow_lit (size := 1) w #[.int .i64 (v : Int)] 1 hB (by unfold maxLen; omega) rfl, fun z hz => by rw [List.mem_singleton.1 hz]; exact WalkArith.wf_i64 (by omega)⟩
theorem fill_step {x y : Int} {n k : Nat} (hk : k < n) : (List.replicate k x ++ List.replicate (n - k) y).set k x = List.replicate (k + 1) x ++ List.replicate (n - (k + 1)) y := by
  rw [List.set_append_right _ _ (by simp)]
  have e : n - k = (n - (k + 1)) + 1 := by omega
  rw [e, List.replicate_succ, List.length_replicate, Nat.sub_self, List.replicate_succ', List.append_assoc]
  rfl
/-- The state of the reference's search in memory: entries in block g1, marks in block g2, the order behind them. -/
structure SM (w : World) (L C g1 g2 n : Nat) (A : Option Addr) (m c : Nat) (st : St) : Prop where
  ent : Own w L (some ⟨g1, 0, none⟩) n n (encE st.ent)
  seen : OwnL w L g2 n n (seenL n st.ord)
  ord : Own w C A m c (cN st.ord)
  g12 : g1 < g2
  gC : g2 < C
theorem SM.below {w w' : World} {L C g1 g2 n : Nat} {A : Option Addr} {m c : Nat} {st : St} (h : SM w L C g1 g2 n A m c st) (hb : Below w.heap.size w w') : SM w' L C g1 g2 n A m c st := ⟨h.ent.below hb, h.seen.below hb, h.ord.below hb, h.g12, h.gC⟩
end Go.Proofs.YtebefamekjjbcaaDoor
set_option linter.unusedVariables false
set_option maxRecDepth 100000
namespace Go.Proofs.YtebefamekjjbcaaDoor
open Go.ChangeShapes Go.WideShapes Go.ChangeAt Go.RowKit Go.Joins Go.Deep

theorem own_zeros_at (w : World) (n B g : Nat) (hn : n ≤ 1048576) (hg : g = w.heap.size) (hB : B ≤ g) : Own (w.alloc (.cells (madeCells #[.int .i64 0] n) 2)) B (some ⟨g, 0, none⟩) n n (List.replicate n 0) := by
  subst hg
  exact (own_zeros w n hn).mono hB
theorem own_one_at (w : World) (B g : Nat) (v : Nat) (hv : v < 1000) (hg : g = w.heap.size) (hB : B ≤ g) : Own (w.alloc (.cells #[.int .i64 (v : Int)] 2)) B (some ⟨g, 0, none⟩) 1 1 [(v : Int)] := by
  subst hg
  exact own_one w B v hv hB
theorem setCell_comm (w : World) {a b : Addr} (u v : Value) (h : a.block ≠ b.block) : (w.setCell a u).setCell b v = (w.setCell b v).setCell a u := by
  unfold World.setCell
  congr 1
  apply Array.ext
  · simp
  · intro i h1 h2
    simp only [Array.getElem_modify]
    by_cases e1 : a.block = i
    · have e2 : ¬ b.block = i := fun hh => h (e1.trans hh.symm)
      simp [e1, e2]
    · by_cases e2 : b.block = i <;> simp [e1, e2]
/-- Distances: negative exactly where the search has not been. -/
def DS (n : Nat) (ord : List Nat) (ds : List Int) : Prop := ∀ v, v < n → ∃ z, ds[v]? = some z ∧ (z < 0 ↔ v ∉ ord) ∧ -1 ≤ z ∧ z ≤ ord.length
theorem ds_start {n s : Nat} (hs : s < n) : DS n [s] ((List.replicate n (-1)).set s 0) := by
  intro v hv
  by_cases e : s = v
  · subst e
    exact ⟨0, by rw [List.getElem?_set_self (by simpa using hv)], by simp, by omega, by simp⟩
  · refine ⟨-1, by rw [List.getElem?_set_ne e]; simp [hv], ?_, by omega, by simp⟩
    have e' : ¬ v = s := fun h => e h.symm
    simp [e']
theorem ds_step {n v o : Nat} {ord : List Nat} {ds : List Int} {x : Int} (h : DS n ord ds) (hl : ds.length = n) (hx : ds[v]? = some x) (hv : v ∈ ord) (hvn : v < n) (ho : o ∉ ord) (hon : o < n) : DS n (ord ++ [o]) (ds.set o (x + 1)) := by
  obtain ⟨z, hz, h1, h2, h3⟩ := h v hvn
  obtain rfl : x = z := Option.some.inj (hx.symm.trans hz)
  have hx0 : 0 ≤ x := by
    rcases Int.lt_or_le x 0 with hh | hh
    · exact absurd hv (h1.1 hh)
    · exact hh
  intro y hy
  by_cases e : o = y
  · subst e
    exact ⟨x + 1, by rw [List.getElem?_set_self (by omega)], ⟨fun hh => by omega, fun hh => absurd (List.mem_append_right _ List.mem_cons_self) hh⟩, by omega, by rw [List.length_append]; simp; omega⟩
  · obtain ⟨z, hz, g1, g2, g3⟩ := h y hy
    have e' : ¬ y = o := fun h => e h.symm
    refine ⟨z, by rw [List.getElem?_set_ne e]; exact hz, ?_, g2, by rw [List.length_append]; simp; omega⟩
    rw [g1]
    simp [e']
theorem grownSet (w : World) (g o : Nat) (u : Value) : w.grownBy (w.setCell ⟨g, o, none⟩ u) (some g) :=
  ⟨rfl, rfl, rfl, by simp [World.setCell], fun k _ hk => Below.heap_setCell w ⟨g, o, none⟩ u k (fun e => hk (by rw [e]))⟩
theorem Own.lo_ {w : World} {B : Nat} {A : Option Addr} {n c : Nat} {zs : List Int} (h : Own w B A n c zs) {a : Addr} (ha : a.block < B) (u : Value) : Own (w.setCell a u) B A n c zs := ⟨ownsRow_setCell_below h.1 ha u, h.2⟩
/-- A call returns the search's struct: order, distances, entries. -/
def RetS (w : World) (st : St) (e : Ending) (w' : World) : Prop :=
  ∃ A c b e' ds, e = .returned (.agg #[.slice A st.ord.length c, .slice (some ⟨b, 0, none⟩) st.ent.length st.ent.length, .slice (some ⟨e', 0, none⟩) st.ent.length st.ent.length]) ∧ Own w' w.heap.size A st.ord.length c (cN st.ord) ∧ Own w' w.heap.size (some ⟨b, 0, none⟩) st.ent.length st.ent.length ds ∧ DS st.ent.length st.ord ds ∧ Own w' w.heap.size (some ⟨e', 0, none⟩) st.ent.length st.ent.length (encE st.ent) ∧ Below w.heap.size w w'
end Go.Proofs.YtebefamekjjbcaaDoor
set_option linter.unusedVariables false
set_option maxRecDepth 100000
namespace Go.Proofs.YtebefamekjjbcaaDoor
open Go.ChangeShapes Go.WideShapes Go.ChangeAt Go.RowKit Go.Joins Go.Deep
attribute [local go_sem ↓] Go.wp_at_zero Go.wp_at_succ

theorem encE_at {l : List (Option Nat)} {k : Nat} {o : Option Nat} (h : l[k]? = some o) : (encE l)[k]? = some (encO o) := by simp [encE, h]
theorem comp_get {es : Es} {n r : Nat} (hr : r < n) : (compTo es n r)[r]? = some ((compTo es n r).getD r none) := by
  have hl := compTo_len es n r
  rw [List.getD_eq_getElem?_getD, List.getElem?_eq_getElem (by omega)]
  rfl
theorem comp_old {es : Es} {n r x : Nat} (h : (compTo es n r).getD r none = some x) : compTo es n (r + 1) = compTo es n r := by
  show (if ((compTo es n r).getD r none).isSome then _ else _) = _
  rw [h]; rfl
theorem comp_new {es : Es} {n r : Nat} (h : (compTo es n r).getD r none = none) : compTo es n (r + 1) = paint (compTo es n r) (bfs es n r).ord r := by
  show (if ((compTo es n r).getD r none).isSome then _ else _) = _
  rw [h]; rfl
theorem paint_zero (l : List (Option Nat)) (vs : List Nat) (r : Nat) : paint l (vs.take 0) r = l := by simp [paint]
theorem paint_step {l : List (Option Nat)} {vs : List Nat} {r j v : Nat} (h : vs[j]? = some v) : paint l (vs.take (j + 1)) r = (paint l (vs.take j) r).set v (some r) := by
  unfold paint
  rw [List.take_add_one, h, List.foldl_append]
  rfl
theorem encE_paint {l : List (Option Nat)} {vs : List Nat} {r j v : Nat} (h : vs[j]? = some v) : (encE (paint l (vs.take j) r)).set v (r : Int) = encE (paint l (vs.take (j + 1)) r) := by
  rw [paint_step h, encE_set]
theorem paint_full (l : List (Option Nat)) (vs : List Nat) (r j : Nat) (h : vs.length ≤ j) : paint l (vs.take j) r = paint l vs r := by rw [List.take_of_length_le h]
end Go.Proofs.YtebefamekjjbcaaDoor
set_option linter.unusedVariables false
set_option maxRecDepth 100000
namespace Go.Proofs.YtebefamekjjbcaaDoor
open Go.ChangeShapes Go.WideShapes Go.ChangeAt Go.RowKit Go.Joins Go.Deep Go.Sort Go.Shelf

theorem ints_getD {w : World} {b o n : Nat} {zs : List Int} (h : Ints w (some ⟨b, o, none⟩) n zs) (hn : 0 < n) : ∀ j, j < zs.length → w.cell? ⟨b, o + j, none⟩ = some (.int .i64 (zs.getD j 0)) := by
  intro j hj
  obtain ⟨b', o', e, _, hc⟩ := h.2.2 hn
  injection e with e
  injection e with e1 e2
  subst e1 e2
  rw [hc j (zs[j]) (List.getElem?_eq_getElem hj)]
  simp [List.getD, hj]
end Go.Proofs.YtebefamekjjbcaaDoor
set_option linter.unusedVariables false
set_option maxRecDepth 100000
namespace Go.Proofs.YtebefamekjjbcaaDoor
open Go.ChangeShapes Go.WideShapes Go.ChangeAt Go.RowKit Go.Joins Go.Deep
attribute [local go_sem ↓] Go.wp_at_zero Go.wp_at_succ

theorem comps_some {es : Es} {n r : Nat} (hg : Good es n) (hr : r < n) : ∃ x : Nat, (comps es n)[r]? = some (some x) ∧ x < n := by
  obtain ⟨x, h1, h2, _⟩ := comps_at hg hr
  exact ⟨x, h1, h2⟩
theorem root_eq {es : Es} {n r x : Nat} (h : (comps es n)[r]? = some (some x)) : isRoot es n r = decide (x = r) := by
  unfold isRoot
  rw [h]
  by_cases e : x = r
  · subst e; simp
  · simp [e]
theorem fst_len (es : Es) (n : Nat) : (fst es n).length ≤ es.length := fstTo_len es n es.length
theorem cN_app (l : List Nat) (i : Nat) : cN (l ++ [i]) = cN l ++ [(i : Int)] := by unfold cN; rw [List.map_append]; rfl
end Go.Proofs.YtebefamekjjbcaaDoor
set_option linter.unusedVariables false
set_option maxRecDepth 100000
namespace Go.Proofs.YtebefamekjjbcaaDoor
open Go.RowKit Go.Joins

def encI1 (z : Int) : List Value := [.int .i64 z]
theorem flatI (zs : List Int) : zs.flatMap encI1 = zs.map (Value.int .i64) := by
  induction zs with
  | nil => rfl
  | cons a l ih => simpa [encI1] using ih
theorem Own.rowR {w : World} {B : Nat} {A : Option Addr} {n c : Nat} {zs : List Int} (h : Own w B A n c zs) : OwnR encI1 1 2 w B A n c zs := ⟨by rw [flatI]; exact h.1, fun x _ => rfl⟩
theorem Own.nilc {w : World} {B : Nat} {A : Option Addr} {n c : Nat} {zs : List Int} (h : Own w B A n c zs) : A = none → c = 0 := h.rowR.nil_
theorem Ints.rowR {w : World} {A : Option Addr} {n : Nat} {zs : List Int} (h : Ints w A n zs) : Recs encI1 1 w A n zs := by
  refine ⟨h.1, fun hn => ?_⟩
  obtain ⟨b, o, e, hb, hc⟩ := h.2.2 hn
  refine ⟨b, o, e, hb, fun i x hx j v hv => ?_⟩
  match j, hv with
  | 0, hv =>
    simp [encI1] at hv
    subst hv
    rw [Nat.mul_one, Nat.add_zero]
    exact hc i x hx
theorem wpList_catI {ops : Array Oper} {rest : List Oper} {o : Oper} {a : Act} {Q : Exit → Act → World → Prop} (wr : World) (hgd : o.guard = none) (s x : Operand)
    (ho : o.op = .call { callee := .builtin .append, args := #[s, x], argTypes := #[26, 26] }) (B : Nat) (A : Option Addr) (n c : Nat) (zs : List Int) (A' : Option Addr) (m c' : Nat) (ys : List Int) (hnil : A' = none → c' = 0)
    (hs : a.eval s = .slice A n c) (hx : a.eval x = .slice A' m c') (hown : Own wr B A n c zs) (hr : Ints wr A' m ys) (hn : n ≤ 1099511627776) (hm : m ≤ 1099511627776) (hB : B ≤ wr.heap.size)
    (h : ∀ A2 c2 w', Own w' B A2 (n + m) c2 (zs ++ ys) → Below B wr w' → wpList Tryd.prog ops Q rest (a.put o.dst (.slice A2 (n + m) c2)) w') :
    wpList Tryd.prog ops Q (o :: rest) a wr := by
  refine wpList_catR (enc := encI1) (k := 1) (bytes := 8) (z := .int .i64 0) wr hgd s x ho Tryd.underlying26 info_i64 rfl (by omega) (by omega) B A n c zs A' m c' ys hnil hs hx hown.rowR hr.rowR (fun y _ => rfl) (fun y _ u hu => by
    rw [List.mem_singleton.1 hu]; rfl) hn hm hB ?_
  intro A2 c2 w' ho2 hb2 _ _
  refine h A2 c2 w' ⟨?_, fun z hz => ?_⟩ hb2
  · have := ho2.1
    rwa [flatI] at this
  · rcases List.mem_append.1 hz with hz | hz
    · exact hown.2 z hz
    · exact hr.2.1 z hz
end Go.Proofs.YtebefamekjjbcaaDoor
set_option linter.unusedVariables false
set_option maxRecDepth 100000
namespace Go.Proofs.YtebefamekjjbcaaDoor
open Go.ChangeShapes Go.WideShapes Go.ChangeAt Go.RowKit Go.Joins Go.Deep
attribute [local go_sem ↓] Go.wp_at_zero Go.wp_at_succ

theorem fst_contains {es : Es} {n k : Nat} (hk : k < es.length) : (cN (fst es n)).contains (k : Int) = treeB es n k := by
  have e1 : (cN (fst es n)).contains (k : Int) = true ↔ k ∈ fst es n := by
    rw [List.contains_iff_mem]
    unfold cN
    rw [List.mem_map]
    constructor
    · rintro ⟨a, ha, e⟩
      have : a = k := by omega
      rwa [← this]
    · intro h
      exact ⟨k, h, rfl⟩
  rw [Bool.eq_iff_iff, e1]
  unfold fst
  rw [List.mem_filter, List.mem_range]
  exact ⟨fun h => h.2, fun h => ⟨hk, h⟩⟩
theorem fst_le (es : Es) (n : Nat) : (cN (fst es n)).Pairwise (· ≤ ·) := by
  unfold cN
  rw [List.pairwise_map]
  exact List.Pairwise.imp (fun h => by omega) (fst_sorted es n)
theorem cN_lt {l : List Nat} {z : Int} (h : z ∈ cN l) : ∃ v : Nat, v ∈ l ∧ z = v := by
  unfold cN at h
  obtain ⟨v, hv, e⟩ := List.mem_map.1 h
  exact ⟨v, hv, e.symm⟩
theorem chd_len (es : Es) (n : Nat) : (chd es n).length ≤ es.length := chdTo_len es n es.length
end Go.Proofs.YtebefamekjjbcaaDoor
set_option linter.unusedVariables false
set_option maxRecDepth 100000
namespace Go.Proofs.YtebefamekjjbcaaDoor
open Go.RowKit Go.Joins
theorem Own.atD {w : World} {B g n c : Nat} {zs : List Int} (h : Own w B (some ⟨g, 0, none⟩) n c zs) {k : Nat} (hk : k < n) : w.cell? ⟨g, k, none⟩ = some (.int .i64 (zs.getD k 0)) ∧ w.frozen? ⟨g, k, none⟩ = false ∧ B ≤ g ∧ g < w.heap.size := by
  obtain ⟨g', z, hA, h1, h2, hz, _, hc, hf⟩ := h.at_ hk
  obtain rfl : g = g' := by injection hA with hA; injection hA
  have hz' := getD_some h.len hk
  rw [hz] at hz'
  obtain rfl := Option.some.inj hz'
  exact ⟨hc, hf, h1, h2⟩
theorem Ints.atD {w : World} {A : Option Addr} {n : Nat} {zs : List Int} (h : Ints w A n zs) {k : Nat} (hk : k < n) : ∃ b o, A = some ⟨b, o, none⟩ ∧ b < w.heap.size ∧ w.cell? ⟨b, o + k, none⟩ = some (.int .i64 (zs.getD k 0)) := by
  obtain ⟨b, o, z, e, hb, hz, _, hc⟩ := h.at_ hk
  have hz' := getD_some h.len hk
  rw [hz] at hz'
  obtain rfl := Option.some.inj hz'
  exact ⟨b, o, e, hb, hc⟩
end Go.Proofs.YtebefamekjjbcaaDoor
set_option linter.unusedVariables false
set_option maxRecDepth 100000
namespace Go.Proofs.YtebefamekjjbcaaDoor
open Go.ChangeShapes Go.WideShapes Go.ChangeAt Go.RowKit Go.Joins Go.Deep

theorem mul_bd {a b : Int} {A B : Nat} (ha : a.natAbs ≤ A) (hb : b.natAbs ≤ B) : (a * b).natAbs ≤ A * B := by
  rw [Int.natAbs_mul]
  exact Nat.mul_le_mul ha hb
theorem drp_bd {k f : Int} (hk : 1 ≤ k ∧ k ≤ 1000) (hf : -30000 ≤ f ∧ f ≤ 30000) : -900000000000 ≤ drp k f ∧ drp k f ≤ 900000000000 := by
  have h1 := mul_bd (a := f) (b := ab f) (A := 30000) (B := 30000) (by omega) (by unfold ab; omega)
  have h2 := mul_bd (a := k) (b := f * ab f) (A := 1000) (B := 30000 * 30000) (by omega) h1
  unfold drp
  omega
end Go.Proofs.YtebefamekjjbcaaDoor
