/- A network's pipes as a graph; what pipesAt, otherEnd, l02At, l02Other do, by walks over their text. Condition: a valid network. One number appended to a slice of the call's own, told where the row then lies. Condition: a length of at most 2^40. What l04Search does, by a walk over its text. Condition: a valid network. What searchFrom does, by a walk over its text. Condition: a valid network. What componentsOf and l04Components do, by walks over their text. Condition: a valid network. The library's functions on slices of int64 (Sort, BinarySearch, Clone, Contains, Equal), in the words of this seat. Conditions: lengths of at most 1048576. What forestOf, l04Forest, chordsOf, l05Chords, l02Has do, by walks over their text. Condition: a valid network. Slices of int64 appended whole to a slice of the call's own. Conditions: lengths of at most 2^40. What chordsOf, l05Chords, l02Has do, by walks over their text. Condition: a valid network. Elements of a slice of int64 told by getD. No condition. What absOf, l01Abs, l01Signed, dropOf, l07Drop do, by walks over their text. Conditions: numbers of at most 2^60. -/
import Derived.Test.YtpgegfnhokhlmaaKA
import Derived.Test.YtpgegfnhokhlmaaKG
import Derived.IntWalk
import Derived.Maps.AppendAt
import Derived.RegionTactic
import Derived.BigRegion
import Derived.Deep.DeepCutAuto
import Derived.Shelf.SortM.Plain
import Derived.Shelf.SortM.SortNone
import Derived.Sort.OwnSortedInts
import Derived.Ground.SlgmProg
import Derived.Shelf.SlicesG.SearchI
import Derived.Shelf.SlicesG.Clone
import Derived.Shelf.SlicesG.Equal
import Derived.Shelf.SlicesG.Turned
import Derived.Ground.SlgnProg
set_option linter.unusedVariables false
set_option maxRecDepth 100000
namespace Go.Proofs.Ytpgegfnhokhlmaa
open Go.ChangeShapes Go.WideShapes Go.ChangeAt Go.RowKit Go.Joins Go.Deep

/-- The ends of the pipes. -/
def esOf (ps : List Pp) : Es := ps.map fun p => (p.fr.toNat, p.to.toNat)
/-- Natural numbers as they lie in memory. -/
def cN (l : List Nat) : List Int := l.map fun i : Nat => (i : Int)
theorem esOf_len (ps : List Pp) : (esOf ps).length = ps.length := by simp [esOf]
theorem pipe_ok {ns : List Nd} {ps : List Pp} {i : Nat} {p : Pp} (h : NetOk ns ps) (hp : ps[i]? = some p) : (p.fr = (efr (esOf ps) i : Int)) ∧ (p.to = (eto (esOf ps) i : Int)) ∧ efr (esOf ps) i < ns.length ∧ eto (esOf ps) i < ns.length ∧ efr (esOf ps) i ≠ eto (esOf ps) i ∧ (1 ≤ p.k ∧ p.k ≤ 1000) ∧ (1 ≤ p.l ∧ p.l ≤ 30000) := by
  have h1 := h.2.2.2.2 p (List.mem_of_getElem? hp)
  unfold pipeB at h1
  simp only [Bool.and_eq_true, inB_iff, decide_eq_true_eq] at h1
  have e : (esOf ps).getD i (0, 0) = (p.fr.toNat, p.to.toNat) := by simp [esOf, List.getD, hp]
  unfold efr eto
  rw [e]
  obtain ⟨a, b, c, d, _, f⟩ := h1
  refine ⟨by show p.fr = ((p.fr.toNat : Nat) : Int); omega, by show p.to = ((p.to.toNat : Nat) : Int); omega, by show p.fr.toNat < _; omega, by show p.to.toNat < _; omega, by show p.fr.toNat ≠ p.to.toNat; omega, d, f⟩
theorem net_good {ns : List Nd} {ps : List Pp} (h : NetOk ns ps) : Good (esOf ps) ns.length := by
  intro i hi
  rw [esOf_len] at hi
  have hp : ps[i]? = some ps[i] := List.getElem?_eq_getElem hi
  obtain ⟨_, _, h1, h2, h3, _⟩ := pipe_ok h hp
  exact ⟨h1, h2, h3⟩
theorem cN_len (l : List Nat) : (cN l).length = l.length := by simp [cN]
theorem cN_at {l : List Nat} {k v : Nat} (h : l[k]? = some v) : (cN l)[k]? = some (v : Int) := by simp [cN, h]
theorem cN_get {l : List Nat} {k : Nat} {z : Int} (h : (cN l)[k]? = some z) : ∃ v : Nat, l[k]? = some v ∧ z = v := by
  simp [cN] at h
  obtain ⟨v, h1, h2⟩ := h
  exact ⟨v, h1, h2.symm⟩
/-- The pipes at a node, the first k of all. -/
def incTo (es : Es) (v k : Nat) : List Nat := (List.range k).filter fun i => efr es i == v || eto es i == v
theorem incTo_step (es : Es) (v k : Nat) : incTo es v (k + 1) = if (efr es k == v || eto es k == v) = true then incTo es v k ++ [k] else incTo es v k := by
  unfold incTo
  rw [List.range_succ, List.filter_append]
  by_cases h : (efr es k == v || eto es k == v) = true
  · rw [if_pos h]; simp [h]
  · rw [if_neg h]; simp at h; simp [h]
theorem incTo_len (es : Es) (v k : Nat) : (incTo es v k).length ≤ k := by
  unfold incTo
  exact Nat.le_trans (List.length_filter_le _ _) (by simp)
theorem inc_ways (es : Es) (v k : Nat) : ((((efr es k : Int)) == (v : Int)) = true ∧ incTo es v (k + 1) = incTo es v k ++ [k]) ∨ ((((efr es k : Int)) == (v : Int)) = false ∧ (((eto es k : Int)) == (v : Int)) = true ∧ incTo es v (k + 1) = incTo es v k ++ [k]) ∨
    ((((efr es k : Int)) == (v : Int)) = false ∧ (((eto es k : Int)) == (v : Int)) = false ∧ incTo es v (k + 1) = incTo es v k) := by
  have key : ∀ a b : Nat, (((a : Int)) == (b : Int)) = (a == b) := by
    intro a b
    rw [Bool.eq_iff_iff, beq_iff_eq, beq_iff_eq]
    omega
  rw [key, key, incTo_step]
  by_cases h1 : (efr es k == v) = true
  · left; simp [h1]
  · have h1' : (efr es k == v) = false := by simpa using h1
    by_cases h2 : (eto es k == v) = true
    · right; left; simp [h1', h2]
    · have h2' : (eto es k == v) = false := by simpa using h2
      right; right; simp [h1', h2']
set_option maxHeartbeats 1000000 in
theorem pipesAt_any (A B : Option Addr) (n c m d : Nat) (v : Nat) (ns : List Nd) (ps : List Pp) (w : World) (h : IsNet w A n c ns B m d ps) (hok : NetOk ns ps) :
    Calls Try.prog 49 #[.agg #[.slice A n c, .slice B m d], .int .i64 v] w (RetInts w (cN (inc (esOf ps) v))) := by
  have hm : ps.length = m := h.pipes.len
  have hm40 : m ≤ 40 := by have := hok.2.2.1; omega
  have HM := Lib.hid hm
  have HOK := Lib.hid hok
  clear hm hok
  have hV : Below w.heap.size w (w.alloc (.cells #[.slice A n c, .slice B m d] 33)) := (Below.refl _ _).alloc (Nat.le_refl _) _
  go_enter Try.func49, Try.ntmps49
  go_wp2_with fail
  generalize (w.alloc (.cells #[.slice A n c, .slice B m d] 33)) = V at *
  go_loopw [5, 11] (fun ss ii wr => ∃ (k : Nat) (A2 : Option Addr) (m2 c2 : Nat), k ≤ m ∧ ii = .int .i64 k ∧ ss = .slice A2 m2 c2 ∧ m2 ≤ k ∧ Own wr V.heap.size A2 m2 c2 (cN (incTo (esOf ps) v k)) ∧ Below V.heap.size V wr) (fun _ ii _ => m - (intOf ii).toNat)
  case atStart => exact ⟨0, none, 0, 0, Nat.zero_le _, rfl, rfl, Nat.le_refl _, own_nil _ _, Below.refl _ _⟩
  case round =>
    obtain ⟨k, A2, m2, c2, hk, rfl, rfl, hm2, hown, hb⟩ := hrel
    by_cases hlt : k < m
    · obtain ⟨b, o, p, rfl, hbl, hp, hpk, q0, q1, q2, q3, q4⟩ := (h.pipes.below (bthen hV hb hV.size)).at_ hlt
      obtain ⟨e1, e2, _⟩ := pipe_ok HOK.out hp
      rw [e1] at q0
      rw [e2] at q1
      clear hp e1 e2
      rcases inc_ways (esOf ps) v k with ⟨t1, tf⟩ | ⟨t1, t2, tf⟩ | ⟨t1, t2, tf⟩
      case inr.inr =>
        have TF := Lib.hid tf
        clear tf
        go_wp2_with fail
        go_roundw
        case rel => exact ⟨k + 1, A2, m2, c2, by omega, by go_num, rfl, by omega, by rw [TF.out]; exact hown.alloc _, hb.alloc hb.size _⟩
        case measure => simp [intOf]; omega
      all_goals
        have TF := Lib.hid tf
        clear tf
        go_wp2_with (at_builtin; refine wpList_pushH (wr.alloc (.cells #[.int .i64 (efr (esOf ps) k : Int), .int .i64 (eto (esOf ps) k : Int), .int .i64 p.k, .int .i64 p.v, .int .i64 p.l] 58)) rfl _ _ rfl V.heap.size _ _ _ _ (k : Int) (wr.heap.size + 1) (by simp) rfl rfl (hown.alloc _) (WalkArith.wf_i64 (by omega)) (by omega) (by simp; have := hb.size; omega) ?_; intro g3 c3 w3 hown3 hb3 _ _)
        go_roundw
        case rel => exact ⟨k + 1, _, _, _, by omega, by go_num, rfl, by omega, by rw [TF.out]; unfold cN; rw [List.map_append]; exact hown3, (hb.alloc hb.size _).trans hb3⟩
        case measure => simp [intOf]; omega
    · obtain rfl : k = m := by omega
      go_wp2_with fail
      go_ret
      have e : inc (esOf ps) v = incTo (esOf ps) v k := by unfold inc incTo; rw [esOf_len, HM.out]
      rw [← e] at hown
      exact retInts_of hown.len (hown.mono hV.size) (bthen hV hb hV.size)
set_option maxHeartbeats 1000000 in
theorem sAt_any (A B : Option Addr) (n c m d : Nat) (v : Nat) (ns : List Nd) (ps : List Pp) (w : World) (h : IsNet w A n c ns B m d ps) (hok : NetOk ns ps) :
    Calls Try.prog 53 #[.agg #[.slice A n c, .slice B m d], .int .i64 v] w (RetInts w (cN (inc (esOf ps) v))) := by
  have hm : ps.length = m := h.pipes.len
  have hm40 : m ≤ 40 := by have := hok.2.2.1; omega
  have HM := Lib.hid hm
  have HOK := Lib.hid hok
  clear hm hok
  have hV : Below w.heap.size w (w.alloc (.cells #[.slice A n c, .slice B m d] 33)) := (Below.refl _ _).alloc (Nat.le_refl _) _
  have bx := box_new w #[.slice A n c, .slice B m d] 33
  have hs1 : (w.alloc (.cells #[.slice A n c, .slice B m d] 33)).heap.size = w.heap.size + 1 := by simp
  go_enter Try.func53, Try.ntmps53
  go_wp2_with fail
  rw [← hs1]
  clear hs1
  generalize (w.alloc (.cells #[.slice A n c, .slice B m d] 33)) = V at *
  go_loopw [5, 6] (fun ss ii wr => ∃ (k : Nat) (A2 : Option Addr) (m2 c2 : Nat), k ≤ m ∧ ii = .int .i64 k ∧ ss = .slice A2 m2 c2 ∧ m2 ≤ k ∧ Own wr V.heap.size A2 m2 c2 (cN (incTo (esOf ps) v k)) ∧ Below V.heap.size V wr) (fun _ ii _ => m - (intOf ii).toNat)
  case atStart => exact ⟨0, _, 0, 0, Nat.zero_le _, rfl, rfl, Nat.le_refl _, own_empty _ _ (Nat.le_refl _), (Below.refl _ _).alloc (Nat.le_refl _) _⟩
  case round =>
    obtain ⟨k, A2, m2, c2, hk, rfl, rfl, hm2, hown, hb⟩ := hrel
    have bx1 := bx.belowA hb
    have xl := bx1.lt
    have x1 : wr.cell? ⟨w.heap.size, 1, none⟩ = some (.slice B m d) := bx1.cell 1
    by_cases hlt : k < m
    · obtain ⟨b, o, p, rfl, hbl, hp, hpk, q0, q1, q2, q3, q4⟩ := (h.pipes.below (bthen hV hb hV.size)).at_ hlt
      obtain ⟨e1, e2, _⟩ := pipe_ok HOK.out hp
      rw [e1] at q0
      rw [e2] at q1
      clear hp e1 e2
      rcases inc_ways (esOf ps) v k with ⟨t1, tf⟩ | ⟨t1, t2, tf⟩ | ⟨t1, t2, tf⟩
      case inr.inr =>
        have TF := Lib.hid tf
        clear tf
        go_wp2_with fail
        go_roundw
        case rel => exact ⟨k + 1, A2, m2, c2, by omega, by go_num, rfl, by omega, by rw [TF.out]; exact hown, hb⟩
        case measure => simp [intOf]; omega
      all_goals
        have TF := Lib.hid tf
        clear tf
        go_wp2_with (at_builtin; refine wpList_push wr rfl _ _ rfl V.heap.size _ _ _ _ (k : Int) rfl rfl hown (WalkArith.wf_i64 (by omega)) (by omega) hb.size ?_; intro g3 c3 w3 hown3 hb3 _ _)
        go_roundw
        case rel => exact ⟨k + 1, _, _, _, by omega, by go_num, rfl, by omega, by rw [TF.out]; unfold cN; rw [List.map_append]; exact hown3, hb.trans hb3⟩
        case measure => simp [intOf]; omega
    · obtain rfl : k = m := by omega
      go_wp2_with fail
      go_ret
      have e : inc (esOf ps) v = incTo (esOf ps) v k := by unfold inc incTo; rw [esOf_len, HM.out]
      rw [← e] at hown
      exact retInts_of hown.len (hown.mono hV.size) (bthen hV hb hV.size)
theorem othI {es : Es} {i v : Nat} : (oth es i v : Int) = if ((efr es i : Int) == (v : Int)) = true then (eto es i : Int) else (efr es i : Int) := by
  unfold oth
  by_cases h : efr es i = v
  · simp [h]
  · have : ¬ (efr es i : Int) = v := by omega
    simp [h, this]
set_option maxHeartbeats 1000000 in
theorem otherEnd_any (i v : Nat) (es : Es) (pk pv pl : Int) (w : World) :
    Calls Try.prog 50 #[.agg #[.int .i64 (efr es i : Int), .int .i64 (eto es i : Int), .int .i64 pk, .int .i64 pv, .int .i64 pl], .int .i64 v] w fun e w' => e = .returned (.int .i64 (oth es i v : Int)) ∧ Below w.heap.size w w' := by
  cases h : ((efr es i : Int) == (v : Int))
  all_goals
    have H := Lib.hid (othI (es := es) (i := i) (v := v))
    go_enter Try.func50, Try.ntmps50
    go_wp2_with fail
    go_ret
    exact ⟨ri (by rw [H.out, h]; rfl), (Below.refl _ _).alloc (Nat.le_refl _) _⟩
theorem oth_sum {es : Es} {n i v : Nat} (hg : Good es n) (hi : i ∈ inc es v) : (oth es i v : Int) = (efr es i : Int) + (eto es i : Int) - (v : Int) := by
  obtain ⟨hil, he⟩ := inc_mem.1 hi
  have := hg i hil
  unfold oth
  split <;> omega
set_option maxHeartbeats 1000000 in
theorem sOther_any (A B : Option Addr) (n c m d : Nat) (i v : Nat) (ns : List Nd) (ps : List Pp) (w : World) (h : IsNet w A n c ns B m d ps) (hok : NetOk ns ps) (hi : i ∈ inc (esOf ps) v) :
    Calls Try.prog 54 #[.agg #[.slice A n c, .slice B m d], .int .i64 i, .int .i64 v] w fun e w' => e = .returned (.int .i64 (oth (esOf ps) i v : Int)) ∧ Below w.heap.size w w' := by
  have hm : ps.length = m := h.pipes.len
  have hil : i < m := by have := (inc_mem.1 hi).1; rw [esOf_len] at this; omega
  have hm40 : m ≤ 40 := by have := hok.2.2.1; omega
  have hgd := net_good hok
  obtain ⟨b, o, p, rfl, hbl, hp, hpk, q0, q1, q2, q3, q4⟩ := (h.pipes.alloc (.cells #[.slice A n c, .slice B m d] 33)).at_ hil
  obtain ⟨e1, e2, l1, l2, _⟩ := pipe_ok hok hp
  have hn24 : ns.length ≤ 24 := hok.2.1
  have HS := Lib.hid (oth_sum hgd hi)
  have hol := oth_lt (v := v) hgd (inc_mem.1 hi).1
  have hv24 : v < 24 := by
    have := (inc_mem.1 hi).2
    omega
  rw [e1] at q0
  rw [e2] at q1
  have i0 : (0 : Int) ≤ (i : Int) := by omega
  have i1 : (i : Int) < (m : Int) := by omega
  have b1 : (efr (esOf ps) i : Int) < 24 := by omega
  have b2 : (eto (esOf ps) i : Int) < 24 := by omega
  have s1 : IntKind.i64.wrap ((efr (esOf ps) i : Int) + (eto (esOf ps) i : Int)) = (efr (esOf ps) i : Int) + (eto (esOf ps) i : Int) := IntWalk.i64_in _ (by omega)
  have s2 : IntKind.i64.wrap ((efr (esOf ps) i : Int) + (eto (esOf ps) i : Int) - (v : Int)) = (efr (esOf ps) i : Int) + (eto (esOf ps) i : Int) - (v : Int) := IntWalk.i64_in _ (by omega)
  clear hm hp e1 e2 hgd hi hok
  go_enter Try.func54, Try.ntmps54
  go_wp2_with fail
  go_quiet (fail)
  go_wp2_with fail
  go_ret
  exact ⟨ri HS.out.symm, below_drewN ((Below.refl _ _).alloc (Nat.le_refl _) _) _⟩
end Go.Proofs.Ytpgegfnhokhlmaa
set_option linter.unusedVariables false
set_option maxRecDepth 100000
namespace Go.Proofs.Ytpgegfnhokhlmaa
open Go.RowKit Go.Joins

theorem wpList_pushA {ops : Array Oper} {rest : List Oper} {o : Oper} {a : Act} {Q : Exit → Act → World → Prop} (wr : World) (hgd : o.guard = none) (s x : Operand)
    (ho : o.op = .call { callee := .builtin .append, args := #[s, x], argTypes := #[27, 27] }) (B : Nat) (A : Option Addr) (n c : Nat) (zs : List Int) (z : Int) (H : Nat) (hH : wr.heap.size = H)
    (hs : a.eval s = .slice A n c) (hx : a.eval x = .slice (some ⟨H, 0, none⟩) 1 1) (hown : Own wr B A n c zs) (hz : I64 z) (hn : n ≤ 1099511627776) (hB : B ≤ wr.heap.size)
    (h : ∀ g c' w', Own w' B (some ⟨g, 0, none⟩) (n + 1) c' (zs ++ [z]) → Below B wr w' → wr.grownBy w' (A.map (·.block)) → B ≤ g → (A.map (·.block) = some g ∨ wr.heap.size < g) → wpList Try.prog ops Q rest (a.put o.dst (.slice (some ⟨g, 0, none⟩) (n + 1) c')) w') :
    wpList Try.prog ops Q (o :: rest) a (wr.alloc (.cells #[.int .i64 z] 2)) := by
  subst hH
  obtain ⟨i0, hi0, hz0, hz1, hz2⟩ := info_parts info_i64
  refine wpList_append_own_at _ hgd s x 27 ho B 2 i0 (.int .i64 0) 1 8 Try.underlying27 hi0 hz0 hz1 hz2 rfl (by decide) (.slice A n c) n (zs.map (Value.int .i64)) hs (hown.alloc _).1 ⟨wr.heap.size, 0, none⟩ 1 1 [.int .i64 z] hx rfl ?_ ?_ (by unfold maxLen; omega) (by omega) (by simp; omega) ?_
  · intro j u hj
    match j, hj with
    | 0, hj => simp at hj; subst hj; simp [Addr.add]
  · intro u hu; simp at hu; subst hu; rfl
  · intro v' w1 hown' hgrow _ hat
    have hl := hown.len
    obtain ⟨g, cap, hv, hb, hlt⟩ := hown'.form (by omega)
    subst hv
    have hA : (Value.slice A n c).ownBlock = A.map (·.block) := by cases A <;> rfl
    have hg2 : wr.grownBy w1 (A.map (·.block)) := by
      have h0 : wr.grownBy (wr.alloc (.cells #[.int .i64 z] 2)) (A.map (·.block)) := ⟨rfl, rfl, rfl, by simp, fun k hk _ => Below.heap_alloc wr _ k hk⟩
      rw [hA] at hgrow
      exact h0.trans hgrow
    refine h g cap w1 ⟨by simpa using hown', ?_⟩ ?_ hg2 hb ?_
    · intro y hy
      rcases List.mem_append.1 hy with hy | hy
      · exact hown.2 y hy
      · simp at hy; subst hy; exact hz
    · exact (Below.refl B wr).grown hg2 hB (fun k hk => (hown.lt k hk).1)
    · rw [hA] at hat
      rcases hat with hat | hat
      · left; rw [← hat]; rfl
      · right
        have : (Value.slice (some ⟨g, 0, none⟩) (n + 1) cap).ownBlock = some g := rfl
        rw [this] at hat
        injection hat with hat
        simp at hat
        omega
theorem Ints.grown {w w' : World} {A : Option Addr} {n : Nat} {zs : List Int} {row : Option Nat} (h : Ints w A n zs) (hg : w.grownBy w' row) (hne : ∀ g, A.map (·.block) = some g → row ≠ some g) : Ints w' A n zs :=
  ⟨h.1, h.2.1, fun hn => by
    obtain ⟨b, o, e, hlt, hc⟩ := h.2.2 hn
    exact ⟨b, o, e, Nat.lt_of_lt_of_le hlt hg.size, fun k z hz => (World.cell?_of_block (a := ⟨b, o + k, none⟩) (hg.block b hlt (fun hh => hne b (by rw [e]; rfl) hh.symm))).trans (hc k z hz)⟩⟩
end Go.Proofs.Ytpgegfnhokhlmaa
set_option linter.unusedVariables false
set_option maxRecDepth 100000
namespace Go.Proofs.Ytpgegfnhokhlmaa
open Go.ChangeShapes Go.WideShapes Go.ChangeAt Go.RowKit Go.Joins Go.Deep
attribute [local go_sem ↓] Go.wp_at_zero Go.wp_at_succ

/-- Entries as they lie in memory. -/
def encO : Option Nat → Int
  | none => -1
  | some i => (i : Int)
def encE (l : List (Option Nat)) : List Int := l.map encO
def seenL (n : Nat) (ord : List Nat) : List Bool := (List.range n).map fun v => decide (v ∈ ord)
def encBl (b : Bool) : List Value := [.bool b]
theorem encE_len (l : List (Option Nat)) : (encE l).length = l.length := by simp [encE]
theorem encE_set (l : List (Option Nat)) (o i : Nat) : encE (l.set o (some i)) = (encE l).set o (i : Int) := by
  unfold encE
  rw [List.map_set]
  rfl
theorem encE_none (n : Nat) : encE (List.replicate n none) = List.replicate n (-1) := by simp [encE, encO]
theorem seenL_len (n : Nat) (ord : List Nat) : (seenL n ord).length = n := by simp [seenL]
theorem seenL_at {n v : Nat} (ord : List Nat) (hv : v < n) : (seenL n ord)[v]? = some (decide (v ∈ ord)) := by simp [seenL, hv]
theorem seenL_add (n : Nat) (ord : List Nat) (o : Nat) : seenL n (ord ++ [o]) = (seenL n ord).set o true := by
  apply List.ext_getElem?
  intro i
  by_cases hi : i < n
  · rw [seenL_at _ hi]
    by_cases e : o = i
    · subst e
      rw [List.getElem?_set_self (by rw [seenL_len]; exact hi)]
      simp
    · rw [List.getElem?_set_ne e, seenL_at _ hi]
      have e' : ¬ i = o := fun h => e h.symm
      simp [e']
  · rw [List.getElem?_eq_none (by rw [seenL_len]; omega), List.getElem?_eq_none (by rw [List.length_set, seenL_len]; omega)]
/-- The search from a node, in the middle of its pipes. -/
def vst (es : Es) (v : Nat) (st : St) (i : Nat) : St := ((inc es v).take i).foldl (visit es v) st
theorem vst_zero (es : Es) (v : Nat) (st : St) : vst es v st 0 = st := rfl
theorem vst_succ {es : Es} {v : Nat} {st : St} {i p : Nat} (h : (inc es v)[i]? = some p) : vst es v st (i + 1) = visit es v (vst es v st i) p := by
  unfold vst
  rw [List.take_add_one, h, List.foldl_append]
  rfl
theorem vst_inv {es : Es} {n s v k : Nat} {st : St} (hg : Good es n) (h : Inv es n s st) (hk : st.ord[k]? = some v) (i : Nat) : Inv es n s (vst es v st i) ∧ (vst es v st i).ord[k]? = some v ∧ (vst es v st i).ord.length ≤ n := by
  obtain ⟨h1, h2, _⟩ := fold_inv hg ((inc es v).take i) st h hk (fun j hj => List.mem_of_mem_take hj)
  exact ⟨h1, pre_at h2 hk, nodup_len h1.nd h1.lt⟩
theorem vst_full {es : Es} {v : Nat} {st : St} {k i : Nat} (hk : st.ord[k]? = some v) (hi : (inc es v).length ≤ i) : vst es v st i = stepB es st k := by
  unfold vst stepB
  rw [hk, List.take_of_length_le hi]
theorem visit_old {es : Es} {v p : Nat} {st : St} (h : oth es p v ∈ st.ord) : visit es v st p = st := if_pos h
theorem visit_new {es : Es} {v p : Nat} {st : St} (h : oth es p v ∉ st.ord) : (visit es v st p).ord = st.ord ++ [oth es p v] ∧ (visit es v st p).ent = st.ent.set (oth es p v) (some p) := by
  unfold visit
  rw [if_neg h]
  exact ⟨rfl, rfl⟩
theorem info_bool : (Try.prog.info? 4).map (fun i => (i.zero, i.size, i.bytes)) = some (some (.bool false), 1, 1) := by kernel_rfl
/-- A row of bools of the call's own. -/
def OwnL (w : World) (B g n c : Nat) (bs : List Bool) : Prop := OwnR encBl 1 4 w B (some ⟨g, 0, none⟩) n c bs
section
variable {w w' : World} {B g n c : Nat} {bs : List Bool}
theorem OwnL.at_ (h : OwnL w B g n c bs) {i : Nat} (hi : i < n) : ∃ b, bs[i]? = some b ∧ w.cell? ⟨g, i, none⟩ = some (.bool b) ∧ w.frozen? ⟨g, i, none⟩ = false ∧ g < w.heap.size := by
  obtain ⟨b, hb, hc, hf, _, hl⟩ := OwnR.cells h (by omega) hi
  have h0 := hc 0 _ rfl
  rw [Nat.mul_one, Nat.add_zero] at h0
  exact ⟨b, hb, h0, hf i, hl⟩
theorem OwnL.set_ (h : OwnL w B g n c bs) {i : Nat} (hi : i < n) (b : Bool) : OwnL (w.setCell ⟨g, i, none⟩ (.bool b)) B g n c (bs.set i b) ∧ w.grownBy (w.setCell ⟨g, i, none⟩ (.bool b)) (some g) := by
  have h1 := OwnR.put h (by omega) hi (x := b) rfl
  rw [Nat.mul_one] at h1
  exact h1
theorem OwnL.below (h : OwnL w B g n c bs) (hb : Below w.heap.size w w') : OwnL w' B g n c bs := OwnR.below h hb
theorem OwnL.alloc (h : OwnL w B g n c bs) (o : Obj) : OwnL (w.alloc o) B g n c bs := OwnR.alloc h o
theorem OwnL.grown {row : Option Nat} (h : OwnL w B g n c bs) (hg : w.grownBy w' row) (hne : row ≠ some g) : OwnL w' B g n c bs := OwnR.grown h hg (fun x hx => by injection hx with hx; injection hx with hx; rw [← hx]; exact hne)
end
theorem Own.set2 {w : World} {B g n c : Nat} {zs : List Int} (h : Own w B (some ⟨g, 0, none⟩) n c zs) (k : Nat) {z : Int} (hz : I64 z) : Own (w.setCell ⟨g, k, none⟩ (.int .i64 z)) B (some ⟨g, 0, none⟩) n c (zs.set k z) ∧ w.grownBy (w.setCell ⟨g, k, none⟩ (.int .i64 z)) (some g) := ⟨h.set_ k hz, (h.1.stored k (.int .i64 z)).2⟩
theorem Own.ne {w : World} {B : Nat} {A : Option Addr} {n c g : Nat} {zs : List Int} (h : Own w B A n c zs) (hg : g < B) : A.map (·.block) ≠ some g := box_row h.1 hg
theorem Own.grown2 {w w' : World} {B : Nat} {A : Option Addr} {n c g : Nat} {zs : List Int} (h : Own w B A n c zs) (hgr : w.grownBy w' (some g)) (hg : g < B) : Own w' B A n c zs := h.grown hgr (fun x hx hh => by
  have h1 := (h.lt x (by rw [hx]; rfl)).1
  injection hh with hh
  omega)
/-- What a search leaves: the entries and the order, in memory of its own. -/
def RetSrch (w : World) (st : St) (e : Ending) (w' : World) : Prop :=
  ∃ A c B d, e = .returned (.tuple #[.slice A st.ent.length c, .slice B st.ord.length d]) ∧ Own w' w.heap.size A st.ent.length c (encE st.ent) ∧ Own w' w.heap.size B st.ord.length d (cN st.ord) ∧ Below w.heap.size w w'
theorem own_one (w : World) (B : Nat) (v : Nat) (hv : v < 1000) (hB : B ≤ w.heap.size) : Own (w.alloc (.cells #[.int .i64 (v : Int)] 2)) B (some ⟨w.heap.size, 0, none⟩) 1 1 [(v : Int)] :=
  ⟨World.ownsRow_lit (size := 1) w #[.int .i64 (v : Int)] 1 hB (by unfold maxLen; omega) rfl, fun z hz => by rw [List.mem_singleton.1 hz]; exact WalkArith.wf_i64 (by omega)⟩
theorem fill_step {x y : Int} {n k : Nat} (hk : k < n) : (List.replicate k x ++ List.replicate (n - k) y).set k x = List.replicate (k + 1) x ++ List.replicate (n - (k + 1)) y := by
  rw [List.set_append_right _ _ (by simp)]
  have e : n - k = (n - (k + 1)) + 1 := by omega
  rw [e, List.replicate_succ, List.length_replicate, Nat.sub_self, List.replicate_succ', List.append_assoc]
  rfl
/-- The state of the reference's search in memory: entries in block g1, marks in block g2, the order behind them. -/
structure SM (w : World) (L C g1 g2 n : Nat) (A : Option Addr) (m c : Nat) (st : St) : Prop where
  ent : Own w L (some ⟨g1, 0, none⟩) n n (encE st.ent)
  seen : OwnL w L g2 n n (seenL n st.ord)
  ord : Own w C A m c (cN st.ord)
  g12 : g1 < g2
  gC : g2 < C
theorem SM.below {w w' : World} {L C g1 g2 n : Nat} {A : Option Addr} {m c : Nat} {st : St} (h : SM w L C g1 g2 n A m c st) (hb : Below w.heap.size w w') : SM w' L C g1 g2 n A m c st := ⟨h.ent.below hb, h.seen.below hb, h.ord.below hb, h.g12, h.gC⟩
set_option maxHeartbeats 4000000 in
theorem sSearch_any (A B : Option Addr) (n c m d : Nat) (s : Nat) (ns : List Nd) (ps : List Pp) (w : World) (h : IsNet w A n c ns B m d ps) (hok : NetOk ns ps) (hs : s < n) :
    Calls Try.prog 45 #[.agg #[.slice A n c, .slice B m d], .int .i64 s] w (RetSrch w (bfs (esOf ps) n s)) := by
  have hln : ns.length = n := h.nodes.len
  have hm : ps.length = m := h.pipes.len
  have hn24 : n ≤ 24 := by have := hok.2.1; omega
  have hm40 : m ≤ 40 := by have := hok.2.2.1; omega
  have hg : Good (esOf ps) n := by rw [← hln]; exact net_good hok
  have HG := Lib.hid hg
  have HM := Lib.hid hm
  have HOK := Lib.hid hok
  clear hln hm hok hg
  have hmk := fun W => run_make_row' (P := Try.prog) 27 2 (.int .i64 0) 8 Try.underlying27 info_i64 rfl .i64 .i64 n (by omega) (by omega) W
  have hmk2 := fun W => run_mk (P := Try.prog) 73 4 (.bool false) 1 1 Try.underlying73 info_bool n (by omega) (by omega) W
  have bx := box_new w #[.slice A n c, .slice B m d] 33
  have hV : Below w.heap.size w (w.alloc (.cells #[.slice A n c, .slice B m d] 33)) := (Below.refl _ _).alloc (Nat.le_refl _) _
  have hsz : (w.alloc (.cells #[.slice A n c, .slice B m d] 33)).heap.size = w.heap.size + 1 := by simp
  go_enter Try.func45, Try.ntmps45
  go_wp2_with fail
  have oE0 := own_zeros (w.alloc (.cells #[.slice A n c, .slice B m d] 33)) n (by omega)
  rw [hsz] at oE0
  have oS0 : OwnL (((w.alloc (.cells #[.slice A n c, .slice B m d] 33)).alloc (.cells (madeCells #[.int .i64 0] n) 2)).alloc (.cells (madeCells #[.bool false] n) 4)) (w.heap.size + 1) (w.heap.size + 1 + 1) n n (List.replicate n false) := by
    have h1 := own_made (enc := encBl) (k := 1) (e := 4) (z := #[.bool false]) (B := w.heap.size + 1) false rfl (by omega) rfl ((w.alloc (.cells #[.slice A n c, .slice B m d] 33)).alloc (.cells (madeCells #[.int .i64 0] n) 2)) n (by unfold maxLen; omega) (by simp)
    rw [Nat.mul_one] at h1
    have e : ((w.alloc (.cells #[.slice A n c, .slice B m d] 33)).alloc (.cells (madeCells #[.int .i64 0] n) 2)).heap.size = w.heap.size + 1 + 1 := by simp
    rw [e] at h1
    exact h1
  have oE1 := oE0.alloc (.cells (madeCells #[.bool false] n) 4)
  have bx1 := (bx.alloc (.cells (madeCells #[.int .i64 0] n) 2)).alloc (.cells (madeCells #[.bool false] n) 4)
  have hV3 : Below w.heap.size w (((w.alloc (.cells #[.slice A n c, .slice B m d] 33)).alloc (.cells (madeCells #[.int .i64 0] n) 2)).alloc (.cells (madeCells #[.bool false] n) 4)) := (hV.alloc (by simp) _).alloc (by simp; omega) _
  have hs3 : w.heap.size + 3 = (((w.alloc (.cells #[.slice A n c, .slice B m d] 33)).alloc (.cells (madeCells #[.int .i64 0] n) 2)).alloc (.cells (madeCells #[.bool false] n) 4)).heap.size := by simp
  clear oE0 bx hV hsz hmk hmk2
  generalize (((w.alloc (.cells #[.slice A n c, .slice B m d] 33)).alloc (.cells (madeCells #[.int .i64 0] n) 2)).alloc (.cells (madeCells #[.bool false] n) 4)) = W at *
  have hWs : w.heap.size + 3 ≤ W.heap.size := by omega
  clear hs3
  go_loopw [8] (fun ii wr => ∃ k : Nat, k ≤ n ∧ ii = .int .i64 k ∧ Own wr (w.heap.size + 1) (some ⟨w.heap.size + 1, 0, none⟩) n n (List.replicate k (-1) ++ List.replicate (n - k) 0) ∧ OwnL wr (w.heap.size + 1) (w.heap.size + 1 + 1) n n (List.replicate n false) ∧ Below (w.heap.size + 1) W wr) (fun ii _ => n - (intOf ii).toNat)
  case atStart => exact ⟨0, Nat.zero_le _, rfl, by simpa using oE1, oS0, Below.refl _ _⟩
  case round =>
    obtain ⟨k, hk, rfl, hE, hS, hb⟩ := hrel
    by_cases hlt : k < n
    · obtain ⟨g, z, hA, hBg, hgl, _, _, hcg, hfg⟩ := hE.at_ hlt
      obtain rfl : g = w.heap.size + 1 := by injection hA with hA; injection hA with hA; exact hA.symm
      obtain ⟨hE2, hgr⟩ := hE.set2 k (z := -1) (WalkArith.wf_i64 (by omega))
      have hS2 := hS.grown hgr (by simp)
      have HE := Lib.hid (fill_step (x := (-1 : Int)) (y := 0) hlt)
      have hb2 := hb.setCell (p := ⟨w.heap.size + 1, k, none⟩) (Nat.le_refl _) (.int .i64 (-1))
      clear hE hS hA hgr
      go_wp2_with fail
      go_roundw
      case rel => exact ⟨k + 1, by omega, by go_num, by rw [← HE.out]; exact hE2, hS2, hb2⟩
      case measure => simp [intOf]; omega
    · obtain rfl : k = n := by omega
      obtain ⟨bo, hbo, hcs, hfs, hgs⟩ := hS.at_ hs
      obtain ⟨hS2, hgr⟩ := hS.set_ hs true
      have hE2 := hE.grown hgr (fun g hg hh => by injection hg with hg; injection hg with hg; injection hh with hh; omega)
      have hsz2 : (wr.setCell ⟨w.heap.size + 1 + 1, s, none⟩ (.bool true)).heap.size = wr.heap.size := by simp [World.setCell]
      have hb2 := hb.setCell (p := ⟨w.heap.size + 1 + 1, s, none⟩) (by simp) (.bool true)
      have oO := own_one (wr.setCell ⟨w.heap.size + 1 + 1, s, none⟩ (.bool true)) wr.heap.size s (by omega) (by omega)
      rw [hsz2] at oO
      have hSM : SM ((wr.setCell ⟨w.heap.size + 1 + 1, s, none⟩ (.bool true)).alloc (.cells #[.int .i64 (s : Int)] 2)) (w.heap.size + 1) wr.heap.size (w.heap.size + 1) (w.heap.size + 1 + 1) k (some ⟨wr.heap.size, 0, none⟩) 1 1 (bfsTo (esOf ps) k s 0) := by
        refine ⟨?_, ?_, oO, by omega, by have := hb.size; omega⟩
        · have e : encE (bfsTo (esOf ps) k s 0).ent = List.replicate k (-1) ++ List.replicate (k - k) 0 := by
            show encE (List.replicate k none) = _
            rw [encE_none]; simp
          rw [e]
          exact hE2.alloc _
        · have e : seenL k (bfsTo (esOf ps) k s 0).ord = (List.replicate k false).set s true := by
            show seenL k ([] ++ [s]) = _
            rw [seenL_add]
            congr 1
            apply List.ext_getElem?
            intro i
            by_cases hi : i < k <;> simp [seenL, hi]
          rw [e]
          exact hS2.alloc _
      have hb3 := hb2.alloc (by rw [hsz2]; have := hb.size; omega) (.cells #[.int .i64 (s : Int)] 2)
      have hCW : w.heap.size + 3 ≤ wr.heap.size := by have := hb.size; omega
      clear hE hS hE2 hS2 oO hgr hbo hb hb2
      go_wp2_with fail
      generalize ((wr.setCell ⟨w.heap.size + 1 + 1, s, none⟩ (.bool true)).alloc (.cells #[.int .i64 (s : Int)] 2)) = W5 at *
      clear hcs hfs hgs hsz2
      generalize wr.heap.size = C at *
      go_loopw [9, 10] (fun ss ii wr => ∃ (q : Nat) (A9 : Option Addr) (m9 c9 : Nat), ii = .int .i64 q ∧ ss = .slice A9 m9 c9 ∧ q ≤ m9 ∧ SM wr (w.heap.size + 1) C (w.heap.size + 1) (w.heap.size + 1 + 1) k A9 m9 c9 (bfsTo (esOf ps) k s q) ∧ C ≤ wr.heap.size ∧ Below (w.heap.size + 1) W wr) (fun _ ii _ => k - (intOf ii).toNat)
      case atStart => exact ⟨0, _, 1, 1, rfl, rfl, by omega, hSM, by have := (hSM.ord.lt C rfl).2; omega, hb3⟩
      case round =>
        obtain ⟨q, A9, m9, c9, rfl, rfl, hq, hSM, hC, hb⟩ := hrel
        have hlo : (bfsTo (esOf ps) k s q).ord.length = m9 := by have := hSM.ord.len; rwa [cN_len] at this
        have HI := Lib.hid (bfsTo_inv HG.out hs q).1
        have hmk : m9 ≤ k := by rw [← hlo]; exact nodup_len HI.out.nd HI.out.lt
        have HLO := Lib.hid hlo
        clear hlo
        by_cases hlt : q < m9
        · obtain ⟨g9, z9, rfl, hCg, hg9, hz9, hz64, hc9, _⟩ := hSM.ord.at_ hlt
          obtain ⟨v, hv, rfl⟩ := cN_get hz9
          have hvk : v < k := HI.out.lt v (List.mem_of_getElem? hv)
          have HV := Lib.hid hv
          have b1 := bx1.below hb (by omega)
          have xl := b1.lt
          have x0 : wr.cell? ⟨w.heap.size, 0, none⟩ = some (.slice A k c) := b1.cell 0
          have x1 : wr.cell? ⟨w.heap.size, 1, none⟩ = some (.slice B m d) := b1.cell 1
          have kN : Kept (IsNet wr A k c ns B m d ps) := ⟨h.below (hV3.trans (hb.mono (by omega)))⟩
          have kS : Kept (SM wr (w.heap.size + 1) C (w.heap.size + 1) (w.heap.size + 1 + 1) k (some ⟨g9, 0, none⟩) m9 c9 (bfsTo (esOf ps) k s q)) := ⟨hSM⟩
          have kB : Kept (Below (w.heap.size + 1) W wr) := ⟨hb⟩
          have kU : Kept (Below wr.heap.size wr wr.drew) := ⟨(Below.refl _ _).drew⟩
          have i0 : (0 : Int) ≤ (q : Int) := by omega
          have i1 : (q : Int) < (m9 : Int) := by omega
          obtain ⟨wo, rfl⟩ : ∃ wo : World, wo = wr := ⟨_, rfl⟩
          have kS0 := Lib.hid hSM
          clear hv hz9 hSM hb b1
          go_wp2_with fail
          go_region_held3 (fun w' => w.heap.size < w'.heap.size ∧ g9 < w'.heap.size ∧ w'.cell? ⟨w.heap.size, 0, none⟩ = some (.slice A k c) ∧ w'.cell? ⟨w.heap.size, 1, none⟩ = some (.slice B m d) ∧ w'.cell? ⟨g9, q, none⟩ = some (.int .i64 (v : Int)) ∧ Kept (Below wo.heap.size wo w'))
            (first | (go_split_ands; refine ⟨by have := hba.size; omega, by have := hba.size; omega, ?_, ?_, ?_, ⟨bthen (Kept.out ‹Kept (Below wo.heap.size _ _)›) hba (Kept.out ‹Kept (Below wo.heap.size _ _)›).size⟩⟩ <;> (rw [hba.cell (by simp; omega)]; assumption)) | go_keep)
            (first | (go_at_call 53; go_split_ands; refine (sAt_any _ _ _ _ _ _ v ns ps _ (kN.out.below (Kept.out ‹Kept (Below wo.heap.size _ _)›)) HOK.out).mono ?_; rintro e wa ⟨A4, c4, rfl, o4, hba⟩; have k4 : Kept (Own wa wo.heap.size A4 (cN (inc (esOf ps) v)).length c4 (cN (inc (esOf ps) v))) := ⟨o4.mono (Kept.out ‹Kept (Below wo.heap.size _ _)›).size⟩))
          rename_i hh
          obtain ⟨_, _, _, _, _, ⟨hbA⟩⟩ := hh
          have hSMa := kS.out.below hbA
          have hba2 := bthen kB.out hbA (by omega)
          have o4 := k4.out
          have hsa := hbA.size
          have hloc : (inc (esOf ps) v).length ≤ 40 := by
            have h1 : (inc (esOf ps) v).length ≤ (esOf ps).length := Nat.le_trans (List.length_filter_le _ _) (by simp)
            rw [esOf_len, HM.out] at h1
            omega
          generalize hn4 : (cN (inc (esOf ps) v)).length = n4 at *
          have HN4 := Lib.hid (show (inc (esOf ps) v).length = n4 by rw [← hn4, cN_len])
          have hn4' : n4 ≤ 40 := by have := HN4.out; omega
          clear hn4 k4 kS kB kU kN hbA hba xl x0 x1 hc9 hg9 hloc
          go_wp2_with fail
          go_loopw [9, 12] (fun ss ii wr => ∃ (i : Nat) (A9 : Option Addr) (m9 c9 : Nat), ii = .int .i64 i ∧ ss = .slice A9 m9 c9 ∧ i ≤ n4 ∧ SM wr (w.heap.size + 1) C (w.heap.size + 1) (w.heap.size + 1 + 1) k A9 m9 c9 (vst (esOf ps) v (bfsTo (esOf ps) k s q) i) ∧ Own wr wo.heap.size A4 n4 c4 (cN (inc (esOf ps) v)) ∧ Hid (∀ g, A4.map (·.block) = some g → A9.map (·.block) ≠ some g) ∧ wo.heap.size ≤ wr.heap.size ∧ Below (w.heap.size + 1) W wr) (fun _ ii _ => n4 - (intOf ii).toNat)
          case atStart => exact ⟨0, _, m9, c9, rfl, rfl, Nat.zero_le _, hSMa, o4, (fun g hg hh => by
            have h1 := (o4.lt g hg).1
            have h2 : g9 = g := by injection hh
            have h3 := (kS0.out.ord.lt g9 rfl).2
            omega), hsa, hba2⟩
          case round =>
            obtain ⟨i, A9, m9, c9, rfl, rfl, hi, hSM, hO4, HAP, hwo, hb⟩ := hrel
            obtain ⟨hI, hvk2, hlen⟩ := vst_inv HG.out HI.out HV.out i
            have hm9 : (vst (esOf ps) v (bfsTo (esOf ps) k s q) i).ord.length = m9 := by have := hSM.ord.len; rwa [cN_len] at this
            have hq9 : q < m9 := by rw [← hm9]; exact (List.getElem?_eq_some_iff.1 hvk2).1
            have hm9k : m9 ≤ k := by omega
            by_cases hlt3 : i < n4
            · obtain ⟨g4, z4, rfl, hg4l, hg4, hz4, hz464, hc4, _⟩ := hO4.at_ hlt3
              obtain ⟨p, hp, rfl⟩ := cN_get hz4
              obtain ⟨g9, z9, rfl, hCg9, hg9, hz9, _, hc9, _⟩ := hSM.ord.at_ hq9
              obtain ⟨v', hv', rfl⟩ := cN_get hz9
              obtain rfl : v' = v := Option.some.inj (hv'.symm.trans hvk2)
              have hpin : p ∈ inc (esOf ps) v' := List.mem_of_getElem? hp
              have hok2 : oth (esOf ps) p v' < k := oth_lt HG.out (inc_mem.1 hpin).1
              have hpm : p < m := by have := (inc_mem.1 hpin).1; rw [esOf_len, HM.out] at this; exact this
              have HS := Lib.hid (vst_succ (st := bfsTo (esOf ps) k s q) hp)
              have HP := Lib.hid hpin
              have b1 := bx1.below hb (by omega)
              have xl := b1.lt
              have x0 : wr.cell? ⟨w.heap.size, 0, none⟩ = some (.slice A k c) := b1.cell 0
              have x1 : wr.cell? ⟨w.heap.size, 1, none⟩ = some (.slice B m d) := b1.cell 1
              have kN : Kept (IsNet wr A k c ns B m d ps) := ⟨h.below (hV3.trans (hb.mono (by omega)))⟩
              have kS : Kept (SM wr (w.heap.size + 1) C (w.heap.size + 1) (w.heap.size + 1 + 1) k (some ⟨g9, 0, none⟩) m9 c9 (vst (esOf ps) v' (bfsTo (esOf ps) k s q) i)) := ⟨hSM⟩
              have k4 : Kept (Own wr wo.heap.size (some ⟨g4, 0, none⟩) n4 c4 (cN (inc (esOf ps) v'))) := ⟨hO4⟩
              have kB : Kept (Below (w.heap.size + 1) W wr) := ⟨hb⟩
              have kU : Kept (Below wr.heap.size wr wr.drew) := ⟨(Below.refl _ _).drew⟩
              have HMM := Lib.hid hm9
              have HI3 := Lib.hid hI
              have i0 : (0 : Int) ≤ (q : Int) := by omega
              have i1 : (q : Int) < (m9 : Int) := by omega
              have i2 : (0 : Int) ≤ (i : Int) := by omega
              have i3 : (i : Int) < (n4 : Int) := by omega
              clear hv' hz9 hz4 hp hSM hO4 hb b1 hI hvk2 hm9 hpin
              obtain ⟨wi, rfl⟩ : ∃ wi : World, wi = wr := ⟨_, rfl⟩
              go_wp2_with fail
              go_region_held3 (fun w' => w.heap.size < w'.heap.size ∧ g9 < w'.heap.size ∧ g4 < w'.heap.size ∧ w'.cell? ⟨w.heap.size, 0, none⟩ = some (.slice A k c) ∧ w'.cell? ⟨w.heap.size, 1, none⟩ = some (.slice B m d) ∧ w'.cell? ⟨g9, q, none⟩ = some (.int .i64 (v' : Int)) ∧ w'.cell? ⟨g4, i, none⟩ = some (.int .i64 (p : Int)) ∧ Kept (Below wi.heap.size wi w'))
                (first | (go_split_ands; refine ⟨by have := hbb.size; omega, by have := hbb.size; omega, by have := hbb.size; omega, ?_, ?_, ?_, ?_, ⟨bthen (Kept.out ‹Kept (Below wi.heap.size _ _)›) hbb (Kept.out ‹Kept (Below wi.heap.size _ _)›).size⟩⟩ <;> (rw [hbb.cell (by simp; omega)]; assumption)) | go_keep)
                (first | (go_at_call 54; go_split_ands; refine (sOther_any _ _ _ _ _ _ p v' ns ps _ (kN.out.below (Kept.out ‹Kept (Below wi.heap.size _ _)›)) HOK.out HP.out).mono ?_; rintro e wb ⟨rfl, hbb⟩))
              rename_i hh
              obtain ⟨_, _, _, _, _, _, hc4b, ⟨hbB⟩⟩ := hh
              have hSM := kS.out.below hbB
              have hO4 := k4.out.below hbB
              have hb := bthen kB.out hbB (by omega)
              have hsb := hbB.size
              clear kS k4 kB kU kN hbB hbb xl x0 x1 hc9 hc4
              obtain ⟨bo, hbo, hcs, hfs, hgs⟩ := hSM.seen.at_ hok2
              rw [seenL_at _ hok2] at hbo
              by_cases hin : oth (esOf ps) p v' ∈ (vst (esOf ps) v' (bfsTo (esOf ps) k s q) i).ord
              · obtain rfl : bo = true := by rw [decide_eq_true hin] at hbo; exact (Option.some.inj hbo).symm
                have HS2 := Lib.hid (HS.out.trans (visit_old hin))
                clear hbo hin
                go_wp2_with fail
                go_roundw
                case rel => exact ⟨i + 1, _, m9, c9, by go_num, rfl, by omega, by rw [HS2.out]; exact hSM, hO4, HAP, by omega, hb⟩
                case measure => simp [intOf]; omega
              · obtain rfl : bo = false := by rw [decide_eq_false hin] at hbo; exact (Option.some.inj hbo).symm
                obtain ⟨hvo, hve⟩ := visit_new hin
                have HO := Lib.hid (show (vst (esOf ps) v' (bfsTo (esOf ps) k s q) (i + 1)).ord = (vst (esOf ps) v' (bfsTo (esOf ps) k s q) i).ord ++ [oth (esOf ps) p v'] by rw [HS.out]; exact hvo)
                have HE := Lib.hid (show (vst (esOf ps) v' (bfsTo (esOf ps) k s q) (i + 1)).ent = (vst (esOf ps) v' (bfsTo (esOf ps) k s q) i).ent.set (oth (esOf ps) p v') (some p) by rw [HS.out]; exact hve)
                have hC2 := hSM.gC
                obtain ⟨hS2, hgr1⟩ := hSM.seen.set_ hok2 true
                have hE1 := hSM.ent.grown hgr1 (fun g hg hh => by injection hg with hg; injection hg with hg; injection hh with hh; omega)
                have hOr1 := hSM.ord.grown2 hgr1 hC2
                have hO41 := hO4.grown2 hgr1 (by omega)
                have hc4c := hgr1.cell hc4b (fun hh => by injection hh with hh; simp at hh; omega)
                obtain ⟨ge, ze, hAe, _, hgel, _, _, hce, hfe⟩ := hE1.at_ hok2
                obtain rfl : ge = w.heap.size + 1 := by injection hAe with hAe; injection hAe with hAe; exact hAe.symm
                obtain ⟨hE2, hgr2⟩ := hE1.set2 (oth (esOf ps) p v') (z := (p : Int)) (WalkArith.wf_i64 (by omega))
                have hS3 := hS2.grown hgr2 (fun hh => by injection hh with hh; omega)
                have hOr2 := hOr1.grown2 hgr2 (by omega)
                have hO42 := hO41.grown2 hgr2 (by omega)
                have hb2 := (hb.setCell (p := ⟨w.heap.size + 1 + 1, oth (esOf ps) p v', none⟩) (by simp) (.bool true)).setCell (p := ⟨w.heap.size + 1, oth (esOf ps) p v', none⟩) (Nat.le_refl _) (.int .i64 (p : Int))
                have hgl2 : g4 < wb.heap.size := (hO4.lt g4 rfl).2
                have hgs1 : w.heap.size + 1 < (wb.setCell ⟨w.heap.size + 1 + 1, oth (esOf ps) p v', none⟩ (.bool true)).heap.size := hgel
                have hszd : ((wb.setCell ⟨w.heap.size + 1 + 1, oth (esOf ps) p v', none⟩ (.bool true)).setCell ⟨w.heap.size + 1, oth (esOf ps) p v', none⟩ (.int .i64 (p : Int))).heap.size = wb.heap.size := by simp [World.setCell]
                clear hbo hin hvo hve hSM hO4 hS2 hE1 hOr1 hO41 hgr1 hgr2 hAe hb
                go_wp2_with (at_builtin; refine wpList_pushA ((wb.setCell ⟨w.heap.size + 1 + 1, oth (esOf ps) p v', none⟩ (.bool true)).setCell ⟨w.heap.size + 1, oth (esOf ps) p v', none⟩ (.int .i64 (p : Int))) rfl _ _ rfl C _ _ _ _ (oth (esOf ps) p v' : Int) wb.heap.size hszd rfl rfl hOr2 (WalkArith.wf_i64 (by omega)) (by omega) (by omega) ?_; intro gn cn wn hon hbn hgn hCn hat)
                have hgl3 := hgn.size
                go_roundw
                case rel =>
                  refine ⟨i + 1, _, m9 + 1, cn, by go_num, rfl, by omega, ⟨?_, ?_, ?_, by omega, by omega⟩, ?_, ?_, by omega, ?_⟩
                  · rw [HE.out, encE_set]
                    exact hE2.grown hgn (fun g hg => by injection hg with hg; injection hg with hg; rw [← hg]; exact hOr2.ne (by omega))
                  · rw [HO.out, seenL_add]
                    exact hS3.grown hgn (hOr2.ne (by omega))
                  · rw [HO.out]
                    unfold cN
                    rw [List.map_append]
                    exact hon
                  · exact hO42.grown hgn (fun g hg => HAP.out g (by rw [hg]; rfl))
                  · intro g hg hh
                    have h1 : g4 = g := by injection hg
                    have h2 : gn = g := by injection hh
                    rcases hat with hat | hat
                    · exact HAP.out g hg (by rw [hat, h2])
                    · omega
                  · exact hb2.trans (hbn.mono (by omega))
                case measure => simp [intOf]; omega
            · obtain rfl : i = n4 := by omega
              have HF := Lib.hid (vst_full (es := esOf ps) (st := bfsTo (esOf ps) k s q) HV.out (Nat.le_of_eq HN4.out))
              have hqq : q + 1 ≤ m9 := by omega
              clear hvk2 hm9 hI
              go_wp2_with fail
              go_roundw
              case rel => exact ⟨q + 1, A9, m9, c9, by go_num, rfl, hqq, by rw [show bfsTo (esOf ps) k s (q + 1) = stepB (esOf ps) (bfsTo (esOf ps) k s q) q from rfl, ← HF.out]; exact hSM, by omega, hb⟩
              case measure => simp [intOf]; omega
        · obtain rfl : q = m9 := by omega
          have HEND := Lib.hid (bfsTo_end HG.out hs (Nat.le_of_eq HLO.out))
          have hel : (bfsTo (esOf ps) k s q).ent.length = k := HI.out.len
          have HEL := Lib.hid hel
          clear hel
          go_wp2_with fail
          go_ret2
          have hE := hSM.ent
          have hO := hSM.ord
          rw [HEND.out] at hE hO
          have e1 : (bfs (esOf ps) k s).ent.length = k := by rw [← HEND.out]; exact HEL.out
          have e2 : (bfs (esOf ps) k s).ord.length = q := by rw [← HEND.out]; exact HLO.out
          exact ⟨_, _, _, _, by rw [e1, e2]; rfl, by rw [e1]; exact hE.mono (by omega), by rw [e2]; exact hO.mono (by omega), hV3.trans (hb.mono (by omega))⟩
end Go.Proofs.Ytpgegfnhokhlmaa
set_option linter.unusedVariables false
set_option maxRecDepth 100000
namespace Go.Proofs.Ytpgegfnhokhlmaa
open Go.ChangeShapes Go.WideShapes Go.ChangeAt Go.RowKit Go.Joins Go.Deep

theorem own_zeros_at (w : World) (n B g : Nat) (hn : n ≤ 1048576) (hg : g = w.heap.size) (hB : B ≤ g) : Own (w.alloc (.cells (madeCells #[.int .i64 0] n) 2)) B (some ⟨g, 0, none⟩) n n (List.replicate n 0) := by
  subst hg
  exact (own_zeros w n hn).mono hB
theorem own_one_at (w : World) (B g : Nat) (v : Nat) (hv : v < 1000) (hg : g = w.heap.size) (hB : B ≤ g) : Own (w.alloc (.cells #[.int .i64 (v : Int)] 2)) B (some ⟨g, 0, none⟩) 1 1 [(v : Int)] := by
  subst hg
  exact own_one w B v hv hB
theorem setCell_comm (w : World) {a b : Addr} (u v : Value) (h : a.block ≠ b.block) : (w.setCell a u).setCell b v = (w.setCell b v).setCell a u := by
  unfold World.setCell
  congr 1
  apply Array.ext
  · simp
  · intro i h1 h2
    simp only [Array.getElem_modify]
    by_cases e1 : a.block = i
    · have e2 : ¬ b.block = i := fun hh => h (e1.trans hh.symm)
      simp [e1, e2]
    · by_cases e2 : b.block = i <;> simp [e1, e2]
/-- The first state of a search in memory: its parts lie in blocks of their own. -/
structure S0 (W : World) (G n s g a b e : Nat) : Prop where
  box : Box W g #[.slice (some ⟨a, 0, none⟩) 1 1, .slice (some ⟨b, 0, none⟩) n n, .slice (some ⟨e, 0, none⟩) n n] 66
  ord : Own W (G + 2) (some ⟨a, 0, none⟩) 1 1 [(s : Int)]
  dst : Own W (G + 2) (some ⟨b, 0, none⟩) n n (List.replicate n 0)
  ent : Own W (G + 2) (some ⟨e, 0, none⟩) n n (List.replicate n 0)
  ab : a ≠ b
  be : b ≠ e
  ae : a ≠ e
  ga : g ≠ a
  gb : g ≠ b
  ge : g ≠ e
  gl : G + 2 ≤ g
theorem s0_of {V W : World} {G n s g a b e : Nat} (hb : Box W g #[.slice (some ⟨a, 0, none⟩) 1 1, .slice (some ⟨b, 0, none⟩) n n, .slice (some ⟨e, 0, none⟩) n n] 66) (h1 : Own W (G + 2) (some ⟨a, 0, none⟩) 1 1 [(s : Int)]) (h2 : Own W (G + 2) (some ⟨b, 0, none⟩) n n (List.replicate n 0)) (h3 : Own W (G + 2) (some ⟨e, 0, none⟩) n n (List.replicate n 0))
    (h4 : (a ≠ b ∧ b ≠ e ∧ a ≠ e) ∧ g ≠ a ∧ g ≠ b ∧ g ≠ e ∧ G + 2 ≤ g) (h5 : Below V.heap.size V W) : ∃ g' a b e : Nat, Value.pointer (some ⟨g, 0, none⟩) = .pointer (some ⟨g', 0, none⟩) ∧ S0 W G n s g' a b e ∧ Below V.heap.size V W :=
  ⟨g, a, b, e, rfl, ⟨hb, h1, h2, h3, h4.1.1, h4.1.2.1, h4.1.2.2, h4.2.1, h4.2.2.1, h4.2.2.2.1, h4.2.2.2.2⟩, h5⟩
/-- Distances: negative exactly where the search has not been. -/
def DS (n : Nat) (ord : List Nat) (ds : List Int) : Prop := ∀ v, v < n → ∃ z, ds[v]? = some z ∧ (z < 0 ↔ v ∉ ord) ∧ -1 ≤ z ∧ z ≤ ord.length
theorem ds_start {n s : Nat} (hs : s < n) : DS n [s] ((List.replicate n (-1)).set s 0) := by
  intro v hv
  by_cases e : s = v
  · subst e
    exact ⟨0, by rw [List.getElem?_set_self (by simpa using hv)], by simp, by omega, by simp⟩
  · refine ⟨-1, by rw [List.getElem?_set_ne e]; simp [hv], ?_, by omega, by simp⟩
    have e' : ¬ v = s := fun h => e h.symm
    simp [e']
theorem ds_step {n v o : Nat} {ord : List Nat} {ds : List Int} {x : Int} (h : DS n ord ds) (hl : ds.length = n) (hx : ds[v]? = some x) (hv : v ∈ ord) (hvn : v < n) (ho : o ∉ ord) (hon : o < n) : DS n (ord ++ [o]) (ds.set o (x + 1)) := by
  obtain ⟨z, hz, h1, h2, h3⟩ := h v hvn
  obtain rfl : x = z := Option.some.inj (hx.symm.trans hz)
  have hx0 : 0 ≤ x := by
    rcases Int.lt_or_le x 0 with hh | hh
    · exact absurd hv (h1.1 hh)
    · exact hh
  intro y hy
  by_cases e : o = y
  · subst e
    exact ⟨x + 1, by rw [List.getElem?_set_self (by omega)], ⟨fun hh => by omega, fun hh => absurd (List.mem_append_right _ List.mem_cons_self) hh⟩, by omega, by rw [List.length_append]; simp; omega⟩
  · obtain ⟨z, hz, g1, g2, g3⟩ := h y hy
    have e' : ¬ y = o := fun h => e h.symm
    refine ⟨z, by rw [List.getElem?_set_ne e]; exact hz, ?_, g2, by rw [List.length_append]; simp; omega⟩
    rw [g1]
    simp [e']
/-- The state of the program's search in memory. -/
structure SI (w : World) (G n g b e : Nat) (A : Option Addr) (m c : Nat) (st : St) : Prop where
  box : Box w g #[.slice A m c, .slice (some ⟨b, 0, none⟩) n n, .slice (some ⟨e, 0, none⟩) n n] 66
  ord : Own w (G + 2) A m c (cN st.ord)
  dst : ∃ ds, Own w (G + 2) (some ⟨b, 0, none⟩) n n ds ∧ DS n st.ord ds
  ent : Own w (G + 2) (some ⟨e, 0, none⟩) n n (encE st.ent)
  Ab : A.map (·.block) ≠ some b
  Ae : A.map (·.block) ≠ some e
  Ag : A.map (·.block) ≠ some g
theorem SI.below {w w' : World} {G n g b e : Nat} {A : Option Addr} {m c : Nat} {st : St} (h : SI w G n g b e A m c st) (hb : Below w.heap.size w w') : SI w' G n g b e A m c st := by
  obtain ⟨ds, h1, h2⟩ := h.dst
  exact ⟨h.box.belowA hb, h.ord.below hb, ⟨ds, h1.below hb, h2⟩, h.ent.below hb, h.Ab, h.Ae, h.Ag⟩
theorem grownSet (w : World) (g o : Nat) (u : Value) : w.grownBy (w.setCell ⟨g, o, none⟩ u) (some g) :=
  ⟨rfl, rfl, rfl, by simp [World.setCell], fun k _ hk => Below.heap_setCell w ⟨g, o, none⟩ u k (fun e => hk (by rw [e]))⟩
theorem Own.lo_ {w : World} {B : Nat} {A : Option Addr} {n c : Nat} {zs : List Int} (h : Own w B A n c zs) {a : Addr} (ha : a.block < B) (u : Value) : Own (w.setCell a u) B A n c zs := ⟨ownsRow_setCell_below h.1 ha u, h.2⟩
theorem SI.cells {w : World} {G n g b e : Nat} {A : Option Addr} {m c : Nat} {st : St} (h : SI w G n g b e A m c st) {o v : Nat} (ho : o < n) (hv : v < n) :
    ∃ zo zv ze : Int, (zo < 0 ↔ o ∉ st.ord) ∧ (-1 ≤ zv ∧ zv ≤ st.ord.length) ∧ w.cell? ⟨g, 0, none⟩ = some (.slice A m c) ∧ w.cell? ⟨g, 1, none⟩ = some (.slice (some ⟨b, 0, none⟩) n n) ∧ w.cell? ⟨g, 2, none⟩ = some (.slice (some ⟨e, 0, none⟩) n n) ∧
      w.cell? ⟨b, o, none⟩ = some (.int .i64 zo) ∧ w.frozen? ⟨b, o, none⟩ = false ∧ w.cell? ⟨b, v, none⟩ = some (.int .i64 zv) ∧ w.cell? ⟨e, o, none⟩ = some (.int .i64 ze) ∧ w.frozen? ⟨e, o, none⟩ = false ∧ w.frozen? ⟨g, 0, none⟩ = false ∧ g < w.heap.size ∧ b < w.heap.size ∧ e < w.heap.size := by
  obtain ⟨ds, hd, hds⟩ := h.dst
  obtain ⟨zo, hzo, hzi, _, _⟩ := hds _ ho
  obtain ⟨zv, hzv, _, hz1, hz2⟩ := hds _ hv
  obtain ⟨_, zo', hA1, _, hl1, hzo', _, hc1, hf1⟩ := hd.at_ ho
  obtain rfl : zo' = zo := Option.some.inj (hzo'.symm.trans hzo)
  obtain ⟨_, zv', hA2, _, _, hzv', _, hc2, _⟩ := hd.at_ hv
  obtain rfl : zv' = zv := Option.some.inj (hzv'.symm.trans hzv)
  obtain ⟨_, ze, hA3, _, hl3, _, _, hc3, hf3⟩ := h.ent.at_ ho
  injection hA1 with hA1; injection hA1 with hA1
  injection hA2 with hA2; injection hA2 with hA2
  injection hA3 with hA3; injection hA3 with hA3
  subst hA1 hA2 hA3
  exact ⟨_, _, _, hzi, ⟨hz1, hz2⟩, h.box.cell 0, h.box.cell 1, h.box.cell 2, hc1, hf1, hc2, hc3, hf3, h.box.free 0, h.box.lt, hl1, hl3⟩
/-- The two stores of a new node: its distance, its entry. -/
theorem SI.stores {w : World} {G n g b e : Nat} {A : Option Addr} {m c : Nat} {st : St} (h : SI w G n g b e A m c st) {o v p : Nat} {zv : Int} (hn : n ≤ 24) (ho : o < n) (hv : v < n) (hvo : v ∈ st.ord) (hoo : o ∉ st.ord) (hp : p < 1000) (hm : m ≤ n) (hcv : w.cell? ⟨b, v, none⟩ = some (.int .i64 zv)) (hgl : G + 2 ≤ g) (hge : g ≠ e) (hgb : g ≠ b) (hbe : b ≠ e) :
    Box ((w.setCell ⟨b, o, none⟩ (.int .i64 (zv + 1))).setCell ⟨e, o, none⟩ (.int .i64 (p : Int))) g #[.slice A m c, .slice (some ⟨b, 0, none⟩) n n, .slice (some ⟨e, 0, none⟩) n n] 66 ∧
    Own ((w.setCell ⟨b, o, none⟩ (.int .i64 (zv + 1))).setCell ⟨e, o, none⟩ (.int .i64 (p : Int))) (G + 2) A m c (cN st.ord) ∧
    (∃ ds, Own ((w.setCell ⟨b, o, none⟩ (.int .i64 (zv + 1))).setCell ⟨e, o, none⟩ (.int .i64 (p : Int))) (G + 2) (some ⟨b, 0, none⟩) n n ds ∧ DS n (st.ord ++ [o]) ds) ∧
    Own ((w.setCell ⟨b, o, none⟩ (.int .i64 (zv + 1))).setCell ⟨e, o, none⟩ (.int .i64 (p : Int))) (G + 2) (some ⟨e, 0, none⟩) n n (encE (st.ent.set o (some p))) ∧ (G + 2 ≤ b ∧ G + 2 ≤ e) := by
  obtain ⟨ds, hd, hds⟩ := h.dst
  obtain ⟨_, zv', hA2, hb2, _, hzv', _, hc2, _⟩ := hd.at_ hv
  obtain rfl := (by injection hA2 with hA2; injection hA2 : b = _)
  obtain rfl : zv = zv' := by rw [hcv] at hc2; injection hc2 with hc2; injection hc2
  obtain ⟨zv2, hz2, _, hlo, hhi⟩ := hds _ hv
  obtain rfl : zv2 = zv := Option.some.inj (hz2.symm.trans hzv')
  have hol : st.ord.length = m := by have := h.ord.len; rwa [cN_len] at this
  obtain ⟨_, _, hA3, he2, _⟩ := h.ent.at_ ho
  obtain rfl := (by injection hA3 with hA3; injection hA3 : e = _)
  obtain ⟨hD2, hgr1⟩ := hd.set2 o (z := zv2 + 1) (WalkArith.wf_i64 (by omega))
  have hE1 := h.ent.grown hgr1 (fun x hx hh => by injection hx with hx; injection hx with hx; injection hh with hh; omega)
  have hO1 := h.ord.grown hgr1 (fun x hx hh => h.Ab (by rw [hx]; exact hh.symm ▸ rfl))
  have hB1 := h.box.grown hgr1 (fun hh => by injection hh with hh; omega)
  obtain ⟨hE2, hgr2⟩ := hE1.set2 o (z := (p : Int)) (WalkArith.wf_i64 (by omega))
  have hD3 := hD2.grown hgr2 (fun x hx hh => by injection hx with hx; injection hx with hx; injection hh with hh; omega)
  have hO2 := hO1.grown hgr2 (fun x hx hh => h.Ae (by rw [hx]; exact hh.symm ▸ rfl))
  have hB2 := hB1.grown hgr2 (fun hh => by injection hh with hh; omega)
  refine ⟨hB2, hO2, ⟨_, hD3, ds_step hds hd.len hzv' hvo hv hoo ho⟩, ?_, hb2, he2⟩
  rw [encE_set]
  exact hE2
/-- A call returns the search's struct: order, distances, entries. -/
def RetS (w : World) (st : St) (e : Ending) (w' : World) : Prop :=
  ∃ A c b e' ds, e = .returned (.agg #[.slice A st.ord.length c, .slice (some ⟨b, 0, none⟩) st.ent.length st.ent.length, .slice (some ⟨e', 0, none⟩) st.ent.length st.ent.length]) ∧ Own w' w.heap.size A st.ord.length c (cN st.ord) ∧ Own w' w.heap.size (some ⟨b, 0, none⟩) st.ent.length st.ent.length ds ∧ DS st.ent.length st.ord ds ∧ Own w' w.heap.size (some ⟨e', 0, none⟩) st.ent.length st.ent.length (encE st.ent) ∧ Below w.heap.size w w'
set_option maxHeartbeats 8000000 in
theorem search_any (A B : Option Addr) (n c m d : Nat) (s : Nat) (ns : List Nd) (ps : List Pp) (w : World) (h : IsNet w A n c ns B m d ps) (hok : NetOk ns ps) (hs : s < n) :
    Calls Try.prog 37 #[.agg #[.slice A n c, .slice B m d], .int .i64 s] w (RetS w (bfs (esOf ps) n s)) := by
  have hln : ns.length = n := h.nodes.len
  have hm : ps.length = m := h.pipes.len
  have hn24 : n ≤ 24 := by have := hok.2.1; omega
  have hm40 : m ≤ 40 := by have := hok.2.2.1; omega
  have hg : Good (esOf ps) n := by rw [← hln]; exact net_good hok
  have HG := Lib.hid hg
  have HM := Lib.hid hm
  have HOK := Lib.hid hok
  clear hln hm hok hg
  have hmk := fun W => run_make_row' (P := Try.prog) 27 2 (.int .i64 0) 8 Try.underlying27 info_i64 rfl .i64 .i64 n (by omega) (by omega) W
  go_enter Try.func37, Try.ntmps37
  go_upto_region 1 with fail
  have bx := (box_new w #[.slice A n c, .slice B m d] 33).alloc (.cells #[.slice none 0 0, .slice none 0 0, .slice none 0 0] 66)
  have by1 := box_at (w.alloc (.cells #[.slice A n c, .slice B m d] 33)) #[.slice none 0 0, .slice none 0 0, .slice none 0 0] 66 (g := w.heap.size + 1) (by simp)
  have hV : Below w.heap.size w ((w.alloc (.cells #[.slice A n c, .slice B m d] 33)).alloc (.cells #[.slice none 0 0, .slice none 0 0, .slice none 0 0] 66)) := ((Below.refl _ _).alloc (Nat.le_refl _) _).alloc (by simp) _
  have hsz : ((w.alloc (.cells #[.slice A n c, .slice B m d] 33)).alloc (.cells #[.slice none 0 0, .slice none 0 0, .slice none 0 0] 66)).heap.size = w.heap.size + 2 := by simp
  generalize ((w.alloc (.cells #[.slice A n c, .slice B m d] 33)).alloc (.cells #[.slice none 0 0, .slice none 0 0, .slice none 0 0] 66)) = V at *
  have x0 : V.cell? ⟨w.heap.size, 0, none⟩ = some (.slice A n c) := bx.cell 0
  have xl := bx.lt
  have hsz' : V.heap.size = w.heap.size + 2 := hsz
  go_cut [5] (fun s5 wx => ∃ g a b e : Nat, s5 = .pointer (some ⟨g, 0, none⟩) ∧ S0 wx w.heap.size n s g a b e ∧ Below V.heap.size V wx)
  case first =>
    go_region
    all_goals (go_wp2_with fail; go_meet)
    all_goals
      apply s0_of
      · refine Box.drew ?_
        repeat (first | (refine box_at _ _ _ ?_ <;> (simp [hsz']; done)) | refine Box.alloc ?_ _)
      · refine Own.drew ?_
        repeat (first | (refine own_one_at _ _ _ _ ?_ ?_ ?_ <;> (first | omega | (simp [hsz']; done))) | refine Own.alloc ?_ _)
      · refine Own.drew ?_
        repeat (first | (refine own_zeros_at _ _ _ _ ?_ ?_ ?_ <;> (first | omega | (simp [hsz']; done))) | refine Own.alloc ?_ _)
      · refine Own.drew ?_
        repeat (first | (refine own_zeros_at _ _ _ _ ?_ ?_ ?_ <;> (first | omega | (simp [hsz']; done))) | refine Own.alloc ?_ _)
      · omega
      · refine Below.drew ?_
        repeat (first | exact Below.refl _ _ | refine Below.alloc ?_ (by simp <;> omega) _)
  case rest =>
    obtain ⟨g, a, b, e, rfl, hS0, hbc⟩ := hcut
    obtain ⟨hbx, hO, hD, hE, hab, hbe, hae, hga, hgb, hge, hgl⟩ := hS0
    have bxc := bx.belowA hbc
    have byc := by1.belowA hbc
    have x0 : wc.cell? ⟨w.heap.size, 0, none⟩ = some (.slice A n c) := bxc.cell 0
    have x1 : wc.cell? ⟨w.heap.size, 1, none⟩ = some (.slice B m d) := bxc.cell 1
    have xl := bxc.lt
    have hVc : Below w.heap.size w wc := bthen hV hbc hV.size
    have hgl2 := hbx.lt
    clear hsz hmk bx by1 hbc
    go_wp2_with fail
    go_loopw [26] (fun ii wr => ∃ k : Nat, k ≤ n ∧ ii = .int .i64 k ∧ Box wr g #[.slice (some ⟨a, 0, none⟩) 1 1, .slice (some ⟨b, 0, none⟩) n n, .slice (some ⟨e, 0, none⟩) n n] 66 ∧ Own wr (w.heap.size + 2) (some ⟨a, 0, none⟩) 1 1 [(s : Int)] ∧ Own wr (w.heap.size + 2) (some ⟨b, 0, none⟩) n n (List.replicate k (-1) ++ List.replicate (n - k) 0) ∧ Own wr (w.heap.size + 2) (some ⟨e, 0, none⟩) n n (List.replicate k (-1) ++ List.replicate (n - k) 0) ∧ Below (w.heap.size + 2) wc wr) (fun ii _ => n - (intOf ii).toNat)
    case atStart => exact ⟨0, Nat.zero_le _, rfl, hbx, hO, by simpa using hD, by simpa using hE, Below.refl _ _⟩
    case round =>
      obtain ⟨k, hk, rfl, hbx, hO, hD, hE, hb⟩ := hrel
      have hgl3 := hbx.lt
      have y1 : wr.cell? ⟨g, 1, none⟩ = some (.slice (some ⟨b, 0, none⟩) n n) := hbx.cell 1
      have y2 : wr.cell? ⟨g, 2, none⟩ = some (.slice (some ⟨e, 0, none⟩) n n) := hbx.cell 2
      by_cases hlt : k < n
      · obtain ⟨_, _, hA1, hb2, hbl, _, _, hcb, hfb⟩ := hD.at_ hlt
        obtain rfl := (by injection hA1 with hA1; injection hA1 : b = _)
        obtain ⟨_, _, hA2, he2, hel, _, _, hce, hfe⟩ := hE.at_ hlt
        obtain rfl := (by injection hA2 with hA2; injection hA2 : e = _)
        obtain ⟨hD2, hgr1⟩ := hD.set2 k (z := -1) (WalkArith.wf_i64 (by omega))
        have hE1 := hE.grown hgr1 (fun x hx hh => by injection hx with hx; injection hx with hx; injection hh with hh; omega)
        have hO1 := hO.grown hgr1 (fun x hx hh => by injection hx with hx; injection hx with hx; injection hh with hh; omega)
        have hB1 := hbx.grown hgr1 (fun hh => by injection hh with hh; omega)
        obtain ⟨hE2, hgr2⟩ := hE1.set2 k (z := -1) (WalkArith.wf_i64 (by omega))
        have hD3 := hD2.grown hgr2 (fun x hx hh => by injection hx with hx; injection hx with hx; injection hh with hh; omega)
        have hO2 := hO1.grown hgr2 (fun x hx hh => by injection hx with hx; injection hx with hx; injection hh with hh; omega)
        have hB2 := hB1.grown hgr2 (fun hh => by injection hh with hh; omega)
        have HF := Lib.hid (fill_step (x := (-1 : Int)) (y := 0) hlt)
        have hb3 := (hb.setCell (p := ⟨b, k, none⟩) hb2 (.int .i64 (-1))).setCell (p := ⟨e, k, none⟩) he2 (.int .i64 (-1))
        have hcm : ∀ x : World, (x.setCell ⟨b, k, none⟩ (.int .i64 (-1))).setCell ⟨e, k, none⟩ (.int .i64 (-1)) = (x.setCell ⟨e, k, none⟩ (.int .i64 (-1))).setCell ⟨b, k, none⟩ (.int .i64 (-1)) := fun x => setCell_comm x _ _ hbe
        have HCM := Lib.hid hcm
        have i1 : (k : Int) < (n : Int) := by omega
        have i2 : (0 : Int) ≤ (k : Int) := by omega
        clear hA1 hA2 hD hE hO hbx hD2 hE1 hO1 hB1 hgr1 hgr2 hb hcm
        go_wp2_with fail
        go_region
        all_goals
          try rw [← HCM.out]
          go_wp2_with fail
          go_roundw
          case rel => exact ⟨k + 1, by omega, by go_num, hB2.drew, hO2.drew, by rw [← HF.out]; exact hD3.drew, by rw [← HF.out]; exact hE2.drew, hb3.drew⟩
          case measure => simp [intOf]; omega
      · obtain rfl : k = n := by omega
        obtain ⟨_, _, hA1, hb2, hbl, _, _, hcb, hfb⟩ := hD.at_ hs
        obtain rfl := (by injection hA1 with hA1; injection hA1 : b = _)
        obtain ⟨hD2, hgr1⟩ := hD.set2 s (z := 0) (WalkArith.wf_i64 (by omega))
        have hE1 := hE.grown hgr1 (fun x hx hh => by injection hx with hx; injection hx with hx; injection hh with hh; omega)
        have hO1 := hO.grown hgr1 (fun x hx hh => by injection hx with hx; injection hx with hx; injection hh with hh; omega)
        have hB1 := hbx.grown hgr1 (fun hh => by injection hh with hh; omega)
        have hb3 := hb.setCell (p := ⟨b, s, none⟩) hb2 (.int .i64 0)
        have hSI : SI (wr.setCell ⟨b, s, none⟩ (.int .i64 0)) w.heap.size k g b e (some ⟨a, 0, none⟩) 1 1 (bfsTo (esOf ps) k s 0) := by
          refine ⟨hB1, hO1, ⟨_, hD2, ?_⟩, ?_, ?_, ?_, ?_⟩
          · have e1 : List.replicate k (-1 : Int) ++ List.replicate (k - k) 0 = List.replicate k (-1) := by simp
            rw [e1]
            exact ds_start hs
          · have e1 : encE (bfsTo (esOf ps) k s 0).ent = List.replicate k (-1) ++ List.replicate (k - k) 0 := by
              show encE (List.replicate k none) = _
              rw [encE_none]; simp
            rw [e1]
            exact hE1
          · intro hh; injection hh with hh; exact hab hh
          · intro hh; injection hh with hh; exact hae hh
          · intro hh; injection hh with hh; exact hga hh.symm
        have i1 : (s : Int) < (k : Int) := by omega
        have i2 : (0 : Int) ≤ (s : Int) := by omega
        clear hA1 hD hE hO hbx hD2 hE1 hO1 hB1 hgr1 hb
        go_wp2_with fail
        generalize (wr.setCell ⟨b, s, none⟩ (.int .i64 0)) = W5 at *
        clear y1 y2 hcb hfb hbl hgl3
        go_loopw [7] (fun ii wr => ∃ (q : Nat) (A9 : Option Addr) (m9 c9 : Nat), ii = .int .i64 q ∧ q ≤ m9 ∧ SI wr w.heap.size k g b e A9 m9 c9 (bfsTo (esOf ps) k s q) ∧ Below (w.heap.size + 2) wc wr) (fun ii _ => k - (intOf ii).toNat)
        case atStart => exact ⟨0, _, 1, 1, rfl, by omega, hSI, hb3⟩
        case round =>
          obtain ⟨q, A9, m9, c9, rfl, hq, hSM, hb⟩ := hrel
          have hlo : (bfsTo (esOf ps) k s q).ord.length = m9 := by have := hSM.ord.len; rwa [cN_len] at this
          have HI := Lib.hid (bfsTo_inv HG.out hs q).1
          have hmk : m9 ≤ k := by rw [← hlo]; exact nodup_len HI.out.nd HI.out.lt
          have HLO := Lib.hid hlo
          clear hlo
          have hgl3 := hSM.box.lt
          have y0 : wr.cell? ⟨g, 0, none⟩ = some (.slice A9 m9 c9) := hSM.box.cell 0
          by_cases hlt : q < m9
          · obtain ⟨g9, z9, rfl, hCg, hg9, hz9, hz64, hc9, _⟩ := hSM.ord.at_ hlt
            obtain ⟨v, hv, rfl⟩ := cN_get hz9
            have hvk : v < k := HI.out.lt v (List.mem_of_getElem? hv)
            have HV := Lib.hid hv
            have b1 := bxc.below hb (by omega)
            have xl := b1.lt
            have x0 : wr.cell? ⟨w.heap.size, 0, none⟩ = some (.slice A k c) := b1.cell 0
            have x1 : wr.cell? ⟨w.heap.size, 1, none⟩ = some (.slice B m d) := b1.cell 1
            have kN : Kept (IsNet wr A k c ns B m d ps) := ⟨h.below (hVc.trans (hb.mono (by omega)))⟩
            have kS : Kept (SI wr w.heap.size k g b e (some ⟨g9, 0, none⟩) m9 c9 (bfsTo (esOf ps) k s q)) := ⟨hSM⟩
            have kB : Kept (Below (w.heap.size + 2) wc wr) := ⟨hb⟩
            have hsb := hb.size
            obtain ⟨wo, rfl⟩ : ∃ wo : World, wo = wr := ⟨_, rfl⟩
            clear hv hz9 hSM hb b1
            go_wp2_with (go_at_call 49; refine (pipesAt_any _ _ _ _ _ _ v ns ps _ kN.out HOK.out).mono ?_; rintro e4 wa ⟨A4, c4, rfl, o4, hba⟩)
            have hSMa := kS.out.below hba
            have hba2 := bthen kB.out hba (by omega)
            have hsa := hba.size
            have hloc : (inc (esOf ps) v).length ≤ 40 := by
              have h1 : (inc (esOf ps) v).length ≤ (esOf ps).length := Nat.le_trans (List.length_filter_le _ _) (by simp)
              rw [esOf_len, HM.out] at h1
              omega
            generalize hn4 : (cN (inc (esOf ps) v)).length = n4 at *
            have HN4 := Lib.hid (show (inc (esOf ps) v).length = n4 by rw [← hn4, cN_len])
            have hn4' : n4 ≤ 40 := by have := HN4.out; omega
            have hbl4 : b < wo.heap.size := by
              obtain ⟨ds, hd, _⟩ := kS.out.dst
              exact (hd.lt b rfl).2
            have hel4 : e < wo.heap.size := (kS.out.ent.lt e rfl).2
            clear hn4 kB kN hba xl x0 x1 hc9 hloc y0
            go_loopw [58] (fun ii wr => ∃ (i : Nat) (A9 : Option Addr) (m9 c9 : Nat), ii = .int .i64 i ∧ i ≤ n4 ∧ SI wr w.heap.size k g b e A9 m9 c9 (vst (esOf ps) v (bfsTo (esOf ps) k s q) i) ∧ Own wr wo.heap.size A4 n4 c4 (cN (inc (esOf ps) v)) ∧ Hid (∀ g, A4.map (·.block) = some g → A9.map (·.block) ≠ some g) ∧ wo.heap.size ≤ wr.heap.size ∧ Below (w.heap.size + 2) wc wr) (fun ii _ => n4 - (intOf ii).toNat)
            case atStart => exact ⟨0, _, m9, c9, rfl, Nat.zero_le _, hSMa, o4, (fun g hg hh => by
              have h1 := (o4.lt g hg).1
              have h2 : g9 = g := by injection hh
              omega), hsa, hba2⟩
            case round =>
              obtain ⟨i, A9, m9, c9, rfl, hi, hSM, hO4, HAP, hwo, hb⟩ := hrel
              obtain ⟨hI, hvk2, hlen⟩ := vst_inv HG.out HI.out HV.out i
              have hm9 : (vst (esOf ps) v (bfsTo (esOf ps) k s q) i).ord.length = m9 := by have := hSM.ord.len; rwa [cN_len] at this
              have hq9 : q < m9 := by rw [← hm9]; exact (List.getElem?_eq_some_iff.1 hvk2).1
              have hm9k : m9 ≤ k := by omega
              have hgl5 := hSM.box.lt
              by_cases hlt3 : i < n4
              · obtain ⟨g4, z4, rfl, hg4l, hg4, hz4, hz464, hc4, _⟩ := hO4.at_ hlt3
                obtain ⟨p, hp, rfl⟩ := cN_get hz4
                have hpin : p ∈ inc (esOf ps) v := List.mem_of_getElem? hp
                have hok2 : oth (esOf ps) p v < k := oth_lt HG.out (inc_mem.1 hpin).1
                have hpm : p < m := by have := (inc_mem.1 hpin).1; rw [esOf_len, HM.out] at this; exact this
                have HS := Lib.hid (vst_succ (st := bfsTo (esOf ps) k s q) hp)
                have b1 := bxc.below hb (by omega)
                have xl := b1.lt
                have x1 : wr.cell? ⟨w.heap.size, 1, none⟩ = some (.slice B m d) := b1.cell 1
                obtain ⟨bp, op, pp, rfl, hpbl, hpp, hpk, q0, q1, q2, q3, q4⟩ := (h.below (hVc.trans (hb.mono (by omega)))).pipes.at_ hpm
                obtain ⟨e1, e2, _⟩ := pipe_ok HOK.out hpp
                rw [e1] at q0
                rw [e2] at q1
                have hvd : v ∈ (vst (esOf ps) v (bfsTo (esOf ps) k s q) i).ord := List.mem_of_getElem? hvk2
                have i0 : (0 : Int) ≤ (p : Int) := by omega
                have i1 : (p : Int) < (m : Int) := by omega
                have i2 : (0 : Int) ≤ (i : Int) := by omega
                have i3 : (i : Int) < (n4 : Int) := by omega
                have i4 : (0 : Int) ≤ (oth (esOf ps) p v : Int) := by omega
                have i5 : (oth (esOf ps) p v : Int) < (k : Int) := by omega
                have i6 : (0 : Int) ≤ (v : Int) := by omega
                have i7 : (v : Int) < (k : Int) := by omega
                clear hpp e1 e2 hp hz4 hpin
                by_cases hin : oth (esOf ps) p v ∈ (vst (esOf ps) v (bfsTo (esOf ps) k s q) i).ord
                · have HS2 := Lib.hid (HS.out.trans (visit_old hin))
                  have kS : Kept (SI wr w.heap.size k g b e A9 m9 c9 (vst (esOf ps) v (bfsTo (esOf ps) k s q) i)) := ⟨hSM⟩
                  have kB : Kept (Below (w.heap.size + 2) wc wr) := ⟨hb⟩
                  have k4 : Kept (Own wr wo.heap.size (some ⟨g4, 0, none⟩) n4 c4 (cN (inc (esOf ps) v))) := ⟨hO4⟩
                  obtain ⟨ds, hd, hds⟩ := hSM.dst
                  obtain ⟨zd, hzd, hzi, _, _⟩ := hds _ hok2
                  have hzn : ¬ zd < 0 := fun hh => (hzi.1 hh) hin
                  obtain ⟨_, zd', hAd, _, hdl, hzd', _, hcd, _⟩ := hd.at_ hok2
                  obtain rfl : zd' = zd := Option.some.inj (hzd'.symm.trans hzd)
                  obtain rfl := (by injection hAd with hAd; injection hAd : b = _)
                  have y1 : wr.cell? ⟨g, 1, none⟩ = some (.slice (some ⟨b, 0, none⟩) k k) := hSM.box.cell 1
                  have zt : decide (zd' < 0) = false := by simpa using hzn
                  clear hin hzi hzd hzd' hAd hds hSM hO4 hb b1 hvd hzn
                  go_wp2_with (go_at_call 50; refine (otherEnd_any p v (esOf ps) _ _ _ _).mono ?_; rintro e5 wb ⟨rfl, hbb⟩; have y1b := (hbb.cell (p := ⟨g, 1, none⟩) (by simp; omega)).trans y1; have hcdb := (hbb.cell (p := ⟨b, oth (esOf ps) p v, none⟩) (by simp; omega)).trans hcd)
                  go_roundw
                  case rel => exact ⟨i + 1, A9, m9, c9, by go_num, by omega, by rw [HS2.out]; exact kS.out.below hbb, k4.out.below hbb, HAP, by have := hbb.size; omega, bthen kB.out hbb (by omega)⟩
                  case measure => simp [intOf]; omega
                · obtain ⟨hvo, hve⟩ := visit_new hin
                  have HO := Lib.hid (show (vst (esOf ps) v (bfsTo (esOf ps) k s q) (i + 1)).ord = (vst (esOf ps) v (bfsTo (esOf ps) k s q) i).ord ++ [oth (esOf ps) p v] by rw [HS.out]; exact hvo)
                  have HE := Lib.hid (show (vst (esOf ps) v (bfsTo (esOf ps) k s q) (i + 1)).ent = (vst (esOf ps) v (bfsTo (esOf ps) k s q) i).ent.set (oth (esOf ps) p v) (some p) by rw [HS.out]; exact hve)
                  have kS : Kept (SI wr w.heap.size k g b e A9 m9 c9 (vst (esOf ps) v (bfsTo (esOf ps) k s q) i)) := ⟨hSM⟩
                  have kB : Kept (Below (w.heap.size + 2) wc wr) := ⟨hb⟩
                  have k4 : Kept (Own wr wo.heap.size (some ⟨g4, 0, none⟩) n4 c4 (cN (inc (esOf ps) v))) := ⟨hO4⟩
                  have HIN := Lib.hid hin
                  have HVD := Lib.hid hvd
                  have HM9 := Lib.hid hm9
                  have HVK := Lib.hid hvk2
                  have HII := Lib.hid hI
                  clear hSM hO4 hb b1 hvd hin hvo hve hm9 hvk2 hI
                  go_upto_region 16 with (go_at_call 50; refine (otherEnd_any p v (esOf ps) _ _ _ _).mono ?_; rintro e5 wb ⟨rfl, hbb⟩)
                  have hSb := kS.out.below hbb
                  have hO4b := k4.out.below hbb
                  have hBb := bthen kB.out hbb (by omega)
                  have hsb2 := hbb.size
                  obtain ⟨zo, zv, ze, hzo, hzv, y0, y1, y2, hco, hfo, hcv, hce, hfe, hfg, hgw, hbw, hew⟩ := hSb.cells hok2 hvk
                  have hzo' := hzo.2 HIN.out
                  have hzn : zv ≤ 24 := by omega
                  obtain ⟨hB6, hO6, ⟨ds6, hD6, hds6⟩, hE6, hGb, hGe⟩ := hSb.stores (p := p) hn24 hok2 hvk HVD.out HIN.out (by omega) hm9k hcv hgl hge hgb hbe
                  have t1 : decide (zo < 0) = true := by simpa using hzo'
                  have hb6 := (hBb.setCell (p := ⟨b, oth (esOf ps) p v, none⟩) hGb (.int .i64 (zv + 1))).setCell (p := ⟨e, oth (esOf ps) p v, none⟩) hGe (.int .i64 (p : Int))
                  have hg46 : Own ((wb.setCell ⟨b, oth (esOf ps) p v, none⟩ (.int .i64 (zv + 1))).setCell ⟨e, oth (esOf ps) p v, none⟩ (.int .i64 (p : Int))) wo.heap.size (some ⟨g4, 0, none⟩) n4 c4 (cN (inc (esOf ps) v)) := (hO4b.lo_ (a := ⟨b, oth (esOf ps) p v, none⟩) hbl4 _).lo_ (a := ⟨e, oth (esOf ps) p v, none⟩) hel4 _
                  have hs6 : ((wb.setCell ⟨b, oth (esOf ps) p v, none⟩ (.int .i64 (zv + 1))).setCell ⟨e, oth (esOf ps) p v, none⟩ (.int .i64 (p : Int))).heap.size = wb.heap.size := by simp [World.setCell]
                  have HCM := Lib.hid (fun x : World => setCell_comm x (a := ⟨b, oth (esOf ps) p v, none⟩) (b := ⟨e, oth (esOf ps) p v, none⟩) (.int .i64 (zv + 1)) (.int .i64 (p : Int)) hbe)
                  have kW : Kept (Box wb g #[.slice A9 m9 c9, .slice (some ⟨b, 0, none⟩) k k, .slice (some ⟨e, 0, none⟩) k k] 66) := ⟨hSb.box⟩
                  have kAg : Kept (A9.map (·.block) ≠ some g) := ⟨hSb.Ag⟩
                  have kAb : Kept (A9.map (·.block) ≠ some b) := ⟨hSb.Ab⟩
                  have kAe : Kept (A9.map (·.block) ≠ some e) := ⟨hSb.Ae⟩
                  have hew' := hew
                  clear hbb hSb hO4b hBb hzo
                  go_wp2_with fail
                  go_region
                  all_goals
                    try rw [← HCM.out]
                    obtain ⟨W6, hW6⟩ : ∃ W6, W6 = ((wb.setCell ⟨b, oth (esOf ps) p v, none⟩ (.int .i64 (zv + 1))).setCell ⟨e, oth (esOf ps) p v, none⟩ (.int .i64 (p : Int))).drew := ⟨_, rfl⟩
                    have hB7 := hB6.drew
                    have hO7 := hO6.drew
                    have hD7 := hD6.drew
                    have hE7 := hE6.drew
                    have hg47 := hg46.drew
                    have hb7 := hb6.drew
                    have hs7 : wb.heap.size ≤ W6.heap.size := by rw [hW6]; exact Nat.le_of_eq hs6.symm
                    rw [← hW6] at hB7 hO7 hD7 hE7 hg47 hb7
                    rw [← hW6]
                    clear hB6 hO6 hD6 hE6 hg46 hb6 hs6
                    have y06 : W6.cell? ⟨g, 0, none⟩ = some (.slice A9 m9 c9) := hB7.cell 0
                    have hgl6 := hB7.lt
                    have hf6 := hB7.free 0
                    clear hW6 hco hfo hcv hce hfe hfg y0 y1 y2
                    go_wp2_with (at_builtin; refine wpList_pushA W6 rfl _ _ rfl (w.heap.size + 2) _ _ _ _ (oth (esOf ps) p v : Int) W6.heap.size rfl rfl rfl hO7 (WalkArith.wf_i64 (by omega)) (by omega) (by omega) ?_; intro gn cn wn hon hbn hgn hCn hat; have hBn := hB7.grown hgn kAg.out; have yn0 : wn.cell? ⟨g, 0, none⟩ = some (.slice A9 m9 c9) := hBn.cell 0; have fn0 := hBn.free 0; have ln := hBn.lt)
                    have hszn := hgn.size
                    have hgn_g : gn ≠ g := by
                      rcases hat with hat | hat
                      · intro hh; exact kAg.out (by rw [hat, hh])
                      · omega
                    have hgn_b : gn ≠ b := by
                      rcases hat with hat | hat
                      · intro hh; exact kAb.out (by rw [hat, hh])
                      · omega
                    have hgn_e : gn ≠ e := by
                      rcases hat with hat | hat
                      · intro hh; exact kAe.out (by rw [hat, hh])
                      · omega
                    have hgs := grownSet wn g 0 (.slice (some ⟨gn, 0, none⟩) (m9 + 1) cn)
                    have hszs : (wn.setCell ⟨g, 0, none⟩ (.slice (some ⟨gn, 0, none⟩) (m9 + 1) cn)).heap.size = wn.heap.size := by simp [World.setCell]
                    go_roundw
                    case rel =>
                      refine ⟨i + 1, some ⟨gn, 0, none⟩, m9 + 1, cn, by go_num, by omega, ⟨?_, ?_, ⟨ds6, ?_, ?_⟩, ?_, ?_, ?_, ?_⟩, ?_, ?_, by omega, ?_⟩
                      · exact hBn.set 0 _
                      · rw [HO.out]
                        unfold cN
                        rw [List.map_append]
                        exact hon.grown hgs (fun x hx hh => by injection hx with hx; injection hx with hx; injection hh with hh; omega)
                      · exact (hD7.grown hgn (fun x hx hh => kAb.out (by rw [hh]; injection hx with hx; injection hx with hx; rw [← hx]))).grown hgs (fun x hx hh => by injection hx with hx; injection hx with hx; injection hh with hh; omega)
                      · rw [HO.out]; exact hds6
                      · rw [HE.out]
                        exact (hE7.grown hgn (fun x hx hh => kAe.out (by rw [hh]; injection hx with hx; injection hx with hx; rw [← hx]))).grown hgs (fun x hx hh => by injection hx with hx; injection hx with hx; injection hh with hh; omega)
                      · intro hh; injection hh with hh; exact hgn_b hh
                      · intro hh; injection hh with hh; exact hgn_e hh
                      · intro hh; injection hh with hh; exact hgn_g hh
                      · exact (hg47.grown hgn (fun x hx => HAP.out x (by rw [hx]; rfl))).grown hgs (fun x hx hh => by injection hx with hx; injection hx with hx; injection hh with hh; omega)
                      · intro x hx hh
                        have h1 : g4 = x := by injection hx
                        have h2 : gn = x := by injection hh
                        rcases hat with hat | hat
                        · exact HAP.out x hx (by rw [hat, h2])
                        · omega
                      · exact (hb7.trans (hbn.mono (by omega))).setCell (by simp; omega) _
                    case measure => simp [intOf]; omega
              · obtain rfl : i = n4 := by omega
                have HF := Lib.hid (vst_full (es := esOf ps) (st := bfsTo (esOf ps) k s q) HV.out (Nat.le_of_eq HN4.out))
                have hqq : q + 1 ≤ m9 := by omega
                clear hvk2 hm9 hI
                go_wp2_with fail
                go_roundw
                case rel => exact ⟨q + 1, A9, m9, c9, by go_num, hqq, by rw [show bfsTo (esOf ps) k s (q + 1) = stepB (esOf ps) (bfsTo (esOf ps) k s q) q from rfl, ← HF.out]; exact hSM, hb⟩
                case measure => simp [intOf]; omega
          · obtain rfl : q = m9 := by omega
            have HEND := Lib.hid (bfsTo_end HG.out hs (Nat.le_of_eq HLO.out))
            have HEL := Lib.hid HI.out.len
            have y1 : wr.cell? ⟨g, 1, none⟩ = some (.slice (some ⟨b, 0, none⟩) k k) := hSM.box.cell 1
            have y2 : wr.cell? ⟨g, 2, none⟩ = some (.slice (some ⟨e, 0, none⟩) k k) := hSM.box.cell 2
            have by2 := byc.below hb (by omega)
            have z0 : wr.cell? ⟨w.heap.size + 1, 0, none⟩ = some (.slice none 0 0) := by2.cell 0
            have z1 : wr.cell? ⟨w.heap.size + 1, 1, none⟩ = some (.slice none 0 0) := by2.cell 1
            have z2 : wr.cell? ⟨w.heap.size + 1, 2, none⟩ = some (.slice none 0 0) := by2.cell 2
            have zl := by2.lt
            have f0 := by2.free 0
            have f1 := by2.free 1
            have f2 := by2.free 2
            have hgz : g ≠ w.heap.size + 1 := by omega
            go_wp2_with fail
            refine bodyPost_ret (v := .agg #[.slice A9 q c9, .slice (some ⟨b, 0, none⟩) k k, .slice (some ⟨e, 0, none⟩) k k]) (by simp [results, Try.results37, go_sem, z0, z1, z2]) rfl ?_
            have hb9 := ((((Below.refl w.heap.size wr).setCell (p := ⟨w.heap.size + 1, 0, none⟩) (by simp) (.slice A9 q c9)).setCell (p := ⟨w.heap.size + 1, 1, none⟩) (by simp) (.slice (some ⟨b, 0, none⟩) k k)).setCell (p := ⟨w.heap.size + 1, 2, none⟩) (by simp) (.slice (some ⟨e, 0, none⟩) k k))
            have hO := ((hSM.ord.lo_ (a := ⟨w.heap.size + 1, 0, none⟩) (by simp) (.slice A9 q c9)).lo_ (a := ⟨w.heap.size + 1, 1, none⟩) (by simp) (.slice (some ⟨b, 0, none⟩) k k)).lo_ (a := ⟨w.heap.size + 1, 2, none⟩) (by simp) (.slice (some ⟨e, 0, none⟩) k k)
            have hE := ((hSM.ent.lo_ (a := ⟨w.heap.size + 1, 0, none⟩) (by simp) (.slice A9 q c9)).lo_ (a := ⟨w.heap.size + 1, 1, none⟩) (by simp) (.slice (some ⟨b, 0, none⟩) k k)).lo_ (a := ⟨w.heap.size + 1, 2, none⟩) (by simp) (.slice (some ⟨e, 0, none⟩) k k)
            obtain ⟨ds, hD0, hDS⟩ := hSM.dst
            have hD := ((hD0.lo_ (a := ⟨w.heap.size + 1, 0, none⟩) (by simp) (.slice A9 q c9)).lo_ (a := ⟨w.heap.size + 1, 1, none⟩) (by simp) (.slice (some ⟨b, 0, none⟩) k k)).lo_ (a := ⟨w.heap.size + 1, 2, none⟩) (by simp) (.slice (some ⟨e, 0, none⟩) k k)
            rw [HEND.out] at hO hE hDS
            have e1 : (bfs (esOf ps) k s).ent.length = k := by rw [← HEND.out]; exact HEL.out
            have e2 : (bfs (esOf ps) k s).ord.length = q := by rw [← HEND.out]; exact HLO.out
            exact ⟨_, _, _, _, ds, by rw [e1, e2], by rw [e2]; exact hO.mono (by omega), by rw [e1]; exact hD.mono (by omega), by rw [e1]; exact hDS, by rw [e1]; exact hE.mono (by omega), hVc.trans ((hb.mono (by omega)).trans hb9)⟩
end Go.Proofs.Ytpgegfnhokhlmaa
set_option linter.unusedVariables false
set_option maxRecDepth 100000
namespace Go.Proofs.Ytpgegfnhokhlmaa
open Go.ChangeShapes Go.WideShapes Go.ChangeAt Go.RowKit Go.Joins Go.Deep
attribute [local go_sem ↓] Go.wp_at_zero Go.wp_at_succ

theorem run_fld0 (x y z : Value) (w : World) : Sem.run Try.prog (Instr.field 66 (.agg #[x, y, z]) 0) w = .ok x w := by
  unfold Instr.field
  go_simp
  simp [asAgg, go_sem]
theorem run_fld1 (x y z : Value) (w : World) : Sem.run Try.prog (Instr.field 66 (.agg #[x, y, z]) 1) w = .ok y w := by
  unfold Instr.field
  go_simp
  simp [asAgg, go_sem]
theorem run_fld2 (x y z : Value) (w : World) : Sem.run Try.prog (Instr.field 66 (.agg #[x, y, z]) 2) w = .ok z w := by
  unfold Instr.field
  go_simp
  simp [asAgg, go_sem]
theorem encE_at {l : List (Option Nat)} {k : Nat} {o : Option Nat} (h : l[k]? = some o) : (encE l)[k]? = some (encO o) := by simp [encE, h]
theorem comp_get {es : Es} {n r : Nat} (hr : r < n) : (compTo es n r)[r]? = some ((compTo es n r).getD r none) := by
  have hl := compTo_len es n r
  rw [List.getD_eq_getElem?_getD, List.getElem?_eq_getElem (by omega)]
  rfl
theorem comp_old {es : Es} {n r x : Nat} (h : (compTo es n r).getD r none = some x) : compTo es n (r + 1) = compTo es n r := by
  show (if ((compTo es n r).getD r none).isSome then _ else _) = _
  rw [h]; rfl
theorem comp_new {es : Es} {n r : Nat} (h : (compTo es n r).getD r none = none) : compTo es n (r + 1) = paint (compTo es n r) (bfs es n r).ord r := by
  show (if ((compTo es n r).getD r none).isSome then _ else _) = _
  rw [h]; rfl
theorem paint_zero (l : List (Option Nat)) (vs : List Nat) (r : Nat) : paint l (vs.take 0) r = l := by simp [paint]
theorem paint_step {l : List (Option Nat)} {vs : List Nat} {r j v : Nat} (h : vs[j]? = some v) : paint l (vs.take (j + 1)) r = (paint l (vs.take j) r).set v (some r) := by
  unfold paint
  rw [List.take_add_one, h, List.foldl_append]
  rfl
theorem encE_paint {l : List (Option Nat)} {vs : List Nat} {r j v : Nat} (h : vs[j]? = some v) : (encE (paint l (vs.take j) r)).set v (r : Int) = encE (paint l (vs.take (j + 1)) r) := by
  rw [paint_step h, encE_set]
theorem paint_full (l : List (Option Nat)) (vs : List Nat) (r j : Nat) (h : vs.length ≤ j) : paint l (vs.take j) r = paint l vs r := by rw [List.take_of_length_le h]
set_option maxHeartbeats 4000000 in
theorem comps_any (A B : Option Addr) (n c m d : Nat) (ns : List Nd) (ps : List Pp) (w : World) (h : IsNet w A n c ns B m d ps) (hok : NetOk ns ps) :
    Calls Try.prog 36 #[.agg #[.slice A n c, .slice B m d]] w (RetInts w (encE (comps (esOf ps) n))) := by
  have hln : ns.length = n := h.nodes.len
  have hn24 : n ≤ 24 := by have := hok.2.1; omega
  have hg : Good (esOf ps) n := by rw [← hln]; exact net_good hok
  have HG := Lib.hid hg
  have HOK := Lib.hid hok
  clear hln hok hg
  have hmk := fun W => run_make_row' (P := Try.prog) 27 2 (.int .i64 0) 8 Try.underlying27 info_i64 rfl .i64 .i64 n (by omega) (by omega) W
  have bx := (box_new w #[.slice A n c, .slice B m d] 33).alloc (.cells (madeCells #[.int .i64 0] n) 2)
  have hV : Below w.heap.size w (w.alloc (.cells #[.slice A n c, .slice B m d] 33)) := (Below.refl _ _).alloc (Nat.le_refl _) _
  have hsz : (w.alloc (.cells #[.slice A n c, .slice B m d] 33)).heap.size = w.heap.size + 1 := by simp
  have oC := own_zeros (w.alloc (.cells #[.slice A n c, .slice B m d] 33)) n (by omega)
  rw [hsz] at oC
  have hW : Below w.heap.size w ((w.alloc (.cells #[.slice A n c, .slice B m d] 33)).alloc (.cells (madeCells #[.int .i64 0] n) 2)) := hV.alloc (by simp) _
  have hsW : w.heap.size + 2 ≤ ((w.alloc (.cells #[.slice A n c, .slice B m d] 33)).alloc (.cells (madeCells #[.int .i64 0] n) 2)).heap.size := by simp
  clear hV hsz
  go_enter Try.func36, Try.ntmps36
  go_wp2_with fail
  generalize ((w.alloc (.cells #[.slice A n c, .slice B m d] 33)).alloc (.cells (madeCells #[.int .i64 0] n) 2)) = W at *
  clear hmk
  go_loopw [14] (fun ii wr => ∃ k : Nat, k ≤ n ∧ ii = .int .i64 k ∧ Own wr (w.heap.size + 1) (some ⟨w.heap.size + 1, 0, none⟩) n n (List.replicate k (-1) ++ List.replicate (n - k) 0) ∧ Below (w.heap.size + 1) W wr) (fun ii _ => n - (intOf ii).toNat)
  case atStart => exact ⟨0, Nat.zero_le _, rfl, by simpa using oC, Below.refl _ _⟩
  case round =>
    obtain ⟨k, hk, rfl, hE, hb⟩ := hrel
    by_cases hlt : k < n
    · obtain ⟨g, z, hA, hBg, hgl, _, _, hcg, hfg⟩ := hE.at_ hlt
      obtain rfl : g = w.heap.size + 1 := by injection hA with hA; injection hA with hA; exact hA.symm
      obtain ⟨hE2, hgr⟩ := hE.set2 k (z := -1) (WalkArith.wf_i64 (by omega))
      have HE := Lib.hid (fill_step (x := (-1 : Int)) (y := 0) hlt)
      have hb2 := hb.setCell (p := ⟨w.heap.size + 1, k, none⟩) (Nat.le_refl _) (.int .i64 (-1))
      clear hE hA hgr
      go_wp2_with fail
      go_roundw
      case rel => exact ⟨k + 1, by omega, by go_num, by rw [← HE.out]; exact hE2, hb2⟩
      case measure => simp [intOf]; omega
    · obtain rfl : k = n := by omega
      have hE1 : Own wr (w.heap.size + 1) (some ⟨w.heap.size + 1, 0, none⟩) k k (encE (compTo (esOf ps) k 0)) := by
        have e1 : encE (compTo (esOf ps) k 0) = List.replicate k (-1) ++ List.replicate (k - k) 0 := by
          show encE (List.replicate k none) = _
          rw [encE_none]; simp
        rw [e1]; exact hE
      clear hE
      go_wp2_with fail
      go_loopw [23] (fun ii wr => ∃ r : Nat, r ≤ k ∧ ii = .int .i64 r ∧ Own wr (w.heap.size + 1) (some ⟨w.heap.size + 1, 0, none⟩) k k (encE (compTo (esOf ps) k r)) ∧ Below (w.heap.size + 1) W wr) (fun ii _ => k - (intOf ii).toNat)
      case atStart => exact ⟨0, Nat.zero_le _, rfl, hE1, hb⟩
      case round =>
        clear hb hE1
        obtain ⟨r, hr, rfl, hE, hb⟩ := hrel
        by_cases hlt : r < k
        · obtain ⟨g, z, hA, hBg, hgl, hz, _, hcg, hfg⟩ := hE.at_ hlt
          obtain rfl : g = w.heap.size + 1 := by injection hA with hA; injection hA with hA; exact hA.symm
          rw [encE_at (comp_get hlt)] at hz
          cases ho : (compTo (esOf ps) k r).getD r none with
          | some x =>
            rw [ho] at hz
            obtain rfl : z = (x : Int) := (Option.some.inj hz).symm
            have HN := Lib.hid (comp_old ho)
            clear hz ho hA
            go_wp2_with fail
            go_roundw
            case rel => exact ⟨r + 1, by omega, by go_num, by rw [HN.out]; exact hE, hb⟩
            case measure => simp [intOf]; omega
          | none =>
            rw [ho] at hz
            obtain rfl : z = -1 := (Option.some.inj hz).symm
            have HN := Lib.hid (comp_new ho)
            have b1 := bx.below hb (by omega)
            have xl := b1.lt
            have x0 : wr.cell? ⟨w.heap.size, 0, none⟩ = some (.slice A k c) := b1.cell 0
            have x1 : wr.cell? ⟨w.heap.size, 1, none⟩ = some (.slice B m d) := b1.cell 1
            have kN : Kept (IsNet wr A k c ns B m d ps) := ⟨h.below (hW.trans (hb.mono (by omega)))⟩
            have kE : Kept (Own wr (w.heap.size + 1) (some ⟨w.heap.size + 1, 0, none⟩) k k (encE (compTo (esOf ps) k r))) := ⟨hE⟩
            have kB : Kept (Below (w.heap.size + 1) W wr) := ⟨hb⟩
            have hsb := hb.size
            obtain ⟨wo, rfl⟩ : ∃ wo : World, wo = wr := ⟨_, rfl⟩
            clear hz ho hA hE hb b1
            have hfl := fun (x y z : Value) W => run_fld0 x y z W
            go_wp2_with (go_at_call 37; refine (search_any _ _ _ _ _ _ r ns ps _ kN.out HOK.out hlt).mono ?_; rintro e4 wa ⟨A4, c4, b4, e5, ds4, rfl, o4, _, _, _, hba⟩)
            have HI := Lib.hid (bfs_done HG.out hlt).inv
            have hoc := kE.out.below hba
            have hba2 := bthen kB.out hba (by omega)
            have hsa := hba.size
            have hL : (bfs (esOf ps) k r).ord.length ≤ k := nodup_len HI.out.nd HI.out.lt
            generalize hL4 : (bfs (esOf ps) k r).ord.length = L at *
            have HL := Lib.hid hL4
            clear hfl hL4 kE kB kN hba xl x0 x1 hcg hfg
            go_loopw [36] (fun ii wr => ∃ j : Nat, ii = .int .i64 j ∧ j ≤ L ∧ Own wr (w.heap.size + 1) (some ⟨w.heap.size + 1, 0, none⟩) k k (encE (paint (compTo (esOf ps) k r) ((bfs (esOf ps) k r).ord.take j) r)) ∧ Own wr wo.heap.size A4 L c4 (cN (bfs (esOf ps) k r).ord) ∧ Below (w.heap.size + 1) W wr) (fun ii _ => L - (intOf ii).toNat)
            case atStart => exact ⟨0, rfl, Nat.zero_le _, by rw [paint_zero]; exact hoc, o4, hba2⟩
            case round =>
              clear hoc o4 hba2
              obtain ⟨j, rfl, hj, hE, hO4, hb⟩ := hrel
              by_cases hlj : j < L
              · obtain ⟨g4, z4, rfl, hg4l, hg4, hz4, _, hc4, _⟩ := hO4.at_ hlj
                obtain ⟨v, hv, rfl⟩ := cN_get hz4
                have hvk : v < k := HI.out.lt v (List.mem_of_getElem? hv)
                obtain ⟨g, z, hA, hBg, hgl, _, _, hcg, hfg⟩ := hE.at_ hvk
                obtain rfl : g = w.heap.size + 1 := by injection hA with hA; injection hA with hA; exact hA.symm
                obtain ⟨hE2, hgr⟩ := hE.set2 v (z := (r : Int)) (WalkArith.wf_i64 (by omega))
                have hO5 := hO4.grown2 hgr (by omega)
                have HE := Lib.hid (encE_paint (l := compTo (esOf ps) k r) (r := r) hv)
                have hb2 := hb.setCell (p := ⟨w.heap.size + 1, v, none⟩) (Nat.le_refl _) (.int .i64 (r : Int))
                clear hE hA hgr hO4 hv hz4 hb
                go_wp2_with fail
                go_roundw
                case rel => exact ⟨j + 1, by go_num, by omega, by rw [← HE.out]; exact hE2, hO5, hb2⟩
                case measure => simp [intOf]; omega
              · obtain rfl : j = L := by omega
                have HP := Lib.hid (paint_full (compTo (esOf ps) k r) (bfs (esOf ps) k r).ord r j (Nat.le_of_eq HL.out))
                go_wp2_with fail
                go_roundw
                case rel => exact ⟨r + 1, by omega, by go_num, by rw [HN.out, ← HP.out]; exact hE, hb⟩
                case measure => simp [intOf]; omega
        · obtain rfl : r = k := by omega
          go_wp2_with fail
          go_ret
          exact retInts_of (by rw [encE_len, show (comps (esOf ps) r).length = r from comps_len _ _]) (hE.mono (by omega)) (hW.trans (hb.mono (by omega)))
set_option maxHeartbeats 4000000 in
theorem sComps_any (A B : Option Addr) (n c m d : Nat) (ns : List Nd) (ps : List Pp) (w : World) (h : IsNet w A n c ns B m d ps) (hok : NetOk ns ps) :
    Calls Try.prog 44 #[.agg #[.slice A n c, .slice B m d]] w (RetInts w (encE (comps (esOf ps) n))) := by
  have hln : ns.length = n := h.nodes.len
  have hn24 : n ≤ 24 := by have := hok.2.1; omega
  have hg : Good (esOf ps) n := by rw [← hln]; exact net_good hok
  have HG := Lib.hid hg
  have HOK := Lib.hid hok
  clear hln hok hg
  have hmk := fun W => run_make_row' (P := Try.prog) 27 2 (.int .i64 0) 8 Try.underlying27 info_i64 rfl .i64 .i64 n (by omega) (by omega) W
  have bx := (box_new w #[.slice A n c, .slice B m d] 33).alloc (.cells (madeCells #[.int .i64 0] n) 2)
  have hV : Below w.heap.size w (w.alloc (.cells #[.slice A n c, .slice B m d] 33)) := (Below.refl _ _).alloc (Nat.le_refl _) _
  have hsz : (w.alloc (.cells #[.slice A n c, .slice B m d] 33)).heap.size = w.heap.size + 1 := by simp
  have oC := own_zeros (w.alloc (.cells #[.slice A n c, .slice B m d] 33)) n (by omega)
  rw [hsz] at oC
  have hW : Below w.heap.size w ((w.alloc (.cells #[.slice A n c, .slice B m d] 33)).alloc (.cells (madeCells #[.int .i64 0] n) 2)) := hV.alloc (by simp) _
  have hsW : w.heap.size + 2 ≤ ((w.alloc (.cells #[.slice A n c, .slice B m d] 33)).alloc (.cells (madeCells #[.int .i64 0] n) 2)).heap.size := by simp
  clear hV hsz
  go_enter Try.func44, Try.ntmps44
  go_wp2_with fail
  generalize ((w.alloc (.cells #[.slice A n c, .slice B m d] 33)).alloc (.cells (madeCells #[.int .i64 0] n) 2)) = W at *
  clear hmk
  go_loopw [4] (fun ii wr => ∃ k : Nat, k ≤ n ∧ ii = .int .i64 k ∧ Own wr (w.heap.size + 1) (some ⟨w.heap.size + 1, 0, none⟩) n n (List.replicate k (-1) ++ List.replicate (n - k) 0) ∧ Below (w.heap.size + 1) W wr) (fun ii _ => n - (intOf ii).toNat)
  case atStart => exact ⟨0, Nat.zero_le _, rfl, by simpa using oC, Below.refl _ _⟩
  case round =>
    obtain ⟨k, hk, rfl, hE, hb⟩ := hrel
    by_cases hlt : k < n
    · obtain ⟨g, z, hA, hBg, hgl, _, _, hcg, hfg⟩ := hE.at_ hlt
      obtain rfl : g = w.heap.size + 1 := by injection hA with hA; injection hA with hA; exact hA.symm
      obtain ⟨hE2, hgr⟩ := hE.set2 k (z := -1) (WalkArith.wf_i64 (by omega))
      have HE := Lib.hid (fill_step (x := (-1 : Int)) (y := 0) hlt)
      have hb2 := hb.setCell (p := ⟨w.heap.size + 1, k, none⟩) (Nat.le_refl _) (.int .i64 (-1))
      clear hE hA hgr
      go_wp2_with fail
      go_roundw
      case rel => exact ⟨k + 1, by omega, by go_num, by rw [← HE.out]; exact hE2, hb2⟩
      case measure => simp [intOf]; omega
    · obtain rfl : k = n := by omega
      have hE1 : Own wr (w.heap.size + 1) (some ⟨w.heap.size + 1, 0, none⟩) k k (encE (compTo (esOf ps) k 0)) := by
        have e1 : encE (compTo (esOf ps) k 0) = List.replicate k (-1) ++ List.replicate (k - k) 0 := by
          show encE (List.replicate k none) = _
          rw [encE_none]; simp
        rw [e1]; exact hE
      clear hE
      go_wp2_with fail
      go_loopw [5] (fun ii wr => ∃ r : Nat, r ≤ k ∧ ii = .int .i64 r ∧ Own wr (w.heap.size + 1) (some ⟨w.heap.size + 1, 0, none⟩) k k (encE (compTo (esOf ps) k r)) ∧ Below (w.heap.size + 1) W wr) (fun ii _ => k - (intOf ii).toNat)
      case atStart => exact ⟨0, Nat.zero_le _, rfl, hE1, hb⟩
      case round =>
        clear hb hE1
        obtain ⟨r, hr, rfl, hE, hb⟩ := hrel
        by_cases hlt : r < k
        · obtain ⟨g, z, hA, hBg, hgl, hz, _, hcg, hfg⟩ := hE.at_ hlt
          obtain rfl : g = w.heap.size + 1 := by injection hA with hA; injection hA with hA; exact hA.symm
          rw [encE_at (comp_get hlt)] at hz
          cases ho : (compTo (esOf ps) k r).getD r none with
          | some x =>
            rw [ho] at hz
            obtain rfl : z = (x : Int) := (Option.some.inj hz).symm
            have HN := Lib.hid (comp_old ho)
            clear hz ho hA
            go_wp2_with fail
            go_roundw
            case rel => exact ⟨r + 1, by omega, by go_num, by rw [HN.out]; exact hE, hb⟩
            case measure => simp [intOf]; omega
          | none =>
            rw [ho] at hz
            obtain rfl : z = -1 := (Option.some.inj hz).symm
            have HN := Lib.hid (comp_new ho)
            have b1 := bx.below hb (by omega)
            have xl := b1.lt
            have x0 : wr.cell? ⟨w.heap.size, 0, none⟩ = some (.slice A k c) := b1.cell 0
            have x1 : wr.cell? ⟨w.heap.size, 1, none⟩ = some (.slice B m d) := b1.cell 1
            have kN : Kept (IsNet wr A k c ns B m d ps) := ⟨h.below (hW.trans (hb.mono (by omega)))⟩
            have kE : Kept (Own wr (w.heap.size + 1) (some ⟨w.heap.size + 1, 0, none⟩) k k (encE (compTo (esOf ps) k r))) := ⟨hE⟩
            have kB : Kept (Below (w.heap.size + 1) W wr) := ⟨hb⟩
            have hsb := hb.size
            obtain ⟨wo, rfl⟩ : ∃ wo : World, wo = wr := ⟨_, rfl⟩
            clear hz ho hA hE hb b1
            go_wp2_with (go_at_call 45; refine (sSearch_any _ _ _ _ _ _ r ns ps _ kN.out HOK.out hlt).mono ?_; rintro e4 wa ⟨A5, c5, A4, c4, rfl, _, o4, hba⟩)
            have HI := Lib.hid (bfs_done HG.out hlt).inv
            have hoc := kE.out.below hba
            have hba2 := bthen kB.out hba (by omega)
            have hsa := hba.size
            have hL : (bfs (esOf ps) k r).ord.length ≤ k := nodup_len HI.out.nd HI.out.lt
            generalize hL4 : (bfs (esOf ps) k r).ord.length = L at *
            have HL := Lib.hid hL4
            clear hL4 kE kB kN hba xl x0 x1 hcg hfg
            go_loopw [8] (fun ii wr => ∃ j : Nat, ii = .int .i64 j ∧ j ≤ L ∧ Own wr (w.heap.size + 1) (some ⟨w.heap.size + 1, 0, none⟩) k k (encE (paint (compTo (esOf ps) k r) ((bfs (esOf ps) k r).ord.take j) r)) ∧ Own wr wo.heap.size A4 L c4 (cN (bfs (esOf ps) k r).ord) ∧ Below (w.heap.size + 1) W wr) (fun ii _ => L - (intOf ii).toNat)
            case atStart => exact ⟨0, rfl, Nat.zero_le _, by rw [paint_zero]; exact hoc, o4, hba2⟩
            case round =>
              clear hoc o4 hba2
              obtain ⟨j, rfl, hj, hE, hO4, hb⟩ := hrel
              by_cases hlj : j < L
              · obtain ⟨g4, z4, rfl, hg4l, hg4, hz4, _, hc4, _⟩ := hO4.at_ hlj
                obtain ⟨v, hv, rfl⟩ := cN_get hz4
                have hvk : v < k := HI.out.lt v (List.mem_of_getElem? hv)
                obtain ⟨g, z, hA, hBg, hgl, _, _, hcg, hfg⟩ := hE.at_ hvk
                obtain rfl : g = w.heap.size + 1 := by injection hA with hA; injection hA with hA; exact hA.symm
                obtain ⟨hE2, hgr⟩ := hE.set2 v (z := (r : Int)) (WalkArith.wf_i64 (by omega))
                have hO5 := hO4.grown2 hgr (by omega)
                have HE := Lib.hid (encE_paint (l := compTo (esOf ps) k r) (r := r) hv)
                have hb2 := hb.setCell (p := ⟨w.heap.size + 1, v, none⟩) (Nat.le_refl _) (.int .i64 (r : Int))
                clear hE hA hgr hO4 hv hz4 hb
                go_wp2_with fail
                go_roundw
                case rel => exact ⟨j + 1, by go_num, by omega, by rw [← HE.out]; exact hE2, hO5, hb2⟩
                case measure => simp [intOf]; omega
              · obtain rfl : j = L := by omega
                have HP := Lib.hid (paint_full (compTo (esOf ps) k r) (bfs (esOf ps) k r).ord r j (Nat.le_of_eq HL.out))
                go_wp2_with fail
                go_roundw
                case rel => exact ⟨r + 1, by omega, by go_num, by rw [HN.out, ← HP.out]; exact hE, hb⟩
                case measure => simp [intOf]; omega
        · obtain rfl : r = k := by omega
          go_wp2_with fail
          go_ret
          exact retInts_of (by rw [encE_len, show (comps (esOf ps) r).length = r from comps_len _ _]) (hE.mono (by omega)) (hW.trans (hb.mono (by omega)))
end Go.Proofs.Ytpgegfnhokhlmaa
set_option linter.unusedVariables false
set_option maxRecDepth 100000
namespace Go.Proofs.Ytpgegfnhokhlmaa
open Go.ChangeShapes Go.WideShapes Go.ChangeAt Go.RowKit Go.Joins Go.Deep Go.Sort Go.Shelf

def Try.sortL_ren : Go.Shelf.Ren := ⟨fun | 5 => 38 | 8 => 52 | 7 => 51 | 19 => 64 | 20 => 65 | 10 => 55 | 11 => 56 | 12 => 57 | 13 => 58 | 14 => 59 | 15 => 60 | 16 => 61 | 17 => 62 | 18 => 63 | 30 => 66 | 31 => 67 | 32 => 68 | 33 => 69 | 34 => 70 | 35 => 71 | 40 => 72 | n => n, fun | 23 => 27 | 25 => 2 | 3 => 3 | 32 => 81 | 22 => 27 | 0 => 0 | 44 => 94 | 46 => 96 | 4 => 4 | 36 => 86 | 35 => 85 | 41 => 91 | 5 => 5 | 9 => 9 | 53 => 97 | 57 => 101 | 63 => 104 | 64 => 105 | n => n, fun | n => n⟩
theorem Try.sortL : Go.Proofs.SlLaysM.n5 Try.prog Try.sortL_ren := {
  mixed := by kernel_rfl
  f5 := ⟨Try.f38.name, by decide, Try.func38.trans (congrArg some (by kernel_rfl))⟩
  f7 := ⟨Try.f51.name, by decide, Try.func51.trans (congrArg some (by kernel_rfl))⟩
  f8 := Try.func52.trans (congrArg some (by kernel_rfl))
  f10 := ⟨Try.f55.name, by decide, Try.func55.trans (congrArg some (by kernel_rfl))⟩
  f11 := ⟨Try.f56.name, by decide, Try.func56.trans (congrArg some (by kernel_rfl))⟩
  f12 := ⟨Try.f57.name, by decide, Try.func57.trans (congrArg some (by kernel_rfl))⟩
  f13 := ⟨Try.f58.name, by decide, Try.func58.trans (congrArg some (by kernel_rfl))⟩
  f14 := ⟨Try.f59.name, by decide, Try.func59.trans (congrArg some (by kernel_rfl))⟩
  f15 := ⟨Try.f60.name, by decide, Try.func60.trans (congrArg some (by kernel_rfl))⟩
  f16 := ⟨Try.f61.name, by decide, Try.func61.trans (congrArg some (by kernel_rfl))⟩
  f17 := ⟨Try.f62.name, by decide, Try.func62.trans (congrArg some (by kernel_rfl))⟩
  f18 := ⟨Try.f63.name, by decide, Try.func63.trans (congrArg some (by kernel_rfl))⟩
  f19 := Try.func64.trans (congrArg some (by kernel_rfl))
  f20 := Try.func65.trans (congrArg some (by kernel_rfl))
  f30 := ⟨Try.f66.name, by decide, Try.func66.trans (congrArg some (by kernel_rfl))⟩
  f31 := Try.func67.trans (congrArg some (by kernel_rfl))
  f32 := Try.func68.trans (congrArg some (by kernel_rfl))
  f33 := ⟨Try.f69.name, by decide, Try.func69.trans (congrArg some (by kernel_rfl))⟩
  f34 := ⟨Try.f70.name, by decide, Try.func70.trans (congrArg some (by kernel_rfl))⟩
  f35 := ⟨Try.f71.name, by decide, Try.func71.trans (congrArg some (by kernel_rfl))⟩
  f40 := ⟨Try.f72.name, by decide, Try.func72.trans (congrArg some (by kernel_rfl))⟩
  t0 := Try.underlying0
  a0 := Try.isAgg0
  z0 := Try.sizeOf0
  v0 := Try.zeroValue0
  t3 := Try.underlying3
  a3 := Try.isAgg3
  z3 := Try.sizeOf3
  v3 := Try.zeroValue3
  t4 := Try.underlying4
  a4 := Try.isAgg4
  z4 := Try.sizeOf4
  v4 := Try.zeroValue4
  t5 := Try.underlying5
  a5 := Try.isAgg5
  z5 := Try.sizeOf5
  v5 := Try.zeroValue5
  t9 := Try.underlying9
  a9 := Try.isAgg9
  z9 := Try.sizeOf9
  v9 := Try.zeroValue9
  t22 := Try.underlying27
  a22 := Try.isAgg27
  z22 := Try.sizeOf27
  v22 := Try.zeroValue27
  t23 := Try.underlying27
  a23 := Try.isAgg27
  z23 := Try.sizeOf27
  v23 := Try.zeroValue27
  t25 := Try.underlying2
  a25 := Try.isAgg2
  z25 := Try.sizeOf2
  v25 := Try.zeroValue2
  t32 := Try.underlying81
  a32 := Try.isAgg81
  z32 := Try.sizeOf81
  v32 := Try.zeroValue81
  t35 := Try.underlying85
  a35 := Try.isAgg85
  z35 := Try.sizeOf85
  v35 := Try.zeroValue85
  t36 := Try.underlying86
  a36 := Try.isAgg86
  z36 := Try.sizeOf86
  v36 := Try.zeroValue86
  t41 := Try.underlying91
  a41 := Try.isAgg91
  z41 := Try.sizeOf91
  v41 := Try.zeroValue91
  t44 := Try.underlying94
  a44 := Try.isAgg94
  z44 := Try.sizeOf94
  v44 := Try.zeroValue94
  t46 := Try.underlying96
  a46 := Try.isAgg96
  z46 := Try.sizeOf96
  v46 := Try.zeroValue96
  t53 := Try.underlying97
  a53 := Try.isAgg97
  z53 := Try.sizeOf97
  v53 := Try.zeroValue97
  t57 := Try.underlying101
  a57 := Try.isAgg101
  z57 := Try.sizeOf101
  v57 := Try.zeroValue101
  t63 := Try.underlying104
  a63 := Try.isAgg104
  z63 := Try.sizeOf104
  v63 := Try.zeroValue104
  t64 := Try.underlying105
  a64 := Try.isAgg105
  z64 := Try.sizeOf105
  v64 := Try.zeroValue105 }
theorem sort_own {w : World} {B : Nat} {A : Option Addr} {n c : Nat} {zs : List Int} (h : Own w B A n c zs) (hn : n ≤ 1048576) :
    Calls Try.prog 38 #[.slice A n c] w fun e w' => e = .returned (.tuple #[]) ∧ Own w' B A n c (zs.mergeSort fun x y => decide (x ≤ y)) ∧ w.grownBy w' (A.map (·.block)) := by
  have hl := h.len
  by_cases h0 : n = 0
  · subst h0
    have hz : zs = [] := List.eq_nil_of_length_eq_zero hl
    subst hz
    refine (AnyM.slices_Sort_int_none Try.sortL A c w).mono ?_
    rintro e w' ⟨rfl, rfl⟩
    exact ⟨rfl, by simpa using h, ⟨rfl, rfl, rfl, Nat.le_refl _, fun _ _ _ => rfl⟩⟩
  · obtain ⟨g, rfl, hBg, hgl⟩ := h.form (by omega)
    rcases h.1.2 with ⟨e0, _⟩ | ⟨g', cap', cur, e0, hb, hg, hnc, hm, hs, ht⟩
    · cases e0
    · injection e0 with e1 _ e3
      injection e1 with e1
      injection e1 with e1
      subst e1; subst e3
      subst hl
      have ht' : cur.toList.take zs.length = zs.map (Value.int .i64) := by rw [Nat.mul_one] at ht; exact ht
      refine (AnyM.slices_Sort_int Try.sortL g 0 c zs w (holds_of_blockI hg ht') hgl (by omega)).mono ?_
      rintro e w' ⟨rfl, q, os, rfl⟩
      have hlen : (zs.mergeSort fun x y => decide (x ≤ y)).length = zs.length := List.length_mergeSort _
      refine ⟨rfl, ⟨?_, fun z hz => h.2 z ((List.mergeSort_perm _ _).mem_iff.1 hz)⟩, grownBy_sortedI _⟩
      exact ownsRow_sortedI hlen hBg hg hnc hm hs
theorem ints_getD {w : World} {b o n : Nat} {zs : List Int} (h : Ints w (some ⟨b, o, none⟩) n zs) (hn : 0 < n) : ∀ j, j < zs.length → w.cell? ⟨b, o + j, none⟩ = some (.int .i64 (zs.getD j 0)) := by
  intro j hj
  obtain ⟨b', o', e, _, hc⟩ := h.2.2 hn
  injection e with e
  injection e with e1 e2
  subst e1 e2
  rw [hc j (zs[j]) (List.getElem?_eq_getElem hj)]
  simp [List.getD, hj]
end Go.Proofs.Ytpgegfnhokhlmaa
set_option linter.unusedVariables false
set_option maxRecDepth 100000
namespace Go.Proofs.Ytpgegfnhokhlmaa
open Go.ChangeShapes Go.WideShapes Go.ChangeAt Go.RowKit Go.Joins Go.Deep
attribute [local go_sem ↓] Go.wp_at_zero Go.wp_at_succ

theorem comps_some {es : Es} {n r : Nat} (hg : Good es n) (hr : r < n) : ∃ x : Nat, (comps es n)[r]? = some (some x) ∧ x < n := by
  obtain ⟨x, h1, h2, _⟩ := comps_at hg hr
  exact ⟨x, h1, h2⟩
theorem root_eq {es : Es} {n r x : Nat} (h : (comps es n)[r]? = some (some x)) : isRoot es n r = decide (x = r) := by
  unfold isRoot
  rw [h]
  by_cases e : x = r
  · subst e; simp
  · simp [e]
theorem fst_len (es : Es) (n : Nat) : (fst es n).length ≤ es.length := fstTo_len es n es.length
theorem cN_app (l : List Nat) (i : Nat) : cN (l ++ [i]) = cN l ++ [(i : Int)] := by unfold cN; rw [List.map_append]; rfl
set_option maxHeartbeats 4000000 in
theorem forest_any (A B : Option Addr) (n c m d : Nat) (ns : List Nd) (ps : List Pp) (w : World) (h : IsNet w A n c ns B m d ps) (hok : NetOk ns ps) :
    Calls Try.prog 21 #[.agg #[.slice A n c, .slice B m d]] w (RetInts w (cN (fst (esOf ps) n))) := by
  have hln : ns.length = n := h.nodes.len
  have hn24 : n ≤ 24 := by have := hok.2.1; omega
  have hg : Good (esOf ps) n := by rw [← hln]; exact net_good hok
  have HG := Lib.hid hg
  have HOK := Lib.hid hok
  clear hln hok hg
  have bx := box_new w #[.slice A n c, .slice B m d] 33
  have hV : Below w.heap.size w (w.alloc (.cells #[.slice A n c, .slice B m d] 33)) := (Below.refl _ _).alloc (Nat.le_refl _) _
  have hsV : w.heap.size + 1 ≤ (w.alloc (.cells #[.slice A n c, .slice B m d] 33)).heap.size := by simp
  go_enter Try.func21, Try.ntmps21
  go_wp2_with (go_at_call 36; refine (comps_any _ _ _ _ _ _ ns ps _ (h.below hV) HOK.out).mono ?_; rintro e1 w1 ⟨A1, c1, rfl, o1, hb1⟩)
  have hW := bthen hV hb1 (by omega)
  have bx1 := bx.belowA hb1
  have hs1 := hb1.size
  have HCL := Lib.hid (show (encE (comps (esOf ps) n)).length = n by rw [encE_len, comps_len])
  rw [HCL.out] at o1 ⊢
  have hsw : w.heap.size + 1 ≤ w1.heap.size := by omega
  have o1' : Own w1 w.heap.size A1 n c1 (encE (comps (esOf ps) n)) := o1.mono (by omega)
  have HA1 := Lib.hid (fun g hg => (o1.lt g hg).2)
  clear hb1 bx hV o1
  go_loopw [3, 11] (fun ss ii wr => ∃ (r : Nat) (A2 : Option Addr) (m2 c2 : Nat), r ≤ n ∧ ii = .int .i64 r ∧ ss = .slice A2 m2 c2 ∧ m2 ≤ 24 * r ∧ Own wr w1.heap.size A2 m2 c2 (cN (gatTo (esOf ps) n r)) ∧ Own wr w.heap.size A1 n c1 (encE (comps (esOf ps) n)) ∧ Below w1.heap.size w1 wr) (fun _ ii _ => n - (intOf ii).toNat)
  case atStart => exact ⟨0, none, 0, 0, Nat.zero_le _, rfl, rfl, Nat.le_refl _, own_nil _ _, o1', Below.refl _ _⟩
  case round =>
    obtain ⟨r, A2, m2, c2, hr, rfl, rfl, hm2, hG, hC, hb⟩ := hrel
    have b1 := bx1.belowA hb
    have xl := b1.lt
    have x0 : wr.cell? ⟨w.heap.size, 0, none⟩ = some (.slice A n c) := b1.cell 0
    have x1 : wr.cell? ⟨w.heap.size, 1, none⟩ = some (.slice B m d) := b1.cell 1
    by_cases hlt : r < n
    · obtain ⟨x, hx, hxn⟩ := comps_some HG.out hlt
      obtain ⟨gc, z, rfl, _, hgc, hz, _, hcc, _⟩ := hC.at_ hlt
      rw [encE_at hx] at hz
      obtain rfl : z = (x : Int) := (Option.some.inj hz).symm
      have hroot := root_eq hx
      have i0 : (0 : Int) ≤ (r : Int) := by omega
      have i1 : (r : Int) < (n : Int) := by omega
      have hgc1 : gc < w1.heap.size := HA1.out gc rfl
      clear hz hx
      by_cases e : x = r
      · subst e
        have HR := Lib.hid (show isRoot (esOf ps) n x = true by rw [hroot]; simp)
        have t1 : ((x : Int) != (x : Int)) = false := by simp
        have kN : Kept (IsNet wr A n c ns B m d ps) := ⟨h.below (hW.trans (hb.mono (by omega)))⟩
        have kG : Kept (Own wr w1.heap.size A2 m2 c2 (cN (gatTo (esOf ps) n x))) := ⟨hG⟩
        have kC : Kept (Own wr w.heap.size (some ⟨gc, 0, none⟩) n c1 (encE (comps (esOf ps) n))) := ⟨hC⟩
        have kB : Kept (Below w1.heap.size w1 wr) := ⟨hb⟩
        have hsb := hb.size
        have hfl := fun (x y z : Value) W => run_fld2 x y z W
        obtain ⟨wo, rfl⟩ : ∃ wo : World, wo = wr := ⟨_, rfl⟩
        clear hroot hG hC hb b1
        go_wp2_with (go_at_call 37; refine (search_any _ _ _ _ _ _ x ns ps _ kN.out HOK.out hlt).mono ?_; rintro e4 wa ⟨A4, c4, b4, e5, ds4, rfl, _, _, _, o5, hba⟩)
        have HI := Lib.hid (bfs_done HG.out hlt).inv
        have hG2 := kG.out.below hba
        have hC2 := kC.out.below hba
        have hb2 := bthen kB.out hba (by omega)
        have hsa := hba.size
        rw [HI.out.len] at o5 ⊢
        have hap5 : ∀ g, A2.map (·.block) = some g → g ≠ e5 := fun g hg hh => by
          have h1 := (o5.lt e5 rfl).1
          have h2 := (kG.out.lt g hg).2
          omega
        clear kG kC kB kN hba xl x0 x1 hcc hfl t1
        go_loopw [3, 24] (fun ss ii wr => ∃ (j : Nat) (A2 : Option Addr) (m2 c2 : Nat), j ≤ n ∧ ii = .int .i64 j ∧ ss = .slice A2 m2 c2 ∧ m2 ≤ 24 * x + j ∧ Own wr w1.heap.size A2 m2 c2 (cN (gatTo (esOf ps) n x ++ gatP (esOf ps) n x j)) ∧ Own wr w.heap.size (some ⟨gc, 0, none⟩) n c1 (encE (comps (esOf ps) n)) ∧ Own wr wo.heap.size (some ⟨e5, 0, none⟩) n n (encE (bfs (esOf ps) n x).ent) ∧ Hid (∀ g, A2.map (·.block) = some g → g ≠ e5) ∧ Below w1.heap.size w1 wr) (fun _ ii _ => n - (intOf ii).toNat)
        case atStart => exact ⟨0, A2, m2, c2, Nat.zero_le _, rfl, rfl, by omega, by rw [gatP_zero, List.append_nil]; exact hG2, hC2, o5, hap5, hb2⟩
        case round =>
          clear hG2 hC2 o5 hb2 hap5
          obtain ⟨j, A2, m2, c2, hj, rfl, rfl, hm2, hG, hC, hE, HAP, hb⟩ := hrel
          by_cases hlj : j < n
          · obtain ⟨ge, z, hAe, _, hge, hz, _, hce, _⟩ := hE.at_ hlj
            obtain rfl := (by injection hAe with hAe; injection hAe : e5 = _)
            have hent : (bfs (esOf ps) n x).ent[j]? = some ((bfs (esOf ps) n x).ent.getD j none) := by
              rw [List.getD_eq_getElem?_getD, List.getElem?_eq_getElem (by rw [HI.out.len]; exact hlj)]; rfl
            rw [encE_at hent] at hz
            cases ho : (bfs (esOf ps) n x).ent.getD j none with
            | none =>
              rw [ho] at hz hent
              obtain rfl : z = -1 := (Option.some.inj hz).symm
              have HP := Lib.hid (gatP_none hent)
              clear hz ho hent hAe
              go_wp2_with fail
              go_roundw
              case rel => exact ⟨j + 1, A2, m2, c2, by omega, by go_num, rfl, by omega, by rw [HP.out]; exact hG, hC, hE, HAP, hb⟩
              case measure => simp [intOf]; omega
            | some i =>
              rw [ho] at hz hent
              obtain rfl : z = (i : Int) := (Option.some.inj hz).symm
              have HP := Lib.hid (gatP_some hent)
              have hil : i < 1000 := by
                have h1 := (inc_mem.1 (HI.out.ent1 _ _ hent).1).1
                rw [esOf_len] at h1
                have := HOK.out.2.2.1
                omega
              have hzi : (0 : Int) ≤ (i : Int) := by omega
              clear hz ho hent hAe
              go_wp2_with (at_builtin; refine wpList_pushA wr rfl _ _ rfl w1.heap.size _ _ _ _ (i : Int) wr.heap.size rfl rfl rfl hG (WalkArith.wf_i64 (by omega)) (by omega) hb.size ?_; intro gn cn wn hon hbn hgn hCn hat)
              have hszn := hgn.size
              go_roundw
              case rel =>
                refine ⟨j + 1, some ⟨gn, 0, none⟩, m2 + 1, cn, by omega, by go_num, rfl, by omega, ?_, ?_, ?_, ?_, hb.trans hbn⟩
                · rw [HP.out, ← List.append_assoc, cN_app]; exact hon
                · exact hC.grown hgn (fun g hg hh => by
                    have h1 := (hG.lt g hh).1
                    injection hg with hg; injection hg with hg
                    omega)
                · exact hE.grown hgn (fun g hg hh => by
                    have h1 := HAP.out g hh
                    injection hg with hg; injection hg with hg
                    exact h1 hg.symm)
                · intro g hg hh
                  have h2 : gn = g := by injection hg
                  rcases hat with hat | hat
                  · exact HAP.out gn hat (h2.trans hh)
                  · omega
              case measure => simp [intOf]; omega
          · obtain rfl : j = n := by omega
            have HR2 := Lib.hid (gat_root HR.out)
            go_wp2_with fail
            go_roundw
            case rel => exact ⟨x + 1, A2, m2, c2, by omega, by go_num, rfl, by omega, by rw [HR2.out]; exact hG, hC, hb⟩
            case measure => simp [intOf]; omega
      · have t1 : ((x : Int) != (r : Int)) = true := by simp; omega
        have HR := Lib.hid (gat_not (show isRoot (esOf ps) n r = false by rw [hroot]; simp [e]))
        clear hroot
        go_wp2_with fail
        go_roundw
        case rel => exact ⟨r + 1, A2, m2, c2, by omega, by go_num, rfl, by omega, by rw [HR.out]; exact hG, hC, hb⟩
        case measure => simp [intOf]; omega
    · obtain rfl : r = n := by omega
      have hlen := hG.len
      have HGL := Lib.hid hlen
      have HS := Lib.hid (gat_sort HG.out)
      clear hlen
      go_wp2_with (go_at_call 38; refine (sort_own hG (by omega)).mono ?_; rintro e4 wa ⟨rfl, hSo, hgs⟩)
      go_ret
      have e1 : (cN (gatTo (esOf ps) r r)).mergeSort (fun x y => decide (x ≤ y)) = cN (fst (esOf ps) r) := HS.out
      rw [e1] at hSo
      exact retInts_of hSo.len (hSo.mono (by omega)) (hW.trans ((hb.grown hgs (by have := hb.size; omega) (fun g hg => (hG.lt g hg).1)).mono (by omega)))
set_option maxHeartbeats 4000000 in
theorem sForest_any (A B : Option Addr) (n c m d : Nat) (ns : List Nd) (ps : List Pp) (w : World) (h : IsNet w A n c ns B m d ps) (hok : NetOk ns ps) :
    Calls Try.prog 29 #[.agg #[.slice A n c, .slice B m d]] w (RetInts w (cN (fst (esOf ps) n))) := by
  have hln : ns.length = n := h.nodes.len
  have hm : ps.length = m := h.pipes.len
  have hn24 : n ≤ 24 := by have := hok.2.1; omega
  have hm40 : m ≤ 40 := by have := hok.2.2.1; omega
  have hg : Good (esOf ps) n := by rw [← hln]; exact net_good hok
  have HG := Lib.hid hg
  have HM := Lib.hid hm
  have HOK := Lib.hid hok
  clear hln hok hg hm
  have hmk2 := fun W => run_mk (P := Try.prog) 73 4 (.bool false) 1 1 Try.underlying73 info_bool m (by omega) (by omega) W
  have bx := (box_new w #[.slice A n c, .slice B m d] 33).alloc (.cells (madeCells #[.bool false] m) 4)
  have hV : Below w.heap.size w ((w.alloc (.cells #[.slice A n c, .slice B m d] 33)).alloc (.cells (madeCells #[.bool false] m) 4)) := ((Below.refl _ _).alloc (Nat.le_refl _) _).alloc (by simp) _
  have hsV : w.heap.size + 2 ≤ ((w.alloc (.cells #[.slice A n c, .slice B m d] 33)).alloc (.cells (madeCells #[.bool false] m) 4)).heap.size := by simp
  have oS0 : OwnL ((w.alloc (.cells #[.slice A n c, .slice B m d] 33)).alloc (.cells (madeCells #[.bool false] m) 4)) (w.heap.size + 1) (w.heap.size + 1) m m (List.replicate m false) := by
    have h1 := own_made (enc := encBl) (k := 1) (e := 4) (z := #[.bool false]) (B := w.heap.size + 1) false rfl (by omega) rfl (w.alloc (.cells #[.slice A n c, .slice B m d] 33)) m (by unfold maxLen; omega) (by simp)
    rw [Nat.mul_one] at h1
    have e : (w.alloc (.cells #[.slice A n c, .slice B m d] 33)).heap.size = w.heap.size + 1 := by simp
    rw [e] at h1
    exact h1
  have e0 : List.replicate m false = seenL m (gatTo (esOf ps) n 0) := by
    apply List.ext_getElem?
    intro i
    by_cases hi : i < m <;> simp [seenL, gatTo, hi]
  rw [e0] at oS0
  clear e0
  go_enter Try.func29, Try.ntmps29
  go_wp2_with (go_at_call 44; refine (sComps_any _ _ _ _ _ _ ns ps _ (h.below hV) HOK.out).mono ?_; rintro e1 w1 ⟨A1, c1, rfl, o1, hb1⟩)
  have hW := bthen hV hb1 (by omega)
  have bx1 := bx.belowA hb1
  have oS1 := oS0.below hb1
  have hs1 := hb1.size
  have HCL := Lib.hid (show (encE (comps (esOf ps) n)).length = n by rw [encE_len, comps_len])
  rw [HCL.out] at o1 ⊢
  have hsw : w.heap.size + 2 ≤ w1.heap.size := by omega
  have o1' : Own w1 (w.heap.size + 2) A1 n c1 (encE (comps (esOf ps) n)) := o1.mono (by omega)
  clear hb1 bx hV o1 hmk2 oS0
  go_loopw [5] (fun ii wr => ∃ r : Nat, r ≤ n ∧ ii = .int .i64 r ∧ OwnL wr (w.heap.size + 1) (w.heap.size + 1) m m (seenL m (gatTo (esOf ps) n r)) ∧ Own wr (w.heap.size + 2) A1 n c1 (encE (comps (esOf ps) n)) ∧ Below (w.heap.size + 1) w1 wr) (fun ii _ => n - (intOf ii).toNat)
  case atStart => exact ⟨0, Nat.zero_le _, rfl, oS1, o1', Below.refl _ _⟩
  case round =>
    clear oS1 o1'
    obtain ⟨r, hr, rfl, hS, hC, hb⟩ := hrel
    have b1 := bx1.below hb (by omega)
    have xl := b1.lt
    have x0 : wr.cell? ⟨w.heap.size, 0, none⟩ = some (.slice A n c) := b1.cell 0
    have x1 : wr.cell? ⟨w.heap.size, 1, none⟩ = some (.slice B m d) := b1.cell 1
    by_cases hlt : r < n
    · obtain ⟨x, hx, hxn⟩ := comps_some HG.out hlt
      obtain ⟨gc, z, rfl, _, hgc, hz, _, hcc, _⟩ := hC.at_ hlt
      rw [encE_at hx] at hz
      obtain rfl : z = (x : Int) := (Option.some.inj hz).symm
      have hroot := root_eq hx
      have i0 : (0 : Int) ≤ (r : Int) := by omega
      have i1 : (r : Int) < (n : Int) := by omega
      clear hz hx
      by_cases e : x = r
      · subst e
        have HR := Lib.hid (show isRoot (esOf ps) n x = true by rw [hroot]; simp)
        have t1 : ((x : Int) != (x : Int)) = false := by simp
        have kN : Kept (IsNet wr A n c ns B m d ps) := ⟨h.below (hW.trans (hb.mono (by omega)))⟩
        have kS : Kept (OwnL wr (w.heap.size + 1) (w.heap.size + 1) m m (seenL m (gatTo (esOf ps) n x))) := ⟨hS⟩
        have kC : Kept (Own wr (w.heap.size + 2) (some ⟨gc, 0, none⟩) n c1 (encE (comps (esOf ps) n))) := ⟨hC⟩
        have kB : Kept (Below (w.heap.size + 1) w1 wr) := ⟨hb⟩
        have hsb := hb.size
        obtain ⟨wo, rfl⟩ : ∃ wo : World, wo = wr := ⟨_, rfl⟩
        clear hroot hS hC hb b1
        go_wp2_with (go_at_call 45; refine (sSearch_any _ _ _ _ _ _ x ns ps _ kN.out HOK.out hlt).mono ?_; rintro e4 wa ⟨A5, c5, A6, c6, rfl, o5, _, hba⟩)
        have HI := Lib.hid (bfs_done HG.out hlt).inv
        have hS2 := kS.out.below hba
        have hC2 := kC.out.below hba
        have hb2 := bthen kB.out hba (by omega)
        have hsa := hba.size
        rw [HI.out.len] at o5 ⊢
        have o5' : Own wa (w.heap.size + 2) A5 n c5 (encE (bfs (esOf ps) n x).ent) := o5.mono (by omega)
        clear kS kC kB kN hba xl x0 x1 hcc t1 o5
        go_loopw [8] (fun ii wr => ∃ j : Nat, j ≤ n ∧ ii = .int .i64 j ∧ OwnL wr (w.heap.size + 1) (w.heap.size + 1) m m (seenL m (gatTo (esOf ps) n x ++ gatP (esOf ps) n x j)) ∧ Own wr (w.heap.size + 2) (some ⟨gc, 0, none⟩) n c1 (encE (comps (esOf ps) n)) ∧ Own wr (w.heap.size + 2) A5 n c5 (encE (bfs (esOf ps) n x).ent) ∧ Below (w.heap.size + 1) w1 wr) (fun ii _ => n - (intOf ii).toNat)
        case atStart => exact ⟨0, Nat.zero_le _, rfl, by rw [gatP_zero, List.append_nil]; exact hS2, hC2, o5', hb2⟩
        case round =>
          clear hS2 hC2 o5' hb2
          obtain ⟨j, hj, rfl, hS, hC, hE, hb⟩ := hrel
          by_cases hlj : j < n
          · obtain ⟨ge, z, rfl, _, hge, hz, _, hce, _⟩ := hE.at_ hlj
            have hent : (bfs (esOf ps) n x).ent[j]? = some ((bfs (esOf ps) n x).ent.getD j none) := by
              rw [List.getD_eq_getElem?_getD, List.getElem?_eq_getElem (by rw [HI.out.len]; exact hlj)]; rfl
            rw [encE_at hent] at hz
            cases ho : (bfs (esOf ps) n x).ent.getD j none with
            | none =>
              rw [ho] at hz hent
              obtain rfl : z = -1 := (Option.some.inj hz).symm
              have HP := Lib.hid (gatP_none hent)
              clear hz ho hent
              go_wp2_with fail
              go_roundw
              case rel => exact ⟨j + 1, by omega, by go_num, by rw [HP.out]; exact hS, hC, hE, hb⟩
              case measure => simp [intOf]; omega
            | some i =>
              rw [ho] at hz hent
              obtain rfl : z = (i : Int) := (Option.some.inj hz).symm
              have HP := Lib.hid (gatP_some hent)
              have him : i < m := by
                have h1 := (inc_mem.1 (HI.out.ent1 _ _ hent).1).1
                rw [esOf_len, HM.out] at h1
                exact h1
              have hzi : (0 : Int) ≤ (i : Int) := by omega
              have hzm : (i : Int) < (m : Int) := by omega
              obtain ⟨bo, _, hcs, hfs, hgs⟩ := hS.at_ him
              obtain ⟨hS2, hgr⟩ := hS.set_ him true
              have hC2 := hC.grown2 hgr (by omega)
              have hE2 := hE.grown2 hgr (by omega)
              have hb2 := hb.setCell (p := ⟨w.heap.size + 1, i, none⟩) (Nat.le_refl _) (.bool true)
              clear hz ho hent hS hC hE hb hgr
              go_wp2_with fail
              go_roundw
              case rel => exact ⟨j + 1, by omega, by go_num, by rw [HP.out, ← List.append_assoc, seenL_add]; exact hS2, hC2, hE2, hb2⟩
              case measure => simp [intOf]; omega
          · obtain rfl : j = n := by omega
            have HR2 := Lib.hid (gat_root HR.out)
            go_wp2_with fail
            go_roundw
            case rel => exact ⟨x + 1, by omega, by go_num, by rw [HR2.out]; exact hS, hC, hb⟩
            case measure => simp [intOf]; omega
      · have t1 : ((x : Int) != (r : Int)) = true := by simp; omega
        have HR := Lib.hid (gat_not (show isRoot (esOf ps) n r = false by rw [hroot]; simp [e]))
        clear hroot
        go_wp2_with fail
        go_roundw
        case rel => exact ⟨r + 1, by omega, by go_num, by rw [HR.out]; exact hS, hC, hb⟩
        case measure => simp [intOf]; omega
    · obtain rfl : r = n := by omega
      have hbW := hW.trans (hb.mono (by omega))
      have hw1 := hb.size
      clear hb hC b1 x0 x1 xl
      go_wp2_with fail
      obtain ⟨wo, rfl⟩ : ∃ wo : World, wo = wr := ⟨_, rfl⟩
      have hS1 := hS.alloc (.cells #[] 2)
      go_loopw [9, 10] (fun ss ii wr => ∃ (k : Nat) (A2 : Option Addr) (m2 c2 : Nat), k ≤ m ∧ ii = .int .i64 k ∧ ss = .slice A2 m2 c2 ∧ m2 ≤ k ∧ Own wr wo.heap.size A2 m2 c2 (cN (fstTo (esOf ps) r k)) ∧ OwnL wr (w.heap.size + 1) (w.heap.size + 1) m m (seenL m (gatTo (esOf ps) r r)) ∧ Below wo.heap.size wo wr) (fun _ ii _ => m - (intOf ii).toNat)
      case atStart => exact ⟨0, _, 0, 0, Nat.zero_le _, rfl, rfl, Nat.le_refl _, own_empty _ _ (Nat.le_refl _), hS1, (Below.refl _ _).alloc (Nat.le_refl _) _⟩
      case round =>
        clear hS hS1
        obtain ⟨k, A2, m2, c2, hk, rfl, rfl, hm2, hO, hS, hb⟩ := hrel
        by_cases hlk : k < m
        · obtain ⟨bo, hbo, hcs, hfs, hgs⟩ := hS.at_ hlk
          rw [seenL_at _ hlk] at hbo
          have htr : decide (k ∈ gatTo (esOf ps) r r) = treeB (esOf ps) r k := by
            rw [Bool.eq_iff_iff, decide_eq_true_eq, gat_mem HG.out, treeB_iff]
          rw [htr] at hbo
          cases hB : treeB (esOf ps) r k with
          | false =>
            rw [hB] at hbo
            obtain rfl : bo = false := (Option.some.inj hbo).symm
            have HF := Lib.hid (fstTo_out hB)
            clear hbo htr hB
            go_wp2_with fail
            go_roundw
            case rel => exact ⟨k + 1, A2, m2, c2, by omega, by go_num, rfl, by omega, by rw [HF.out]; exact hO, hS, hb⟩
            case measure => simp [intOf]; omega
          | true =>
            rw [hB] at hbo
            obtain rfl : bo = true := (Option.some.inj hbo).symm
            have HF := Lib.hid (fstTo_in hB)
            clear hbo htr hB
            go_wp2_with (at_builtin; refine wpList_pushA wr rfl _ _ rfl wo.heap.size _ _ _ _ (k : Int) wr.heap.size rfl rfl rfl hO (WalkArith.wf_i64 (by omega)) (by omega) hb.size ?_; intro gn cn wn hon hbn hgn hCn hat)
            go_roundw
            case rel => exact ⟨k + 1, some ⟨gn, 0, none⟩, m2 + 1, cn, by omega, by go_num, rfl, by omega, by rw [HF.out, cN_app]; exact hon, hS.grown hgn (hO.ne (by omega)), hb.trans hbn⟩
            case measure => simp [intOf]; omega
        · obtain rfl : k = m := by omega
          have HE := Lib.hid (show fst (esOf ps) r = fstTo (esOf ps) r k by unfold fst fstTo; rw [esOf_len, HM.out])
          go_wp2_with fail
          go_ret
          rw [← HE.out] at hO
          exact retInts_of hO.len (hO.mono (by omega)) (hbW.trans (hb.mono (by omega)))
end Go.Proofs.Ytpgegfnhokhlmaa
set_option linter.unusedVariables false
set_option maxRecDepth 100000
namespace Go.Proofs.Ytpgegfnhokhlmaa
open Go.RowKit Go.Joins

def encI1 (z : Int) : List Value := [.int .i64 z]
theorem flatI (zs : List Int) : zs.flatMap encI1 = zs.map (Value.int .i64) := by
  induction zs with
  | nil => rfl
  | cons a l ih => simpa [encI1] using ih
theorem Own.rowR {w : World} {B : Nat} {A : Option Addr} {n c : Nat} {zs : List Int} (h : Own w B A n c zs) : OwnR encI1 1 2 w B A n c zs := ⟨by rw [flatI]; exact h.1, fun x _ => rfl⟩
theorem Own.nilc {w : World} {B : Nat} {A : Option Addr} {n c : Nat} {zs : List Int} (h : Own w B A n c zs) : A = none → c = 0 := h.rowR.nil_
theorem Ints.rowR {w : World} {A : Option Addr} {n : Nat} {zs : List Int} (h : Ints w A n zs) : Recs encI1 1 w A n zs := by
  refine ⟨h.1, fun hn => ?_⟩
  obtain ⟨b, o, e, hb, hc⟩ := h.2.2 hn
  refine ⟨b, o, e, hb, fun i x hx j v hv => ?_⟩
  match j, hv with
  | 0, hv =>
    simp [encI1] at hv
    subst hv
    rw [Nat.mul_one, Nat.add_zero]
    exact hc i x hx
theorem wpList_catI {ops : Array Oper} {rest : List Oper} {o : Oper} {a : Act} {Q : Exit → Act → World → Prop} (wr : World) (hgd : o.guard = none) (s x : Operand)
    (ho : o.op = .call { callee := .builtin .append, args := #[s, x], argTypes := #[27, 27] }) (B : Nat) (A : Option Addr) (n c : Nat) (zs : List Int) (A' : Option Addr) (m c' : Nat) (ys : List Int) (hnil : A' = none → c' = 0)
    (hs : a.eval s = .slice A n c) (hx : a.eval x = .slice A' m c') (hown : Own wr B A n c zs) (hr : Ints wr A' m ys) (hn : n ≤ 1099511627776) (hm : m ≤ 1099511627776) (hB : B ≤ wr.heap.size)
    (h : ∀ A2 c2 w', Own w' B A2 (n + m) c2 (zs ++ ys) → Below B wr w' → wpList Try.prog ops Q rest (a.put o.dst (.slice A2 (n + m) c2)) w') :
    wpList Try.prog ops Q (o :: rest) a wr := by
  refine wpList_catR (enc := encI1) (k := 1) (bytes := 8) (z := .int .i64 0) wr hgd s x ho Try.underlying27 info_i64 rfl (by omega) (by omega) B A n c zs A' m c' ys hnil hs hx hown.rowR hr.rowR (fun y _ => rfl) (fun y _ u hu => by
    rw [List.mem_singleton.1 hu]; rfl) hn hm hB ?_
  intro A2 c2 w' ho2 hb2 _ _
  refine h A2 c2 w' ⟨?_, fun z hz => ?_⟩ hb2
  · have := ho2.1
    rwa [flatI] at this
  · rcases List.mem_append.1 hz with hz | hz
    · exact hown.2 z hz
    · exact hr.2.1 z hz
end Go.Proofs.Ytpgegfnhokhlmaa
set_option linter.unusedVariables false
set_option maxRecDepth 100000
namespace Go.Proofs.Ytpgegfnhokhlmaa
open Go.ChangeShapes Go.WideShapes Go.ChangeAt Go.RowKit Go.Joins Go.Deep
attribute [local go_sem ↓] Go.wp_at_zero Go.wp_at_succ

theorem fst_contains {es : Es} {n k : Nat} (hk : k < es.length) : (cN (fst es n)).contains (k : Int) = treeB es n k := by
  have e1 : (cN (fst es n)).contains (k : Int) = true ↔ k ∈ fst es n := by
    rw [List.contains_iff_mem]
    unfold cN
    rw [List.mem_map]
    constructor
    · rintro ⟨a, ha, e⟩
      have : a = k := by omega
      rwa [← this]
    · intro h
      exact ⟨k, h, rfl⟩
  rw [Bool.eq_iff_iff, e1]
  unfold fst
  rw [List.mem_filter, List.mem_range]
  exact ⟨fun h => h.2, fun h => ⟨hk, h⟩⟩
theorem fst_le (es : Es) (n : Nat) : (cN (fst es n)).Pairwise (· ≤ ·) := by
  unfold cN
  rw [List.pairwise_map]
  exact List.Pairwise.imp (fun h => by omega) (fst_sorted es n)
theorem cN_lt {l : List Nat} {z : Int} (h : z ∈ cN l) : ∃ v : Nat, v ∈ l ∧ z = v := by
  unfold cN at h
  obtain ⟨v, hv, e⟩ := List.mem_map.1 h
  exact ⟨v, hv, e.symm⟩
theorem chd_len (es : Es) (n : Nat) : (chd es n).length ≤ es.length := chdTo_len es n es.length
set_option maxHeartbeats 1000000 in
theorem sHas_any (A : Option Addr) (n c : Nat) (zs : List Int) (x : Int) (w : World) (h : Ints w A n zs) (hn : n ≤ 1048576) :
    Calls Try.prog 17 #[.slice A n c, .int .i64 x] w fun e w' => e = .returned (.bool (zs.contains x)) ∧ w = w' := by
  have hl := Lib.hid h.len
  go_enter Try.func17, Try.ntmps17
  go_wp2_with fail
  go_loop [5] (fun i => ∃ k : Nat, k ≤ n ∧ i = .int .i64 k ∧ (zs.take k).contains x = false) (fun i => n - (intOf i).toNat)
  case atStart => exact ⟨0, Nat.zero_le _, rfl, rfl⟩
  case round =>
    obtain ⟨k, hk, rfl, hpre⟩ := hrel
    have HP := Lib.hid hpre
    clear hpre
    by_cases hlt : k < n
    · obtain ⟨b, o, y, rfl, hbl, hy, hy64, hcy⟩ := h.at_ hlt
      have HY := Lib.hid hy
      clear hy
      cases hin : (y == x)
      · have HS := Lib.hid (show (zs.take (k + 1)).contains x = false by
          have h1 := HP.out
          rw [List.take_add_one, HY.out]
          simp at h1 hin ⊢
          exact ⟨h1, fun e => hin e.symm⟩)
        go_wp2_with fail
        go_round
        case rel => exact ⟨k + 1, by omega, by go_num, HS.out⟩
        case measure => simp [intOf]; omega
      · have HS := Lib.hid (show zs.contains x = true by
          have e1 : y = x := by simpa using hin
          rw [List.contains_iff_mem, ← e1]
          exact List.mem_of_getElem? HY.out)
        go_wp2_with fail
        go_ret
        exact ⟨rb (by have := HS.out; simpa using this.symm), rfl⟩
    · go_wp2_with fail
      go_ret
      have hp := HP.out
      rw [List.take_of_length_le (by have := hl.out; omega)] at hp
      exact ⟨rb (by simpa using hp.symm), rfl⟩
set_option maxHeartbeats 4000000 in
theorem sChords_any (A B : Option Addr) (n c m d : Nat) (ns : List Nd) (ps : List Pp) (w : World) (h : IsNet w A n c ns B m d ps) (hok : NetOk ns ps) :
    Calls Try.prog 16 #[.agg #[.slice A n c, .slice B m d]] w (RetInts w (cN (chd (esOf ps) n))) := by
  have hln : ns.length = n := h.nodes.len
  have hm : ps.length = m := h.pipes.len
  have hn24 : n ≤ 24 := by have := hok.2.1; omega
  have hm40 : m ≤ 40 := by have := hok.2.2.1; omega
  have hg : Good (esOf ps) n := by rw [← hln]; exact net_good hok
  have HG := Lib.hid hg
  have HM := Lib.hid hm
  have HOK := Lib.hid hok
  clear hln hok hg hm
  have bx := box_new w #[.slice A n c, .slice B m d] 33
  have hV : Below w.heap.size w (w.alloc (.cells #[.slice A n c, .slice B m d] 33)) := (Below.refl _ _).alloc (Nat.le_refl _) _
  have hsV : w.heap.size + 1 ≤ (w.alloc (.cells #[.slice A n c, .slice B m d] 33)).heap.size := by simp
  go_enter Try.func16, Try.ntmps16
  go_upto_region 2 with (go_at_call 29; refine (sForest_any _ _ _ _ _ _ ns ps _ (h.below hV) HOK.out).mono ?_; rintro e1 w1 ⟨A1, c1, rfl, o1, hb1⟩)
  have hW := bthen hV hb1 (by omega)
  have bx1 := bx.belowA hb1
  have hs1 := hb1.size
  have xl := bx1.lt
  have x0 : w1.cell? ⟨w.heap.size, 0, none⟩ = some (.slice A n c) := bx1.cell 0
  have x1 : w1.cell? ⟨w.heap.size, 1, none⟩ = some (.slice B m d) := bx1.cell 1
  have hL : (cN (fst (esOf ps) n)).length ≤ m := by rw [cN_len, ← HM.out, ← esOf_len]; exact fst_len _ _
  generalize hL1 : (cN (fst (esOf ps) n)).length = L at *
  clear hL1
  have o1' : Own w1 w.heap.size A1 L c1 (cN (fst (esOf ps) n)) := o1.mono (by omega)
  have HA1 := Lib.hid (fun g hg => (o1.lt g hg).2)
  clear hb1 bx hV o1
  go_wp2_with fail
  go_loopw [4, 5] (fun ss ii wr => ∃ (k : Nat) (A2 : Option Addr) (m2 c2 : Nat), k ≤ m ∧ ii = .int .i64 k ∧ ss = .slice A2 m2 c2 ∧ m2 ≤ k ∧ Own wr w1.heap.size A2 m2 c2 (cN (chdTo (esOf ps) n k)) ∧ Own wr w.heap.size A1 L c1 (cN (fst (esOf ps) n)) ∧ Below w1.heap.size w1 wr) (fun _ ii _ => m - (intOf ii).toNat)
  case atStart => exact ⟨0, _, 0, 0, Nat.zero_le _, rfl, rfl, Nat.le_refl _, own_empty _ _ (Nat.le_refl _), o1'.alloc _, (Below.refl _ _).alloc (Nat.le_refl _) _⟩
  case round =>
    clear o1' x0 x1 xl
    obtain ⟨k, A2, m2, c2, hk, rfl, rfl, hm2, hG, hC, hb⟩ := hrel
    have b1 := bx1.belowA hb
    have xl := b1.lt
    have x0 : wr.cell? ⟨w.heap.size, 0, none⟩ = some (.slice A n c) := b1.cell 0
    have x1 : wr.cell? ⟨w.heap.size, 1, none⟩ = some (.slice B m d) := b1.cell 1
    by_cases hlt : k < m
    · have hcon := fst_contains (n := n) (show k < (esOf ps).length by rw [esOf_len, HM.out]; exact hlt)
      cases hB : treeB (esOf ps) n k with
      | true =>
        rw [hB] at hcon
        have HC := Lib.hid hcon
        have HT := Lib.hid (chdTo_in hB)
        clear hcon hB
        go_wp2_with (go_at_call 17; refine (sHas_any _ _ _ _ _ _ hC.ints (by omega)).mono ?_; rintro e4 wq ⟨rfl, rfl⟩; rw [HC.out])
        go_roundw
        case rel => exact ⟨k + 1, A2, m2, c2, by omega, by go_num, rfl, by omega, by rw [HT.out]; exact hG, hC, hb⟩
        case measure => simp [intOf]; omega
      | false =>
        rw [hB] at hcon
        have HC := Lib.hid hcon
        have HT := Lib.hid (chdTo_out hB)
        clear hcon hB
        go_upto_region 7 with (go_at_call 17; refine (sHas_any _ _ _ _ _ _ hC.ints (by omega)).mono ?_; rintro e4 wq ⟨rfl, rfl⟩; rw [HC.out])
        go_wp2_with (at_builtin; refine wpList_pushA wr rfl _ _ rfl w1.heap.size _ _ _ _ (k : Int) wr.heap.size rfl rfl rfl hG (WalkArith.wf_i64 (by omega)) (by omega) hb.size ?_; intro gn cn wn hon hbn hgn hCn hat)
        go_roundw
        case rel =>
          refine ⟨k + 1, some ⟨gn, 0, none⟩, m2 + 1, cn, by omega, by go_num, rfl, by omega, by rw [HT.out, cN_app]; exact hon, ?_, hb.trans hbn⟩
          exact hC.grown hgn (fun g hg hh => by
            have h1 := (hG.lt g hh).1
            have h2 := HA1.out g (by rw [hg]; rfl)
            omega)
        case measure => simp [intOf]; omega
    · obtain rfl : k = m := by omega
      have HE := Lib.hid (show chd (esOf ps) n = chdTo (esOf ps) n k by unfold chd; rw [esOf_len, HM.out])
      go_wp2_with fail
      go_ret
      rw [← HE.out] at hG
      exact retInts_of hG.len (hG.mono (by omega)) (hW.trans (hb.mono (by omega)))
end Go.Proofs.Ytpgegfnhokhlmaa
set_option linter.unusedVariables false
set_option maxRecDepth 100000
namespace Go.Proofs.Ytpgegfnhokhlmaa
open Go.RowKit Go.Joins
theorem Own.atD {w : World} {B g n c : Nat} {zs : List Int} (h : Own w B (some ⟨g, 0, none⟩) n c zs) {k : Nat} (hk : k < n) : w.cell? ⟨g, k, none⟩ = some (.int .i64 (zs.getD k 0)) ∧ w.frozen? ⟨g, k, none⟩ = false ∧ B ≤ g ∧ g < w.heap.size := by
  obtain ⟨g', z, hA, h1, h2, hz, _, hc, hf⟩ := h.at_ hk
  obtain rfl : g = g' := by injection hA with hA; injection hA
  have hz' := getD_some h.len hk
  rw [hz] at hz'
  obtain rfl := Option.some.inj hz'
  exact ⟨hc, hf, h1, h2⟩
theorem Ints.atD {w : World} {A : Option Addr} {n : Nat} {zs : List Int} (h : Ints w A n zs) {k : Nat} (hk : k < n) : ∃ b o, A = some ⟨b, o, none⟩ ∧ b < w.heap.size ∧ w.cell? ⟨b, o + k, none⟩ = some (.int .i64 (zs.getD k 0)) := by
  obtain ⟨b, o, z, e, hb, hz, _, hc⟩ := h.at_ hk
  have hz' := getD_some h.len hk
  rw [hz] at hz'
  obtain rfl := Option.some.inj hz'
  exact ⟨b, o, e, hb, hc⟩
end Go.Proofs.Ytpgegfnhokhlmaa
set_option linter.unusedVariables false
set_option maxRecDepth 100000
namespace Go.Proofs.Ytpgegfnhokhlmaa
open Go.ChangeShapes Go.WideShapes Go.ChangeAt Go.RowKit Go.Joins Go.Deep

theorem mul_bd {a b : Int} {A B : Nat} (ha : a.natAbs ≤ A) (hb : b.natAbs ≤ B) : (a * b).natAbs ≤ A * B := by
  rw [Int.natAbs_mul]
  exact Nat.mul_le_mul ha hb
theorem drp_bd {k f : Int} (hk : 1 ≤ k ∧ k ≤ 1000) (hf : -30000 ≤ f ∧ f ≤ 30000) : -900000000000 ≤ drp k f ∧ drp k f ≤ 900000000000 := by
  have h1 := mul_bd (a := f) (b := ab f) (A := 30000) (B := 30000) (by omega) (by unfold ab; omega)
  have h2 := mul_bd (a := k) (b := f * ab f) (A := 1000) (B := 30000 * 30000) (by omega) h1
  unfold drp
  omega
end Go.Proofs.Ytpgegfnhokhlmaa
