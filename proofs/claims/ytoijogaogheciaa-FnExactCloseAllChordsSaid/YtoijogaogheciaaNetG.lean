/- A network's pipes as a graph; what pipesAt, otherEnd, l02At, l02Other do, by walks over their text. Condition: a valid network. -/
import Derived.Test.YtoijogaogheciaaBox
import Derived.Test.YtoijogaogheciaaScale
import Derived.Test.YtoijogaogheciaaGraph7
import Derived.IntWalk
set_option linter.unusedVariables false
set_option maxRecDepth 100000
namespace Go.Proofs.Ytoijogaogheciaa
open Go.ChangeShapes Go.WideShapes Go.ChangeAt Go.RowKit Go.Joins Go.Deep

/-- The ends of the pipes. -/
def esOf (ps : List Pp) : Es := ps.map fun p => (p.fr.toNat, p.to.toNat)
/-- Natural numbers as they lie in memory. -/
def cN (l : List Nat) : List Int := l.map fun i : Nat => (i : Int)
theorem esOf_len (ps : List Pp) : (esOf ps).length = ps.length := by simp [esOf]
theorem pipe_ok {ns : List Nd} {ps : List Pp} {i : Nat} {p : Pp} (h : NetOk ns ps) (hp : ps[i]? = some p) : (p.fr = (efr (esOf ps) i : Int)) ∧ (p.to = (eto (esOf ps) i : Int)) ∧ efr (esOf ps) i < ns.length ∧ eto (esOf ps) i < ns.length ∧ efr (esOf ps) i ≠ eto (esOf ps) i ∧ (1 ≤ p.k ∧ p.k ≤ 1000) ∧ (1 ≤ p.l ∧ p.l ≤ 30000) := by
  have h1 := h.2.2.2.2 p (List.mem_of_getElem? hp)
  unfold pipeB at h1
  simp only [Bool.and_eq_true, inB_iff, decide_eq_true_eq] at h1
  have e : (esOf ps).getD i (0, 0) = (p.fr.toNat, p.to.toNat) := by simp [esOf, List.getD, hp]
  unfold efr eto
  rw [e]
  obtain ⟨a, b, c, d, _, f⟩ := h1
  refine ⟨by show p.fr = ((p.fr.toNat : Nat) : Int); omega, by show p.to = ((p.to.toNat : Nat) : Int); omega, by show p.fr.toNat < _; omega, by show p.to.toNat < _; omega, by show p.fr.toNat ≠ p.to.toNat; omega, d, f⟩
theorem net_good {ns : List Nd} {ps : List Pp} (h : NetOk ns ps) : Good (esOf ps) ns.length := by
  intro i hi
  rw [esOf_len] at hi
  have hp : ps[i]? = some ps[i] := List.getElem?_eq_getElem hi
  obtain ⟨_, _, h1, h2, h3, _⟩ := pipe_ok h hp
  exact ⟨h1, h2, h3⟩
theorem cN_len (l : List Nat) : (cN l).length = l.length := by simp [cN]
theorem cN_at {l : List Nat} {k v : Nat} (h : l[k]? = some v) : (cN l)[k]? = some (v : Int) := by simp [cN, h]
theorem cN_get {l : List Nat} {k : Nat} {z : Int} (h : (cN l)[k]? = some z) : ∃ v : Nat, l[k]? = some v ∧ z = v := by
  simp [cN] at h
  obtain ⟨v, h1, h2⟩ := h
  exact ⟨v, h1, h2.symm⟩
/-- The pipes at a node, the first k of all. -/
def incTo (es : Es) (v k : Nat) : List Nat := (List.range k).filter fun i => efr es i == v || eto es i == v
theorem incTo_step (es : Es) (v k : Nat) : incTo es v (k + 1) = if (efr es k == v || eto es k == v) = true then incTo es v k ++ [k] else incTo es v k := by
  unfold incTo
  rw [List.range_succ, List.filter_append]
  by_cases h : (efr es k == v || eto es k == v) = true
  · rw [if_pos h]; simp [h]
  · rw [if_neg h]; simp at h; simp [h]
theorem incTo_len (es : Es) (v k : Nat) : (incTo es v k).length ≤ k := by
  unfold incTo
  exact Nat.le_trans (List.length_filter_le _ _) (by simp)
theorem inc_ways (es : Es) (v k : Nat) : ((((efr es k : Int)) == (v : Int)) = true ∧ incTo es v (k + 1) = incTo es v k ++ [k]) ∨ ((((efr es k : Int)) == (v : Int)) = false ∧ (((eto es k : Int)) == (v : Int)) = true ∧ incTo es v (k + 1) = incTo es v k ++ [k]) ∨
    ((((efr es k : Int)) == (v : Int)) = false ∧ (((eto es k : Int)) == (v : Int)) = false ∧ incTo es v (k + 1) = incTo es v k) := by
  have key : ∀ a b : Nat, (((a : Int)) == (b : Int)) = (a == b) := by
    intro a b
    rw [Bool.eq_iff_iff, beq_iff_eq, beq_iff_eq]
    omega
  rw [key, key, incTo_step]
  by_cases h1 : (efr es k == v) = true
  · left; simp [h1]
  · have h1' : (efr es k == v) = false := by simpa using h1
    by_cases h2 : (eto es k == v) = true
    · right; left; simp [h1', h2]
    · have h2' : (eto es k == v) = false := by simpa using h2
      right; right; simp [h1', h2']
set_option maxHeartbeats 1000000 in
theorem pipesAt_any (A B : Option Addr) (n c m d : Nat) (v : Nat) (ns : List Nd) (ps : List Pp) (w : World) (h : IsNet w A n c ns B m d ps) (hok : NetOk ns ps) :
    Calls Try.prog 129 #[.agg #[.slice A n c, .slice B m d], .int .i64 v] w (RetInts w (cN (inc (esOf ps) v))) := by
  have hm : ps.length = m := h.pipes.len
  have hm40 : m ≤ 40 := by have := hok.2.2.1; omega
  have HM := Lib.hid hm
  have HOK := Lib.hid hok
  clear hm hok
  have hV : Below w.heap.size w (w.alloc (.cells #[.slice A n c, .slice B m d] 45)) := (Below.refl _ _).alloc (Nat.le_refl _) _
  go_enter Try.func129, Try.ntmps129
  go_wp2_with fail
  generalize (w.alloc (.cells #[.slice A n c, .slice B m d] 45)) = V at *
  go_loopw [5, 11] (fun ss ii wr => ∃ (k : Nat) (A2 : Option Addr) (m2 c2 : Nat), k ≤ m ∧ ii = .int .i64 k ∧ ss = .slice A2 m2 c2 ∧ m2 ≤ k ∧ Own wr V.heap.size A2 m2 c2 (cN (incTo (esOf ps) v k)) ∧ Below V.heap.size V wr) (fun _ ii _ => m - (intOf ii).toNat)
  case atStart => exact ⟨0, none, 0, 0, Nat.zero_le _, rfl, rfl, Nat.le_refl _, own_nil _ _, Below.refl _ _⟩
  case round =>
    obtain ⟨k, A2, m2, c2, hk, rfl, rfl, hm2, hown, hb⟩ := hrel
    by_cases hlt : k < m
    · obtain ⟨b, o, p, rfl, hbl, hp, hpk, q0, q1, q2, q3, q4⟩ := (h.pipes.below (bthen hV hb hV.size)).at_ hlt
      obtain ⟨e1, e2, _⟩ := pipe_ok HOK.out hp
      rw [e1] at q0
      rw [e2] at q1
      clear hp e1 e2
      rcases inc_ways (esOf ps) v k with ⟨t1, tf⟩ | ⟨t1, t2, tf⟩ | ⟨t1, t2, tf⟩
      case inr.inr =>
        have TF := Lib.hid tf
        clear tf
        go_wp2_with fail
        go_roundw
        case rel => exact ⟨k + 1, A2, m2, c2, by omega, by go_num, rfl, by omega, by rw [TF.out]; exact hown.alloc _, hb.alloc hb.size _⟩
        case measure => simp [intOf]; omega
      all_goals
        have TF := Lib.hid tf
        clear tf
        go_wp2_with (at_builtin; refine wpList_pushH (wr.alloc (.cells #[.int .i64 (efr (esOf ps) k : Int), .int .i64 (eto (esOf ps) k : Int), .int .i64 p.k, .int .i64 p.v, .int .i64 p.l] 66)) rfl _ _ rfl V.heap.size _ _ _ _ (k : Int) (wr.heap.size + 1) (by simp) rfl rfl (hown.alloc _) (WalkArith.wf_i64 (by omega)) (by omega) (by simp; have := hb.size; omega) ?_; intro g3 c3 w3 hown3 hb3 _ _)
        go_roundw
        case rel => exact ⟨k + 1, _, _, _, by omega, by go_num, rfl, by omega, by rw [TF.out]; unfold cN; rw [List.map_append]; exact hown3, (hb.alloc hb.size _).trans hb3⟩
        case measure => simp [intOf]; omega
    · obtain rfl : k = m := by omega
      go_wp2_with fail
      go_ret
      have e : inc (esOf ps) v = incTo (esOf ps) v k := by unfold inc incTo; rw [esOf_len, HM.out]
      rw [← e] at hown
      exact retInts_of hown.len (hown.mono hV.size) (bthen hV hb hV.size)
set_option maxHeartbeats 1000000 in
theorem sAt_any (A B : Option Addr) (n c m d : Nat) (v : Nat) (ns : List Nd) (ps : List Pp) (w : World) (h : IsNet w A n c ns B m d ps) (hok : NetOk ns ps) :
    Calls Try.prog 136 #[.agg #[.slice A n c, .slice B m d], .int .i64 v] w (RetInts w (cN (inc (esOf ps) v))) := by
  have hm : ps.length = m := h.pipes.len
  have hm40 : m ≤ 40 := by have := hok.2.2.1; omega
  have HM := Lib.hid hm
  have HOK := Lib.hid hok
  clear hm hok
  have hV : Below w.heap.size w (w.alloc (.cells #[.slice A n c, .slice B m d] 45)) := (Below.refl _ _).alloc (Nat.le_refl _) _
  have bx := box_new w #[.slice A n c, .slice B m d] 45
  have hs1 : (w.alloc (.cells #[.slice A n c, .slice B m d] 45)).heap.size = w.heap.size + 1 := by simp
  go_enter Try.func136, Try.ntmps136
  go_wp2_with fail
  rw [← hs1]
  clear hs1
  generalize (w.alloc (.cells #[.slice A n c, .slice B m d] 45)) = V at *
  go_loopw [5, 6] (fun ss ii wr => ∃ (k : Nat) (A2 : Option Addr) (m2 c2 : Nat), k ≤ m ∧ ii = .int .i64 k ∧ ss = .slice A2 m2 c2 ∧ m2 ≤ k ∧ Own wr V.heap.size A2 m2 c2 (cN (incTo (esOf ps) v k)) ∧ Below V.heap.size V wr) (fun _ ii _ => m - (intOf ii).toNat)
  case atStart => exact ⟨0, _, 0, 0, Nat.zero_le _, rfl, rfl, Nat.le_refl _, own_empty _ _ (Nat.le_refl _), (Below.refl _ _).alloc (Nat.le_refl _) _⟩
  case round =>
    obtain ⟨k, A2, m2, c2, hk, rfl, rfl, hm2, hown, hb⟩ := hrel
    have bx1 := bx.belowA hb
    have xl := bx1.lt
    have x1 : wr.cell? ⟨w.heap.size, 1, none⟩ = some (.slice B m d) := bx1.cell 1
    by_cases hlt : k < m
    · obtain ⟨b, o, p, rfl, hbl, hp, hpk, q0, q1, q2, q3, q4⟩ := (h.pipes.below (bthen hV hb hV.size)).at_ hlt
      obtain ⟨e1, e2, _⟩ := pipe_ok HOK.out hp
      rw [e1] at q0
      rw [e2] at q1
      clear hp e1 e2
      rcases inc_ways (esOf ps) v k with ⟨t1, tf⟩ | ⟨t1, t2, tf⟩ | ⟨t1, t2, tf⟩
      case inr.inr =>
        have TF := Lib.hid tf
        clear tf
        go_wp2_with fail
        go_roundw
        case rel => exact ⟨k + 1, A2, m2, c2, by omega, by go_num, rfl, by omega, by rw [TF.out]; exact hown, hb⟩
        case measure => simp [intOf]; omega
      all_goals
        have TF := Lib.hid tf
        clear tf
        go_wp2_with (at_builtin; refine wpList_push wr rfl _ _ rfl V.heap.size _ _ _ _ (k : Int) rfl rfl hown (WalkArith.wf_i64 (by omega)) (by omega) hb.size ?_; intro g3 c3 w3 hown3 hb3 _ _)
        go_roundw
        case rel => exact ⟨k + 1, _, _, _, by omega, by go_num, rfl, by omega, by rw [TF.out]; unfold cN; rw [List.map_append]; exact hown3, hb.trans hb3⟩
        case measure => simp [intOf]; omega
    · obtain rfl : k = m := by omega
      go_wp2_with fail
      go_ret
      have e : inc (esOf ps) v = incTo (esOf ps) v k := by unfold inc incTo; rw [esOf_len, HM.out]
      rw [← e] at hown
      exact retInts_of hown.len (hown.mono hV.size) (bthen hV hb hV.size)
theorem othI {es : Es} {i v : Nat} : (oth es i v : Int) = if ((efr es i : Int) == (v : Int)) = true then (eto es i : Int) else (efr es i : Int) := by
  unfold oth
  by_cases h : efr es i = v
  · simp [h]
  · have : ¬ (efr es i : Int) = v := by omega
    simp [h, this]
set_option maxHeartbeats 1000000 in
theorem otherEnd_any (i v : Nat) (es : Es) (pk pv pl : Int) (w : World) :
    Calls Try.prog 130 #[.agg #[.int .i64 (efr es i : Int), .int .i64 (eto es i : Int), .int .i64 pk, .int .i64 pv, .int .i64 pl], .int .i64 v] w fun e w' => e = .returned (.int .i64 (oth es i v : Int)) ∧ Below w.heap.size w w' := by
  cases h : ((efr es i : Int) == (v : Int))
  all_goals
    have H := Lib.hid (othI (es := es) (i := i) (v := v))
    go_enter Try.func130, Try.ntmps130
    go_wp2_with fail
    go_ret
    exact ⟨ri (by rw [H.out, h]; rfl), (Below.refl _ _).alloc (Nat.le_refl _) _⟩
theorem oth_sum {es : Es} {n i v : Nat} (hg : Good es n) (hi : i ∈ inc es v) : (oth es i v : Int) = (efr es i : Int) + (eto es i : Int) - (v : Int) := by
  obtain ⟨hil, he⟩ := inc_mem.1 hi
  have := hg i hil
  unfold oth
  split <;> omega
set_option maxHeartbeats 1000000 in
theorem sOther_any (A B : Option Addr) (n c m d : Nat) (i v : Nat) (ns : List Nd) (ps : List Pp) (w : World) (h : IsNet w A n c ns B m d ps) (hok : NetOk ns ps) (hi : i ∈ inc (esOf ps) v) :
    Calls Try.prog 137 #[.agg #[.slice A n c, .slice B m d], .int .i64 i, .int .i64 v] w fun e w' => e = .returned (.int .i64 (oth (esOf ps) i v : Int)) ∧ Below w.heap.size w w' := by
  have hm : ps.length = m := h.pipes.len
  have hil : i < m := by have := (inc_mem.1 hi).1; rw [esOf_len] at this; omega
  have hm40 : m ≤ 40 := by have := hok.2.2.1; omega
  have hgd := net_good hok
  obtain ⟨b, o, p, rfl, hbl, hp, hpk, q0, q1, q2, q3, q4⟩ := (h.pipes.alloc (.cells #[.slice A n c, .slice B m d] 45)).at_ hil
  obtain ⟨e1, e2, l1, l2, _⟩ := pipe_ok hok hp
  have hn24 : ns.length ≤ 24 := hok.2.1
  have HS := Lib.hid (oth_sum hgd hi)
  have hol := oth_lt (v := v) hgd (inc_mem.1 hi).1
  have hv24 : v < 24 := by
    have := (inc_mem.1 hi).2
    omega
  rw [e1] at q0
  rw [e2] at q1
  have i0 : (0 : Int) ≤ (i : Int) := by omega
  have i1 : (i : Int) < (m : Int) := by omega
  have b1 : (efr (esOf ps) i : Int) < 24 := by omega
  have b2 : (eto (esOf ps) i : Int) < 24 := by omega
  have s1 : IntKind.i64.wrap ((efr (esOf ps) i : Int) + (eto (esOf ps) i : Int)) = (efr (esOf ps) i : Int) + (eto (esOf ps) i : Int) := IntWalk.i64_in _ (by omega)
  have s2 : IntKind.i64.wrap ((efr (esOf ps) i : Int) + (eto (esOf ps) i : Int) - (v : Int)) = (efr (esOf ps) i : Int) + (eto (esOf ps) i : Int) - (v : Int) := IntWalk.i64_in _ (by omega)
  clear hm hp e1 e2 hgd hi hok
  go_enter Try.func137, Try.ntmps137
  go_wp2_with fail
  go_quiet (fail)
  go_wp2_with fail
  go_ret
  exact ⟨ri HS.out.symm, below_drewN ((Below.refl _ _).alloc (Nat.le_refl _) _) _⟩
end Go.Proofs.Ytoijogaogheciaa
