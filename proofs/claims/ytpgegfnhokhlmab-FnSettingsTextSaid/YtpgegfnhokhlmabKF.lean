/- What outflows and l05Out do, by walks over their text. Condition: a valid network, a flow list. What isEven, l06Even, l05Zero do, by walks over their text. Condition: a valid network, supplies. What l06Forest does, by a walk over its text. Condition: a valid network; as many supplies as nodes, bounded. slices.Backward over numbers: what it hands back, and how a range over it goes. Condition: within the reach. In a round of a range over a function an operation that defers nothing goes as everywhere: drawn regions in a round. Condition: a post that does not let out. The forest's flows as the program keeps them, over whatever nodes come. No program in sight. Marks of ranges over functions; what the walk of forestFlows keeps. No condition. What forestFlows does, by a walk over its text. Condition: a valid network; as many supplies as nodes, bounded. What cycleOf does, by a walk over its text. Conditions: a valid network, a pipe of it. What l06Even do, by walks over their text. Condition: a valid network, supplies. -/
import Derived.Test.YtpgegfnhokhlmabKS
import Derived.Test.YtpgegfnhokhlmabKG
import Derived.Test.YtpgegfnhokhlmabKA
import Derived.StillTailTactics
import Derived.RegionTactic
import Derived.BigRegion
import Derived.Deep.DeepCutAuto
import Derived.RangeFuncNested
import Derived.RangeFuncBound
import Derived.RangeFuncCalls
import Derived.RangeFuncLeaves
import Derived.Shelf.Abstract
import Derived.Shelf.RegionOpen
import Derived.WalkKit
import Derived.OwnWalkIn
import Derived.TacticsInMore
import Derived.LoopNIn
import Derived.LoopIn
import Derived.OrdersIn
import Derived.TacticsIn
import Derived.StillTail
import Derived.OrdersHeld
set_option linter.unusedVariables false
set_option maxRecDepth 100000
namespace Go.Proofs.Ytpgegfnhokhlmab
open Go.ChangeShapes Go.WideShapes Go.ChangeAt Go.RowKit Go.Joins Go.Deep
attribute [local go_sem ↓] Go.wp_at_zero Go.wp_at_succ

theorem fl_at {m : Nat} {zs : List Int} (h : flB m zs = true) : zs.length = m ∧ ∀ i, i < m → -30000 ≤ zs.getD i 0 ∧ zs.getD i 0 ≤ 30000 := by
  have hl := flB_len h
  refine ⟨hl, fun i hi => ?_⟩
  exact all_at (flB_all h) (getD_some hl hi)
theorem Own.set1 {w : World} {B g n c : Nat} {zs : List Int} (h : Own w B (some ⟨g, 0, none⟩) n c zs) (k : Nat) {z : Int} (hz : I64 z) : Own (w.setCell ⟨g, k, none⟩ (.int .i64 z)) B (some ⟨g, 0, none⟩) n c (zs.set k z) ∧ w.grownBy (w.setCell ⟨g, k, none⟩ (.int .i64 z)) (some g) := ⟨h.set_ k hz, (h.1.stored k (.int .i64 z)).2⟩
end Go.Proofs.Ytpgegfnhokhlmab
set_option linter.unusedVariables false
set_option maxRecDepth 100000
namespace Go.Proofs.Ytpgegfnhokhlmab
open Go.ChangeShapes Go.WideShapes Go.ChangeAt Go.RowKit Go.Joins Go.Deep
attribute [local go_sem ↓] Go.wp_at_zero Go.wp_at_succ

theorem zero_all (l : List Int) : allB l 0 0 = l.all fun x => x == 0 := by
  unfold allB
  congr 1
  funext x
  rw [Bool.eq_iff_iff, inB_iff, beq_iff_eq]
  omega
theorem comps_some' {es : Es} {n r : Nat} (hg : Good es n) (hr : r < n) : ∃ x : Nat, (comps es n)[r]? = some (some x) ∧ x < n := by
  obtain ⟨x, h1, h2, _⟩ := comps_at hg hr
  exact ⟨x, h1, h2⟩
end Go.Proofs.Ytpgegfnhokhlmab
set_option linter.unusedVariables false
set_option maxRecDepth 100000
namespace Go.Proofs.Ytpgegfnhokhlmab
open Go.ChangeShapes Go.WideShapes Go.ChangeAt Go.RowKit Go.Joins Go.Deep
attribute [local go_sem ↓] Go.wp_at_zero Go.wp_at_succ

theorem bne_no {a b : Nat} (h : ((a : Int) != (b : Int)) = false) : a = b := by
  have h9 : (a : Int) = (b : Int) := by simpa using h
  omega
theorem ent_at {es : Es} {n r v i : Nat} (h : (bfs es n r).ent[v]? = some (some i)) : (encE (bfs es n r).ent).getD v 0 = (i : Int) := by
  rw [List.getD_eq_getElem?_getD, encE_at h]
  rfl
theorem ord_at {es : Es} {n r q v : Nat} (h : (bfs es n r).ord[q]? = some v) : (cN (bfs es n r).ord).getD q 0 = (v : Int) := by
  rw [List.getD_eq_getElem?_getD, cN_at h]
  rfl
end Go.Proofs.Ytpgegfnhokhlmab
set_option linter.unusedVariables false
set_option maxRecDepth 100000
namespace Go.Proofs.Ytpgegfnhokhlmab
open Go.RowKit Go.Shelf
attribute [local go_sem] Oper.semAt_some

/-- What has come when k rounds are over. -/
def upto {α : Type} (f : Nat → α) (k : Nat) : List α := (List.range k).map f
theorem upto_succ {α : Type} (f : Nat → α) (k : Nat) : upto f (k + 1) = upto f k ++ [f k] := by simp [upto, List.range_succ]
theorem upto_length {α : Type} (f : Nat → α) (k : Nat) : (upto f k).length = k := by simp [upto]
/-- The j-th from behind: its index, and it. -/
def bkw (zs : List Int) (j : Nat) : Nat × Int := (zs.length - 1 - j, zs[zs.length - 1 - j]?.getD 0)
/-- Two blocks lie as they lay. -/
def Kp2 (b1 b2 : Nat) (W W' : World) : Prop := W'.heap[b1]? = W.heap[b1]? ∧ W'.heap[b2]? = W.heap[b2]?
theorem Kp2.refl (b1 b2 : Nat) (W : World) : Kp2 b1 b2 W W := ⟨rfl, rfl⟩
theorem Kp2.trans {b1 b2 : Nat} {X Y Z : World} (h : Kp2 b1 b2 X Y) (k : Kp2 b1 b2 Y Z) : Kp2 b1 b2 X Z := ⟨k.1.trans h.1, k.2.trans h.2⟩
theorem Kp2.c1 {b1 b2 : Nat} {X Y : World} (h : Kp2 b1 b2 X Y) (o : Nat) : Y.cell? ⟨b1, o, none⟩ = X.cell? ⟨b1, o, none⟩ := World.cell?_of_block (a := ⟨b1, o, none⟩) h.1
theorem Kp2.c2 {b1 b2 : Nat} {X Y : World} (h : Kp2 b1 b2 X Y) (o : Nat) : Y.cell? ⟨b2, o, none⟩ = X.cell? ⟨b2, o, none⟩ := World.cell?_of_block (a := ⟨b2, o, none⟩) h.2
theorem Kp2.put {b1 b2 B : Nat} (W : World) (l : Nat) (o' : Obj) (hB : B ≤ l) (h1 : b1 < B) (h2 : b2 < B) : Kp2 b1 b2 W (W.putObj l o') := ⟨World.putObj_heap_other (by omega), World.putObj_heap_other (by omega)⟩
theorem Kp2.below {b1 b2 B : Nat} {W W' : World} (h : Below B W W') (h1 : b1 < B) (h2 : b2 < B) : Kp2 b1 b2 W W' := ⟨h.block b1 h1, h.block b2 h2⟩
theorem Kp2.set {b1 b2 : Nat} (W : World) (a : Addr) (v : Value) (h1 : a.block ≠ b1) (h2 : a.block ≠ b2) : Kp2 b1 b2 W (W.setCell a v) := ⟨Below.heap_setCell W a v b1 (fun e => h1 e.symm), Below.heap_setCell W a v b2 (fun e => h2 e.symm)⟩
end Go.Proofs.Ytpgegfnhokhlmab
set_option linter.unusedVariables false
namespace Go.Proofs.Ytpgegfnhokhlmab
open Go

section
variable {P : Program} {l n : Nat} {ops : Array Oper} {Q : Exit → Act → World → Prop} {md : Region.Mode}
theorem opIn_of (o : Oper) {a : Act} {w : World} {K : Act → World → Prop} (hd : ∀ c, o.op ≠ .defer c) (h : o.wp P a w K Q) : o.wpIn (Fence.wide.inRound l) n P a w K Q := by
  unfold Oper.wp at h
  unfold Oper.wpIn
  refine ⟨fun _ _ => trivial, ?_⟩
  rw [Oper.semAt_eq _ _ _ hd]
  generalize (execOp a.eval o).run P w = r at *
  cases r with
  | ok x w' =>
    cases x with
    | enter f args =>
      refine ⟨fun hh => by simp [Fence.wide, Fence.inRound] at hh, CallsIn.inRound l (callsIn_wide.2 (Calls.mono h fun e w'' he => ?_))⟩
      cases e <;> exact he
    | row row args => exact ⟨fun hh => by simp [Fence.wide, Fence.inRound] at hh, fun c cs _ => let ⟨v, w', r, s⟩ := h c cs; ⟨v, w', r, stepsIn_wide.2 s⟩⟩
    | _ => first | exact h | exact h.elim
  | halt x w' => cases x <;> exact h
theorem wpOpIn_of {i : Nat} {K : Act → World → Prop} {a : Act} {w : World} (hno : ¬ LetsOut Q) (hd : ∀ o, ops[i]? = some o → ∀ c, o.op ≠ .defer c) (h : wpOp P ops Q i K a w) : wpOpIn (Fence.wide.inRound l) n P ops Q i K a w := by
  unfold wpOp at h
  unfold wpOpIn
  cases ho : ops[i]? with
  | none => simpa [ho] using h
  | some o =>
    simp only [ho] at h ⊢
    by_cases hw : Region.wanted o (yielded ops a.tmps) = true
    · simp only [hw, if_true] at h ⊢
      rcases h with h | h
      · exact opIn_of o (hd o ho) h
      · exact absurd h.2 hno
    · simp only [hw] at h ⊢
      exact ⟨fun _ _ => trivial, h⟩
theorem wpAnyIn_of (hno : ¬ LetsOut Q) (hd : ∀ (i : Nat) (o : Oper), ops[i]? = some o → ∀ c, o.op ≠ .defer c) : ∀ (fuel : Nat) (listed : Array Bool) (a : Act) (w : World), wpAny P md ops Q fuel listed a w → wpAnyIn (Fence.wide.inRound l) n P md ops Q fuel listed a w
  | 0, _, _, _, h => h
  | fuel + 1, _, _, _, h => ⟨h.1, fun i hi => wpOpIn_of hno (hd i) (wpOp_mono (fun a' w' h' => wpAnyIn_of hno hd fuel _ a' w' h') (h.2 i hi))⟩
/-- No operation defers. -/
def calmB (ops : Array Oper) : Bool := ops.all fun o => match o.op with
  | .defer _ => false
  | _ => true
theorem calm_of (h : calmB ops = true) : ∀ (i : Nat) (o : Oper), ops[i]? = some o → ∀ c, o.op ≠ .defer c := by
  intro i o ho c hc
  unfold calmB at h
  rw [Array.all_eq_true'] at h
  have := h o (Array.mem_of_getElem? ho)
  rw [hc] at this
  simp at this
/-- A drawn region in a round, whatever order comes up. -/
theorem round_any {id : Nat} {a : Act} {w : World} (hno : ¬ LetsOut Q) (hc : calmB ops = true) (hm : P.follows .mixedOrders = true)
    (h : wpAny P .any ops Q ops.size (Array.replicate ops.size false) a { w with drawn := w.drawn + 1 }) : (Code.region id ops true).wpIn (Fence.wide.inRound l) n P Q a w :=
  wpIn_region_any hm (wpAnyIn_of hno (calm_of hc) _ _ _ _ h)
/-- A drawn region in a round: reads, then a tail whose order is fixed. -/
theorem round_tail {id : Nat} {a : Act} {w : World} {os : List Oper} (k : Nat) (hno : ¬ LetsOut Q) (hc : calmB os.toArray = true) (hm : P.follows .mixedOrders = true) (hB : Region.lexTailB .any os.toArray k = true)
    (h : wpStill P os.toArray { w with drawn := w.drawn + 1 } (fun a' => wpList P os.toArray Q (os.drop k) a' { w with drawn := w.drawn + 1 }) (os.take k) a) : (Code.region id os.toArray true).wpIn (Fence.wide.inRound l) n P Q a w := by
  refine round_any hno hc hm ?_
  simp only [Region.lexTailB, Bool.and_eq_true, decide_eq_true_eq] at hB
  obtain ⟨⟨⟨⟨h1, h2⟩, h3⟩, h4⟩, h5⟩ := hB
  have hk : k < os.length := by simpa using h2
  have e1 : (os.take k).length = k := by simp; omega
  have e2 : (os.drop k).length = os.toArray.size - k := by simp
  have i0 : HeadInv .any os.toArray k (Array.replicate os.toArray.size false) :=
    ⟨by simp, fun j oj _ hl => (by rw [getD_replicate_false] at hl; cases hl), fun t _ ht => getD_in (by simpa using ht) (getD_replicate_false _ _)⟩
  have hd := wpAnyL_lex (md := .any) (g := os.toArray.size - k) h1 h3 h4 h2 (os.take k) 0 _ a (fun j hj => by
    have hj' : j < k := by rw [e1] at hj; exact hj
    simp [hj']) (by simpa using e1) i0 (by rw [e1]; exact h5) h
  have := wpAny_of_head (Q' := Q) (g := os.toArray.size - k) (fun listed a' hL => by
    have h6 := wpAny_of_seq (md := .any) (Q' := Q) (os.drop k) k listed a' { w with drawn := w.drawn + 1 } (fun j => by simp [List.getElem?_drop]) (by rw [e2]; exact hL.1) hL.2
    rwa [e2] at h6) _ _ _ hd
  rw [e1, show k + (os.toArray.size - k) = os.toArray.size by omega] at this
  exact this
/-- A drawn region in a round, with a condition held behind each operation. -/
theorem round_held {id : Nat} {S : World → Prop} {a : Act} {w : World} (hno : ¬ LetsOut Q) (hc : calmB ops = true) (hm : P.follows .mixedOrders = true)
    (h : wpAnyH P .any ops Q S ops.size (Array.replicate ops.size false) a { w with drawn := w.drawn + 1 }) : (Code.region id ops true).wpIn (Fence.wide.inRound l) n P Q a w :=
  round_any hno hc hm (wpAny_of_held _ _ _ _ h)
/-- A plain region in a round. -/
theorem wpOpsIn_of (hno : ¬ LetsOut Q) (hd : ∀ (i : Nat) (o : Oper), ops[i]? = some o → ∀ c, o.op ≠ .defer c) : ∀ (is : List Nat) (a : Act) (w : World), wpOps P ops Q is a w → wpOpsIn (Fence.wide.inRound l) n P ops Q is a w
  | [], _, _, h => h
  | i :: is, a, w, h => by
    rw [wpOpsIn_cons]
    rw [wpOps_cons] at h
    exact wpOpIn_of hno (hd i) (wpOp_mono (fun a' w' h' => wpOpsIn_of hno hd is a' w' h') h)
theorem round_list {id : Nat} {a : Act} {w : World} {os : List Oper} (hno : ¬ LetsOut Q) (hc : calmB os.toArray = true) (h : wpList P os.toArray Q os a w) : (Code.region id os.toArray false).wpIn (Fence.wide.inRound l) n P Q a w := by
  refine wpIn_region (wpOpsIn_of hno (calm_of hc) _ _ _ ?_)
  rw [List.range_eq_range', ← Array.length_toList, wpOps_eq_wpList os.toArray.toList 0 (by simp)]
  exact h
end
end Go.Proofs.Ytpgegfnhokhlmab
set_option linter.unusedVariables false
namespace Go.Proofs.Ytpgegfnhokhlmab

/-- One node gone through: the flows, and what is left. -/
def gStep (es : Es) (ent : List (Option Nat)) (st : List Int × List Int) (v : Nat) : List Int × List Int := match ent[v]? with
  | some (some i) => (st.1.set i (if efr es i = v then st.2.getD v 0 else -(st.2.getD v 0)), st.2.set (oth es i v) (st.2.getD (oth es i v) 0 + st.2.getD v 0))
  | _ => st
theorem gStep_some {es : Es} {ent : List (Option Nat)} {st : List Int × List Int} {v i : Nat} (h : ent[v]? = some (some i)) : gStep es ent st v = (st.1.set i (if efr es i = v then st.2.getD v 0 else -(st.2.getD v 0)), st.2.set (oth es i v) (st.2.getD (oth es i v) 0 + st.2.getD v 0)) := by
  unfold gStep
  rw [h]
theorem ff_g {es : Es} {ent : List (Option Nat)} : ∀ (l : List Nat) (a : FF), ((l.foldl (ffStep es ent) a).fl, (l.foldl (ffStep es ent) a).lf) = l.foldl (gStep es ent) (a.fl, a.lf)
  | [], _ => rfl
  | v :: l, a => by
    rw [List.foldl_cons, List.foldl_cons, ff_g l]
    congr 1
    unfold ffStep gStep
    cases h : ent[v]? with
    | none => rfl
    | some o =>
      cases o with
      | none => rfl
      | some i => rfl
theorem gStep_len (es : Es) (ent : List (Option Nat)) (st : List Int × List Int) (v : Nat) : (gStep es ent st v).1.length = st.1.length ∧ (gStep es ent st v).2.length = st.2.length := by
  unfold gStep
  split
  · exact ⟨List.length_set, List.length_set⟩
  · exact ⟨rfl, rfl⟩
def gFold (es : Es) (ent : List (Option Nat)) (st : List Int × List Int) (l : List Nat) : List Int × List Int := l.foldl (gStep es ent) st
theorem gFold_len (es : Es) (ent : List (Option Nat)) : ∀ (l : List Nat) (st : List Int × List Int), (gFold es ent st l).1.length = st.1.length ∧ (gFold es ent st l).2.length = st.2.length
  | [], _ => ⟨rfl, rfl⟩
  | v :: l, st => by
    have h1 := gFold_len es ent l (gStep es ent st v)
    have h2 := gStep_len es ent st v
    exact ⟨h1.1.trans h2.1, h1.2.trans h2.2⟩
theorem gFold_snoc (es : Es) (ent : List (Option Nat)) (st : List Int × List Int) (l : List Nat) (v : Nat) : gFold es ent st (l ++ [v]) = gStep es ent (gFold es ent st l) v := by
  unfold gFold
  rw [List.foldl_append]
  rfl
/-- What is left doubles at most with each node. -/
theorem gFold_bd {es : Es} {ent : List (Option Nat)} {M : Nat} {O : Nat → Prop} (hO : ∀ v i, O v → ent[v]? = some (some i) → O (oth es i v)) : ∀ (l : List Nat) (st : List Int × List Int) (j : Nat), (∀ v ∈ l, O v) → (∀ v, O v → (st.2.getD v 0).natAbs ≤ M * 2 ^ j) →
    ∀ v, O v → ((gFold es ent st l).2.getD v 0).natAbs ≤ M * 2 ^ (j + l.length)
  | [], st, j, _, h, v, hv => h v hv
  | u :: l, st, j, hl, h, v, hv => by
    have e : j + (u :: l).length = j + 1 + l.length := by simp; omega
    rw [e]
    show ((gFold es ent (gStep es ent st u) l).2.getD v 0).natAbs ≤ _
    refine gFold_bd hO l _ (j + 1) (fun x hx => hl x (List.mem_cons_of_mem _ hx)) (fun x hx => ?_) v hv
    have hu := hl u List.mem_cons_self
    have hx1 := h x hx
    have e2 : M * 2 ^ (j + 1) = M * 2 ^ j + M * 2 ^ j := by rw [Nat.pow_succ, ← Nat.mul_assoc]; omega
    rw [e2]
    unfold gStep
    cases he : ent[u]? with
    | none => simp only []; omega
    | some o =>
      cases o with
      | none => simp only []; omega
      | some i =>
        simp only []
        have h1 := h _ (hO u i hu he)
        have h2 := h u hu
        by_cases hlt : oth es i u < st.2.length
        · rw [getD_set hlt]
          split
          · omega
          · omega
        · rw [List.set_eq_of_length_le (by omega)]
          omega
/-- The nodes of a search but the first, and what the pass from its root keeps to. -/
theorem bw_ent {es : Es} {n r v : Nat} (hg : Good es n) (hr : Root es n r) (h : v ∈ (bfs es n r).ord.drop 1) :
    ∃ i : Nat, (bfs es n r).ent[v]? = some (some i) ∧ i ∈ inc es v ∧ i < es.length ∧ v < n ∧ oth es i v < n ∧ oth es i v ≠ v ∧ v ∈ (bfs es n r).ord ∧ oth es i v ∈ (bfs es n r).ord := by
  have hrn := root_lt hr
  have hD := bfs_done hg hrn
  obtain ⟨q, hq⟩ := List.getElem?_of_mem h
  rw [List.getElem?_drop] at hq
  have hm := List.mem_of_getElem? hq
  have hvr : v ≠ r := by
    intro e
    subst e
    have := pos_inj hD.inv.nd hq hD.inv.hd
    omega
  obtain ⟨i, hi⟩ := hD.inv.ent2 v hm hvr
  obtain ⟨hinc, p, q', hpp, _, _⟩ := hD.inv.ent1 v i hi
  exact ⟨i, hi, hinc, (inc_mem.1 hinc).1, hD.inv.lt v hm, oth_lt hg (inc_mem.1 hinc).1, oth_ne hg hinc, hm, List.mem_of_getElem? hpp⟩
/-- What is left at the start of a pass, at its nodes. -/
theorem lf_bd {es : Es} {n r v : Nat} {sup : List Int} (hg : Good es n) (hl : sup.length = n) (hr : Root es n r) (hv : v ∈ (bfs es n r).ord) : ((ffTo es n sup r).lf.getD v 0).natAbs ≤ absS sup := by
  have hrn := root_lt hr
  have hD := bfs_done hg hrn
  obtain ⟨hF, hP⟩ := ff_to hg hl r (Nat.le_of_lt hrn)
  have hvn := hD.inv.lt v hv
  have hrv := (done_rch hg hD v).1 hv
  have hnp : v ∉ (ffTo es n sup r).pr := fun hh => by
    obtain ⟨r', hr'1, hr'2, hr'3, _⟩ := (hP v).1 hh
    have := roots_eq hg hr hr'2 hrv hr'3
    omega
  rw [hF.same v hvn hnp]
  exact fi_bd hF hvn
/-- The whole pass. -/
theorem g_pass {es : Es} {n r : Nat} {sup : List Int} (hroot : isRoot es n r = true) : gFold es (bfs es n r).ent ((ffTo es n sup r).fl, (ffTo es n sup r).lf) (bw es n r) = ((ffTo es n sup (r + 1)).fl, (ffTo es n sup (r + 1)).lf) := by
  have h := ff_root (sup := sup) hroot
  rw [h]
  unfold ffPart gFold
  rw [List.take_of_length_le (Nat.le_refl _), ff_g]
/-- The nodes as they come from behind. -/
theorem bw_picks {zs : List Nat} {L : Nat} (hL : zs.length = L) : (List.range L).map (fun k => zs.getD (L - 1 - k) 0) = zs.reverse := by
  subst hL
  apply List.ext_getElem?
  intro k
  by_cases hk : k < zs.length
  · rw [List.getElem?_reverse hk]
    have h1 : zs.length - 1 - k < zs.length := by omega
    simp [hk, List.getD, List.getElem?_eq_getElem h1]
  · rw [List.getElem?_eq_none (by simp; omega), List.getElem?_eq_none (by simp; omega)]
end Go.Proofs.Ytpgegfnhokhlmab
set_option linter.unusedVariables false
set_option maxRecDepth 100000
namespace Go.Proofs.Ytpgegfnhokhlmab
open Go.ChangeShapes Go.WideShapes Go.ChangeAt Go.RowKit Go.Joins Go.Deep
attribute [local go_sem ↓] Go.wp_at_zero Go.wp_at_succ

/-- The marks that the ranges over functions have left. -/
def markD (D : Nat) : Deferred := { target := .collected D, args := #[] }
def Marks (B : Nat) (W : World) (ds : List Deferred) : Prop := ∃ Ds : List Nat, ds = Ds.map markD ∧ Ds.Nodup ∧ ∀ D ∈ Ds, B ≤ D ∧ W.heap[D]? = some (.deferred (some []))
theorem Marks.keep {B : Nat} {W W' : World} {ds : List Deferred} (h : Marks B W ds) (k : KeepsOthers W W') : Marks B W' ds := by
  obtain ⟨Ds, e, hn, hd⟩ := h
  exact ⟨Ds, e, hn, fun D hD => ⟨(hd D hD).1, k.same D _ (hd D hD).2 rfl⟩⟩
theorem keeps_below {W W' : World} (h : Below W.heap.size W W') : KeepsOthers W W' := ⟨h.size, fun k o hk _ => (h.block k (Array.getElem?_eq_some_iff.1 hk).1).trans hk⟩
theorem Marks.grown {B : Nat} {W W' : World} {ds : List Deferred} {row : Option Nat} {S : Nat} (h : Marks B W ds) (hg : W.grownBy W' row) (hr : ∀ r, row = some r → S ≤ r) (hS : ∀ Ds : List Nat, ds = Ds.map markD → ∀ D ∈ Ds, D < S) : Marks B W' ds := by
  obtain ⟨Ds, e, hn, hd⟩ := h
  refine ⟨Ds, e, hn, fun D hD => ⟨(hd D hD).1, ?_⟩⟩
  have h2 := (hd D hD).2
  refine (hg.block D (Array.getElem?_eq_some_iff.1 h2).1 (fun hh => ?_)).trans h2
  have h3 := hr D hh.symm
  have h4 := hS Ds e D hD
  omega
theorem Marks.lt {B : Nat} {W : World} {ds : List Deferred} (h : Marks B W ds) : ∀ Ds : List Nat, ds = Ds.map markD → ∀ D ∈ Ds, D < W.heap.size := by
  obtain ⟨Ds, e, hn, hd⟩ := h
  intro Ds' e' D hD
  have hinj : Ds' = Ds := by
    rw [e] at e'
    have : ∀ (l l' : List Nat), l.map markD = l'.map markD → l = l' := by
      intro l
      induction l with
      | nil => intro l' hl; cases l' <;> simp_all
      | cons a l ih =>
        intro l' hl
        cases l' with
        | nil => simp at hl
        | cons b l' =>
          simp [markD] at hl
          rw [hl.1, ih l' (by simpa [markD] using hl.2)]
    exact (this _ _ e').symm
  subst hinj
  exact (Array.getElem?_eq_some_iff.1 (hd D hD).2).1
theorem Marks.cons {B : Nat} {W : World} {ds : List Deferred} {D : Nat} (h : Marks B W ds) (hB : B ≤ D) (hD : W.heap[D]? = some (.deferred (some []))) (hn : ∀ Ds : List Nat, ds = Ds.map markD → D ∉ Ds) : Marks B W (markD D :: ds) := by
  obtain ⟨Ds, e, hnd, hd⟩ := h
  exact ⟨D :: Ds, by rw [e]; rfl, List.nodup_cons.2 ⟨hn Ds e, hnd⟩, fun x hx => by
    rcases List.mem_cons.1 hx with rfl | hx
    · exact ⟨hB, hD⟩
    · exact hd x hx⟩
theorem leaves_marks {n : Nat} {P : Program} {fn : Func} {tmps : Array Value} {R : Ending → World → Prop} {B : Nat} (I : World → Prop) (hI : ∀ (W : World) (D : Nat), B ≤ D → I W → W.heap[D]? = some (.deferred (some [])) → I (W.putObj D (.deferred none)))
    (h : ∀ W, I W → ∃ v, (results fn tmps).run P W = .ok v W ∧ R (.returned v) W) : ∀ (Ds : List Nat) (W : World), Ds.Nodup → (∀ D ∈ Ds, B ≤ D ∧ W.heap[D]? = some (.deferred (some []))) → I W →
    LeavesInM Fence.wide n P fn tmps R (Ds.map markD) .returning W
  | [], W, _, _, hi => h W hi
  | D :: Ds, W, hn, hd, hi => by
    have hn' := List.nodup_cons.1 hn
    have hD := hd D List.mem_cons_self
    refine ⟨by simp, .inl ⟨D, _, rfl, run_takeDeferred hD.2, leaves_marks I hI h Ds _ hn'.2 (fun x hx => ?_) (hI W D hD.1 hi hD.2)⟩⟩
    have h1 := hd x (List.mem_cons_of_mem _ hx)
    exact ⟨h1.1, (World.putObj_heap_other (fun e => by subst e; exact hn'.1 hx)).trans h1.2⟩
theorem Own.putObj {W : World} {B : Nat} {A : Option Addr} {n c : Nat} {zs : List Int} (h : Own W B A n c zs) {l : Nat} {o : Obj} (o' : Obj) (hl : W.heap[l]? = some o) (ho : o.isCells = false) : Own (W.putObj l o') B A n c zs := ⟨ownsRow_putObj h.1 o' hl ho, h.2⟩
theorem Box.putObj {W : World} {g : Nat} {cs : Array Value} {t : TypeId} (h : Box W g cs t) {l : Nat} {o : Obj} (o' : Obj) (hl : W.heap[l]? = some o) (ho : o.isCells = false) : Box (W.putObj l o') g cs t := by
  refine h.keep (World.putObj_heap_other (fun e => ?_))
  have h1 : W.heap[g]? = _ := h
  rw [e, hl] at h1
  injection h1 with h1
  subst h1
  simp [Obj.isCells] at ho
theorem Marks.leaves {n : Nat} {P : Program} {fn : Func} {tmps : Array Value} {R : Ending → World → Prop} {B : Nat} {W : World} {ds : List Deferred} (hm : Marks B W ds) (I : World → Prop) (hI : ∀ (W : World) (D : Nat), B ≤ D → I W → W.heap[D]? = some (.deferred (some [])) → I (W.putObj D (.deferred none)))
    (h : ∀ W, I W → ∃ v, (results fn tmps).run P W = .ok v W ∧ R (.returned v) W) (hi : I W) : LeavesInM Fence.wide n P fn tmps R ds .returning W := by
  obtain ⟨Ds, rfl, hn, hd⟩ := hm
  exact leaves_marks I hI h Ds W hn hd hi


section
variable {W W' : World}
theorem Own.ncs {B : Nat} {A : Option Addr} {n c : Nat} {zs : List Int} {row : Option Nat} (h : Own W B A n c zs) (hg : W.grownBy W' row) (hr : ∀ r, row = some r → ∃ o : Obj, W.heap[r]? = some o ∧ o.isCells = false) : Own W' B A n c zs :=
  h.grown hg (fun g hA hE => by
    subst hA
    obtain ⟨o, ho, hc⟩ := hr g hE
    rcases h.1.2 with ⟨e, _⟩ | ⟨g', cap, cur, e, h1, h2, _⟩
    · injection e with e; cases e
    · injection e with e
      injection e with e
      injection e with e
      subst e
      rw [h2] at ho
      injection ho with ho
      subst ho
      simp [Obj.isCells] at hc)
theorem Box.ncs {g : Nat} {cs : Array Value} {t : TypeId} {row : Option Nat} (h : Box W g cs t) (hg : W.grownBy W' row) (hr : ∀ r, row = some r → ∃ o : Obj, W.heap[r]? = some o ∧ o.isCells = false) : Box W' g cs t :=
  h.grown hg (fun hE => by
    obtain ⟨o, ho, hc⟩ := hr g hE
    rw [show W.heap[g]? = _ from h] at ho
    injection ho with ho
    subst ho
    simp [Obj.isCells] at hc)
end
/-- What the walk of forestFlows keeps: the flows, what is left, the components, the boxes, the marks. -/
structure FS (w w1 : World) (A : Option Addr) (n c : Nat) (B : Option Addr) (m d gz c3 GL C3 : Nat) (A1 : Option Addr) (c1 : Nat) (cs : List Int) (ds : List Deferred) (W : World) (fl lf : List Int) : Prop where
  F : Own W (w.heap.size + 1) (some ⟨w.heap.size + 1, 0, none⟩) m m fl
  Z : Own W (w.heap.size + 3) (some ⟨gz, 0, none⟩) n c3 lf
  C : Own W C3 A1 n c1 cs
  bN : Box W w.heap.size #[.slice A n c, .slice B m d] 27
  bF : Box W (w.heap.size + 1 + 1) #[.slice (some ⟨w.heap.size + 1, 0, none⟩) m m] 28
  bL : Box W GL #[.slice (some ⟨gz, 0, none⟩) n c3] 28
  bl : Below (w.heap.size + 1) w1 W
  sz : w1.heap.size ≤ W.heap.size
  mks : Marks w.heap.size W ds
section
variable {w w1 : World} {A : Option Addr} {n c : Nat} {B : Option Addr} {m d gz c3 GL C3 : Nat} {A1 : Option Addr} {c1 : Nat} {cs : List Int} {ds : List Deferred} {W W' : World} {fl lf : List Int}
theorem FS.below (h : FS w w1 A n c B m d gz c3 GL C3 A1 c1 cs ds W fl lf) (hb : Below W.heap.size W W') : FS w w1 A n c B m d gz c3 GL C3 A1 c1 cs ds W' fl lf :=
  ⟨h.F.below hb, h.Z.below hb, h.C.below hb, h.bN.belowA hb, h.bF.belowA hb, h.bL.belowA hb, bthen h.bl hb (by have := h.bN.lt; omega), Nat.le_trans h.sz hb.size, h.mks.keep (keeps_below hb)⟩
theorem FS.alloc (h : FS w w1 A n c B m d gz c3 GL C3 A1 c1 cs ds W fl lf) (o : Obj) : FS w w1 A n c B m d gz c3 GL C3 A1 c1 cs ds (W.alloc o) fl lf := h.below ((Below.refl _ _).alloc (Nat.le_refl _) _)
theorem FS.drew (h : FS w w1 A n c B m d gz c3 GL C3 A1 c1 cs ds W fl lf) : FS w w1 A n c B m d gz c3 GL C3 A1 c1 cs ds W.drew fl lf := h.below ((Below.refl _ _).drew)
theorem FS.ncs {row : Option Nat} {S : Nat} (h : FS w w1 A n c B m d gz c3 GL C3 A1 c1 cs ds W fl lf) (hg : W.grownBy W' row) (hr : ∀ r, row = some r → S ≤ r ∧ ∃ o : Obj, W.heap[r]? = some o ∧ o.isCells = false) (hS : w.heap.size + 1 ≤ S) (hM : ∀ Ds : List Nat, ds = Ds.map markD → ∀ D ∈ Ds, D < S) :
    FS w w1 A n c B m d gz c3 GL C3 A1 c1 cs ds W' fl lf := by
  have h2 := fun r hE => (hr r hE).2
  exact ⟨h.F.ncs hg h2, h.Z.ncs hg h2, h.C.ncs hg h2, h.bN.ncs hg h2, h.bF.ncs hg h2, h.bL.ncs hg h2, h.bl.grown hg (by have := h.bN.lt; omega) (fun k hk => Nat.le_trans hS (hr k hk).1), Nat.le_trans h.sz hg.size, h.mks.grown hg (fun r hE => (hr r hE).1) hM⟩
theorem FS.setF (h : FS w w1 A n c B m d gz c3 GL C3 A1 c1 cs ds W fl lf) (hz : w.heap.size + 3 ≤ gz) (hL : gz < GL) (hC : GL < C3) (i : Nat) {z : Int} (hi : I64 z) : FS w w1 A n c B m d gz c3 GL C3 A1 c1 cs ds (W.setCell ⟨w.heap.size + 1, i, none⟩ (.int .i64 z)) (fl.set i z) lf := by
  obtain ⟨h1, hg⟩ := h.F.set1 i hi
  exact ⟨h1, h.Z.grown2 hg (by omega), h.C.grown2 hg (by omega), h.bN.grown hg (fun e => by injection e with e; omega), h.bF.grown hg (fun e => by injection e with e; omega), h.bL.grown hg (fun e => by injection e with e; omega), h.bl.setCell (p := ⟨w.heap.size + 1, i, none⟩) (Nat.le_refl _) _, Nat.le_trans h.sz hg.size, h.mks.keep (KeepsOthers.setCell _ _ _)⟩
theorem FS.setZ (h : FS w w1 A n c B m d gz c3 GL C3 A1 c1 cs ds W fl lf) (hz : w.heap.size + 3 ≤ gz) (hL : gz < GL) (hC : GL < C3) (i : Nat) {z : Int} (hi : I64 z) : FS w w1 A n c B m d gz c3 GL C3 A1 c1 cs ds (W.setCell ⟨gz, i, none⟩ (.int .i64 z)) fl (lf.set i z) := by
  obtain ⟨h1, hg⟩ := h.Z.set1 i hi
  refine ⟨h.F.grown hg (fun x hx hE => ?_), h1, h.C.grown2 hg (by omega), h.bN.grown hg (fun e => by injection e with e; omega), h.bF.grown hg (fun e => by injection e with e; omega), h.bL.grown hg (fun e => by injection e with e; omega), h.bl.setCell (p := ⟨gz, i, none⟩) (by simp; omega) _, Nat.le_trans h.sz hg.size, h.mks.keep (KeepsOthers.setCell _ _ _)⟩
  injection hx with hx
  injection hx with hx
  injection hE with hE
  omega
/-- The cells that a walk looks at. -/
theorem FS.cells (h : FS w w1 A n c B m d gz c3 GL C3 A1 c1 cs ds W fl lf) : w.heap.size < W.heap.size ∧ W.cell? ⟨w.heap.size, 0, none⟩ = some (.slice A n c) ∧ W.cell? ⟨w.heap.size, 1, none⟩ = some (.slice B m d) ∧ W.cell? ⟨w.heap.size + 2, 0, none⟩ = some (.slice (some ⟨w.heap.size + 1, 0, none⟩) m m) ∧ W.cell? ⟨GL, 0, none⟩ = some (.slice (some ⟨gz, 0, none⟩) n c3) :=
  ⟨h.bN.lt, h.bN.cell 0, h.bN.cell 1, h.bF.cell 0, h.bL.cell 0⟩
end
/-- What the walk keeps of the search: the order, the entries, its struct, the argument of Backward. -/
theorem grown_set0 (w : World) (B i : Nat) (u : Value) : w.grownBy (w.setCell ⟨B, i, none⟩ u) (some B) :=
  ⟨rfl, rfl, rfl, by simp [World.setCell], fun k hk hne => Below.heap_setCell w ⟨B, i, none⟩ u k (fun e => hne (by rw [e]))⟩
structure SS (C5 : Nat) (A6 : Option Addr) (L c6 : Nat) (e5 n : Nat) (dv : Value) (GS GB : Nat) (cap : Nat) (o6 : Nat) (st : St) (W : World) : Prop where
  O : Own W C5 A6 L c6 (cN st.ord)
  E : Own W C5 (some ⟨e5, 0, none⟩) n n (encE st.ent)
  bS : Box W GS #[.slice A6 L c6, dv, .slice (some ⟨e5, 0, none⟩) n n] 64
section
variable {C5 : Nat} {A6 : Option Addr} {L c6 e5 n : Nat} {dv : Value} {GS GB cap o6 : Nat} {st : St} {W W' : World}
theorem SS.below (h : SS C5 A6 L c6 e5 n dv GS GB cap o6 st W) (hb : Below W.heap.size W W') : SS C5 A6 L c6 e5 n dv GS GB cap o6 st W' := ⟨h.O.below hb, h.E.below hb, h.bS.belowA hb⟩
theorem SS.alloc (h : SS C5 A6 L c6 e5 n dv GS GB cap o6 st W) (o : Obj) : SS C5 A6 L c6 e5 n dv GS GB cap o6 st (W.alloc o) := h.below ((Below.refl _ _).alloc (Nat.le_refl _) _)
theorem SS.drew (h : SS C5 A6 L c6 e5 n dv GS GB cap o6 st W) : SS C5 A6 L c6 e5 n dv GS GB cap o6 st W.drew := h.below ((Below.refl _ _).drew)
theorem SS.ncs {row : Option Nat} (h : SS C5 A6 L c6 e5 n dv GS GB cap o6 st W) (hg : W.grownBy W' row) (hr : ∀ r, row = some r → ∃ o : Obj, W.heap[r]? = some o ∧ o.isCells = false) : SS C5 A6 L c6 e5 n dv GS GB cap o6 st W' := ⟨h.O.ncs hg hr, h.E.ncs hg hr, h.bS.ncs hg hr⟩
theorem SS.set {g i : Nat} (h : SS C5 A6 L c6 e5 n dv GS GB cap o6 st W) (hg : g < C5) (hS : C5 ≤ GS) (v : Value) : SS C5 A6 L c6 e5 n dv GS GB cap o6 st (W.setCell ⟨g, i, none⟩ v) := by
  have hgr : W.grownBy (W.setCell ⟨g, i, none⟩ v) (some g) := grown_set0 W g i v
  exact ⟨h.O.grown2 hgr hg, h.E.grown2 hgr hg, h.bS.grown hgr (fun e => by injection e with e; omega)⟩
end
end Go.Proofs.Ytpgegfnhokhlmab
set_option linter.unusedVariables false
set_option maxRecDepth 100000
namespace Go.Proofs.Ytpgegfnhokhlmab
open Go.ChangeShapes Go.WideShapes Go.ChangeAt Go.RowKit Go.Joins Go.Deep
attribute [local go_sem ↓] Go.wp_at_zero Go.wp_at_succ
attribute [local go_sem] Oper.semAt_some

/-- What the region of the sum reads. -/
def S15 (gP GL gz n c3 v : Nat) (e1 e2 k1 k2 k3 zv : Int) (w' : World) : Prop := gP < w'.heap.size ∧ w'.cell? ⟨GL, 0, none⟩ = some (.slice (some ⟨gz, 0, none⟩) n c3) ∧ w'.cell? ⟨gP, 0, none⟩ = some (.int .i64 e1) ∧ w'.cell? ⟨gP, 1, none⟩ = some (.int .i64 e2) ∧
  w'.cell? ⟨gP, 2, none⟩ = some (.int .i64 k1) ∧ w'.cell? ⟨gP, 3, none⟩ = some (.int .i64 k2) ∧ w'.cell? ⟨gP, 4, none⟩ = some (.int .i64 k3) ∧ w'.cell? ⟨gz, v, none⟩ = some (.int .i64 zv)
theorem S15.below {gP GL gz n c3 v : Nat} {e1 e2 k1 k2 k3 zv : Int} {W W' : World} (h : S15 gP GL gz n c3 v e1 e2 k1 k2 k3 zv W) (hb : Below W.heap.size W W') (hL : GL < W.heap.size) (hz : gz < W.heap.size) : S15 gP GL gz n c3 v e1 e2 k1 k2 k3 zv W' := by
  obtain ⟨a0, a1, a2, a3, a4, a5, a6, a7⟩ := h
  exact ⟨Nat.lt_of_lt_of_le a0 hb.size, (hb.cell hL).trans a1, (hb.cell a0).trans a2, (hb.cell a0).trans a3, (hb.cell a0).trans a4, (hb.cell a0).trans a5, (hb.cell a0).trans a6, (hb.cell hz).trans a7⟩
theorem S15.set {gP GL gz n c3 v u : Nat} {e1 e2 k1 k2 k3 zv : Int} {W : World} {x : Value} (h : S15 gP GL gz n c3 v e1 e2 k1 k2 k3 zv W) (hL : gz ≠ GL) (hP : gz ≠ gP) (hu : u ≠ v) : S15 gP GL gz n c3 v e1 e2 k1 k2 k3 zv (W.setCell ⟨gz, u, none⟩ x) := by
  obtain ⟨a0, a1, a2, a3, a4, a5, a6, a7⟩ := h
  have ho : ∀ b o, (b ≠ gz ∨ o ≠ u) → (W.setCell ⟨gz, u, none⟩ x).cell? ⟨b, o, none⟩ = W.cell? ⟨b, o, none⟩ := fun b o hbo => World.cell?_setCell_other W _ _ x (by
    intro e
    injection e with e1 e2
    omega)
  refine ⟨by simpa [World.setCell] using a0, ?_, ?_, ?_, ?_, ?_, ?_, ?_⟩
  all_goals rw [ho _ _ (by omega)]; assumption

end Go.Proofs.Ytpgegfnhokhlmab
set_option linter.unusedVariables false
set_option maxRecDepth 100000
namespace Go.Proofs.Ytpgegfnhokhlmab
open Go.ChangeShapes Go.WideShapes Go.ChangeAt Go.RowKit Go.Joins Go.Deep
attribute [local go_sem ↓] Go.wp_at_zero Go.wp_at_succ

theorem absS_zeros (n : Nat) : absS (List.replicate n 0) = 0 := by
  induction n with
  | zero => rfl
  | succ n ih =>
    rw [List.replicate_succ]
    show (0 : Int).natAbs + absS (List.replicate n 0) = 0
    rw [ih]
    rfl
theorem absS_unit {n a b : Nat} (ha : a < n) (hb : b < n) (hne : a ≠ b) : absS (unitS n a b) ≤ 1000000 := by
  rw [← unit_two ha hb hne]
  have h1 := absS_set (l := List.replicate n (0 : Int)) (v := a) (x := 0) (y := 1) (by simp [ha])
  have h2 := absS_set (l := (List.replicate n (0 : Int)).set a 1) (v := b) (x := 0) (y := -1) (by rw [List.getElem?_set_ne hne]; simp [hb])
  rw [absS_zeros] at h1
  have e1 : (0 : Int).natAbs = 0 := rfl
  have e2 : (1 : Int).natAbs = 1 := rfl
  have e3 : (-1 : Int).natAbs = 1 := rfl
  omega
end Go.Proofs.Ytpgegfnhokhlmab
set_option linter.unusedVariables false
set_option maxRecDepth 100000
namespace Go.Proofs.Ytpgegfnhokhlmab
open Go.ChangeShapes Go.WideShapes Go.ChangeAt Go.RowKit Go.Joins Go.Deep
attribute [local go_sem ↓] Go.wp_at_zero Go.wp_at_succ

end Go.Proofs.Ytpgegfnhokhlmab
