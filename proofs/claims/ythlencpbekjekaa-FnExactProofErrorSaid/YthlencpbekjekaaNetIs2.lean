/- What nodeIndex, isNodeOf, l02Pipe, IsNetwork of the program and of the reference do, by walks over their text. No condition but that the numbers fit their kind. -/
import Derived.Test.YthlencpbekjekaaNetIs
set_option linter.unusedVariables false
set_option maxRecDepth 100000
namespace Go.Proofs.Ythlencpbekjekaa
open Go.ChangeShapes Go.WideShapes Go.ChangeAt Go.RowKit Go.Joins Go.Deep

set_option maxHeartbeats 2000000 in
theorem nodeIndex_any (A B : Option Addr) (n c m d : Nat) (ns : List Nd) (s : ByteArray) (w : World) (h : Nodes w A n ns) (hn : n ≤ maxLen) :
    Calls Try.prog 55 #[.agg #[.slice A n c, .slice B m d], .string s] w fun e w' => ∃ r, e = .returned (.int .i64 r) ∧ nodeAt ns s r ∧ Below w.heap.size w w' := by
  have hmf : ∀ (fn : Fn) (first cap : Array Value) (w : World), (Instr.makeFunc fn first cap).run Try.prog w = .ok (.func fn first cap) w := fun _ _ _ _ => rfl
  have hw0 : ∀ a ta b tb, Below w.heap.size w ((w.alloc (.cells a ta)).alloc (.cells b tb)) := fun a ta b tb => ((Below.refl _ _).alloc (Nat.le_refl _) _).alloc (by simp) _
  go_enter Try.func55, Try.ntmps55
  go_wp2_with fail
  refine (idxFunc_any A n c ns s _ _ (h.below (hw0 _ _ _ _)) hn (by simp) (by simp)).mono ?_
  rintro e w1 ⟨r, rfl, hr, hb1⟩
  have HR := Lib.hid hr
  clear hr
  go_wp2_with fail
  go_ret
  exact ⟨r, rfl, HR.out, bthen (hw0 _ _ _ _) hb1 (by simp; omega)⟩
theorem isNodeOf_any (A B : Option Addr) (n c m d : Nat) (z : Int) (w : World) (hn : n ≤ maxLen) :
    Calls Try.prog 56 #[.agg #[.slice A n c, .slice B m d], .int .i64 z] w fun e w' => e = .returned (.bool (inB z 0 (n - 1))) ∧ Below w.heap.size w w' := by
  unfold maxLen at hn
  go_enter Try.func56, Try.ntmps56
  go_wp2_with (go_at_call 40; refine (within_any _ _ _ _).mono ?_; rintro e w' ⟨rfl, rfl⟩)
  go_ret
  exact ⟨rfl, (Below.refl _ _).alloc (Nat.le_refl _) _⟩
theorem pipe_ways (n : Int) (x : Pp) : (inB x.fr 0 (n - 1) = false ∧ pipeB n x = false) ∨ (inB x.fr 0 (n - 1) = true ∧ inB x.to 0 (n - 1) = false ∧ pipeB n x = false) ∨ (inB x.fr 0 (n - 1) = true ∧ inB x.to 0 (n - 1) = true ∧ (x.fr == x.to) = true ∧ pipeB n x = false) ∨
    (inB x.fr 0 (n - 1) = true ∧ inB x.to 0 (n - 1) = true ∧ (x.fr == x.to) = false ∧ inB x.k 1 1000 = false ∧ pipeB n x = false) ∨ (inB x.fr 0 (n - 1) = true ∧ inB x.to 0 (n - 1) = true ∧ (x.fr == x.to) = false ∧ inB x.k 1 1000 = true ∧ inB x.v 0 1000000 = false ∧ pipeB n x = false) ∨
    (inB x.fr 0 (n - 1) = true ∧ inB x.to 0 (n - 1) = true ∧ (x.fr == x.to) = false ∧ inB x.k 1 1000 = true ∧ inB x.v 0 1000000 = true ∧ inB x.l 1 30000 = false ∧ pipeB n x = false) ∨ (inB x.fr 0 (n - 1) = true ∧ inB x.to 0 (n - 1) = true ∧ (x.fr == x.to) = false ∧ inB x.k 1 1000 = true ∧ inB x.v 0 1000000 = true ∧ inB x.l 1 30000 = true ∧ pipeB n x = true) := by
  unfold pipeB
  have e : decide (x.fr ≠ x.to) = !(x.fr == x.to) := by
    by_cases h : x.fr = x.to <;> simp [h]
  rw [e]
  cases inB x.fr 0 (n - 1) <;> cases inB x.to 0 (n - 1) <;> cases (x.fr == x.to) <;> cases inB x.k 1 1000 <;> cases inB x.v 0 1000000 <;> cases inB x.l 1 30000 <;> simp
/-- The same, one test behind the other. -/
theorem pipe_ways2 (n : Int) (x : Pp) : (inB x.fr 0 (n - 1) = false ∧ pipeB n x = false) ∨ (inB x.fr 0 (n - 1) = true ∧ ((inB x.to 0 (n - 1) = false ∧ pipeB n x = false) ∨ (inB x.to 0 (n - 1) = true ∧ (((x.fr == x.to) = true ∧ pipeB n x = false) ∨
    ((x.fr == x.to) = false ∧ inB x.k 1 1000 = false ∧ pipeB n x = false) ∨ ((x.fr == x.to) = false ∧ inB x.k 1 1000 = true ∧ inB x.v 0 1000000 = false ∧ pipeB n x = false) ∨ ((x.fr == x.to) = false ∧ inB x.k 1 1000 = true ∧ inB x.v 0 1000000 = true ∧ inB x.l 1 30000 = false ∧ pipeB n x = false) ∨
    ((x.fr == x.to) = false ∧ inB x.k 1 1000 = true ∧ inB x.v 0 1000000 = true ∧ inB x.l 1 30000 = true ∧ pipeB n x = true))))) := by
  unfold pipeB
  have e : decide (x.fr ≠ x.to) = !(x.fr == x.to) := by
    by_cases h : x.fr = x.to <;> simp [h]
  rw [e]
  cases inB x.fr 0 (n - 1) <;> cases inB x.to 0 (n - 1) <;> cases (x.fr == x.to) <;> cases inB x.k 1 1000 <;> cases inB x.v 0 1000000 <;> cases inB x.l 1 30000 <;> simp
set_option maxHeartbeats 2000000 in
theorem sPipe_any (x : Pp) (n : Int) (w : World) (h0 : 0 ≤ n) (h1 : n ≤ maxLen) :
    Calls Try.prog 52 #[.agg #[.int .i64 x.fr, .int .i64 x.to, .int .i64 x.k, .int .i64 x.v, .int .i64 x.l], .int .i64 n] w fun e w' => e = .returned (.bool (pipeB n x)) ∧ Below w.heap.size w w' := by
  unfold maxLen at h1
  have hb : ∀ cs t, Below w.heap.size w (w.alloc (.cells cs t)) := fun cs t => (Below.refl _ _).alloc (Nat.le_refl _) _
  rcases pipe_ways n x with ⟨t1, tf⟩ | ⟨t1, t2, tf⟩ | ⟨t1, t2, t3, tf⟩ | ⟨t1, t2, t3, t4, tf⟩ | ⟨t1, t2, t3, t4, t5, tf⟩ | ⟨t1, t2, t3, t4, t5, t6, tf⟩ | ⟨t1, t2, t3, t4, t5, t6, tf⟩
  all_goals
    have TF := Lib.hid tf
    clear tf
    try have t3' : (x.fr != x.to) = !(x.fr == x.to) := rfl
    try rw [t3] at t3'
    go_enter Try.func52, Try.ntmps52
    go_wp2_with (go_at_call 19; refine (in_any _ _ _ _).mono ?_; rintro e w' ⟨rfl, rfl⟩)
    go_ret
    exact ⟨rb (by first | (rw [TF.out]; done) | (rw [TF.out]; assumption)), hb _ _⟩
/-- The facts of a network's valid nodes, one more. -/
theorem okTo_step {ns : List Nd} {k : Nat} {f : Nd} (h : okTo ns k) (hf : ns[k]? = some f) (hb : nodeB f = true) (hd : ∀ (j : Nat) (y : Nd), j < k → ns[j]? = some y → y.nm ≠ f.nm) : okTo ns (k + 1) := by
  intro i x hi hx
  by_cases e : i = k
  · subst e
    obtain rfl : f = x := Option.some.inj (hf.symm.trans hx)
    exact ⟨hb, hd⟩
  · exact h i x (by omega) hx
theorem pall_step {n : Int} {ps : List Pp} {k : Nat} {f : Pp} (h : ∀ p ∈ ps.take k, pipeB n p = true) (hf : ps[k]? = some f) (hb : pipeB n f = true) : ∀ p ∈ ps.take (k + 1), pipeB n p = true := by
  intro p hp
  rw [List.take_add_one, hf] at hp
  simp at hp
  rcases hp with hp | rfl
  · exact h p hp
  · exact hb
theorem Nodes.take_ {w : World} {A : Option Addr} {n : Nat} {ns : List Nd} (h : Nodes w A n ns) {k : Nat} (hk : k ≤ n) : Nodes w A k (ns.take k) := by
  refine ⟨⟨by simp; have := h.len; omega, fun h0 => ?_⟩, fun x hx => h.2 x (List.mem_of_mem_take hx)⟩
  obtain ⟨b, o, e, hb, hc⟩ := h.1.2 (by omega)
  refine ⟨b, o, e, hb, fun i x hx j v hv => hc i x ?_ j v hv⟩
  rw [List.getElem?_take] at hx
  by_cases hi : i < k <;> simp [hi] at hx
  exact hx
theorem nodeAt_take {ns : List Nd} {s : ByteArray} {k : Nat} {r : Int} (h : nodeAt (ns.take k) s r) : (r < 0 ∧ ∀ (j : Nat) (y : Nd), j < k → ns[j]? = some y → y.nm ≠ s) ∨ (0 ≤ r ∧ ∃ (j : Nat) (y : Nd), j < k ∧ ns[j]? = some y ∧ y.nm = s) := by
  rcases h with ⟨rfl, h⟩ | ⟨i, x, rfl, hx, hs, _⟩
  · refine .inl ⟨by omega, fun j y hj hy => h j y ?_⟩
    rw [List.getElem?_take, if_pos hj, hy]
  · refine .inr ⟨by omega, i, x, ?_, ?_, hs⟩
    · rw [List.getElem?_take] at hx
      by_cases hi : i < k <;> simp [hi] at hx
      exact hi
    · rw [List.getElem?_take] at hx
      by_cases hi : i < k <;> simp [hi] at hx
      exact hx
theorem not_net {ns : List Nd} {ps : List Pp} {p : Prop} {w w' : World} (h : ¬ NetOk ns ps) (hb : Below w.heap.size w w') : RetEq w (NetOk ns ps) (.returned (.bool false)) w' := ⟨false, ⟨(fun h => by cases h), fun k => absurd k h⟩, rfl, hb⟩
end Go.Proofs.Ythlencpbekjekaa
