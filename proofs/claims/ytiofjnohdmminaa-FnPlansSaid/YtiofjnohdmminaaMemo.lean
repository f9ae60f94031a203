/- The maps in which the program keeps the least costs of states. No condition. -/
import Derived.Test.YtiofjnohdmminaaPlanV
import Derived.Test.YtiofjnohdmminaaBox1
import Derived.Maps.OwnSet
import Derived.DeepKeys4
set_option linter.unusedVariables false
set_option maxRecDepth 100000
namespace Go.Proofs.Ytiofjnohdmminaa
open Go.ChangeShapes Go.WideShapes Go.ChangeAt Go.RowKit Go.Joins Go.Deep
open Go.Maps (Keyed IsMap Tidy)

theorem laidOutP : laidOutB Try.prog = true := by kernel_rfl
theorem rowK : (85 : TypeId) < Try.prog.types.size := of_decide_eq_true (by kernel_rfl)
theorem wideK : (match Try.prog.underlying 85 with | some (.array _ _) | some (.struct _) => true | _ => false) = true := by rw [Try.underlying85]
theorem lawK : Keyed Try.prog 85 := Keyed.of_law (deep_law_laid laidOutP (m := 2) (by omega) rowK (by kernel_rfl) wideK)
theorem zeroE (w : World) : (zeroValue 2).run Try.prog w = .ok (.int .i64 0) w := by kernel_rfl
theorem cellsK : Try.prog.cellsOf 85 = 2 := by kernel_rfl
theorem cellsE : Try.prog.cellsOf 2 = 1 := by kernel_rfl
theorem keyTK : Try.prog.keyType 85 = true := by kernel_rfl
/-- What a state reads as, as a key. -/
def kl (on long : Int) : Lit := .string (keyBytes [.int .i64 on, .int .i64 long])
def stV (on long : Int) : Value := .agg #[.int .i64 on, .int .i64 long]
theorem keyLits_is (N : Nat) {on long : Int} (h1 : (Lit.int .i64 on).wf = true) (h2 : (Lit.int .i64 long).wf = true) : Try.prog.keyLits (N + 2) 85 [.int .i64 on, .int .i64 long] = some [.int .i64 on, .int .i64 long] := by
  simp [Program.keyLits, Try.underlying85, Try.underlying2, cellsK, cellsE, h1, h2]
theorem key_is {on long : Int} (h1 : I64 on) (h2 : I64 long) : keyOf Try.prog 85 (stV on long) = some (kl on long) := by
  have hf : (stV on long).formed Try.prog 85 = true := by simp [stV, Value.formed, Try.underlying85, cellsK]
  have hN : ∃ N, Try.prog.types.size + 1 = N + 2 := by
    have h : 85 < Try.prog.types.size := rowK
    exact ⟨Try.prog.types.size - 1, by omega⟩
  obtain ⟨N, hN⟩ := hN
  have hl := keyLits_is N h1 h2
  rw [← hN] at hl
  unfold keyOf
  rw [Try.underlying85]
  have hl' : Try.prog.keyLits (Try.prog.types.size + 1) 85 (stV on long).cells.toList = some [.int .i64 on, .int .i64 long] := hl
  simp only [keyTK, hf, hl', Bool.and_self, if_true, Option.map_some, kl]
theorem St.w {on long : Int} (h : St on long) : I64 on ∧ I64 long := by
  obtain ⟨h1, h2, h3⟩ := h
  exact ⟨WalkArith.wf_i64 (by omega), WalkArith.wf_i64 (by omega)⟩
theorem St.key {on long : Int} (h : St on long) : keyOf Try.prog 85 (stV on long) = some (kl on long) := key_is h.w.1 h.w.2
theorem kl_inj {on long on' long' : Int} (h : St on long) (h' : St on' long') (e : kl on long = kl on' long') : on = on' ∧ long = long' := by
  have := lawK.inj h.key (by rw [e]; exact h'.key)
  unfold stV at this
  simp at this
  exact this
theorem kl_key {on long : Int} (h : St on long) : WideAt.IsKeyLit (kl on long) := lawK.key h.key

/-- What the map says of a state is its least cost. -/
def Memo (D : DataW Unit) (g : Int → Int → Option Int) : Prop := ∀ on long, St on long → Maps.has D (kl on long) = true → D.atKey (kl on long) (.lit (.int .i64 0)) = .lit (.int .i64 (VP (g on long)))
def allK : List Lit := (List.range 96).map fun i => kl ((i % 2 : Nat) : Int) ((i / 2 + 1 : Nat) : Int)
theorem allK_mem {on long : Int} (h : St on long) : kl on long ∈ allK := by
  obtain ⟨h1, h2, h3⟩ := h
  unfold allK
  refine List.mem_map.2 ⟨(2 * (long - 1) + on).toNat, List.mem_range.2 (by omega), ?_⟩
  congr 1 <;> omega
/-- It has no more entries than states. -/
def Few (D : DataW Unit) : Prop := Maps.size D ≤ (allK.filter fun k => Maps.has D k).length
theorem filter_le_of {α : Type} {p q : α → Bool} (h : ∀ x, p x = true → q x = true) : ∀ l : List α, (l.filter p).length ≤ (l.filter q).length
  | [] => Nat.le_refl _
  | y :: l => by
    have ih := filter_le_of h l
    cases hp : p y
    · rw [List.filter_cons_of_neg (by simp [hp])]
      cases hq : q y
      · rw [List.filter_cons_of_neg (by simp [hq])]; exact ih
      · rw [List.filter_cons_of_pos hq, List.length_cons]; omega
    · rw [List.filter_cons_of_pos hp, List.filter_cons_of_pos (h y hp), List.length_cons, List.length_cons]; omega
theorem filter_lt_of {α : Type} {p q : α → Bool} (h : ∀ x, p x = true → q x = true) {x : α} (h1 : p x = false) (h2 : q x = true) : ∀ l : List α, x ∈ l → (l.filter p).length + 1 ≤ (l.filter q).length
  | y :: l, hx => by
    have ih0 := filter_le_of h l
    rcases List.mem_cons.1 hx with rfl | hx
    · rw [List.filter_cons_of_neg (by simp [h1]), List.filter_cons_of_pos h2, List.length_cons]; omega
    · have ih := filter_lt_of h h1 h2 l hx
      cases hp : p y
      · rw [List.filter_cons_of_neg (by simp [hp])]
        cases hq : q y
        · rw [List.filter_cons_of_neg (by simp [hq])]; exact ih
        · rw [List.filter_cons_of_pos hq, List.length_cons]; omega
      · rw [List.filter_cons_of_pos hp, List.filter_cons_of_pos (h y hp), List.length_cons, List.length_cons]; omega
theorem Few.lt {D : DataW Unit} (h : Few D) : Maps.size D ≤ 96 := by
  have := List.length_filter_le (fun k => Maps.has D k) allK
  have h2 : allK.length = 96 := by simp [allK]
  unfold Few at h
  omega
/-- The map in block b is of use for the costs g. -/
def Slot (w : World) (b : Nat) (g : Int → Int → Option Int) : Prop := ∃ D : DataW Unit, w.ownsMap Try.prog 85 (plainElem Try.prog 2) b (Maps.size D) D ∧ Memo D g ∧ Few D
theorem own_exact {w : World} {b n : Nat} {D : DataW Unit} (h : w.ownsMap Try.prog 85 (plainElem Try.prog 2) b n D) : w.ownsMap Try.prog 85 (plainElem Try.prog 2) b (Maps.size D) D := by
  obtain ⟨es, clock, hb, F, hs, rfl⟩ := h
  exact ⟨es, clock, hb, F, by simp [Maps.size, length_sorted], rfl⟩
theorem slot_new (w : World) (g : Int → Int → Option Int) : Slot (w.alloc (.map #[] 0)) w.heap.size g := by
  refine ⟨.map [], World.ownsMap_made w _ _ _, fun on long _ h => ?_, Nat.zero_le _⟩
  simp [Maps.has] at h
theorem Slot.keep {w w' : World} {b : Nat} {g : Int → Int → Option Int} (h : Slot w b g) (hk : w'.heap[b]? = w.heap[b]?) : Slot w' b g := by
  obtain ⟨D, ⟨es, clock, hb, r⟩, h2⟩ := h
  exact ⟨D, ⟨es, clock, hk.trans hb, r⟩, h2⟩
theorem Slot.map_ {w : World} {b : Nat} {g : Int → Int → Option Int} (h : Slot w b g) : ∃ es clock, w.heap[b]? = some (.map es clock) := by
  obtain ⟨D, ⟨es, clock, hb, r⟩, h2⟩ := h
  exact ⟨es, clock, hb⟩
theorem Slot.store {w' : World} {b : Nat} {g : Int → Int → Option Int} {D : DataW Unit} {n : Nat} {on long : Int} (hm : Memo D g) (hf : Few D) (ht : Tidy D) (hs : St on long)
    (h : w'.ownsMap Try.prog 85 (plainElem Try.prog 2) b n (D.put (kl on long) (.lit (.int .i64 (VP (g on long)))))) : Slot w' b g := by
  refine ⟨_, own_exact h, fun on' long' hs' hh => ?_, ?_⟩
  · by_cases e : kl on' long' = kl on long
    · obtain ⟨rfl, rfl⟩ := kl_inj hs' hs e
      exact Maps.atKey_put_same ht.isMap (kl_key hs) _ _
    · rw [Maps.atKey_put_other e]
      rw [Maps.has_put_other e] at hh
      exact hm on' long' hs' hh
  · have hsub : ∀ k, Maps.has D k = true → Maps.has (D.put (kl on long) (.lit (.int .i64 (VP (g on long))))) k = true := fun k hk => by
      by_cases e : k = kl on long
      · subst e; exact Maps.has_put_same ht.isMap (kl_key hs) _
      · rw [Maps.has_put_other e]; exact hk
    unfold Few at *
    rw [Maps.size_put ht]
    cases hno : Maps.has D (kl on long)
    · rw [if_neg (by simp)]
      exact Nat.le_trans (Nat.succ_le_succ hf) (filter_lt_of hsub hno (Maps.has_put_same ht.isMap (kl_key hs) _) allK (allK_mem hs))
    · rw [if_pos rfl]
      exact Nat.le_trans hf (filter_le_of hsub allK)
end Go.Proofs.Ytiofjnohdmminaa
