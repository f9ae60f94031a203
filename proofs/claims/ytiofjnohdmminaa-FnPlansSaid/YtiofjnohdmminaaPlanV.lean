/- Costs and plans as the numbers that the program and the reference keep of them. No program in sight. -/
import Derived.Test.YtiofjnohdmminaaSched
set_option linter.unusedVariables false
namespace Go.Proofs.Ytiofjnohdmminaa

/-- The program's number of a cost: 2^60 if there is none. -/
def VP (o : Option Int) : Int := o.getD 1152921504606846976
/-- The reference's: 2^50. -/
def VS (o : Option Int) : Int := o.getD 1125899906842624
def Bdo (o : Option Int) : Prop := ∀ t, o = some t → -1000000000 ≤ t ∧ t ≤ 1000000000
theorem omin_none (a : Option Int) : omin a none = a := by cases a <;> rfl
theorem none_omin (a : Option Int) : omin none a = a := by cases a <;> rfl
theorem VP_min {a b : Option Int} (ha : Bdo a) (hb : Bdo b) : min (VP a) (VP b) = VP (omin a b) := by
  cases a with
  | none =>
    cases b with
    | none => simp [VP, omin]
    | some b => have := hb b rfl; simp [VP, omin]; omega
  | some a =>
    cases b with
    | none => have := ha a rfl; simp [VP, omin]; omega
    | some b => simp [VP, omin]
theorem VS_min {a b : Option Int} (ha : Bdo a) (hb : Bdo b) : min (VS a) (VS b) = VS (omin a b) := by
  cases a with
  | none =>
    cases b with
    | none => simp [VS, omin]
    | some b => have := hb b rfl; simp [VS, omin]; omega
  | some a =>
    cases b with
    | none => have := ha a rfl; simp [VS, omin]; omega
    | some b => simp [VS, omin]
theorem VP_bd {a : Option Int} (ha : Bdo a) : -1000000000 ≤ VP a ∧ VP a ≤ 1152921504606846976 := by
  cases a with
  | none => simp [VP]
  | some a => have := ha a rfl; simp [VP]; omega
theorem VS_bd {a : Option Int} (ha : Bdo a) : -1000000000 ≤ VS a ∧ VS a ≤ 1125899906842624 := by
  cases a with
  | none => simp [VS]
  | some a => have := ha a rfl; simp [VS]; omega
theorem VP_none {a : Option Int} (ha : Bdo a) : VP a = 1152921504606846976 ↔ a = none := by
  cases a with
  | none => simp [VP]
  | some a => have := ha a rfl; simp [VP]; omega
theorem VS_none {a : Option Int} (ha : Bdo a) : VS a = 1125899906842624 ↔ a = none := by
  cases a with
  | none => simp [VS]
  | some a => have := ha a rfl; simp [VS]; omega
theorem VS_inj {a b : Option Int} (ha : Bdo a) (hb : Bdo b) : VS a = VS b ↔ a = b := by
  cases a with
  | none =>
    cases b with
    | none => simp
    | some b => have := hb b rfl; simp [VS]; omega
  | some a =>
    cases b with
    | none => have := ha a rfl; simp [VS]; omega
    | some b => simp [VS]
theorem Bdo.none_ : Bdo none := fun t h => by cases h
theorem omin_bd {a b : Option Int} (ha : Bdo a) (hb : Bdo b) : Bdo (omin a b) := by
  intro t ht
  rcases omin_some ht with h | h
  · exact ha t h
  · exact hb t h
/-- A state: off or on, and for how many hours. -/
def St (on long : Int) : Prop := (on = 0 ∨ on = 1) ∧ 1 ≤ long ∧ long ≤ 48
theorem St.nxt {u d on long x : Int} (hu : 1 ≤ u ∧ u ≤ 48) (hd : 1 ≤ d ∧ d ≤ 48) (h : St on long) (hx : x = 0 ∨ x = 1) : St x (nxt (capO u d) on long x) := by
  obtain ⟨h1, h2, h3⟩ := h
  refine ⟨hx, ?_⟩
  unfold Go.Proofs.Ytiofjnohdmminaa.nxt capO
  split
  · split <;> omega
  · omega
theorem St.nxt48 {on long x : Int} (h : St on long) (hx : x = 0 ∨ x = 1) : St x (Go.Proofs.Ytiofjnohdmminaa.nxt (fun _ => 48) on long x) := by
  obtain ⟨h1, h2, h3⟩ := h
  refine ⟨hx, ?_⟩
  unfold Go.Proofs.Ytiofjnohdmminaa.nxt
  dsimp only
  split <;> omega
/-- The unit and the hours are within their bounds. -/
structure Fits (s u d : Int) (l : List (Int × Int)) : Prop where
  hs : 0 ≤ s ∧ s ≤ 1000000
  hu : 1 ≤ u ∧ u ≤ 48
  hd : 1 ≤ d ∧ d ≤ 48
  hl : ∀ x ∈ l, (-1000000 ≤ x.1 ∧ x.1 ≤ 1000000) ∧ (x.2 = 0 ∨ x.2 = 1)
  hn : l.length ≤ 48
section
variable {s u d : Int} {l : List (Int × Int)}
theorem Fits.drop (h : Fits s u d l) (j : Nat) : Fits s u d (l.drop j) := ⟨h.hs, h.hu, h.hd, fun x hx => h.hl x (List.mem_of_mem_drop hx), by rw [List.length_drop]; have := h.hn; omega⟩
theorem Fits.lst (h : Fits s u d l) (cp : Int → Int) (on long : Int) : Bdo (lst s u d cp l on long) := by
  intro t ht
  have := lst_bd h.hs l on long t (fun x hx => (h.hl x hx).1) ht
  have := h.hn
  omega
theorem Fits.stp {c m : Int} (h : Fits s u d ((c, m) :: l)) (cp : Int → Int) (on long x : Int) : Bdo (stp s u d cp c m (Go.Proofs.Ytiofjnohdmminaa.lst s u d cp l) on long x) := by
  intro t ht
  unfold Go.Proofs.Ytiofjnohdmminaa.stp at ht
  split at ht
  · cases hr : Go.Proofs.Ytiofjnohdmminaa.lst s u d cp l x (nxt cp on long x) with
    | none => rw [hr] at ht; cases ht
    | some r =>
      rw [hr] at ht
      simp at ht
      have h1 := lst_bd h.hs l _ _ r (fun x hx => (h.hl x (List.mem_cons_of_mem _ hx)).1) hr
      have h2 := (h.hl _ List.mem_cons_self).1
      have h3 := h.hn
      have h4 := h.hs
      simp at h2 h3
      subst ht
      unfold stepC
      split <;> (try split) <;> omega
  · cases ht
theorem stepC_bd (h : Fits s u d l) {c m on x : Int} (hm : (c, m) ∈ l) : -2000000 ≤ stepC s c on x ∧ stepC s c on x ≤ 2000000 := by
  have h2 := (h.hl _ hm).1
  have h4 := h.hs
  simp at h2
  unfold stepC
  split <;> (try split) <;> omega
/-- What the program keeps after k of the two choices. -/
def acc2 (s u d : Int) (c m : Int) (l : List (Int × Int)) (on long : Int) : Nat → Option Int
  | 0 => none
  | k + 1 => omin (acc2 s u d c m l on long k) (stp s u d (capO u d) c m (lst s u d (capO u d) l) on long k)
theorem acc2_bd {c m : Int} (h : Fits s u d ((c, m) :: l)) (on long : Int) : ∀ k, Bdo (acc2 s u d c m l on long k)
  | 0 => Bdo.none_
  | k + 1 => omin_bd (acc2_bd h on long k) (h.stp _ _ _ _)
theorem acc2_two {c m : Int} (on long : Int) : acc2 s u d c m l on long 2 = lst s u d (capO u d) ((c, m) :: l) on long := by
  show omin (omin none _) _ = _
  rw [none_omin]
  rfl
theorem acc2_skip {c m on long : Int} {k : Nat} (h : stp s u d (capO u d) c m (lst s u d (capO u d) l) on long k = none) : acc2 s u d c m l on long (k + 1) = acc2 s u d c m l on long k := by
  rw [acc2, h, omin_none]
theorem acc2_min {c m on long : Int} {k : Nat} (hf : Fits s u d ((c, m) :: l)) {t : Int} (h : stp s u d (capO u d) c m (lst s u d (capO u d) l) on long k = some t) : min (VP (acc2 s u d c m l on long k)) t = VP (acc2 s u d c m l on long (k + 1)) := by
  rw [acc2, h]
  have hb : Bdo (some t) := h ▸ hf.stp _ _ _ _
  rw [← VP_min (acc2_bd hf on long k) hb]
  rfl
def acc2S (s u d : Int) (c m : Int) (l : List (Int × Int)) (on long : Int) : Nat → Option Int
  | 0 => none
  | k + 1 => omin (acc2S s u d c m l on long k) (stp s u d (fun _ => 48) c m (lst s u d (fun _ => 48) l) on long k)
theorem acc2S_bd {c m : Int} (h : Fits s u d ((c, m) :: l)) (on long : Int) : ∀ k, Bdo (acc2S s u d c m l on long k)
  | 0 => Bdo.none_
  | k + 1 => omin_bd (acc2S_bd h on long k) (h.stp _ _ _ _)
theorem acc2S_two {c m : Int} (on long : Int) : acc2S s u d c m l on long 2 = lst s u d (fun _ => 48) ((c, m) :: l) on long := by
  show omin (omin none _) _ = _
  rw [none_omin]
  rfl
theorem acc2S_min {c m on long : Int} (hf : Fits s u d ((c, m) :: l)) (k : Nat) : min (VS (acc2S s u d c m l on long k)) (VS (stp s u d (fun _ => 48) c m (lst s u d (fun _ => 48) l) on long k)) = VS (acc2S s u d c m l on long (k + 1)) := by
  rw [acc2S]
  exact VS_min (acc2S_bd hf on long k) (hf.stp _ _ _ _)
theorem stp_some {cp : Int → Int} {c m on long x : Int} (h : stp s u d cp c m (lst s u d cp l) on long x ≠ none) : okS u d m on long x ∧ lst s u d cp l x (nxt cp on long x) ≠ none := by
  unfold stp at h
  by_cases ho : okS u d m on long x
  · rw [if_pos ho] at h
    refine ⟨ho, fun e => h ?_⟩
    rw [e]
    rfl
  · rw [if_neg ho] at h
    exact absurd rfl h
/-- The first hour of the best plan. -/
theorem plan_next {cp : Int → Int} {c m on long : Int} (h : lst s u d cp ((c, m) :: l) on long ≠ none) :
    (stp s u d cp c m (lst s u d cp l) on long 0 = lst s u d cp ((c, m) :: l) on long ∧ plan s u d cp ((c, m) :: l) on long = 0 :: plan s u d cp l 0 (nxt cp on long 0) ∧ lst s u d cp l 0 (nxt cp on long 0) ≠ none) ∨
    (stp s u d cp c m (lst s u d cp l) on long 0 ≠ lst s u d cp ((c, m) :: l) on long ∧ stp s u d cp c m (lst s u d cp l) on long 1 = lst s u d cp ((c, m) :: l) on long ∧ plan s u d cp ((c, m) :: l) on long = 1 :: plan s u d cp l 1 (nxt cp on long 1) ∧ lst s u d cp l 1 (nxt cp on long 1) ≠ none) := by
  by_cases h0 : stp s u d cp c m (lst s u d cp l) on long 0 = lst s u d cp ((c, m) :: l) on long
  · left
    refine ⟨h0, by rw [plan, if_pos h0], (stp_some (by rw [h0]; exact h)).2⟩
  · right
    cases ht : lst s u d cp ((c, m) :: l) on long with
    | none => exact absurd ht h
    | some t =>
      have h' : omin (stp s u d cp c m (lst s u d cp l) on long 0) (stp s u d cp c m (lst s u d cp l) on long 1) = some t := ht
      rcases omin_some h' with h1 | h1
      · exact absurd (h1.trans ht.symm) h0
      · exact ⟨by rw [← ht]; exact h0, h1, by rw [plan, if_neg h0], (stp_some (by rw [h1]; simp)).2⟩
end
end Go.Proofs.Ytiofjnohdmminaa
