/- The least cost of a plan, hour by hour, as a plain function: with the hours counted as the program and as the reference count them. No program in sight. -/
set_option linter.unusedVariables false
namespace Go.Proofs.Ytiofjnohdmminaa

def capO (u d on : Int) : Int := if on = 1 then u else d
def omin : Option Int → Option Int → Option Int
  | none, b => b
  | a, none => a
  | some a, some b => some (min a b)
/-- The hours in the state behind an hour; cp: as many as are counted. -/
def nxt (cp : Int → Int) (on long x : Int) : Int := if x = on then min (cp on) (long + 1) else 1
def stepC (s c on x : Int) : Int := if x = 1 then (if x = on then c else c + s) else 0
def okS (u d m on long x : Int) : Prop := ¬ (x < m ∨ (x ≠ on ∧ long < capO u d on))
instance (u d m on long x : Int) : Decidable (okS u d m on long x) := by unfold okS; infer_instance
def stp (s u d : Int) (cp : Int → Int) (c m : Int) (rest : Int → Int → Option Int) (on long x : Int) : Option Int :=
  if okS u d m on long x then (rest x (nxt cp on long x)).map fun r => stepC s c on x + r else none
/-- The least cost of the hours l, none if there is no plan. -/
def lst (s u d : Int) (cp : Int → Int) : List (Int × Int) → Int → Int → Option Int
  | [], _, _ => some 0
  | (c, m) :: l, on, long => omin (stp s u d cp c m (lst s u d cp l) on long 0) (stp s u d cp c m (lst s u d cp l) on long 1)
/-- The first plan with this cost. -/
def plan (s u d : Int) (cp : Int → Int) : List (Int × Int) → Int → Int → List Int
  | [], _, _ => []
  | (c, m) :: l, on, long =>
    if stp s u d cp c m (lst s u d cp l) on long 0 = lst s u d cp ((c, m) :: l) on long then 0 :: plan s u d cp l 0 (nxt cp on long 0) else 1 :: plan s u d cp l 1 (nxt cp on long 1)
theorem omin_some {a b : Option Int} {t : Int} (h : omin a b = some t) : a = some t ∨ b = some t := by
  cases a with
  | none => exact .inr h
  | some a =>
    cases b with
    | none => exact .inl h
    | some b =>
      simp [omin] at h
      rcases Int.le_total a b with hab | hab
      · left; rw [← h]; congr 1; omega
      · right; rw [← h]; congr 1; omega
section
variable {s u d : Int}
theorem long_same {on long run x : Int} (hu : 1 ≤ u ∧ u ≤ 48) (hd : 1 ≤ d ∧ d ≤ 48) (hl : long = min (capO u d on) run) (h1 : 1 ≤ run) : nxt (capO u d) on long x = min (capO u d x) (nxt (fun _ => 48) on run x) := by
  unfold nxt
  dsimp only
  by_cases e : x = on
  · subst e
    rw [if_pos rfl, if_pos rfl, hl]
    unfold capO
    split <;> omega
  · rw [if_neg e, if_neg e]
    unfold capO
    split <;> omega
/-- Counting at most as many hours as matter, or at most 48, is the same. -/
theorem lst_same (hu : 1 ≤ u ∧ u ≤ 48) (hd : 1 ≤ d ∧ d ≤ 48) : ∀ (l : List (Int × Int)) (on long run : Int), long = min (capO u d on) run → 1 ≤ run → lst s u d (capO u d) l on long = lst s u d (fun _ => 48) l on run
  | [], _, _, _, _, _ => rfl
  | (c, m) :: l, on, long, run, hl, h1 => by
    have key : ∀ x, stp s u d (capO u d) c m (lst s u d (capO u d) l) on long x = stp s u d (fun _ => 48) c m (lst s u d (fun _ => 48) l) on run x := by
      intro x
      unfold stp
      have e : okS u d m on long x ↔ okS u d m on run x := by
        unfold okS
        rw [hl]
        constructor <;> intro h <;> omega
      have hr : 1 ≤ nxt (fun _ => 48) on run x := by
        unfold nxt
        dsimp only
        split <;> omega
      have h2 := lst_same hu hd l x (nxt (capO u d) on long x) (nxt (fun _ => 48) on run x) (long_same hu hd hl h1) hr
      by_cases ho : okS u d m on long x
      · rw [if_pos ho, if_pos (e.1 ho), h2]
      · rw [if_neg ho, if_neg (fun h => ho (e.2 h))]
    rw [lst, lst, key, key]
theorem stp_same (hu : 1 ≤ u ∧ u ≤ 48) (hd : 1 ≤ d ∧ d ≤ 48) (l : List (Int × Int)) {c m on long run : Int} (hl : long = min (capO u d on) run) (h1 : 1 ≤ run) (x : Int) : stp s u d (capO u d) c m (lst s u d (capO u d) l) on long x = stp s u d (fun _ => 48) c m (lst s u d (fun _ => 48) l) on run x := by
  unfold stp
  have e : okS u d m on long x ↔ okS u d m on run x := by
    unfold okS
    rw [hl]
    constructor <;> intro h <;> omega
  have hr : 1 ≤ nxt (fun _ => 48) on run x := by
    unfold nxt
    dsimp only
    split <;> omega
  have h2 := lst_same (s := s) hu hd l x (nxt (capO u d) on long x) (nxt (fun _ => 48) on run x) (long_same hu hd hl h1) hr
  by_cases ho : okS u d m on long x
  · rw [if_pos ho, if_pos (e.1 ho), h2]
  · rw [if_neg ho, if_neg (fun h => ho (e.2 h))]
theorem plan_same (hu : 1 ≤ u ∧ u ≤ 48) (hd : 1 ≤ d ∧ d ≤ 48) : ∀ (l : List (Int × Int)) (on long run : Int), long = min (capO u d on) run → 1 ≤ run → plan s u d (capO u d) l on long = plan s u d (fun _ => 48) l on run
  | [], _, _, _, _, _ => rfl
  | (c, m) :: l, on, long, run, hl, h1 => by
    have hr : ∀ x, 1 ≤ nxt (fun _ => 48) on run x := by
      intro x
      unfold nxt
      dsimp only
      split <;> omega
    rw [plan, plan, stp_same hu hd l hl h1 0, lst_same hu hd ((c, m) :: l) on long run hl h1,
      plan_same hu hd l 0 _ _ (long_same hu hd hl h1) (hr 0), plan_same hu hd l 1 _ _ (long_same hu hd hl h1) (hr 1)]
theorem lst_bd (hs : 0 ≤ s ∧ s ≤ 1000000) {cp : Int → Int} : ∀ (l : List (Int × Int)) (on long t : Int), (∀ x ∈ l, -1000000 ≤ x.1 ∧ x.1 ≤ 1000000) → lst s u d cp l on long = some t → -2000000 * (l.length : Int) ≤ t ∧ t ≤ 2000000 * (l.length : Int)
  | [], _, _, t, _, h => by
    simp [lst] at h
    subst h
    simp
  | (c, m) :: l, on, long, t, hl, h => by
    have hc := hl (c, m) List.mem_cons_self
    have key : ∀ x, stp s u d cp c m (lst s u d cp l) on long x = some t → -2000000 * ((l.length : Int) + 1) ≤ t ∧ t ≤ 2000000 * ((l.length : Int) + 1) := by
      intro x hx
      unfold stp at hx
      split at hx
      · cases hr : lst s u d cp l x (nxt cp on long x) with
        | none => rw [hr] at hx; cases hx
        | some r =>
          have := lst_bd hs l x _ r (fun y hy => hl y (List.mem_cons_of_mem _ hy)) hr
          rw [hr] at hx
          simp at hx
          subst hx
          unfold stepC
          split
          · split <;> simp at hc <;> omega
          · omega
      · cases hx
    rw [List.length_cons]
    rcases omin_some h with h | h
    · have := key 0 h; push_cast; omega
    · have := key 1 h; push_cast; omega
end
end Go.Proofs.Ytiofjnohdmminaa
