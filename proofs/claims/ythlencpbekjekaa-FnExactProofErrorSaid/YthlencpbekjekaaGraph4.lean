/- The flows through the forest that balance supplies, as they are computed. No program in sight. -/
import Derived.Test.YthlencpbekjekaaGraph3
set_option linter.unusedVariables false
namespace Go.Proofs.Ythlencpbekjekaa

/-- Flows; what is left at the nodes (as the program and as the reference keep it); the nodes gone through. -/
structure FF where
  fl : List Int
  lf : List Int
  z : List Int
  pr : List Nat
def ffStep (es : Es) (ent : List (Option Nat)) (a : FF) (v : Nat) : FF := match ent[v]? with
  | some (some i) => ⟨a.fl.set i (if efr es i = v then a.lf.getD v 0 else -(a.lf.getD v 0)), a.lf.set (oth es i v) (a.lf.getD (oth es i v) 0 + a.lf.getD v 0), (a.z.set (oth es i v) (a.z.getD (oth es i v) 0 + a.z.getD v 0)).set v 0, v :: a.pr⟩
  | _ => a
/-- The nodes of a search but the first, from the last one on. -/
def bw (es : Es) (n r : Nat) : List Nat := ((bfs es n r).ord.drop 1).reverse
def ffPart (es : Es) (n r j : Nat) (a : FF) : FF := ((bw es n r).take j).foldl (ffStep es (bfs es n r).ent) a
def isRoot (es : Es) (n r : Nat) : Bool := (comps es n)[r]? == some (some r)
def ffTo (es : Es) (n : Nat) (sup : List Int) : Nat → FF
  | 0 => ⟨List.replicate es.length 0, sup, sup, []⟩
  | r + 1 => if isRoot es n r = true then ffPart es n r (bw es n r).length (ffTo es n sup r) else ffTo es n sup r
def ffl (es : Es) (n : Nat) (sup : List Int) : List Int := (ffTo es n sup n).fl
theorem isRoot_iff {es : Es} {n r : Nat} : isRoot es n r = true ↔ Root es n r := by
  unfold isRoot Root
  exact beq_iff_eq

def absS (l : List Int) : Nat := (l.map Int.natAbs).sum
theorem absS_le {l : List Int} {v : Nat} {x : Int} (h : l[v]? = some x) : x.natAbs ≤ absS l := by
  induction l generalizing v with
  | nil => simp at h
  | cons a l ih =>
    simp only [absS, List.map_cons, List.sum_cons]
    cases v with
    | zero => simp at h; subst h; omega
    | succ v =>
      simp at h
      have := ih h
      unfold absS at this
      omega
theorem absS_set {l : List Int} {v : Nat} {x y : Int} (h : l[v]? = some x) : absS (l.set v y) + x.natAbs = absS l + y.natAbs := by
  induction l generalizing v with
  | nil => simp at h
  | cons a l ih =>
    cases v with
    | zero => simp at h; subst h; simp [absS]; omega
    | succ v =>
      simp at h
      have := ih h
      simp only [absS, List.set_cons_succ, List.map_cons, List.sum_cons] at *
      omega
theorem getD_set {l : List Int} {i j : Nat} {x : Int} (hi : i < l.length) : (l.set i x).getD j 0 = if j = i then x else l.getD j 0 := by
  by_cases e : j = i
  · subst e
    simp [List.getD, hi]
  · have e' : ¬ i = j := fun h => e h.symm
    simp [List.getD, e, e']

/-- What holds of a state in the middle. -/
structure FI (es : Es) (n : Nat) (sup : List Int) (a : FF) : Prop where
  lfl : a.fl.length = es.length
  llf : a.lf.length = n
  lz : a.z.length = n
  done : ∀ v, v < n → v ∈ a.pr → outN es (fun i => a.fl.getD i 0) v = sup.getD v 0
  left : ∀ v, v < n → v ∉ a.pr → a.z.getD v 0 = sup.getD v 0 - outN es (fun i => a.fl.getD i 0) v
  same : ∀ v, v < n → v ∉ a.pr → a.lf.getD v 0 = a.z.getD v 0
  zero : ∀ v, v < n → v ∈ a.pr → a.z.getD v 0 = 0
  nz : ∀ i, i < es.length → a.fl.getD i 0 ≠ 0 → ∃ (r v : Nat), v ∈ a.pr ∧ Root es n r ∧ (bfs es n r).ent[v]? = some (some i)
  bd : absS a.z ≤ absS sup
theorem fi_start (es : Es) (n : Nat) (sup : List Int) (hl : sup.length = n) : FI es n sup ⟨List.replicate es.length 0, sup, sup, []⟩ := by
  have hz : ∀ i, (List.replicate es.length (0 : Int)).getD i 0 = 0 := by
    intro i
    simp only [List.getD, List.getElem?_replicate]
    split <;> rfl
  have ho : ∀ v, outN es (fun i => (List.replicate es.length (0 : Int)).getD i 0) v = 0 := by
    intro v
    refine sumN_zero fun i _ => ?_
    show sgn es i v ((List.replicate es.length (0 : Int)).getD i 0) = 0
    rw [hz, sgn_zero]
  refine ⟨List.length_replicate, hl, hl, fun v _ hv => absurd hv List.not_mem_nil, fun v _ _ => ?_, fun v _ _ => rfl, fun v _ hv => absurd hv List.not_mem_nil, fun i _ h => absurd (hz i) h, Nat.le_refl _⟩
  show sup.getD v 0 = sup.getD v 0 - outN es (fun i => (List.replicate es.length (0 : Int)).getD i 0) v
  rw [ho]; omega
theorem getD_some {l : List Int} {v n : Nat} (hl : l.length = n) (hv : v < n) : l[v]? = some (l.getD v 0) := by
  simp [List.getD, List.getElem?_eq_getElem (show v < l.length by omega)]
theorem ff_step {es : Es} {n r v i : Nat} {sup : List Int} {a : FF} (hg : Good es n) (hr : Root es n r) (h : FI es n sup a) (hv : (bfs es n r).ent[v]? = some (some i)) (hp : v ∉ a.pr) (hu : oth es i v ∉ a.pr) :
    FI es n sup (ffStep es (bfs es n r).ent a v) ∧ (ffStep es (bfs es n r).ent a v).pr = v :: a.pr := by
  have hD := bfs_done hg (root_lt hr)
  obtain ⟨hinc, p, q, hpp, hq, hpq⟩ := hD.inv.ent1 v i hv
  have hil := (inc_mem.1 hinc).1
  have hvn : v < n := hD.inv.lt v (List.mem_of_getElem? hq)
  have hun : oth es i v < n := oth_lt hg hil
  have hne : oth es i v ≠ v := oth_ne hg hinc
  have hfi : a.fl.getD i 0 = 0 := by
    apply Classical.byContradiction
    intro h0
    obtain ⟨r', v', hv', hr', hev'⟩ := h.nz i hil h0
    have hD' := bfs_done hg (root_lt hr')
    obtain ⟨hinc', p', q', hpp', hq', hpq'⟩ := hD'.inv.ent1 v' i hev'
    by_cases e : v' = v
    · subst e; exact hp hv'
    · have ev : v' = oth es i v := ends_eq hg hinc hinc' e
      rw [← ev] at hu
      exact hu hv'
  have e0 : ffStep es (bfs es n r).ent a v = ⟨a.fl.set i (if efr es i = v then a.lf.getD v 0 else -(a.lf.getD v 0)), a.lf.set (oth es i v) (a.lf.getD (oth es i v) 0 + a.lf.getD v 0), (a.z.set (oth es i v) (a.z.getD (oth es i v) 0 + a.z.getD v 0)).set v 0, v :: a.pr⟩ := by
    unfold ffStep
    rw [hv]
  rw [e0]
  refine ⟨?_, rfl⟩
  have hlz := h.lz
  have hlf := h.llf
  have hfl := h.lfl
  have hsv := h.same v hvn hp
  have hsu := h.same _ hun hu
  -- what flows out now
  have hout : ∀ x, outN es (fun j => (a.fl.set i (if efr es i = v then a.lf.getD v 0 else -(a.lf.getD v 0))).getD j 0) x = outN es (fun j => a.fl.getD j 0) x + sgn es i x (if efr es i = v then a.lf.getD v 0 else -(a.lf.getD v 0)) := by
    intro x
    have e1 : (fun j => (a.fl.set i (if efr es i = v then a.lf.getD v 0 else -(a.lf.getD v 0))).getD j 0) = fun j => if j = i then (if efr es i = v then a.lf.getD v 0 else -(a.lf.getD v 0)) else a.fl.getD j 0 := by
      funext j
      exact getD_set (by omega)
    rw [e1, outN_set hil, hfi, Int.sub_zero]
  have hends : (efr es i = v ∧ ¬ eto es i = v ∧ oth es i v = eto es i) ∨ (¬ efr es i = v ∧ eto es i = v ∧ oth es i v = efr es i) := by
    have hgi := hg i hil
    unfold oth
    rcases (inc_mem.1 hinc).2 with hh | hh
    · exact .inl ⟨hh, by omega, if_pos hh⟩
    · exact .inr ⟨by omega, hh, if_neg (by omega)⟩
  have hsgv : sgn es i v (if efr es i = v then a.lf.getD v 0 else -(a.lf.getD v 0)) = a.lf.getD v 0 := by
    unfold sgn
    rcases hends with ⟨b1, b2, _⟩ | ⟨b1, b2, _⟩
    · rw [if_pos b1, if_neg b2, if_pos b1]; omega
    · rw [if_neg b1, if_pos b2, if_neg b1]; omega
  have hsgu : sgn es i (oth es i v) (if efr es i = v then a.lf.getD v 0 else -(a.lf.getD v 0)) = -(a.lf.getD v 0) := by
    have hgi := hg i hil
    unfold sgn
    rcases hends with ⟨b1, b2, b3⟩ | ⟨b1, b2, b3⟩
    · rw [b3, if_pos b1, if_neg hgi.2.2, if_pos rfl]; omega
    · rw [b3, if_neg b1, if_pos rfl, if_neg (fun h => hgi.2.2 h.symm)]; omega
  have hsgx : ∀ x, x ≠ v → x ≠ oth es i v → sgn es i x (if efr es i = v then a.lf.getD v 0 else -(a.lf.getD v 0)) = 0 := by
    intro x h1 h2
    refine sgn_out (fun hx => ?_) hil
    exact h2 (ends_eq hg hinc hx h1)
  have hz1 : ∀ x, ((a.z.set (oth es i v) (a.z.getD (oth es i v) 0 + a.z.getD v 0)).set v 0).getD x 0 = if x = v then 0 else if x = oth es i v then a.z.getD (oth es i v) 0 + a.z.getD v 0 else a.z.getD x 0 := by
    intro x
    rw [getD_set (by rw [List.length_set]; omega), getD_set (by omega)]
  have hlf1 : ∀ x, (a.lf.set (oth es i v) (a.lf.getD (oth es i v) 0 + a.lf.getD v 0)).getD x 0 = if x = oth es i v then a.lf.getD (oth es i v) 0 + a.lf.getD v 0 else a.lf.getD x 0 := fun x => getD_set (by omega)
  refine ⟨by rw [List.length_set]; exact hfl, by rw [List.length_set]; exact hlf, by rw [List.length_set, List.length_set]; exact hlz, ?_, ?_, ?_, ?_, ?_, ?_⟩
  · intro x hx hxp
    show outN es (fun j => (a.fl.set i _).getD j 0) x = _
    rw [hout x]
    rcases List.mem_cons.1 hxp with rfl | hxp
    · rw [hsgv, hsv, h.left x hx hp]; omega
    · have h1 : x ≠ v := fun e => hp (e ▸ hxp)
      have h2 : x ≠ oth es i v := fun e => hu (e ▸ hxp)
      rw [hsgx x h1 h2, h.done x hx hxp]; omega
  · intro x hx hxp
    have h1 : x ≠ v := fun e => hxp (e ▸ List.mem_cons_self)
    have h3 : x ∉ a.pr := fun e => hxp (List.mem_cons_of_mem _ e)
    show ((a.z.set (oth es i v) _).set v 0).getD x 0 = _ - outN es (fun j => (a.fl.set i _).getD j 0) x
    rw [hz1, if_neg h1, hout x]
    by_cases h2 : x = oth es i v
    · rw [if_pos h2, h2, hsgu, h.left _ hun hu, hsv]; omega
    · rw [if_neg h2, hsgx x h1 h2, h.left x hx h3]; omega
  · intro x hx hxp
    have h1 : x ≠ v := fun e => hxp (e ▸ List.mem_cons_self)
    have h3 : x ∉ a.pr := fun e => hxp (List.mem_cons_of_mem _ e)
    show (a.lf.set (oth es i v) _).getD x 0 = ((a.z.set (oth es i v) _).set v 0).getD x 0
    rw [hz1, if_neg h1, hlf1]
    by_cases h2 : x = oth es i v
    · rw [if_pos h2, if_pos h2, hsv, hsu]
    · rw [if_neg h2, if_neg h2, h.same x hx h3]
  · intro x hx hxp
    show ((a.z.set (oth es i v) _).set v 0).getD x 0 = 0
    rw [hz1]
    rcases List.mem_cons.1 hxp with rfl | hxp
    · rw [if_pos rfl]
    · have h1 : x ≠ v := fun e => hp (e ▸ hxp)
      have h2 : x ≠ oth es i v := fun e => hu (e ▸ hxp)
      rw [if_neg h1, if_neg h2, h.zero x hx hxp]
  · intro j hj hjn
    have hjn' : (a.fl.set i (if efr es i = v then a.lf.getD v 0 else -(a.lf.getD v 0))).getD j 0 ≠ 0 := hjn
    by_cases e : j = i
    · subst e
      exact ⟨r, v, List.mem_cons_self, hr, hv⟩
    · rw [getD_set (by omega), if_neg e] at hjn'
      obtain ⟨r', v', h1, h2, h3⟩ := h.nz j hj hjn'
      exact ⟨r', v', List.mem_cons_of_mem _ h1, h2, h3⟩
  · show absS ((a.z.set (oth es i v) _).set v 0) ≤ absS sup
    have e1 := getD_some hlz hun
    have e2 : (a.z.set (oth es i v) (a.z.getD (oth es i v) 0 + a.z.getD v 0))[v]? = some (a.z.getD v 0) := by
      rw [List.getElem?_set_ne hne]; exact getD_some hlz hvn
    have h1 := absS_set (y := a.z.getD (oth es i v) 0 + a.z.getD v 0) e1
    have h2 := absS_set (y := 0) e2
    have h3 := h.bd
    omega
end Go.Proofs.Ythlencpbekjekaa
