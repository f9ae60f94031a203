/- Flows in a graph: what flows out of each node; flows in a forest are determined by it. No program in sight. -/
import Derived.Test.YthlencpbekjekaaGraph2
set_option linter.unusedVariables false
namespace Go.Proofs.Ythlencpbekjekaa

def sumN (m : Nat) (f : Nat → Int) : Int := match m with
  | 0 => 0
  | m + 1 => sumN m f + f m
theorem sumN_zero {m : Nat} {f : Nat → Int} (h : ∀ i, i < m → f i = 0) : sumN m f = 0 := by
  induction m with
  | zero => rfl
  | succ m ih => rw [sumN, ih (fun i hi => h i (by omega)), h m (by omega)]; rfl
theorem sumN_congr {m : Nat} {f g : Nat → Int} (h : ∀ i, i < m → f i = g i) : sumN m f = sumN m g := by
  induction m with
  | zero => rfl
  | succ m ih => rw [sumN, sumN, ih (fun i hi => h i (by omega)), h m (by omega)]
theorem sumN_add (m : Nat) (f g : Nat → Int) : sumN m (fun i => f i + g i) = sumN m f + sumN m g := by
  induction m with
  | zero => rfl
  | succ m ih => rw [sumN, sumN, sumN, ih]; omega
theorem sumN_sub (m : Nat) (f g : Nat → Int) : sumN m (fun i => f i - g i) = sumN m f - sumN m g := by
  induction m with
  | zero => rfl
  | succ m ih => rw [sumN, sumN, sumN, ih]; omega
theorem sumN_mul (m : Nat) (c : Int) (f : Nat → Int) : sumN m (fun i => c * f i) = c * sumN m f := by
  induction m with
  | zero => simp [sumN]
  | succ m ih => rw [sumN, sumN, ih, Int.mul_add]
theorem sumN_one {m i : Nat} {f : Nat → Int} (hi : i < m) (h : ∀ j, j < m → j ≠ i → f j = 0) : sumN m f = f i := by
  induction m with
  | zero => omega
  | succ m ih =>
    rw [sumN]
    by_cases e : i = m
    · subst e
      rw [sumN_zero (fun j hj => h j (by omega) (by omega))]
      omega
    · rw [ih (by omega) (fun j hj => h j (by omega)), h m (by omega) (fun h => e h.symm)]
      omega
theorem sumN_swap (n m : Nat) (f : Nat → Nat → Int) : sumN n (fun v => sumN m (fun i => f v i)) = sumN m (fun i => sumN n (fun v => f v i)) := by
  induction n with
  | zero => rw [sumN, sumN_zero]; intro i _; rfl
  | succ n ih =>
    rw [sumN, ih, ← sumN_add]
    exact sumN_congr fun i _ => rfl
theorem sumN_ite {n a : Nat} (x : Int) (ha : a < n) : sumN n (fun v => if a = v then x else 0) = x := by
  rw [sumN_one ha (fun j _ hj => if_neg (fun h => hj h.symm))]
  exact if_pos rfl

/-- What pipe i takes out of node v if it carries x. -/
def sgn (es : Es) (i v : Nat) (x : Int) : Int := (if efr es i = v then x else 0) - (if eto es i = v then x else 0)
/-- What flows out of a node minus what flows into it. -/
def outN (es : Es) (f : Nat → Int) (v : Nat) : Int := sumN es.length fun i => sgn es i v (f i)
theorem sgn_zero (es : Es) (i v : Nat) : sgn es i v 0 = 0 := by unfold sgn; split <;> split <;> rfl
theorem sgn_add (es : Es) (i v : Nat) (x y : Int) : sgn es i v (x + y) = sgn es i v x + sgn es i v y := by unfold sgn; split <;> split <;> omega
theorem sgn_sub (es : Es) (i v : Nat) (x y : Int) : sgn es i v (x - y) = sgn es i v x - sgn es i v y := by unfold sgn; split <;> split <;> omega
theorem sgn_mul (es : Es) (i v : Nat) (c x : Int) : sgn es i v (c * x) = c * sgn es i v x := by
  unfold sgn
  split <;> split <;> simp [Int.mul_neg]
theorem sgn_out {es : Es} {i v : Nat} {x : Int} (h : i ∉ inc es v) (hi : i < es.length) : sgn es i v x = 0 := by
  have h1 : ¬ efr es i = v := fun e => h (inc_mem.2 ⟨hi, .inl e⟩)
  have h2 : ¬ eto es i = v := fun e => h (inc_mem.2 ⟨hi, .inr e⟩)
  unfold sgn
  rw [if_neg h1, if_neg h2]; rfl
theorem outN_add (es : Es) (f g : Nat → Int) (v : Nat) : outN es (fun i => f i + g i) v = outN es f v + outN es g v := by
  unfold outN
  rw [← sumN_add]
  exact sumN_congr fun i _ => sgn_add es i v _ _
theorem outN_sub (es : Es) (f g : Nat → Int) (v : Nat) : outN es (fun i => f i - g i) v = outN es f v - outN es g v := by
  unfold outN
  rw [← sumN_sub]
  exact sumN_congr fun i _ => sgn_sub es i v _ _
theorem outN_mul (es : Es) (c : Int) (f : Nat → Int) (v : Nat) : outN es (fun i => c * f i) v = c * outN es f v := by
  unfold outN
  rw [← sumN_mul]
  exact sumN_congr fun i _ => sgn_mul es i v _ _
theorem outN_congr {es : Es} {f g : Nat → Int} (h : ∀ i, i < es.length → f i = g i) (v : Nat) : outN es f v = outN es g v :=
  sumN_congr fun i hi => by rw [h i hi]
/-- One pipe carries x more. -/
theorem outN_set {es : Es} {f : Nat → Int} {i : Nat} (hi : i < es.length) (x : Int) (v : Nat) : outN es (fun j => if j = i then x else f j) v = outN es f v + sgn es i v (x - f i) := by
  have e : outN es (fun j => if j = i then x else f j) v - outN es f v = sgn es i v (x - f i) := by
    rw [← outN_sub]
    unfold outN
    rw [sumN_one hi (fun j _ hj => by
      show sgn es j v ((if j = i then x else f j) - f j) = 0
      rw [if_neg hj, Int.sub_self]; exact sgn_zero _ _ _)]
    show sgn es i v ((if i = i then x else f i) - f i) = _
    rw [if_pos rfl]
  omega
/-- All in all nothing flows out of a component. -/
theorem outN_sum {es : Es} {n : Nat} (hg : Good es n) (f : Nat → Int) (p : Nat → Bool) (hp : ∀ i, i < es.length → p (efr es i) = p (eto es i)) : sumN n (fun v => if p v = true then outN es f v else 0) = 0 := by
  have e : sumN n (fun v => if p v = true then outN es f v else 0) = sumN n (fun v => sumN es.length (fun i => if p v = true then sgn es i v (f i) else 0)) := by
    refine sumN_congr fun v _ => ?_
    by_cases h : p v = true
    · rw [if_pos h]; exact sumN_congr fun i _ => by rw [if_pos h]
    · rw [if_neg h, sumN_zero]; intro i _; rw [if_neg h]
  rw [e, sumN_swap]
  refine sumN_zero fun i hi => ?_
  obtain ⟨h1, h2, h3⟩ := hg i hi
  have e2 : (fun v => if p v = true then sgn es i v (f i) else 0) = fun v => (if efr es i = v then (if p (efr es i) = true then f i else 0) else 0) - (if eto es i = v then (if p (eto es i) = true then f i else 0) else 0) := by
    funext v
    unfold sgn
    by_cases a : efr es i = v
    · have b : ¬ eto es i = v := by omega
      simp [a, b]
    · by_cases b : eto es i = v
      · simp [a, b]
        split <;> simp
      · simp [a, b]
  rw [e2, sumN_sub, sumN_ite _ h1, sumN_ite _ h2, hp i hi]
  omega
theorem sgn_ne {es : Es} {n i v : Nat} {x : Int} (hg : Good es n) (h : i ∈ inc es v) (h0 : sgn es i v x = 0) : x = 0 := by
  obtain ⟨hi, hv⟩ := inc_mem.1 h
  have := hg i hi
  unfold sgn at h0
  rcases hv with hv | hv
  · rw [if_pos hv, if_neg (by omega)] at h0; omega
  · rw [if_pos hv, if_neg (by omega)] at h0; omega
/-- A flow through the forest alone of which nothing flows out anywhere is none. -/
theorem tree_flow_zero {es : Es} {n : Nat} (hg : Good es n) (f : Nat → Int) (hsup : ∀ i, i < es.length → ¬ Tree es n i → f i = 0) (hout : ∀ v, v < n → ¬ Root es n v → outN es f v = 0) : ∀ i, i < es.length → f i = 0 := by
  have key : ∀ r, Root es n r → ∀ (d q v i : Nat), q + d = (bfs es n r).ord.length → (bfs es n r).ord[q]? = some v → (bfs es n r).ent[v]? = some (some i) → f i = 0 := by
    intro r hr
    have hD := bfs_done hg (root_lt hr)
    intro d
    induction d using Nat.strongRecOn with
    | ind d ih =>
      intro q v i hqd hq hv
      obtain ⟨hinc, p, q', hp, hq', hpq⟩ := hD.inv.ent1 v i hv
      have hqq := pos_inj hD.inv.nd hq hq'
      subst hqq
      have hvn := hD.inv.lt v (List.mem_of_getElem? hq)
      have hvs : v ≠ r := by
        intro e
        subst e
        have := pos_inj hD.inv.nd hq hD.inv.hd
        omega
      have hrv := (done_rch hg hD v).1 (List.mem_of_getElem? hq)
      have hnr : ¬ Root es n v := fun h => hvs (roots_eq hg h hr (.refl v) hrv)
      have h0 := hout v hvn hnr
      unfold outN at h0
      rw [sumN_one (inc_mem.1 hinc).1] at h0
      · exact sgn_ne hg hinc h0
      · intro j hj hji
        by_cases hjv : j ∈ inc es v
        · have hfj : f j = 0 := by
            by_cases hjt : Tree es n j
            · obtain ⟨r', u, hr', hu⟩ := hjt
              have hD' := bfs_done hg (root_lt hr')
              obtain ⟨hju, p', q', hp', hq', hpq'⟩ := hD'.inv.ent1 u j hu
              have hru := (done_rch hg hD' u).1 (List.mem_of_getElem? hq')
              by_cases huv : v = u
              · subst huv
                obtain rfl := roots_eq hg hr hr' hrv hru
                rw [hv] at hu
                injection hu with hu
                injection hu with hu
                exact absurd hu.symm hji
              · have ev : v = oth es j u := ends_eq hg hju hjv huv
                rw [← ev] at hp'
                have hrv' := (done_rch hg hD' v).1 (List.mem_of_getElem? hp')
                obtain rfl := roots_eq hg hr hr' hrv hrv'
                have := pos_inj hD.inv.nd hq hp'
                subst this
                have hql := (List.getElem?_eq_some_iff.1 hq').1
                exact ih ((bfs es n r).ord.length - q') (by omega) q' u j (by omega) hq' hu
            · exact hsup j hj hjt
          rw [hfj]; exact sgn_zero _ _ _
        · exact sgn_out hjv hj
  intro i hi
  by_cases ht : Tree es n i
  · obtain ⟨r, v, hr, hv⟩ := ht
    obtain ⟨_, p, q, _, hq, _⟩ := (bfs_done hg (root_lt hr)).inv.ent1 v i hv
    have hql := (List.getElem?_eq_some_iff.1 hq).1
    exact key r hr ((bfs es n r).ord.length - q) q v i (by omega) hq hv
  · exact hsup i hi ht
theorem tree_flow_eq {es : Es} {n : Nat} (hg : Good es n) (f g : Nat → Int) (hf : ∀ i, i < es.length → ¬ Tree es n i → f i = g i) (hout : ∀ v, v < n → ¬ Root es n v → outN es f v = outN es g v) : ∀ i, i < es.length → f i = g i := by
  intro i hi
  have := tree_flow_zero hg (fun i => f i - g i) (fun j hj ht => by rw [hf j hj ht]; omega) (fun v hv hr => by rw [outN_sub, hout v hv hr]; omega) i hi
  omega
end Go.Proofs.Ythlencpbekjekaa
