/- The flows through the forest balance the supplies. No program in sight. -/
import Derived.Test.YthlencpbekjekaaGraph4
set_option linter.unusedVariables false
namespace Go.Proofs.Ythlencpbekjekaa

theorem bw_len (es : Es) (n r : Nat) : (bw es n r).length = (bfs es n r).ord.length - 1 := by simp [bw]
theorem bw_at {es : Es} {n r j v : Nat} (h : (bw es n r)[j]? = some v) : ∃ q : Nat, (bfs es n r).ord[q]? = some v ∧ q + j + 1 = (bfs es n r).ord.length ∧ 1 ≤ q := by
  have hl := (List.getElem?_eq_some_iff.1 h).1
  rw [bw_len] at hl
  unfold bw at h
  rw [List.getElem?_reverse (by simp; omega), List.getElem?_drop] at h
  refine ⟨_, h, ?_, by omega⟩
  simp
  omega
theorem bw_take {es : Es} {n r j v : Nat} (h : v ∈ (bw es n r).take j) : ∃ q : Nat, (bfs es n r).ord[q]? = some v ∧ (bfs es n r).ord.length ≤ q + j ∧ 1 ≤ q := by
  obtain ⟨k, hk⟩ := List.getElem?_of_mem h
  have hkj : k < j := by
    have := (List.getElem?_eq_some_iff.1 hk).1
    simp at this
    omega
  rw [List.getElem?_take_of_lt hkj] at hk
  obtain ⟨q, h1, h2, h3⟩ := bw_at hk
  exact ⟨q, h1, by omega, h3⟩
theorem bw_has {es : Es} {n r q v : Nat} (h : (bfs es n r).ord[q]? = some v) (hq : 1 ≤ q) : v ∈ bw es n r := by
  unfold bw
  rw [List.mem_reverse]
  have h' : ((bfs es n r).ord.drop 1)[q - 1]? = some v := by
    rw [List.getElem?_drop, show 1 + (q - 1) = q by omega]; exact h
  exact List.mem_of_getElem? h'
/-- The nodes gone through before the search from r. -/
def Past (es : Es) (n r v : Nat) : Prop := ∃ r', r' < r ∧ Root es n r' ∧ Rch es r' v ∧ v ≠ r'
theorem ff_part {es : Es} {n r : Nat} {sup : List Int} {a : FF} (hg : Good es n) (hr : Root es n r) (h : FI es n sup a) (hp : ∀ v, v ∈ a.pr ↔ Past es n r v) :
    ∀ j, j ≤ (bw es n r).length → FI es n sup (ffPart es n r j a) ∧ ∀ v, v ∈ (ffPart es n r j a).pr ↔ Past es n r v ∨ v ∈ (bw es n r).take j := by
  have hD := bfs_done hg (root_lt hr)
  intro j
  induction j with
  | zero => intro _; exact ⟨by simpa [ffPart] using h, fun v => by simp [ffPart, hp]⟩
  | succ j ih =>
    intro hj
    obtain ⟨h1, h2⟩ := ih (by omega)
    have hb : (bw es n r)[j]? = some (bw es n r)[j] := List.getElem?_eq_getElem (by omega)
    generalize (bw es n r)[j] = v at hb
    have e : ffPart es n r (j + 1) a = ffStep es (bfs es n r).ent (ffPart es n r j a) v := by
      unfold ffPart
      rw [List.take_add_one, hb, List.foldl_append]
      rfl
    obtain ⟨q, hq, hqj, hq1⟩ := bw_at hb
    have hrv := (done_rch hg hD v).1 (List.mem_of_getElem? hq)
    have hvr : v ≠ r := by
      intro e
      subst e
      have := pos_inj hD.inv.nd hq hD.inv.hd
      omega
    obtain ⟨i, hi⟩ := hD.inv.ent2 v (List.mem_of_getElem? hq) hvr
    obtain ⟨hinc, p, q', hpp, hq', hpq⟩ := hD.inv.ent1 v i hi
    obtain rfl := pos_inj hD.inv.nd hq hq'
    have hru := (done_rch hg hD _).1 (List.mem_of_getElem? hpp)
    have hnp : ∀ x, Rch es r x → ¬ Past es n r x := by
      rintro x hx ⟨r', hr'1, hr'2, hr'3, _⟩
      have := roots_eq hg hr hr'2 hx hr'3
      omega
    have hv1 : v ∉ (ffPart es n r j a).pr := fun hh => by
      rcases (h2 v).1 hh with hh | hh
      · exact hnp v hrv hh
      · obtain ⟨q2, a1, a2, _⟩ := bw_take hh
        have := pos_inj hD.inv.nd hq a1
        omega
    have hu1 : oth es i v ∉ (ffPart es n r j a).pr := fun hh => by
      rcases (h2 _).1 hh with hh | hh
      · exact hnp _ hru hh
      · obtain ⟨q2, a1, a2, _⟩ := bw_take hh
        have := pos_inj hD.inv.nd hpp a1
        omega
    obtain ⟨h3, h4⟩ := ff_step hg hr h1 hi hv1 hu1
    rw [e]
    refine ⟨h3, fun x => ?_⟩
    rw [h4, List.mem_cons, h2, List.take_add_one, hb, List.mem_append]
    simp
    constructor
    · rintro (rfl | h | h)
      · exact .inr (.inr rfl)
      · exact .inl h
      · exact .inr (.inl h)
    · rintro (h | h | rfl)
      · exact .inr (.inl h)
      · exact .inr (.inr h)
      · exact .inl rfl
theorem ff_to {es : Es} {n : Nat} {sup : List Int} (hg : Good es n) (hl : sup.length = n) : ∀ r, r ≤ n → FI es n sup (ffTo es n sup r) ∧ ∀ v, v ∈ (ffTo es n sup r).pr ↔ Past es n r v := by
  intro r
  induction r with
  | zero => intro _; exact ⟨fi_start es n sup hl, fun v => ⟨fun h => absurd h List.not_mem_nil, fun ⟨r', h, _⟩ => absurd h (by omega)⟩⟩
  | succ r ih =>
    intro hr
    obtain ⟨h1, h2⟩ := ih (by omega)
    unfold ffTo
    by_cases hR : isRoot es n r = true
    · rw [if_pos hR]
      have hroot := isRoot_iff.1 hR
      obtain ⟨h3, h4⟩ := ff_part hg hroot h1 h2 _ (Nat.le_refl _)
      refine ⟨h3, fun v => ?_⟩
      rw [h4, List.take_length]
      have hD := bfs_done hg (root_lt hroot)
      constructor
      · rintro (⟨r', a, b, c, d⟩ | h)
        · exact ⟨r', by omega, b, c, d⟩
        · obtain ⟨q, hq, _, hq1⟩ := bw_take (j := (bw es n r).length) (by rw [List.take_length]; exact h)
          refine ⟨r, by omega, hroot, (done_rch hg hD v).1 (List.mem_of_getElem? hq), fun e => ?_⟩
          subst e
          have := pos_inj hD.inv.nd hq hD.inv.hd
          omega
      · rintro ⟨r', a, b, c, d⟩
        by_cases e : r' = r
        · subst e
          obtain ⟨q, hq⟩ := List.getElem?_of_mem ((done_rch hg hD v).2 c)
          refine .inr (bw_has hq ?_)
          rcases Nat.eq_zero_or_pos q with h0 | h0
          · subst h0
            exact absurd (Option.some.inj (hq.symm.trans hD.inv.hd)) d
          · exact h0
        · exact .inl ⟨r', by omega, b, c, d⟩
    · rw [if_neg hR]
      refine ⟨h1, fun v => ?_⟩
      rw [h2]
      constructor
      · rintro ⟨r', a, b, c, d⟩
        exact ⟨r', by omega, b, c, d⟩
      · rintro ⟨r', a, b, c, d⟩
        by_cases e : r' = r
        · subst e
          exact absurd (isRoot_iff.2 b) hR
        · exact ⟨r', by omega, b, c, d⟩
/-- The sum of the supplies over the component of a root. -/
def compSum (es : Es) (n : Nat) (sup : List Int) (r : Nat) : Int := sumN n fun v => if (comps es n)[v]? == some (some r) then sup.getD v 0 else 0
def Even (es : Es) (n : Nat) (sup : List Int) : Prop := ∀ r, Root es n r → compSum es n sup r = 0
theorem comp_same {es : Es} {n i : Nat} (hg : Good es n) (hi : i < es.length) : (comps es n)[efr es i]? = (comps es n)[eto es i]? := by
  obtain ⟨h1, h2, h3⟩ := hg i hi
  obtain ⟨r, e1, hr, l1⟩ := comps_at hg h1
  obtain ⟨r', e2, hr', l2⟩ := comps_at hg h2
  have hst : Rch es (efr es i) (eto es i) := by
    have hin : i ∈ inc es (efr es i) := inc_mem.2 ⟨hi, .inl rfl⟩
    have := (Rch.refl (es := es) (efr es i)).step hin
    unfold oth at this
    rwa [if_pos rfl] at this
  have : Lst es r' (efr es i) := ⟨l2.1.trans (hst.symm hg), fun x hx hh => l2.2 x hx (hh.trans hst)⟩
  rw [e1, e2, lst_eq l1 this]
theorem ffl_len {es : Es} {n : Nat} {sup : List Int} (hg : Good es n) (hl : sup.length = n) : (ffl es n sup).length = es.length := (ff_to hg hl n (Nat.le_refl _)).1.lfl
theorem ffl_tree {es : Es} {n i : Nat} {sup : List Int} (hg : Good es n) (hl : sup.length = n) (hi : i < es.length) (ht : ¬ Tree es n i) : (ffl es n sup).getD i 0 = 0 := by
  apply Classical.byContradiction
  intro h
  obtain ⟨r, v, _, h1, h2⟩ := (ff_to hg hl n (Nat.le_refl _)).1.nz i hi h
  exact ht ⟨r, v, h1, h2⟩
theorem ffl_out {es : Es} {n : Nat} {sup : List Int} (hg : Good es n) (hl : sup.length = n) {v : Nat} (hv : v < n) (hr : ¬ Root es n v) : outN es (fun i => (ffl es n sup).getD i 0) v = sup.getD v 0 := by
  obtain ⟨h1, h2⟩ := ff_to hg hl n (Nat.le_refl _)
  refine h1.done v hv ((h2 v).2 ?_)
  obtain ⟨r, hroot, hrv⟩ := has_root hg hv
  exact ⟨r, root_lt hroot, hroot, hrv, fun e => hr (e ▸ hroot)⟩
theorem ffl_bal {es : Es} {n : Nat} {sup : List Int} (hg : Good es n) (hl : sup.length = n) (he : Even es n sup) {v : Nat} (hv : v < n) : outN es (fun i => (ffl es n sup).getD i 0) v = sup.getD v 0 := by
  by_cases hr : Root es n v
  · have h1 := outN_sum hg (fun i => (ffl es n sup).getD i 0) (fun x => (comps es n)[x]? == some (some v)) (fun i hi => by rw [comp_same hg hi])
    have h2 := he v hr
    unfold compSum at h2
    have h3 : sumN n (fun x => if ((comps es n)[x]? == some (some v)) = true then sup.getD x 0 - outN es (fun i => (ffl es n sup).getD i 0) x else 0) = 0 := by
      have e : (fun x => if ((comps es n)[x]? == some (some v)) = true then sup.getD x 0 - outN es (fun i => (ffl es n sup).getD i 0) x else 0) = fun x => (if ((comps es n)[x]? == some (some v)) = true then sup.getD x 0 else 0) - (if ((comps es n)[x]? == some (some v)) = true then outN es (fun i => (ffl es n sup).getD i 0) x else 0) := by
        funext x
        split <;> omega
      rw [e, sumN_sub, h1, h2]; rfl
    rw [sumN_one hv] at h3
    · rw [if_pos (beq_iff_eq.2 hr)] at h3
      omega
    · intro x hx hne
      by_cases hc : ((comps es n)[x]? == some (some v)) = true
      · rw [if_pos hc]
        have hxr : ¬ Root es n x := by
          intro hxr
          have h5 := beq_iff_eq.1 hc
          unfold Root at hxr
          rw [hxr] at h5
          injection h5 with h5
          injection h5 with h5
          exact hne h5
        rw [ffl_out hg hl hx hxr]; omega
      · rw [if_neg hc]
  · exact ffl_out hg hl hv hr
end Go.Proofs.Ythlencpbekjekaa
