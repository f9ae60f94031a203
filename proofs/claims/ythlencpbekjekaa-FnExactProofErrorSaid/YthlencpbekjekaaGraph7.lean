/- Levels along the forest; chords; connected graphs. No program in sight. -/
import Derived.Test.YthlencpbekjekaaGraph6
set_option linter.unusedVariables false
namespace Go.Proofs.Ythlencpbekjekaa

/-- Levels along the entries of a search. -/
def lvStep (es : Es) (ent : List (Option Nat)) (d : Nat → Int) (lv : List Int) (v : Nat) : List Int := match ent[v]? with
  | some (some i) => lv.set v (lv.getD (oth es i v) 0 + (if efr es i = v then d i else -(d i)))
  | _ => lv
def lvTo (es : Es) (st : St) (d : Nat → Int) (lv : List Int) (k : Nat) : List Int := ((st.ord.drop 1).take k).foldl (lvStep es st.ent d) lv
theorem lvStep_len (es : Es) (ent : List (Option Nat)) (d : Nat → Int) (lv : List Int) (v : Nat) : (lvStep es ent d lv v).length = lv.length := by
  unfold lvStep
  split
  · rw [List.length_set]
  · rfl
theorem lvTo_succ {es : Es} {st : St} {d : Nat → Int} {lv : List Int} {k v : Nat} (h : st.ord[k + 1]? = some v) : lvTo es st d lv (k + 1) = lvStep es st.ent d (lvTo es st d lv k) v := by
  unfold lvTo
  have : (st.ord.drop 1)[k]? = some v := by rw [List.getElem?_drop, Nat.add_comm]; exact h
  rw [List.take_add_one, this, List.foldl_append]
  rfl
theorem lvTo_len (es : Es) (st : St) (d : Nat → Int) (lv : List Int) (k : Nat) : (lvTo es st d lv k).length = lv.length := by
  unfold lvTo
  generalize (st.ord.drop 1).take k = l
  induction l generalizing lv with
  | nil => rfl
  | cons v l ih => rw [List.foldl_cons, ih, lvStep_len]
/-- The levels of the nodes that the search has gone through fit. -/
theorem lv_fits {es : Es} {n s : Nat} {st : St} {d : Nat → Int} {lv : List Int} (hg : Good es n) (h : Inv es n s st) (hl : lv.length = n) : ∀ k, k + 1 ≤ st.ord.length →
    (lvTo es st d lv k).getD s 0 = lv.getD s 0 ∧ ∀ (q v i : Nat), q ≤ k → 1 ≤ q → st.ord[q]? = some v → st.ent[v]? = some (some i) → (lvTo es st d lv k).getD v 0 = (lvTo es st d lv k).getD (oth es i v) 0 + (if efr es i = v then d i else -(d i)) := by
  intro k
  induction k with
  | zero => intro _; exact ⟨by simp [lvTo], fun q v i h1 h2 => absurd h1 (by omega)⟩
  | succ k ih =>
    intro hk
    obtain ⟨h1, h2⟩ := ih (by omega)
    have hx : st.ord[k + 1]? = some st.ord[k + 1] := List.getElem?_eq_getElem (by omega)
    generalize st.ord[k + 1] = x at hx
    have hxs : x ≠ s := by
      intro e
      subst e
      have := pos_inj h.nd hx h.hd
      omega
    obtain ⟨j, hj⟩ := h.ent2 x (List.mem_of_getElem? hx) hxs
    have hlen := lvTo_len es st d lv k
    have hxn := h.lt x (List.mem_of_getElem? hx)
    rw [lvTo_succ hx]
    have e : lvStep es st.ent d (lvTo es st d lv k) x = (lvTo es st d lv k).set x ((lvTo es st d lv k).getD (oth es j x) 0 + (if efr es j = x then d j else -(d j))) := by
      unfold lvStep
      rw [hj]
    rw [e]
    have hs : ∀ y, ((lvTo es st d lv k).set x ((lvTo es st d lv k).getD (oth es j x) 0 + (if efr es j = x then d j else -(d j)))).getD y 0 = if y = x then (lvTo es st d lv k).getD (oth es j x) 0 + (if efr es j = x then d j else -(d j)) else (lvTo es st d lv k).getD y 0 := fun y => getD_set (by omega)
    refine ⟨by rw [hs, if_neg (fun e => hxs e.symm)]; exact h1, fun q v i hq hq1 hv hi => ?_⟩
    obtain ⟨hinc, p, q', hp, hq', hpq⟩ := h.ent1 v i hi
    obtain rfl := pos_inj h.nd hv hq'
    by_cases e1 : q = k + 1
    · subst e1
      have : x = v := Option.some.inj (hx.symm.trans hv)
      subst this
      rw [hj] at hi
      injection hi with hi
      injection hi with hi
      subst hi
      rw [hs, hs, if_pos rfl, if_neg (oth_ne hg hinc)]
    · have hvx : v ≠ x := by
        intro e
        subst e
        have := pos_inj h.nd hv hx
        omega
      have hux : oth es i v ≠ x := by
        intro e
        rw [e] at hp
        have := pos_inj h.nd hp hx
        omega
      rw [hs, hs, if_neg hvx, if_neg hux]
      exact h2 q v i (by omega) hq1 hv hi
/-- The levels of a whole search. -/
def lvs (es : Es) (n s : Nat) (d : Nat → Int) (lv : List Int) : List Int := lvTo es (bfs es n s) d lv ((bfs es n s).ord.length - 1)
/-- All nodes are reached from node 0. -/
def Conn (es : Es) (n : Nat) : Prop := ∀ v, v < n → Rch es 0 v
theorem conn_root {es : Es} {n r : Nat} (hg : Good es n) (hc : Conn es n) : Root es n r ↔ r = 0 ∧ 0 < n := by
  constructor
  · intro h
    have hr := root_lt h
    refine ⟨?_, by omega⟩
    rcases Nat.eq_zero_or_pos r with h0 | h0
    · exact h0
    · exact absurd (hc r hr) ((root_iff hg hr).1 h 0 h0)
  · rintro ⟨rfl, h⟩
    exact (root_iff hg h).2 fun r' hr' => absurd hr' (by omega)
/-- The drop along each pipe of the forest is the difference of the levels. -/
theorem lvs_tree {es : Es} {n i : Nat} {d : Nat → Int} {lv : List Int} (hg : Good es n) (hc : Conn es n) (hl : lv.length = n) (hi : Tree es n i) : (lvs es n 0 d lv).getD (efr es i) 0 - (lvs es n 0 d lv).getD (eto es i) 0 = d i := by
  obtain ⟨r, v, hr, hv⟩ := hi
  have hr0 := (conn_root hg hc).1 hr
  obtain ⟨rfl, hn⟩ := hr0
  have hD := bfs_done (s := 0) hg hn
  obtain ⟨hinc, p, q, hp, hq, hpq⟩ := hD.inv.ent1 v i hv
  have hql := (List.getElem?_eq_some_iff.1 hq).1
  have h := (lv_fits (d := d) hg hD.inv hl ((bfs es n 0).ord.length - 1) (by omega)).2 q v i (by omega) (by omega) hq hv
  have hgi := hg i (inc_mem.1 hinc).1
  unfold lvs
  rcases (inc_mem.1 hinc).2 with he | he
  · unfold oth at h
    rw [if_pos he, if_pos he] at h
    rw [he]; omega
  · unfold oth at h
    rw [if_neg (by omega), if_neg (by omega)] at h
    rw [he]; omega
theorem lvs_root {es : Es} {n s : Nat} {d : Nat → Int} {lv : List Int} (hg : Good es n) (hs : s < n) (hl : lv.length = n) : (lvs es n s d lv).getD s 0 = lv.getD s 0 := by
  have hD := bfs_done (s := s) hg hs
  have := (List.getElem?_eq_some_iff.1 hD.inv.hd).1
  exact (lv_fits hg hD.inv hl _ (by omega)).1
theorem lvs_len (es : Es) (n s : Nat) (d : Nat → Int) (lv : List Int) : (lvs es n s d lv).length = lv.length := lvTo_len _ _ _ _ _
/-- The levels along the forest as a graph of its own are the same. -/
theorem lvs_tes {es : Es} {n : Nat} {d d' : Nat → Int} {lv lv' : List Int} {x : Int} (hg : Good es n) (hc : Conn es n) (hn : 0 < n) (hl : lv.length = n) (hl' : lv'.length = n) (h0 : lv'.getD 0 0 = lv.getD 0 0 + x)
    (hd : ∀ j i, (fst es n)[j]? = some i → d' j = d i) : ∀ v, v < n → (lvs (tes es n) n 0 d' lv').getD v 0 = (lvs es n 0 d lv).getD v 0 + x := by
  have hg' := tes_good hg
  have hD := bfs_done (s := 0) hg' hn
  have key : ∀ (q v : Nat), (bfs (tes es n) n 0).ord[q]? = some v → (lvs (tes es n) n 0 d' lv').getD v 0 = (lvs es n 0 d lv).getD v 0 + x := by
    intro q
    induction q using Nat.strongRecOn with
    | ind q ih =>
      intro v hq
      by_cases hv0 : v = 0
      · subst hv0
        rw [lvs_root hg' hn hl', lvs_root hg hn hl, h0]
      · obtain ⟨j, hj⟩ := hD.inv.ent2 v (List.mem_of_getElem? hq) hv0
        obtain ⟨hinc, p, q', hp, hq', hpq⟩ := hD.inv.ent1 v j hj
        obtain rfl := pos_inj hD.inv.nd hq hq'
        have hql := (List.getElem?_eq_some_iff.1 hq).1
        have h1 := (lv_fits (d := d') hg' hD.inv hl' ((bfs (tes es n) n 0).ord.length - 1) (by omega)).2 q v j (by omega) (by omega) hq hj
        have h2 := ih p hpq _ hp
        obtain ⟨i, hi⟩ := fst_get (inc_mem.1 hinc).1
        have hit := (fst_mem hg).1 (List.mem_of_getElem? hi)
        have h3 := lvs_tree (d := d) hg hc hl hit
        have hdi := hd j i hi
        obtain ⟨e1, e2⟩ := tes_at hi
        have hgi := hg i (tree_lt hg hit)
        unfold lvs at h2 h3 ⊢
        rw [h1, h2, hdi, e1, tes_oth hi]
        have he := ((tes_inc hg hi).1 hinc)
        rcases (inc_mem.1 he).2 with he | he
        · unfold oth
          rw [if_pos he, if_pos he]
          rw [he] at h3
          omega
        · unfold oth
          rw [if_neg (by omega), if_neg (by omega)]
          rw [he] at h3
          omega
  intro v hv
  have hr := (tes_rch (u := 0) hg hn).2 (hc v hv)
  obtain ⟨q, hq⟩ := List.getElem?_of_mem ((done_rch hg' hD v).2 hr)
  exact key q v hq
theorem fst_nodup (es : Es) (n : Nat) : (fst es n).Nodup := List.Pairwise.filter _ List.nodup_range
/-- A chord is closed by a path through the forest. -/
theorem chord_path {es : Es} {n c : Nat} (hg : Good es n) (hc : c < es.length) : ∃ l, IsPath es (eto es c) l (efr es c) ∧ l.Nodup ∧ ∀ i ∈ l, Tree es n i := by
  obtain ⟨h1, h2, h3⟩ := hg c hc
  have hg' := tes_good hg
  have hD := bfs_done (s := eto es c) hg' h2
  have hin : c ∈ inc es (eto es c) := inc_mem.2 ⟨hc, .inr rfl⟩
  have hr : Rch es (eto es c) (efr es c) := by
    have := (Rch.refl (es := es) (eto es c)).step hin
    unfold oth at this
    rwa [if_neg h3] at this
  obtain ⟨q, hq⟩ := List.getElem?_of_mem ((done_rch hg' hD _).2 ((tes_rch hg h2).2 hr))
  have key : ∀ (q x : Nat) (l : List Nat), (bfs (tes es n) n (eto es c)).ord[q]? = some x → Back (tes es n) (bfs (tes es n) n (eto es c)) x l (efr es c) → ∃ l', Back (tes es n) (bfs (tes es n) n (eto es c)) (eto es c) l' (efr es c) := by
    intro q
    induction q using Nat.strongRecOn with
    | ind q ih =>
      intro x l hx hb
      by_cases hxs : x = eto es c
      · exact ⟨l, hxs ▸ hb⟩
      · obtain ⟨j, hj⟩ := hD.inv.ent2 x (List.mem_of_getElem? hx) hxs
        obtain ⟨hinc, p, q', hp, hq', hpq⟩ := hD.inv.ent1 x j hj
        obtain rfl := pos_inj hD.inv.nd hx hq'
        exact ih p hpq _ _ hp (back_step hg' hD.inv hb hj)
  obtain ⟨l, hb⟩ := key q _ [] hq ⟨rfl, List.nodup_nil, fun i hi => absurd hi List.not_mem_nil⟩
  have hlt : ∀ j ∈ l, j < (fst es n).length := by
    intro j hj
    obtain ⟨y, q2, px, e1, _⟩ := hb.ents j hj
    have := (inc_mem.1 (hD.inv.ent1 y j e1).1).1
    rwa [tes_len] at this
  refine ⟨_, path_map hg l _ _ hb.path, ?_, fun i hi => ?_⟩
  · refine List.pairwise_map.2 (List.Pairwise.imp_of_mem ?_ hb.nd)
    intro a b ha hb' hne hab
    apply hne
    have h1 := hlt a ha
    have h2 := hlt b hb'
    simp only [List.getD, List.getElem?_eq_getElem h1, List.getElem?_eq_getElem h2, Option.getD_some] at hab
    exact (List.getElem_inj (fst_nodup es n)).1 hab
  · obtain ⟨j, hj, rfl⟩ := List.mem_map.1 hi
    have h1 := hlt j hj
    refine (fst_mem hg).1 ?_
    simp only [List.getD, List.getElem?_eq_getElem h1, Option.getD_some]
    exact List.getElem_mem h1
end Go.Proofs.Ythlencpbekjekaa
