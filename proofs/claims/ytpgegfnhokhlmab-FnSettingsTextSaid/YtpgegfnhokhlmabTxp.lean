/- Where all chords are closed a forest is left, with the same components. No program in sight. -/
import Derived.Test.YtpgegfnhokhlmabSpb
import Derived.Test.YtpgegfnhokhlmabCloseAll
set_option linter.unusedVariables false
namespace Go.Proofs.Ytpgegfnhokhlmab

theorem lst_one {es es' : Es} {r r' v : Nat} (h : Lst es r v) (h' : Lst es' r' v) (hr : ∀ u, Rch es' u v ↔ Rch es u v) : r = r' := by
  rcases Nat.lt_trichotomy r r' with hlt | he | hgt
  · exact absurd ((hr r).2 h.1) (h'.2 r hlt)
  · exact he
  · exact absurd ((hr r').1 h'.1) (h.2 r' hgt)
theorem comps_eq {es es' : Es} {n : Nat} (hg : Good es n) (hg' : Good es' n) (h : ∀ u v, v < n → (Rch es' u v ↔ Rch es u v)) : comps es' n = comps es n := by
  refine List.ext_getElem? fun v => ?_
  rcases Nat.lt_or_ge v n with hv | hv
  · obtain ⟨r, h1, _, h2⟩ := comps_at hg hv
    obtain ⟨r', h1', _, h2'⟩ := comps_at hg' hv
    rw [h1, h1', lst_one h2 h2' (fun u => h u v hv)]
  · rw [List.getElem?_eq_none (by rw [comps_len]; exact hv), List.getElem?_eq_none (by rw [comps_len]; exact hv)]
theorem cls_at {es : Es} {n k : Nat} (hk : k < es.length) : (cls es n)[k]? = some (if treeB es n k = true then 1 else 0) := by
  unfold cls clsTo
  simp [hk]
theorem cls_getD {es : Es} {n k : Nat} (hk : k < es.length) : (cls es n).getD k 0 = if treeB es n k = true then 1 else 0 := by
  rw [List.getD_eq_getElem?_getD, cls_at hk]
  rfl
theorem cls_len (es : Es) (n : Nat) : (cls es n).length = es.length := clsTo_len _ _ _
theorem opI_cls {es : Es} {n m : Nat} (hm : es.length = m) : opI (cls es n) m = (fst es n).map fun i : Nat => (i : Int) := by
  unfold opI fst
  rw [hm]
  congr 1
  refine List.filter_congr fun i hi => ?_
  rw [cls_getD (by rw [hm]; exact List.mem_range.1 hi)]
  cases treeB es n i <;> rfl
theorem es_closed {ps : List Pp} {n m : Nat} (hp : ps.length = m) : esOf (opP ps (cls (esOf ps) n) m) = tes (esOf ps) n := by
  have hel : (esOf ps).length = m := by rw [esOf_len]; exact hp
  have hI := opI_cls (n := n) hel
  have hl : (esOf (opP ps (cls (esOf ps) n) m)).length = (tes (esOf ps) n).length := by
    rw [esOf_len, opP_num (by rw [cls_len]; omega) (by omega), tes_len]
    unfold opN
    rw [hI, List.length_map]
  refine List.ext_getElem hl fun j h1 h2 => ?_
  have hj : j < (opI (cls (esOf ps) n) m).length := by
    rw [hI, List.length_map]
    rw [tes_len] at h2
    exact h2
  have e1 := es_open (zs := cls (esOf ps) n) (m := m) (ps := ps) (by rw [cls_len]; exact hel) hp hj
  rw [hI] at e1
  have h3 : j < (fst (esOf ps) n).length := by rw [tes_len] at h2; exact h2
  have e2 : ((fst (esOf ps) n).map fun i : Nat => (i : Int)).getD j 0 = (((fst (esOf ps) n)[j] : Nat) : Int) := by simp [List.getD, h3]
  rw [e2, List.getD_eq_getElem?_getD, List.getElem?_eq_getElem h1] at e1
  have e3 : (tes (esOf ps) n)[j] = (esOf ps).getD ((fst (esOf ps) n)[j]) (0, 0) := by simp only [tes, List.getElem_map]
  rw [e3]
  simpa using e1
/-- No pipe of the open network is a chord. -/
theorem closed_tree {ps : List Pp} {n m : Nat} (hg : Good (esOf ps) n) (hp : ps.length = m) {j : Nat} (hj : j < (tes (esOf ps) n).length) : Tree (tes (esOf ps) n) n j := by
  refine Classical.byContradiction fun hn => ?_
  have hel : (esOf ps).length = m := by rw [esOf_len]; exact hp
  have hg' := tes_good hg
  have hE := es_closed (n := n) hp
  have hI := opI_cls (n := n) hel
  have hcl : (cyc (tes (esOf ps) n) n j).length = (tes (esOf ps) n).length := cyc_len hg' j
  have hL : (opI (cls (esOf ps) n) m).length = (cyc (tes (esOf ps) n) n j).length := by rw [hI, List.length_map, hcl, tes_len]
  have hz : (cls (esOf ps) n).length = m := by rw [cls_len]; exact hel
  have hout := spr_outF (n := n) hz hp hL
  have hzero : ∀ i, i < (esOf ps).length → (spr m ((opI (cls (esOf ps) n) m).zip (cyc (tes (esOf ps) n) n j))).getD i 0 = 0 := by
    refine tree_flow_zero hg (fun i => (spr m ((opI (cls (esOf ps) n) m).zip (cyc (tes (esOf ps) n) n j))).getD i 0) (fun i hi ht => ?_) (fun v hv _ => ?_)
    · have hb : treeB (esOf ps) n i = false := by
        cases hb : treeB (esOf ps) n i
        · rfl
        · exact absurd (treeB_iff.1 hb) ht
      exact spr_shut hL (by rw [cls_at hi]) (by rw [hb]; rfl)
    · have h1 : (outF (esOf ps) n (spr m ((opI (cls (esOf ps) n) m).zip (cyc (tes (esOf ps) n) n j)))).getD v 0 = (outF (esOf (opP ps (cls (esOf ps) n) m)) n (cyc (tes (esOf ps) n) n j)).getD v 0 := by rw [hout]
      rw [outF_at hv, outF_at hv, hE] at h1
      rw [h1]
      exact cyc_out hg' hj hn hv
  have hj' : j < (opI (cls (esOf ps) n) m).length := by rw [hL, hcl]; exact hj
  have hs := (spr_take (m := m) (fs := cyc (tes (esOf ps) n) n j) (opI_nodup (cls (esOf ps) n) m) (op_in (cls (esOf ps) n) m) hL (opI (cls (esOf ps) n) m).length (Nat.le_refl _)).1 j hj'
  rw [← spr_all hL] at hs
  have hin := op_in (cls (esOf ps) n) m ((opI (cls (esOf ps) n) m).getD j 0) (by
    rw [List.getD_eq_getElem?_getD, List.getElem?_eq_getElem hj']
    exact List.getElem_mem hj')
  rw [hzero _ (by omega)] at hs
  unfold cyc at hs
  rw [List.getD_eq_getElem?_getD, List.getElem?_set_self (by rw [ffl_len hg' (unitS_len _ _ _)]; exact hj)] at hs
  exact absurd hs (by decide)
theorem closed_chd {ps : List Pp} {n m : Nat} (hg : Good (esOf ps) n) (hp : ps.length = m) : chd (esOf (opP ps (cls (esOf ps) n) m)) n = [] := by
  rw [es_closed hp, List.eq_nil_iff_forall_not_mem]
  intro i hi
  obtain ⟨h1, h2⟩ := chd_mem.1 hi
  rw [treeB_iff.2 (closed_tree hg hp h1)] at h2
  cases h2
theorem closed_comps {ps : List Pp} {n m : Nat} (hg : Good (esOf ps) n) (hp : ps.length = m) : comps (esOf (opP ps (cls (esOf ps) n) m)) n = comps (esOf ps) n := by
  rw [es_closed hp]
  refine comps_eq hg (tes_good hg) fun u v hv => ?_
  by_cases hu : u < n
  · exact tes_rch hg hu
  · exact ⟨fun h => absurd (rch_lt (tes_good hg) (h.symm (tes_good hg)) hv) hu, fun h => absurd (rch_lt hg (h.symm hg) hv) hu⟩
end Go.Proofs.Ytpgegfnhokhlmab
