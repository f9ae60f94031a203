/- A proof that has been made with moves to spare, and whose flows are less than the greatest one, is accepted. No program in sight. -/
import Derived.Test.YtpgegfnhokhlmabGreatFac
import Derived.Test.YtpgegfnhokhlmabGreatMkp
import Derived.Test.YtpgegfnhokhlmabGreatChk0
set_option linter.unusedVariables false
namespace Go.Proofs.YtpgegfnhokhlmabGreat

theorem rlx_moves (ps : List Pp) (n : Nat) (fs : List Int) (s : Nat) : (rlx ps n fs s).2 ≤ 5000 := by
  unfold rlx
  exact relaxM_keep (P := fun st => st.2 ≤ 5000) (fun s st h => by have := (passM_mono (ksL ps) (cssL (esOf ps) n) s st).2.1; omega) s (fs, 0) (Nat.zero_le _)
section
variable {ns : List Nd} {ps : List Pp} {n m : Nat} {zs : List Int} {x : Int}
theorem mk_parts (hc : mkC ns ps n zs x = 0) : codeC ns ps n zs = 0 ∧ lvlB x = true ∧ fofC ns ps n zs = 0 := by
  by_cases h1 : codeC ns ps n zs = 0
  · cases h2 : lvlB x
    · rw [mkC_2 h1 h2] at hc; exact absurd hc (by decide)
    · rw [mkC_3 h1 h2] at hc; exact ⟨h1, rfl, hc⟩
  · rw [mkC_1 h1] at hc; exact absurd hc h1
theorem mk_accepted (hn : ns.length = n) (hm : ps.length = m) (hc : mkC ns ps n zs x = 0) (h5 : slvM ns ps n zs ≠ 5000) (hf : ∀ f ∈ slvL ns ps n zs, ab f < 30000) : ckV ns ps n m zs (mkF ns ps n zs x) (mkV ns ps n zs x) = 0 := by
  obtain ⟨h1, h2, h3⟩ := mk_parts hc
  obtain ⟨e1, e2⟩ := mk_ok hc
  obtain ⟨hok, hfz, hev, hin⟩ := fofC_zero h3
  obtain ⟨_, _, _, hcb⟩ := codeC_zero h1
  have hg : Good (esOf ps) n := by rw [← hn]; exact net_good hok
  have hn0 : 0 < n := by have := hok.1; omega
  have hcn : Conn (esOf ps) n := (conB_iff hg hn0).1 hcb
  have hel : (esOf ps).length = m := by rw [esOf_len]; exact hm
  have hr := rlx_ok (ps := ps) (n := n) (s := 32768) (m := m) (fs := ffl (esOf ps) n zs) (by rw [ffl_len hg (flB_len hfz)]; exact hel) hin
  rw [← (slv_ok h3).1] at hr
  have hbal := slv_bal hn h3
  have hmv := rlx_moves ps n (ffl (esOf ps) n zs) 32768
  rw [(slv_ok h3).2] at h5
  have hrest := relaxM_rest (ks := ksL ps) (css := cssL (esOf ps) n) 32768 (ffl (esOf ps) n zs, 0) (by decide) (by
    show (rlx ps n (ffl (esOf ps) n zs) 32768).2 < 5000
    omega)
  rw [show relaxM (ksL ps) (cssL (esOf ps) n) 32768 (ffl (esOf ps) n zs, 0) = rlx ps n (ffl (esOf ps) n zs) 32768 from rfl, ← (slv_ok h3).1] at hrest
  rw [e1, e2]
  generalize slvL ns ps n zs = L at *
  have hx : (lvR (esOf ps) (ksL ps) n L x).getD 0 0 = x := by
    rw [lvR_at hn0, lvs_root hg hn0 (by simp)]
    simp [List.getD, hn0]
  have hbd : ∀ v, v < n → ((lvs (esOf ps) n 0 (dF (ksL ps) L) (List.replicate n 0)).getD v 0).natAbs ≤ n * 900000000000 := fun v hv => lvs_bd hg hn0 (dF_bd hok (by rw [hr.1, hm]) hr.2) hv
  have hlv : lvB n (lvR (esOf ps) (ksL ps) n L x) = true := by
    unfold lvB
    rw [Bool.and_eq_true]
    refine ⟨decide_eq_true (lvR_len _ _ _ _ _), ?_⟩
    unfold allB
    rw [List.all_eq_true]
    intro y hy
    obtain ⟨v, hv, rfl⟩ := List.mem_iff_getElem.1 hy
    rw [lvR_len] at hv
    have e3 := lvR_at (es := esOf ps) (ks := ksL ps) (n := n) (fs := L) (x := x) hv
    have e4 : (lvR (esOf ps) (ksL ps) n L x).getD v 0 = (lvR (esOf ps) (ksL ps) n L x)[v]'(by rw [lvR_len]; exact hv) := by simp [List.getD, lvR_len, hv]
    rw [e4] at e3
    have h6 := hbd v hv
    unfold lvlB at h2
    have h7 := (inB_iff _ _ _).1 h2
    have h8 : n ≤ 24 := by have := hok.2.1; omega
    rw [inB_iff, e3]
    omega
  rw [ck_5 h1 (flB_of hr.1 hr.2) hbal hlv (by rw [hx]), if_pos]
  unfold smAll
  rw [List.all_eq_true]
  intro cs hcs
  unfold smB
  refine decide_eq_true (rest_small (fun i hi => ?_) (fun i hi => ?_) (fun i hi => ?_) (hrest cs hcs).1 (hrest cs hcs).2)
  · have := ksL_bd hok (show i < ps.length by have := hr.1; omega)
    omega
  · exact cssL_v hg hel cs hcs i (by have := hr.1; omega)
  · have : L.getD i 0 ∈ L := by
      rw [List.getD_eq_getElem?_getD, List.getElem?_eq_getElem hi]
      exact List.getElem_mem hi
    exact hf _ this
end
end Go.Proofs.YtpgegfnhokhlmabGreat
