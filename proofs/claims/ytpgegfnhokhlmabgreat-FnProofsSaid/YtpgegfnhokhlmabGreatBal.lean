/- Relaxing keeps what flows out of the nodes; solved loops and solved steps balance the supplies. No program in sight. -/
import Derived.Test.YtpgegfnhokhlmabGreatStb
import Derived.Test.YtpgegfnhokhlmabGreatSpb
set_option linter.unusedVariables false
namespace Go.Proofs.YtpgegfnhokhlmabGreat

theorem addL_outN {es : Es} {fs cs : List Int} (a : Int) (v : Nat) (hl : fs.length = es.length) : outN es (fun i => (addL fs cs a).getD i 0) v = outN es (fun i => fs.getD i 0) v + a * outN es (fun i => cs.getD i 0) v := by
  rw [outN_congr (g := fun i => fs.getD i 0 + a * cs.getD i 0) (fun i hi => addL_at (by omega)), outN_add, outN_mul]
theorem addL_out {es : Es} {n : Nat} {fs cs : List Int} (a : Int) (hl : fs.length = es.length) (hc : ∀ v, v < n → outN es (fun i => cs.getD i 0) v = 0) : outF es n (addL fs cs a) = outF es n fs :=
  outF_ext fun v hv => by rw [addL_outN a v hl, hc v hv, Int.mul_zero, Int.add_zero]
theorem passS_out {es : Es} {n : Nat} {ks cs X : List Int} {s : Int} {st : List Int × Nat} (hc : ∀ v, v < n → outN es (fun i => cs.getD i 0) v = 0) (h : st.1.length = es.length ∧ outF es n st.1 = X) : (passS ks s st cs).1.length = es.length ∧ outF es n (passS ks s st cs).1 = X := by
  unfold passS
  by_cases h5 : 5000 ≤ st.2
  · rw [if_pos h5]; exact h
  · rw [if_neg h5]
    cases hm : moveM ks cs s st.1 with
    | none => exact h
    | some f =>
      obtain ⟨a, rfl, _⟩ := moveM_some hm
      exact ⟨by rw [addL_len]; exact h.1, by rw [addL_out a h.1 hc]; exact h.2⟩
theorem rlx_out {ns : List Nd} {ps : List Pp} {n : Nat} {fs : List Int} (s : Nat) (hok : NetOk ns ps) (hn : ns.length = n) (hl : fs.length = ps.length) : outF (esOf ps) n (rlx ps n fs s).1 = outF (esOf ps) n fs := by
  have hg : Good (esOf ps) n := by rw [← hn]; exact net_good hok
  unfold rlx
  exact (relaxM_keep (P := fun st => st.1.length = (esOf ps).length ∧ outF (esOf ps) n st.1 = outF (esOf ps) n fs) (fun s st h => passM_keep (P := fun st => st.1.length = (esOf ps).length ∧ outF (esOf ps) n st.1 = outF (esOf ps) n fs) (fun s st cs hcs h => by
    obtain ⟨ci, rfl, h1, h2⟩ := css_mem hcs
    exact passS_out (fun v hv => cyc_out hg h1 h2 hv) h) s st h) s (fs, 0) ⟨by rw [esOf_len]; exact hl, rfl⟩).2
theorem ffl_bals {es : Es} {n : Nat} {zs : List Int} (hg : Good es n) (hl : zs.length = n) (he : evB es n zs = true) : outF es n (ffl es n zs) = zs :=
  outF_is hl fun v hv => ffl_bal hg hl ((evB_iff hg).1 he) hv
theorem slv_bal {ns : List Nd} {ps : List Pp} {n : Nat} {zs : List Int} (hn : ns.length = n) (hc : fofC ns ps n zs = 0) : outF (esOf ps) n (slvL ns ps n zs) = zs := by
  obtain ⟨hok, hf, he, hi⟩ := fofC_zero hc
  have hg : Good (esOf ps) n := by rw [← hn]; exact net_good hok
  rw [(slv_ok hc).1, rlx_out 32768 hok hn (by rw [ffl_len hg (flB_len hf), esOf_len]), ffl_bals hg (flB_len hf) he]
theorem stX_out {es : Es} {n : Nat} {fs ts : List Int} (hg : Good es n) (hl : ts.length = n) (hf : fs.length = es.length) (he : evB es n ts = true) : outF es n (stX es n fs ts) = ts := by
  refine outF_is hl fun v hv => ?_
  have e1 := addL_outN (es := es) (fs := addL fs (ffl es n ts) 1) (cs := ffl es n (outF es n fs)) (-1) v (by rw [addL_len]; exact hf)
  have e2 := addL_outN (es := es) (fs := fs) (cs := ffl es n ts) 1 v hf
  have e3 := ffl_bal hg hl ((evB_iff hg).1 he) hv
  have e4 := ffl_bal hg (outF_len es n fs) (outF_even (fs := fs) hg) hv
  unfold stX
  rw [e1, e2, e3, e4, outF_at hv]
  omega
end Go.Proofs.YtpgegfnhokhlmabGreat
