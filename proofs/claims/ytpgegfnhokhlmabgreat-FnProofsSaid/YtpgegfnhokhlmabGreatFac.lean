/- What stands where a step is solved, or flows are settled. No program in sight. -/
import Derived.Test.YtpgegfnhokhlmabGreatBal
import Derived.Test.YtpgegfnhokhlmabGreatSef
set_option linter.unusedVariables false
namespace Go.Proofs.YtpgegfnhokhlmabGreat

/-- Settled flows balance their supplies. -/
theorem sef_bal {ns : List Nd} {ps : List Pp} {m : Nat} {zs sup : List Int} (hp : ps.length = m) (hc : sefC ns ps m zs sup = 0) : outF (esOf ps) ns.length (sefL ns ps m zs sup) = sup ∧ alB zs (sefL ns ps m zs sup) = true ∧ codeS ns ps m zs = 0 ∧ fofC ns (opP ps zs m) ns.length sup = 0 ∧ sefL ns ps m zs sup = sefO ns ps m zs sup := by
  by_cases h1 : codeS ns ps m zs = 0
  · by_cases h2 : fofC ns (opP ps zs m) ns.length sup = 0
    · cases h3 : alB zs (sefO ns ps m zs sup)
      · rw [(sef_no h1 h2 h3).1] at hc; cases hc
      · have e := (sef_ok h1 h2 h3).2
        rw [e]
        have hs : setB m zs = true := by
          rcases codeS_in ns ps m zs with ⟨_, hs⟩ | hk | hk
          · exact hs
          · omega
          · omega
        have hz := setB_len hs
        obtain ⟨hok, hf, he, hi⟩ := fofC_zero h2
        have hg : Good (esOf (opP ps zs m)) ns.length := net_good hok
        have hl : (slvL ns (opP ps zs m) ns.length sup).length = (opP ps zs m).length := by
          rw [(slv_ok h2).1]
          exact (relaxM_ok (m := (opP ps zs m).length) (st := (ffl (esOf (opP ps zs m)) ns.length sup, 0)) ⟨by rw [ffl_len hg (flB_len hf), esOf_len], hi⟩).1
        refine ⟨?_, h3, h1, h2, rfl⟩
        unfold sefO
        rw [spr_outF hz hp (by rw [hl, op_len hp hz]), slv_bal rfl h2]
    · rw [(sef_bad h1 rfl h2).1] at hc; exact absurd hc h2
  · rw [(sef_code rfl h1).1] at hc; exact absurd hc h1
theorem st_facts {ns : List Nd} {ps : List Pp} {n m : Nat} {fs ts : List Int} (hp : ps.length = m) (hn : ns.length = n) (hc : stC ns ps n m fs ts = 0) : NetOk ns ps ∧ flB n ts = true ∧ flB m (stL ns ps n m fs ts) = true ∧ outF (esOf ps) n (stL ns ps n m fs ts) = ts := by
  have e := stL_ok hc
  rcases codeF_in ns ps m fs with ⟨h0, hok, hf⟩ | h1 | h1
  · have hg : Good (esOf ps) n := by rw [← hn]; exact net_good hok
    cases h2 : flB n ts
    · rw [st_sup h0 h2] at hc; exact absurd hc (by decide)
    · have hk : stK (esOf ps) n fs ts = 0 := by rw [← st_k h0 h2 rfl]; exact hc
      have he : evB (esOf ps) n ts = true := by
        cases he : evB (esOf ps) n ts
        · rw [stk_5 he] at hk; exact absurd hk (by decide)
        · rfl
      have hr := rlx_ok (ps := ps) (n := n) (s := 1) (m := m) (fs := stX (esOf ps) n fs ts) (by rw [stX_len]; exact flB_len hf) (stK_zero hk)
      refine ⟨hok, rfl, ?_, ?_⟩
      · rw [e]; exact flB_of hr.1 hr.2
      · rw [e, rlx_out 1 hok hn (by rw [stX_len, flB_len hf, hp]), stX_out hg (flB_len h2) (by rw [flB_len hf, esOf_len, hp]) he]
  · rw [st_code (by omega), h1] at hc; exact absurd hc (by decide)
  · rw [st_code (by omega), h1] at hc; exact absurd hc (by decide)
theorem sef_facts {ns : List Nd} {ps : List Pp} {m : Nat} {zs sup : List Int} (hp : ps.length = m) (hc : sefC ns ps m zs sup = 0) :
    (NetOk ns ps ∧ setB m zs = true) ∧ flB m (sefL ns ps m zs sup) = true ∧ flB ns.length sup = true ∧ outF (esOf ps) ns.length (sefL ns ps m zs sup) = sup ∧ alB zs (sefL ns ps m zs sup) = true := by
  obtain ⟨h1, h2, h3, h4, h5⟩ := sef_bal hp hc
  have hs : setB m zs = true := by
    rcases codeS_in ns ps m zs with ⟨_, hs⟩ | hk | hk
    · exact hs
    · omega
    · omega
  have hfo := fofC_zero h4
  refine ⟨⟨codeS_net' h3, hs⟩, ?_, hfo.2.1, h1, h2⟩
  rw [h5]
  refine flB_of sefO_len (spr_inR fun x hx => ?_)
  have hx2 := (List.of_mem_zip hx).2
  have hr := (rlx_ok (ps := opP ps zs m) (n := ns.length) (s := 32768) (m := (ffl (esOf (opP ps zs m)) ns.length sup).length) rfl hfo.2.2.2).2
  rw [← (slv_ok h4).1] at hr
  unfold inR at hr
  have := List.all_eq_true.1 hr x.2 hx2
  simpa using this
end Go.Proofs.YtpgegfnhokhlmabGreat
