/- What SettledFlows (of the program and of the reference) does, by walks over its text. Conditions: lengths of at most 1048576. -/
import Derived.Test.YtpgegfnhokhlmaaGreatKV
import Derived.Test.YtpgegfnhokhlmaaGreatSpread
import Derived.Test.YtpgegfnhokhlmaaGreatAllow
set_option linter.unusedVariables false
set_option maxRecDepth 100000
namespace Go.Proofs.YtpgegfnhokhlmaaGreat
open Go.ChangeShapes Go.WideShapes Go.ChangeAt Go.RowKit Go.Joins Go.Deep
attribute [local go_sem ↓] Go.wp_at_zero Go.wp_at_succ

theorem op_sub (ps : List Pp) (zs : List Int) (k : Nat) : ∀ p ∈ opP ps zs k, p ∈ ps := by
  intro p hp
  unfold opP at hp
  obtain ⟨x, hx, hy⟩ := List.mem_filterMap.1 hp
  have h1 := List.mem_of_mem_take hx
  have h2 : x.1 ∈ ps := (List.of_mem_zip h1).1
  by_cases hz : x.2 = 0
  · rw [if_pos hz] at hy; cases hy
  · rw [if_neg hz] at hy
    injection hy with hy
    rw [← hy]; exact h2
theorem netOk_op {ns : List Nd} {ps : List Pp} {zs : List Int} {m : Nat} (h : NetOk ns ps) (hm : m ≤ 40) : NetOk ns (opP ps zs m) :=
  ⟨h.1, h.2.1, Nat.le_trans (opP_len ps zs m) hm, h.2.2.2.1, fun p hp => h.2.2.2.2 p (op_sub _ _ _ p hp)⟩
section
variable (ns : List Nd) (ps : List Pp) (m : Nat) (zs sup : List Int)
/-- The flows of the open network, spread. -/
noncomputable def sefO : List Int := spr m ((opI zs m).zip (slvL ns (opP ps zs m) ns.length sup))
noncomputable def sefK : Int := if fofC ns (opP ps zs m) ns.length sup = 0 then (if alB zs (sefO ns ps m zs sup) = true then 0 else 7) else fofC ns (opP ps zs m) ns.length sup
noncomputable def sefC : Int := if codeS ns ps m zs = 0 then sefK ns ps m zs sup else codeS ns ps m zs
noncomputable def sefL : List Int := if sefC ns ps m zs sup = 0 then sefO ns ps m zs sup else []
end
section
variable {ns : List Nd} {ps : List Pp} {m : Nat} {zs sup : List Int}
theorem sef_code {k : Int} (h : codeS ns ps m zs = k) (hk : k ≠ 0) : sefC ns ps m zs sup = k ∧ sefL ns ps m zs sup = [] := by
  have h1 : sefC ns ps m zs sup = k := by unfold sefC; rw [if_neg (by omega), h]
  exact ⟨h1, by unfold sefL; rw [if_neg (by omega)]⟩
theorem sef_bad {k : Int} (h : codeS ns ps m zs = 0) (h2 : fofC ns (opP ps zs m) ns.length sup = k) (hk : k ≠ 0) : sefC ns ps m zs sup = k ∧ sefL ns ps m zs sup = [] := by
  have h1 : sefC ns ps m zs sup = k := by unfold sefC; rw [if_pos h]; unfold sefK; rw [if_neg (by omega), h2]
  exact ⟨h1, by unfold sefL; rw [if_neg (by omega)]⟩
theorem sef_no (h : codeS ns ps m zs = 0) (h2 : fofC ns (opP ps zs m) ns.length sup = 0) (h3 : alB zs (sefO ns ps m zs sup) = false) : sefC ns ps m zs sup = 7 ∧ sefL ns ps m zs sup = [] := by
  have h1 : sefC ns ps m zs sup = 7 := by unfold sefC; rw [if_pos h]; unfold sefK; rw [if_pos h2, if_neg (by rw [h3]; simp)]
  exact ⟨h1, by unfold sefL; rw [if_neg (by omega)]⟩
theorem sef_ok (h : codeS ns ps m zs = 0) (h2 : fofC ns (opP ps zs m) ns.length sup = 0) (h3 : alB zs (sefO ns ps m zs sup) = true) : sefC ns ps m zs sup = 0 ∧ sefL ns ps m zs sup = sefO ns ps m zs sup := by
  have h1 : sefC ns ps m zs sup = 0 := by unfold sefC; rw [if_pos h]; unfold sefK; rw [if_pos h2, if_pos h3]
  exact ⟨h1, by unfold sefL; rw [if_pos h1]⟩
theorem sef_sup (h : codeS ns ps m zs = 0) (hm : m ≤ 40) (h2 : flB ns.length sup = false) : sefC ns ps m zs sup = 3 ∧ sefL ns ps m zs sup = [] := by
  have h3 : codeF ns (opP ps zs m) ns.length sup = 3 := codeF_bad (netOk_op (codeS_net' h) hm) h2
  exact sef_bad h (show fofC ns (opP ps zs m) ns.length sup = 3 by unfold fofC; rw [if_neg (by omega), h3]) (by decide)
theorem sefO_len : (sefO ns ps m zs sup).length = m := spr_len _ _
theorem sefL_len : (sefL ns ps m zs sup).length ≤ m := by
  unfold sefL
  split
  · rw [sefO_len]; exact Nat.le_refl _
  · simp
end
set_option maxHeartbeats 4000000 in
theorem settled_any (A B C D : Option Addr) (n c m d e f : Nat) (ns : List Nd) (ps : List Pp) (zs sup : List Int) (w : World) (h : IsNet w A n c ns B m d ps) (hz : Ints w C zs.length zs) (hf : Ints w D sup.length sup) (hl : zs.length ≤ 1048576) (hl2 : sup.length ≤ 1048576) :
    Calls Tryz.prog 48 #[.agg #[.slice A n c, .slice B m d], .slice C zs.length e, .slice D sup.length f] w (RetI2 w (sefL ns ps m zs sup) (sefC ns ps m zs sup)) := by
  have hw0 : ∀ cs t, Below w.heap.size w (w.alloc (.cells cs t)) := fun cs t => (Below.refl _ _).alloc (Nat.le_refl _) _
  go_enter Tryz.func48, Tryz.ntmps48
  go_wp2_with fail
  refine (checkS_any _ _ _ _ _ _ _ _ _ ns ps zs _ (h.alloc _) (hz.alloc _) hl).mono ?_
  rintro e w1 ⟨rfl, hb1⟩
  have bx := (box_new w #[.slice A n c, .slice B m d] 33).belowA hb1
  have hB1 := bthen (hw0 _ _) hb1 (by simp)
  have xl := bx.lt
  have x0 : w1.cell? ⟨w.heap.size, 0, none⟩ = some (.slice A n c) := bx.cell 0
  have x1 : w1.cell? ⟨w.heap.size, 1, none⟩ = some (.slice B m d) := bx.cell 1
  clear hb1
  rcases codeS_in ns ps m zs with ⟨hk, hs⟩ | hk | hk
  rotate_left
  all_goals try
    obtain ⟨k1, k2⟩ := sef_code (sup := sup) hk (by decide)
    have H1 := Lib.hid k1
    have H2 := Lib.hid k2
    rw [hk]
    clear hk k1 k2
    go_wp2_with fail
    go_ret2
    exact retI2_nil H2.out H1.out hB1
  have HK := Lib.hid hk
  have HS := Lib.hid hs
  have HN := Lib.hid (codeS_net' hk)
  rw [hk]
  clear hk hs
  have hzm : zs.length = m := setB_len HS.out
  have hpm : ps.length = m := h.pipes.len
  obtain rfl : ns.length = n := h.nodes.len
  have hnB : 1 ≤ ns.length ∧ ns.length ≤ 24 := by have := HN.out.1; have := HN.out.2.1; omega
  have hmB : m ≤ 40 := by have := HN.out.2.2.1; omega
  have HZM := Lib.hid hzm
  have HPM := Lib.hid hpm
  have HMB := Lib.hid hmB
  rw [hzm] at hz
  obtain ⟨a, rfl⟩ : ∃ a, A = some a := by
    obtain ⟨b, o, _, hA, _⟩ := h.nodes.at_ (show 0 < ns.length by omega)
    exact ⟨_, hA⟩
  clear hzm hpm
  go_wp2_with fail
  rw [HZM.out]
  refine (openNet_any _ _ _ _ _ _ _ _ ns ps zs _ (h.below hB1) (hz.below hB1) hnB.2 hmB).mono ?_
  rintro e w2 ⟨A2, c2, B2, d2, Z2, f2, rfl, oN2, oZ2, hb2⟩
  have hB2 := bthen hB1 hb2 hB1.size
  have bx2 := bx.belowA hb2
  clear x0 x1 xl hB1 hb2 bx
  have y0 : w2.cell? ⟨w.heap.size, 0, none⟩ = some (.slice (some a) ns.length c) := bx2.cell 0
  have y1 : w2.cell? ⟨w.heap.size, 1, none⟩ = some (.slice B m d) := bx2.cell 1
  have yl := bx2.lt
  have hW2 : Below w2.heap.size w2 (w2.alloc (.cells #[.slice A2 ns.length c2, .slice B2 (opP ps zs m).length d2] 33)) := (Below.refl _ _).alloc (Nat.le_refl _) _
  have hB3 := bthen hB2 hW2 hB2.size
  have hoL : (opP ps zs m).length = (opI zs m).length := op_len HPM.out HZM.out
  have HOL := Lib.hid hoL
  clear hoL
  by_cases hc : fofC ns (opP ps zs m) ns.length sup = 0
  rotate_left
  · obtain ⟨k1, k2⟩ := sef_bad (sup := sup) HK.out rfl hc
    have H1 := Lib.hid k1
    have H2 := Lib.hid k2
    obtain ⟨K, hKK⟩ : ∃ y, fofC ns (opP ps zs m) ns.length sup = y := ⟨_, rfl⟩
    have HKK := Lib.hid hKK
    rw [hKK] at hc
    have t1 : (K != 0) = true := by simpa using hc
    clear k1 k2 hKK hc
    go_wp2_with fail
    refine (solve_any _ _ _ _ _ _ _ _ _ sup ns (opP ps zs m) _ (oN2.reads.below hW2) (hf.below hB3) hl2).mono ?_
    rw [HKK.out]
    rintro e w3 ⟨A3, c3, rfl, o3, hb3⟩
    go_wp2_with fail
    go_ret2
    exact retI2_nil H2.out (H1.out.trans HKK.out) (bthen hB3 hb3 hB3.size)
  obtain ⟨_, _, _, hsl, _⟩ := slv_facts (oN2.reads) hc
  have HC := Lib.hid hc
  have HSL := Lib.hid hsl
  clear hc hsl
  go_wp2_with fail
  refine (solve_any _ _ _ _ _ _ _ _ _ sup ns (opP ps zs m) _ (oN2.reads.below hW2) (hf.below hB3) hl2).mono ?_
  rw [HC.out]
  rintro e w3 ⟨A3, c3, rfl, o3, hb3⟩
  rw [HSL.out, HOL.out] at o3
  rw [HSL.out]
  have hB4 := bthen hB3 hb3 hB3.size
  have bx4 := (bx2.alloc _).belowA hb3
  have oZ4 := (oZ2.alloc _).below hb3
  clear y0 y1 yl bx2
  have y0 : w3.cell? ⟨w.heap.size, 0, none⟩ = some (.slice (some a) ns.length c) := bx4.cell 0
  have y1 : w3.cell? ⟨w.heap.size, 1, none⟩ = some (.slice B m d) := bx4.cell 1
  have yl := bx4.lt
  have HI := Lib.hid (op_in zs m)
  go_wp2_with fail
  rw [HOL.out]
  refine (spread_any _ _ _ _ _ _ _ _ _ _ _ (opI zs m) (slvL ns (opP ps zs m) ns.length sup) _ oZ4.ints o3.ints HI.out (by omega) (by have := opI_len zs m; omega)).mono ?_
  rw [show spr m ((opI zs m).zip (slvL ns (opP ps zs m) ns.length sup)) = sefO ns ps m zs sup from rfl]
  rintro e w5 ⟨A5, c5, rfl, o5, hb5⟩
  have hB5 := bthen hB4 hb5 hB4.size
  have HOO := Lib.hid (sefO_len (ns := ns) (ps := ps) (m := m) (zs := zs) (sup := sup))
  rw [HOO.out] at o5 ⊢
  have hz5 := hz.below hB5
  have hs4 := hB4.size
  cases hA : alB zs (sefO ns ps m zs sup)
  · obtain ⟨k1, k2⟩ := sef_no HK.out HC.out hA
    have H1 := Lib.hid k1
    have H2 := Lib.hid k2
    have HA := Lib.hid hA
    clear k1 k2 hA
    go_wp2_with (go_at_call 106; refine (allowed_any _ _ _ _ _ zs (sefO ns ps m zs sup) _ hz5 o5.ints (by omega)).mono ?_; rw [HA.out]; rintro e6 w6 ⟨rfl, rfl⟩)
    go_ret2
    exact retI2_nil H2.out H1.out hB5
  · obtain ⟨k1, k2⟩ := sef_ok HK.out HC.out hA
    have H1 := Lib.hid k1
    have H2 := Lib.hid k2
    have HA := Lib.hid hA
    clear k1 k2 hA
    go_wp2_with (go_at_call 106; refine (allowed_any _ _ _ _ _ zs (sefO ns ps m zs sup) _ hz5 o5.ints (by omega)).mono ?_; rw [HA.out]; rintro e6 w6 ⟨rfl, rfl⟩)
    go_ret2
    exact retI2_of HOO.out H2.out H1.out (o5.mono hs4) hB5
set_option maxHeartbeats 4000000 in
theorem sSettled_any (A B C D : Option Addr) (n c m d e f : Nat) (ns : List Nd) (ps : List Pp) (zs sup : List Int) (w : World) (h : IsNet w A n c ns B m d ps) (hz : Ints w C zs.length zs) (hf : Ints w D sup.length sup) (hnil : D = none → f = 0) (hl : zs.length ≤ 1048576) (hl2 : sup.length ≤ 1048576) :
    Calls Tryz.prog 47 #[.agg #[.slice A n c, .slice B m d], .slice C zs.length e, .slice D sup.length f] w (RetI2 w (sefL ns ps m zs sup) (sefC ns ps m zs sup)) := by
  have hw0 : ∀ cs t, Below w.heap.size w (w.alloc (.cells cs t)) := fun cs t => (Below.refl _ _).alloc (Nat.le_refl _) _
  have HNL := Lib.hid hnil
  clear hnil
  go_enter Tryz.func47, Tryz.ntmps47
  go_wp2_with fail
  refine (sCodeS_any _ _ _ _ _ _ _ _ _ ns ps zs _ (h.alloc _) (hz.alloc _) hl).mono ?_
  rintro e w1 ⟨rfl, hb1⟩
  have bx := (box_new w #[.slice A n c, .slice B m d] 33).belowA hb1
  have hB1 := bthen (hw0 _ _) hb1 (by simp)
  have xl := bx.lt
  have x0 : w1.cell? ⟨w.heap.size, 0, none⟩ = some (.slice A n c) := bx.cell 0
  have x1 : w1.cell? ⟨w.heap.size, 1, none⟩ = some (.slice B m d) := bx.cell 1
  clear hb1
  rcases codeS_in ns ps m zs with ⟨hk, hs⟩ | hk | hk
  rotate_left
  all_goals try
    obtain ⟨k1, k2⟩ := sef_code (sup := sup) hk (by decide)
    have H1 := Lib.hid k1
    have H2 := Lib.hid k2
    rw [hk]
    clear hk k1 k2
    go_wp2_with fail
    go_ret2
    exact retI2_nil H2.out H1.out hB1
  have HK := Lib.hid hk
  have HS := Lib.hid hs
  have HN := Lib.hid (codeS_net' hk)
  rw [hk]
  clear hk hs
  have hzm : zs.length = m := setB_len HS.out
  have hpm : ps.length = m := h.pipes.len
  obtain rfl : ns.length = n := h.nodes.len
  have hnB : 1 ≤ ns.length ∧ ns.length ≤ 24 := by have := HN.out.1; have := HN.out.2.1; omega
  have hmB : m ≤ 40 := by have := HN.out.2.2.1; omega
  have HZM := Lib.hid hzm
  have HPM := Lib.hid hpm
  have HMB := Lib.hid hmB
  rw [hzm] at hz
  obtain ⟨a, rfl⟩ : ∃ a, A = some a := by
    obtain ⟨b, o, _, hA, _⟩ := h.nodes.at_ (show 0 < ns.length by omega)
    exact ⟨_, hA⟩
  clear hzm hpm
  cases hFS : flB ns.length sup
  · obtain ⟨k1, k2⟩ := sef_sup HK.out HMB.out hFS
    have H1 := Lib.hid k1
    have H2 := Lib.hid k2
    have HFS := Lib.hid hFS
    clear k1 k2 hFS
    go_wp2_with fail
    refine (sSup_any _ _ _ _ _ _ _ _ _ sup _ (hf.below hB1) hl2).mono ?_
    rw [HFS.out]
    rintro e w2 ⟨rfl, hb2⟩
    go_wp2_with fail
    go_ret2
    exact retI2_nil H2.out H1.out (bthen hB1 hb2 hB1.size)
  have HFS := Lib.hid hFS
  clear hFS
  go_wp2_with fail
  refine (sSup_any _ _ _ _ _ _ _ _ _ sup _ (hf.below hB1) hl2).mono ?_
  rw [HFS.out]
  rintro e w1' ⟨rfl, hb1'⟩
  have hB1' := bthen hB1 hb1' hB1.size
  have bx' := bx.belowA hb1'
  clear x0 x1 xl hB1 hb1' bx
  have hB1 := hB1'
  have bx := bx'
  have xl := bx.lt
  have x0 : w1'.cell? ⟨w.heap.size, 0, none⟩ = some (.slice (some a) ns.length c) := bx.cell 0
  have x1 : w1'.cell? ⟨w.heap.size, 1, none⟩ = some (.slice B m d) := bx.cell 1
  clear hB1' bx'
  go_wp2_with fail
  rw [HZM.out]
  refine (sOpen_any _ _ _ _ _ _ _ _ ns ps zs _ (h.below hB1) (hz.below hB1) hnB.2 hmB).mono ?_
  rintro e w2 ⟨A2, c2, B2, d2, Z2, f2, rfl, oN2, oZ2, hb2⟩
  have hB2 := bthen hB1 hb2 hB1.size
  have bx2 := bx.belowA hb2
  clear x0 x1 xl hB1 hb2 bx
  have y0 : w2.cell? ⟨w.heap.size, 0, none⟩ = some (.slice (some a) ns.length c) := bx2.cell 0
  have y1 : w2.cell? ⟨w.heap.size, 1, none⟩ = some (.slice B m d) := bx2.cell 1
  have yl := bx2.lt
  have hW2 : Below w2.heap.size w2 (w2.alloc (.cells #[.slice A2 ns.length c2, .slice B2 (opP ps zs m).length d2] 33)) := (Below.refl _ _).alloc (Nat.le_refl _) _
  have hB3 := bthen hB2 hW2 hB2.size
  have hoL : (opP ps zs m).length = (opI zs m).length := op_len HPM.out HZM.out
  have HOL := Lib.hid hoL
  clear hoL
  by_cases hc : fofC ns (opP ps zs m) ns.length sup = 0
  rotate_left
  · obtain ⟨k1, k2⟩ := sef_bad (sup := sup) HK.out rfl hc
    have H1 := Lib.hid k1
    have H2 := Lib.hid k2
    obtain ⟨K, hKK⟩ : ∃ y, fofC ns (opP ps zs m) ns.length sup = y := ⟨_, rfl⟩
    have HKK := Lib.hid hKK
    rw [hKK] at hc
    have t1 : (K != 0) = true := by simpa using hc
    clear k1 k2 hKK hc
    go_wp2_with fail
    refine (sSolveL_any _ _ _ _ _ _ _ _ _ sup ns (opP ps zs m) _ (oN2.reads.below hW2) (hf.below hB3) HNL.out hl2).mono ?_
    rw [HKK.out]
    rintro e w3 ⟨A3, c3, rfl, o3, hb3⟩
    go_wp2_with fail
    go_ret2
    exact retI2_nil H2.out (H1.out.trans HKK.out) (bthen hB3 hb3 hB3.size)
  obtain ⟨_, _, _, hsl, _⟩ := slv_facts (oN2.reads) hc
  have HC := Lib.hid hc
  have HSL := Lib.hid hsl
  clear hc hsl
  go_wp2_with fail
  refine (sSolveL_any _ _ _ _ _ _ _ _ _ sup ns (opP ps zs m) _ (oN2.reads.below hW2) (hf.below hB3) HNL.out hl2).mono ?_
  rw [HC.out]
  rintro e w3 ⟨A3, c3, rfl, o3, hb3⟩
  rw [HSL.out, HOL.out] at o3
  rw [HSL.out]
  have hB4 := bthen hB3 hb3 hB3.size
  have bx4 := (bx2.alloc _).belowA hb3
  have oZ4 := (oZ2.alloc _).below hb3
  clear y0 y1 yl bx2
  have y0 : w3.cell? ⟨w.heap.size, 0, none⟩ = some (.slice (some a) ns.length c) := bx4.cell 0
  have y1 : w3.cell? ⟨w.heap.size, 1, none⟩ = some (.slice B m d) := bx4.cell 1
  have yl := bx4.lt
  have HI := Lib.hid (op_in zs m)
  go_wp2_with fail
  rw [HOL.out]
  refine (sSpread_any _ _ _ _ _ _ _ _ _ _ _ (opI zs m) (slvL ns (opP ps zs m) ns.length sup) _ oZ4.ints o3.ints HI.out (by omega) (by have := opI_len zs m; omega)).mono ?_
  rw [show spr m ((opI zs m).zip (slvL ns (opP ps zs m) ns.length sup)) = sefO ns ps m zs sup from rfl]
  rintro e w5 ⟨A5, c5, rfl, o5, hb5⟩
  have hB5 := bthen hB4 hb5 hB4.size
  have HOO := Lib.hid (sefO_len (ns := ns) (ps := ps) (m := m) (zs := zs) (sup := sup))
  rw [HOO.out] at o5 ⊢
  have hz5 := hz.below hB5
  have hs4 := hB4.size
  cases hA : alB zs (sefO ns ps m zs sup)
  · obtain ⟨k1, k2⟩ := sef_no HK.out HC.out hA
    have H1 := Lib.hid k1
    have H2 := Lib.hid k2
    have HA := Lib.hid hA
    clear k1 k2 hA
    go_wp2_with (go_at_call 102; refine (sAllowed_any _ _ _ _ _ zs (sefO ns ps m zs sup) _ hz5 o5.ints (by omega)).mono ?_; rw [HA.out]; rintro e6 w6 ⟨rfl, rfl⟩)
    go_ret2
    exact retI2_nil H2.out H1.out hB5
  · obtain ⟨k1, k2⟩ := sef_ok HK.out HC.out hA
    have H1 := Lib.hid k1
    have H2 := Lib.hid k2
    have HA := Lib.hid hA
    clear k1 k2 hA
    go_wp2_with (go_at_call 102; refine (sAllowed_any _ _ _ _ _ zs (sefO ns ps m zs sup) _ hz5 o5.ints (by omega)).mono ?_; rw [HA.out]; rintro e6 w6 ⟨rfl, rfl⟩)
    go_ret2
    exact retI2_of HOO.out H2.out H1.out (o5.mono hs4) hB5
end Go.Proofs.YtpgegfnhokhlmaaGreat
