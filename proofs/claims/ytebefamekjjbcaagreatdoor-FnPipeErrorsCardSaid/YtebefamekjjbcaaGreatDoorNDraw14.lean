/- What l12Draw (a network, supplies and a proof) does, by a walk over its text. Condition: a source over at most 4096 bytes. -/
import Derived.Test.YtebefamekjjbcaaGreatDoorNDraw13
import Derived.Deep.DeepCutAuto
set_option linter.unusedVariables false
set_option maxRecDepth 100000
namespace Go.Proofs.YtebefamekjjbcaaGreatDoor
open Go.ChangeShapes Go.WideShapes Go.ChangeAt Go.RowKit Go.Joins Go.Deep
attribute [local go_sem ↓] Go.wp_at_zero Go.wp_at_succ

theorem inR_inW {fs cs : List Int} (hl : cs.length = fs.length) (h : inR fs = true) (hc : ∀ i, i < fs.length → cs.getD i 0 = 0 ∨ cs.getD i 0 = 1 ∨ cs.getD i 0 = -1) : inW (addL fs cs 3) := by
  intro x hx
  obtain ⟨i, hi, rfl⟩ := List.getElem_of_mem hx
  have hi' : i < fs.length := by rw [addL_len] at hi; exact hi
  have e : (addL fs cs 3)[i] = fs.getD i 0 + 3 * cs.getD i 0 := by
    rw [← addL_at hi', List.getD_eq_getElem?_getD, List.getElem?_eq_getElem hi]
    rfl
  rw [e]
  have h1 := inR_at h hi'
  rcases hc i hi' with h2 | h2 | h2 <;> rw [h2] <;> omega
set_option maxHeartbeats 16000000 in
theorem draw12_any (B : Nat) (A : Option Addr) (n c : Nat) (zs : List Int) (w : World) (h : Src w B A n c zs) (hn : n ≤ 4096) :
    Calls Tryz.prog 18 #[.pointer (some ⟨B, 0, none⟩)] w (RetNLP w B A n c zs) := by
  have hlt := h.lt
  have hR0 := (box_new w #[.slice none 0 0, .slice none 0 0] 27).alloc (.cells #[.slice none 0 0, .slice none 0 0] 30)
  have hR1 := box_at (w.alloc (.cells #[.slice none 0 0, .slice none 0 0] 27)) #[.slice none 0 0, .slice none 0 0] 30 (g := w.heap.size + 1) (by simp)
  have hd0 := ((NS.start h).alloc (.cells #[.slice none 0 0, .slice none 0 0] 27)).alloc (.cells #[.slice none 0 0, .slice none 0 0] 30)
  have hs0 : ((w.alloc (.cells #[.slice none 0 0, .slice none 0 0] 27)).alloc (.cells #[.slice none 0 0, .slice none 0 0] 30)).heap.size = w.heap.size + 2 := by simp
  go_enter Tryz.func18, Tryz.ntmps18
  go_wp2_with fail
  generalize ((w.alloc (.cells #[.slice none 0 0, .slice none 0 0] 27)).alloc (.cells #[.slice none 0 0, .slice none 0 0] 30)) = W0 at *
  refine (draw6_any _ _ _ _ _ _ hd0.2.1 hn).mono ?_
  rintro e w1 ⟨A1, c1, B1, d1, ns, ps, A2, e2, xs, rfl, oN, oY, hSm, hk7, hm11, hl8, hd2⟩
  have hd1 := hd0.then_ hd2
  have hR01 := hR0.grown hd2.2.2 (fun hh => by injection hh with hh; omega)
  have hR11 := hR1.grown hd2.2.2 (fun hh => by injection hh with hh; omega)
  have hz1 : w.heap.size + 2 ≤ w1.heap.size := by have := hd2.size; omega
  rw [hs0] at oN oY
  have hD : D12a w (w1.alloc (.cells #[.slice A1 ns.length c1, .slice B1 ps.length d1] 27)) B A n c zs w1.heap.size A1 ns.length c1 ns B1 ps.length d1 ps A2 xs.length e2 xs :=
    ⟨hd1.alloc _, hR01.alloc _, hR11.alloc _, box_new w1 _ _, hz1, oN.below ((Below.refl _ _).alloc (Nat.le_refl _) _), oY.alloc _, fun g hg => (oY.lt g hg).2⟩
  clear hd0 hR0 hR1 hd2 hd1 hR01 hR11 oN oY hs0 hSm hz1
  go_upto_region 2 with fail
  generalize w1.alloc (.cells #[.slice A1 ns.length c1, .slice B1 ps.length d1] 27) = W1 at *
  generalize w1.heap.size = N at *
  have hNl := hD.box.lt
  have n0 : W1.cell? ⟨N, 0, none⟩ = some (.slice A1 ns.length c1) := hD.box.cell 0
  have n1 : W1.cell? ⟨N, 1, none⟩ = some (.slice B1 ps.length d1) := hD.box.cell 1
  have HDd := Lib.hid hD.drew
  have HDz := Lib.hid ((hD.below ((Below.refl _ _).alloc (Nat.le_refl _) (.cells #[.slice none 0 0, .slice none 0 0] 30))).drew)
  have HBz := Lib.hid ((box_new W1 #[.slice none 0 0, .slice none 0 0] 30).belowA (Below.refl _ _).drew)
  have hWB : B ≠ W1.heap.size := by have := hD.box.lt; have := hD.hN; omega
  clear hD
  go_cut [7, 8] (fun s7 s8 wx => ∃ (P : Nat) (C : Option Addr) (cf : Nat) (G : Option Addr) (cg : Nat) (y : Int), s7 = .pointer (some ⟨P, 0, none⟩) ∧ s8 = .int .i64 (mkC ns ps ns.length xs y) ∧ D12 w wx B A n c zs N A1 ns.length c1 ns B1 ps.length d1 ps A2 xs.length e2 xs P C (mkF ns ps ns.length xs y).length cf (mkF ns ps ns.length xs y) G (mkV ns ps ns.length xs y).length cg (mkV ns ps ns.length xs y) ∧ Ap C G ∧ 0 ≤ y ∧ y < 60000)
  case first =>
    go_region_with (first | (go_at_call 48; refine (next_any B A n c zs 60000 W1.drew HDd.out.src.2.1 hn (by omega) (by omega)).mono ?_; rintro e5 w5 ⟨y, hy0, hy1, rfl, hs5, hg5⟩; have HD5 := Lib.hid (HDd.out.next hs5 hg5); have hN5 := HD5.out.box.lt; have hNN5 := HD5.out.hN; have m0 : w5.cell? ⟨N, 0, none⟩ = some (.slice A1 ns.length c1) := HD5.out.box.cell 0; have m1 : w5.cell? ⟨N, 1, none⟩ = some (.slice B1 ps.length d1) := HD5.out.box.cell 1; clear hs5 hg5) | (go_at_call 48; refine (next_any B A n c zs 60000 (W1.alloc (.cells #[.slice none 0 0, .slice none 0 0] 30)).drew HDz.out.src.2.1 hn (by omega) (by omega)).mono ?_; rintro e5 w5 ⟨y, hy0, hy1, rfl, hs5, hg5⟩; have HD5 := Lib.hid (HDz.out.next hs5 hg5); have HP5 := Lib.hid (HBz.out.grown hg5 (fun hh => hWB (Option.some.inj hh))); have P5l := HP5.out.lt; have P50 : w5.cell? ⟨W1.heap.size, 0, none⟩ = some (.slice none 0 0) := HP5.out.cell 0; have hN5 := HD5.out.box.lt; have hNN5 := HD5.out.hN; have m0 : w5.cell? ⟨N, 0, none⟩ = some (.slice A1 ns.length c1) := HD5.out.box.cell 0; have m1 : w5.cell? ⟨N, 1, none⟩ = some (.slice B1 ps.length d1) := HD5.out.box.cell 1; clear hs5 hg5) | (go_at_call 47; refine (sMkp_any _ _ _ _ _ _ _ _ _ y xs ns ps w5 HD5.out.net.reads HD5.out.sup.ints HD5.out.sup.nilc (by omega)).mono ?_; rintro e6 w6 ⟨C, cf, G, cg, rfl, oF, oV, hap, hb6⟩; first | (have bP6 := HP5.out.belowA hb6; have P6l := bP6.lt; have P60 : w6.cell? ⟨W1.heap.size, 0, none⟩ = some (.slice none 0 0) := bP6.cell 0; have P61 : w6.cell? ⟨W1.heap.size, 1, none⟩ = some (.slice none 0 0) := bP6.cell 1; have P6f := bP6.free 0; have P6g := bP6.free 1; have HD6 := Lib.hid ((HD5.out.below hb6).mkp bP6 (by have := HDd.out.box.lt; exact this) oF oV (by omega)); clear bP6; have HAP := Lib.hid hap; clear oF oV hb6 hap) | (have HD6 := Lib.hid ((HD5.out.below hb6).mk12 oF oV (by omega)); have HAP := Lib.hid hap; clear oF oV hb6 hap)) | (go_at_call 47; have HE5 := Lib.hid (HD5.out.below ((Below.refl w5.heap.size w5).alloc (Nat.le_refl _) (.cells #[.slice none 0 0, .slice none 0 0] 30))); refine (sMkp_any _ _ _ _ _ _ _ _ _ y xs ns ps (w5.alloc (.cells #[.slice none 0 0, .slice none 0 0] 30)) HE5.out.net.reads HE5.out.sup.ints HE5.out.sup.nilc (by omega)).mono ?_; rintro e6 w6 ⟨C, cf, G, cg, rfl, oF, oV, hap, hb6⟩; have bP6 := (box_new w5 #[.slice none 0 0, .slice none 0 0] 30).belowA hb6; have P6l := bP6.lt; have P60 : w6.cell? ⟨w5.heap.size, 0, none⟩ = some (.slice none 0 0) := bP6.cell 0; have P61 : w6.cell? ⟨w5.heap.size, 1, none⟩ = some (.slice none 0 0) := bP6.cell 1; have P6f := bP6.free 0; have P6g := bP6.free 1; have HD6 := Lib.hid ((HE5.out.below hb6).mkp bP6 (by omega) oF oV (by simp; omega)); clear bP6; have HAP := Lib.hid hap; clear oF oV hb6 hap))
    all_goals
      try go_wp2_with fail
      go_meet
      exact ⟨_, _, _, _, _, y, rfl, rfl, HD6.out, HAP.out, by omega, by omega⟩
  case rest =>
  obtain ⟨P, C, cf, G, cg, y, rfl, rfl, hD, hap, hy0, hy1⟩ := hcut
  clear HDd n0 n1 hNl
  obtain ⟨K, hK⟩ : ∃ z, mkC ns ps ns.length xs y = z := ⟨_, rfl⟩
  rw [hK]
  by_cases hK0 : K = 0
  case neg =>
    have t1 : (K != 0) = true := by simpa using hK0
    have ⟨hN, hP, hl0, hl1, n0, n1, p0, p1, q0, q1⟩ := hD.cells
    have ⟨a0, a1, b0, b1, f0, f1, g0, g1⟩ := hD.rcells
    have HDd := Lib.hid hD.drew
    have HDa := Lib.hid (hD.drew.alloc (.cells (madeCells #[.int .i64 0] ns.length) 2))
    have HZ := Lib.hid (own_zeros wc.drew ns.length (by omega))
    have hzz : w.heap.size + 2 ≤ wc.heap.size := by have := hD.hN; omega
    have hzd : wc.drew.heap.size = wc.heap.size := rfl
    have hzB : B < wc.heap.size := by omega
    have hNN := hD.hN
    clear hK hK0 hD hap p0 p1 q0 q1 hP
    have hNe0 : N ≠ w.heap.size := by omega
    have hNe1 : N ≠ w.heap.size + 1 := by omega
    have hNe2 : w.heap.size ≠ N := by omega
    have hNe3 : w.heap.size + 1 ≠ N := by omega
    have hmk := fun W => run_make_row' (P := Tryz.prog) 28 2 (.int .i64 0) 8 Tryz.underlying28 info_i64 rfl .i64 .i64 ns.length (by omega) (by omega) W
    go_upto_region 4 with fail
    go_region_with (first | (go_at_call 49; refine (flowsD_any _ _ _ _ _ _ _ _ _ _ _ wc.drew HDd.out.src.2.1 hn (by omega)).mono ?_; rintro e5 w5 ⟨A5, e5', us, rfl, o5, hl5, hn5⟩; have HD5 := Lib.hid (HDd.out.then_ hn5); have HO5 := Lib.hid (o5.mono (B' := w.heap.size + 2) (by omega)); have hs5 : w.heap.size + 2 ≤ w5.heap.size := (by have := HD5.out.hN; have := HD5.out.box.lt; omega); have ⟨hN5, hP5, hl05, hl15, n05, n15, _, _, _, _⟩ := HD5.out.cells; have ⟨a05, a15, b05, b15, f05, f15, g05, g15⟩ := HD5.out.rcells; clear o5 hn5) | (go_at_call 49; refine (flowsD_any _ _ _ _ _ _ _ _ _ _ _ (wc.drew.alloc (.cells (madeCells #[.int .i64 0] ns.length) 2)) HDa.out.src.2.1 hn (by omega)).mono ?_; rintro e5 w5 ⟨A5, e5', us, rfl, o5, hl5, hn5⟩; have HD5 := Lib.hid (HDa.out.then_ hn5); have HO5 := Lib.hid (o5.mono (B' := w.heap.size + 2) (by simp; omega)); have HZ5 := Lib.hid ((HZ.out.src hzB hn5.2.2).mono (show w.heap.size + 2 ≤ wc.drew.heap.size by omega)); have ⟨hN5, hP5, hl05, hl15, n05, n15, _, _, _, _⟩ := HD5.out.cells; have ⟨a05, a15, b05, b15, f05, f15, g05, g15⟩ := HD5.out.rcells; clear o5 hn5))
    all_goals
      try go_wp2_with fail
      first | (have hz5 := HZ5.out; refine bodyPost_ret (v := .tuple #[.agg #[.slice A1 ns.length c1, .slice B1 ps.length d1], .slice A2 xs.length e2, .agg #[.slice A5 us.length e5', .slice (some ⟨wc.heap.size, 0, none⟩) ns.length ns.length]]) (by simp [results, Tryz.results18, go_sem, a05, a15, b05, b15]) rfl (HD5.out.ret HO5.out hz5 hk7 hm11 hl8 (by omega) (by omega) _ _ _ _)) | refine bodyPost_ret (v := .tuple #[.agg #[.slice A1 ns.length c1, .slice B1 ps.length d1], .slice A2 xs.length e2, .agg #[.slice A5 us.length e5', .slice (some ⟨w5.heap.size, 0, none⟩) ns.length ns.length]]) (by simp [results, Tryz.results18, go_sem, a05, a15, b05, b15, hl05, hl15]) rfl (HD5.out.retZ HO5.out hk7 hm11 hl8 (by omega) (by omega) _ _ _ _)
  case pos =>
  subst hK0
  obtain ⟨e1, e2'⟩ := mk_ok hK
  obtain ⟨h1, h2, h3⟩ := mk_partsD hK
  obtain ⟨_, hok, _, hcb⟩ := codeC_zero h1
  have hg : Good (esOf ps) ns.length := net_good hok
  have hn0 : 0 < ns.length := by have := hok.1; omega
  have hcn : Conn (esOf ps) ns.length := (conB_iff hg hn0).1 hcb
  have hsf := slv_facts hD.net.reads h3
  rw [← e1] at hsf
  have hvl : (mkV ns ps ns.length xs y).length = ns.length := by rw [e2', lvR_len]
  have hv0 : (mkV ns ps ns.length xs y).getD 0 0 = y := by rw [e2']; exact lvR_zero hok rfl hn0
  have hin := hsf.2.2.2.2
  have hfl := hsf.2.2.2.1
  rw [hfl, hvl] at hD
  obtain ⟨fs, hfs⟩ : ∃ z, mkF ns ps ns.length xs y = z := ⟨_, rfl⟩
  obtain ⟨ls, hls⟩ : ∃ z, mkV ns ps ns.length xs y = z := ⟨_, rfl⟩
  rw [hfs, hls] at hD
  rw [hfs] at hin hfl
  rw [hls] at hv0
  have HOK := Lib.hid hok
  have HG := Lib.hid hg
  have HCN := Lib.hid hcn
  have HIN := Lib.hid hin
  have HFL := Lib.hid hfl
  have HV0 := Lib.hid hv0
  have hap' := Lib.hid hap
  have ⟨hN, hP, hl0, hl1, n0, n1, p0, p1, q0, q1⟩ := hD.cells
  have HD := Lib.hid hD
  clear e1 e2' h1 h2 h3 hok hcb hg hcn hsf hvl hv0 hin hfl hfs hls hK hD hap n0 n1 q0 q1 p1
  go_upto_if 38 with fail
  go_cut [] (fun wx => ∃ (C : Option Addr) (f cf : Nat) (fs : List Int) (G : Option Addr) (g cg : Nat) (ls : List Int), D12 w wx B A n c zs N A1 ns.length c1 ns B1 ps.length d1 ps A2 xs.length e2 xs P C f cf fs G g cg ls ∧ f ≤ 1000 ∧ g ≤ 1000)
  case first =>
    by_cases hp : 0 < ps.length
    case neg =>
      have i1 : ¬ (0 : Int) < (ps.length : Int) := by omega
      go_wp2_with fail
      go_meet
      case rel => exact ⟨_, _, _, _, _, _, _, _, HD.out, by omega, by omega⟩
    case pos =>
    have i1 : (0 : Int) < (ps.length : Int) := by omega
    go_wp2_with fail
    refine (next_any _ _ _ _ _ _ _ HD.out.src.2.1 hn (by omega) (by omega)).mono ?_
    rintro e5 w5 ⟨t, ht0, ht1, rfl, hs5, hg5⟩
    have hD5 := HD.out.next hs5 hg5
    clear HD hs5 hg5 p0 hN hP hl0 hl1 ht0 ht1
    have ⟨hN, hP, hl0, hl1, n0, n1, p0, p1, q0, q1⟩ := hD5.cells
    have HD := Lib.hid hD5
    have HDd := Lib.hid hD5.drew
    clear hD5
    rcases (orT (orT (orT (orT trivial))) : (t == 0) = true ∨ (t == 0) = false ∧ ((t == 1) = true ∨ (t == 1) = false ∧ ((t == 2) = true ∨ (t == 2) = false ∧ ((t == 3) = true ∨ (t == 3) = false ∧ True)))) with t0 | ⟨t0, t1 | ⟨t1, t2 | ⟨t2, t3 | ⟨t3, _⟩⟩⟩⟩
    · obtain ⟨b, rfl, _, _⟩ := HD.out.fl.form (by omega)
      clear p1 q0 q1 n0 n1
      go_upto_region 8 with fail
      go_region_with (go_at_call 48; refine (next_any B A n c zs (ps.length : Int) w5.drew HDd.out.src.2.1 hn (by omega) (by omega)).mono ?_; rintro e6 w6 ⟨q, hq0, hq1, rfl, hs6, hg6⟩; obtain ⟨v, rfl⟩ := Int.eq_ofNat_of_zero_le hq0; have hv : v < ps.length := (by omega); have HD6 := Lib.hid (HDd.out.next hs6 hg6); obtain ⟨z, hbl, _, hzc, hzf⟩ := HD6.out.flAt hv; have ⟨_, hP6, _, _, _, _, p06, _, _, _⟩ := HD6.out.cells; clear hs6 hg6)
      all_goals
        try go_wp2_with fail
        go_meet
        exact ⟨_, _, _, _, _, _, _, _, HD6.out.setF hap'.out (i64_wrap _), by omega, by omega⟩
    · obtain ⟨b, rfl, _, _⟩ := HD.out.lv.form (by omega)
      clear p0 q0 q1 n0 n1
      have i2 : (0 : Int) < (ns.length : Int) := by omega
      go_upto_region 10 with fail
      go_region_with (go_at_call 48; refine (next_any B A n c zs (ns.length : Int) w5.drew HDd.out.src.2.1 hn (by omega) (by omega)).mono ?_; rintro e6 w6 ⟨q, hq0, hq1, rfl, hs6, hg6⟩; obtain ⟨v, rfl⟩ := Int.eq_ofNat_of_zero_le hq0; have hv : v < ns.length := (by omega); have HD6 := Lib.hid (HDd.out.next hs6 hg6); obtain ⟨z, hbl, _, hzc, hzf⟩ := HD6.out.lvAt hv; have ⟨_, hP6, _, _, _, _, _, p16, _, _⟩ := HD6.out.cells; clear hs6 hg6)
      all_goals
        try go_wp2_with fail
        go_meet
        exact ⟨_, _, _, _, _, _, _, _, HD6.out.setL hap'.out (i64_wrap _), by omega, by omega⟩
    · clear p0 p1 q0 q1
      go_wp2_with fail
      refine (sChords_any _ _ _ _ _ _ ns ps _ HD.out.net.reads HOK.out).mono ?_
      rintro e6 w6 ⟨A6, c6, rfl, o6, hb6⟩
      have hD6 := HD.out.below hb6
      have hcm := fun ci (hci : ci ∈ chd (esOf ps) ns.length) => chd_chord hci
      obtain ⟨X, hX⟩ : ∃ X, chd (esOf ps) ns.length = X := ⟨_, rfl⟩
      rw [hX] at o6 hcm ⊢
      have HCM := Lib.hid hcm
      obtain ⟨L, hL⟩ : ∃ y, (cN X).length = y := ⟨_, rfl⟩
      rw [hL] at o6 ⊢
      rw [cN_len] at hL
      have HL := Lib.hid hL
      clear hX hcm hL hb6 HDd HD n0 n1 hN hP hl0 hl1
      by_cases hL0 : 0 < L
      case neg =>
        have i2 : ¬ (0 : Int) < (L : Int) := by omega
        have HD := Lib.hid hD6
        clear hD6 o6
        go_wp2_with fail
        go_meet
        case rel => exact ⟨_, _, _, _, _, _, _, _, HD.out, by omega, by omega⟩
      case pos =>
      have i2 : (0 : Int) < (L : Int) := by omega
      obtain ⟨ci, hci⟩ : ∃ ci, X[0]? = some ci := ⟨_, List.getElem?_eq_getElem (by rw [HL.out]; exact hL0)⟩
      obtain ⟨hcl, hct⟩ := HCM.out ci (List.mem_of_getElem? hci)
      rw [esOf_len] at hcl
      obtain ⟨b6, z6, rfl, _, hb6l, hz6, _, hz6c, hz6f⟩ := o6.at_ hL0
      obtain rfl : z6 = (ci : Int) := by rw [cN_at hci] at hz6; exact (Option.some.inj hz6).symm
      have HCT := Lib.hid hct
      have ⟨hN, hP, hl0, hl1, n0, n1, p0, p1, q0, q1⟩ := hD6.cells
      have HDd := Lib.hid hD6.drew
      have HCV := Lib.hid (fun i hi => cyc_vals (i := i) HG.out (by rw [esOf_len]; exact hcl) hct hi)
      have HCY := Lib.hid (cyc_len HG.out ci)
      have HB := Lib.hid (show ∀ i, i < ps.length → (-1000000 ≤ fs.getD i 0 ∧ fs.getD i 0 ≤ 1000000) ∧ -1000000 ≤ 3 * (cyc (esOf ps) ns.length ci).getD i 0 ∧ 3 * (cyc (esOf ps) ns.length ci).getD i 0 ≤ 1000000 from fun i hi => by
        have h1 := inR_at HIN.out (i := i) (by rw [HFL.out]; exact hi)
        have h2 := HCV.out i (by rw [esOf_len]; exact hi)
        omega)
      have HW := Lib.hid (inR_inW (by rw [HCY.out, esOf_len, HFL.out]) HIN.out (fun i hi => HCV.out i (by rw [esOf_len, ← HFL.out]; exact hi)))
      obtain ⟨ys, hys⟩ : ∃ ys, cyc (esOf ps) ns.length ci = ys := ⟨_, rfl⟩
      rw [hys] at HB HW HCY
      have HYS := Lib.hid hys
      have HAL := Lib.hid (show (addL fs ys 3).length = ps.length by rw [addL_len]; exact HFL.out)
      have HYL := Lib.hid (show ys.length = ps.length by rw [HCY.out, esOf_len])
      clear hD6 o6 hct hci hz6 hz6f HCV HCY hys p1 q1
      go_upto_region 14 with fail
      go_cut [] (fun wx => ∃ (C3 : Option Addr) (cf3 : Nat), D12 w wx B A n c zs N A1 ns.length c1 ns B1 ps.length d1 ps A2 xs.length e2 xs P C3 ps.length cf3 (addL fs ys 3) G ns.length cg ls)
      case first =>
        go_region_with (first | (go_at_call 52; refine (sCycle_any _ _ _ _ _ _ ci ns ps w6.drew HDd.out.net.reads HOK.out hcl HCT.out).mono ?_; rw [HYS.out]; rintro e7 w7 ⟨A7, c7, rfl, o7, hb7⟩; rw [HYL.out] at o7 ⊢; have HO7 := Lib.hid o7; have HD7 := Lib.hid (HDd.out.below hb7); have ⟨hN7, hP7, _, _, n07, n17, p07, _, q07, _⟩ := HD7.out.cells; clear o7 hb7) | (go_at_call 51; refine (sAdd_any _ _ ps.length _ _ 3 fs ys w7 HD7.out.fl.ints HO7.out.ints (by omega) HB.out).mono ?_; rintro e8 w8 ⟨A8, c8, rfl, o8, hb8⟩; rw [HAL.out] at o8 ⊢; have HD8 := Lib.hid ((HD7.out.below hb8).newF o8 (by have := HD7.out.box.lt; omega)); have ⟨hN8, hP8, _, _, _, _, p08, _, q08, _⟩ := (HD7.out.below hb8).cells; clear o8 hb8))
        all_goals
          try go_wp2_with fail
          go_meet
          exact ⟨_, _, HD8.out⟩
      case rest =>
      obtain ⟨C3, cf3, hD⟩ := hcut
      clear HDd n0 n1 p0 q0 hN hP hl0 hl1 hz6c hb6l HB HYS HYL
      obtain ⟨us, hus⟩ : ∃ us, addL fs ys 3 = us := ⟨_, rfl⟩
      rw [hus] at hD HW
      obtain ⟨bg, rfl, _, _⟩ := hD.lv.form (by omega)
      have hz9 := hD.lv.atD (k := 0) (by omega)
      rw [HV0.out] at hz9
      have r0 := hz9.1
      have rl := hz9.2.2.2
      have i3 : (0 : Int) < (ns.length : Int) := by omega
      have ⟨hN, hP, hl0, hl1, n0, n1, p0, p1, q0, q1⟩ := hD.cells
      have HDd := Lib.hid hD.drew
      have HVL := Lib.hid (lvR_len (esOf ps) (ksL ps) ns.length us y)
      clear hD hus HAL hz9
      go_upto_region 15 with fail
      go_region_with (go_at_call 53; refine (sLvsW_any _ _ _ _ _ _ _ _ y us ns ps wc.drew HDd.out.net.reads HOK.out HCN.out HDd.out.fl.ints HW.out ⟨by omega, by omega⟩).mono ?_; rintro e7 w7 ⟨A7, c7, rfl, o7, hb7⟩; rw [HVL.out] at o7 ⊢; have HD7 := Lib.hid ((HDd.out.below hb7).newL o7 (by have := HDd.out.box.lt; omega)); have ⟨hN7, hP7, _, _, n07, n17, p07, p17, q07, q17⟩ := (HDd.out.below hb7).cells; clear o7 hb7)
      all_goals
        try go_wp2_with fail
        go_meet
        exact ⟨_, _, _, _, _, _, _, _, HD7.out, by omega, by omega⟩
    · clear n0 n1 hl0 hl1 p0
      go_wp2_with (at_builtin; refine wpList_push w5 rfl _ _ rfl (N + 1) _ _ _ _ 0 rfl rfl HD.out.lv (WalkArith.wf_i64 (by omega)) (by omega) (by omega) ?_; intro g7 c7 w8 ho8 hb8 hg8 _; have bx8 := HD.out.pbox hg8; have xl8 := bx8.lt; have p18 : w8.cell? ⟨P, 1, none⟩ = some (.slice G ns.length cg) := bx8.cell 1; have q18 := bx8.free 1; have HD8 := Lib.hid (HD.out.push hap'.out ho8 hb8 hg8); clear bx8 ho8 hb8 hg8)
      go_meet
      case rel => exact ⟨_, _, _, _, _, _, _, _, HD8.out, by omega, by omega⟩
    · go_wp2_with fail
      go_meet
      case rel => exact ⟨_, _, _, _, _, _, _, _, HD.out, by omega, by omega⟩
  case rest =>
  obtain ⟨C3, f3, cf3, fs3, G3, g3, cg3, ls3, hD, hf3, hg3⟩ := hcut
  clear HD p0 hN hP hl0 hl1
  have ⟨hN, hP, hl0, hl1, n0, n1, p0, p1, q0, q1⟩ := hD.cells
  have ⟨a0, a1, b0, b1, f0, f1, g0, g1⟩ := hD.rcells
  have HD := Lib.hid hD
  clear hD
  go_upto_region 18 with fail
  have hNN := HD.out.hN
  have hPP := HD.out.hP
  have hNe0 : N ≠ w.heap.size := by omega
  have hNe1 : N ≠ w.heap.size + 1 := by omega
  have hNe2 : w.heap.size ≠ N := by omega
  have hNe3 : w.heap.size + 1 ≠ N := by omega
  have hPe0 : P ≠ w.heap.size := by omega
  have hPe1 : P ≠ w.heap.size + 1 := by omega
  have hPe2 : w.heap.size ≠ P := by omega
  have hPe3 : w.heap.size + 1 ≠ P := by omega
  go_region
  all_goals
    try go_wp2_with fail
    refine bodyPost_ret (v := .tuple #[.agg #[.slice A1 ns.length c1, .slice B1 ps.length d1], .slice A2 xs.length e2, .agg #[.slice C3 f3 cf3, .slice G3 g3 cg3]]) (by simp [results, Tryz.results18, go_sem, *]) rfl (HD.out.drew.ret (HD.out.drew.fl.mono (by omega)) (HD.out.drew.lv.mono (by omega)) hk7 hm11 hl8 hf3 hg3 _ _ _ _)
end Go.Proofs.YtebefamekjjbcaaGreatDoor
