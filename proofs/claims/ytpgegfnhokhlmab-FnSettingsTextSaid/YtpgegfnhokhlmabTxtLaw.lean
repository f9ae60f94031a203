/- The walk of the law FnSettingsText. No condition. -/
import Derived.Test.YtpgegfnhokhlmabNDrawS
import Derived.Test.YtpgegfnhokhlmabTxp
import Derived.Test.YtpgegfnhokhlmabText
import Derived.Test.YtpgegfnhokhlmabRead
import Derived.Test.YtpgegfnhokhlmabBig
set_option linter.unusedVariables false
set_option maxRecDepth 100000
namespace Go.Proofs.Ytpgegfnhokhlmab
open Go.ChangeShapes Go.WideShapes Go.ChangeAt Go.RowKit Go.Joins Go.Deep
attribute [local go_sem ↓] Go.wp_at_zero Go.wp_at_succ

set_option maxHeartbeats 4000000 in
theorem chordsW_any (A B : Option Addr) (n c m d : Nat) (ns : List Nd) (ps : List Pp) (w : World) (h : IsNet w A n c ns B m d ps) (hok : NetOk ns ps) :
    Calls Try.prog 14 #[.agg #[.slice A n c, .slice B m d]] w (RetInts2 w (cN (chd (esOf ps) n)) 0) := by
  have hV : Below w.heap.size w (w.alloc (.cells #[.slice A n c, .slice B m d] 27)) := (Below.refl _ _).alloc (Nat.le_refl _) _
  have bx := box_new w #[.slice A n c, .slice B m d] 27
  have HOK := Lib.hid hok
  clear hok
  go_enter Try.func14, Try.ntmps14
  go_upto_region 1 with fail
  generalize (w.alloc (.cells #[.slice A n c, .slice B m d] 27)) = V at *
  have xl := bx.lt
  have x0 : V.cell? ⟨w.heap.size, 0, none⟩ = some (.slice A n c) := bx.cell 0
  have x1 : V.cell? ⟨w.heap.size, 1, none⟩ = some (.slice B m d) := bx.cell 1
  go_wp2_with fail
  refine (isNetw_any _ _ _ _ _ _ ns ps _ (h.below hV)).mono ?_
  rintro e1 w1 ⟨b, hb, rfl, hb1⟩
  obtain rfl : b = true := hb.2 HOK.out
  have hW1 := bthen hV hb1 hV.size
  have bx1 := bx.belowA hb1
  clear x0 x1 xl hb1 hb bx
  have xl := bx1.lt
  have x0 : w1.cell? ⟨w.heap.size, 0, none⟩ = some (.slice A n c) := bx1.cell 0
  have x1 : w1.cell? ⟨w.heap.size, 1, none⟩ = some (.slice B m d) := bx1.cell 1
  go_wp2_with fail
  refine (chords_any _ _ _ _ _ _ ns ps _ (h.below hW1) HOK.out).mono ?_
  rintro e2 w2 ⟨A2, c2, rfl, o2, hb2⟩
  have hs1 := hW1.size
  go_wp2_with fail
  go_ret2
  exact ⟨A2, c2, rfl, o2.mono hs1, bthen hW1 hb2 hW1.size⟩
set_option maxHeartbeats 4000000 in
theorem compsW_any (A B : Option Addr) (n c m d : Nat) (ns : List Nd) (ps : List Pp) (w : World) (h : IsNet w A n c ns B m d ps) (hok : NetOk ns ps) :
    Calls Try.prog 15 #[.agg #[.slice A n c, .slice B m d]] w (RetInts2 w (encE (comps (esOf ps) n)) 0) := by
  have hV : Below w.heap.size w (w.alloc (.cells #[.slice A n c, .slice B m d] 27)) := (Below.refl _ _).alloc (Nat.le_refl _) _
  have bx := box_new w #[.slice A n c, .slice B m d] 27
  have HOK := Lib.hid hok
  clear hok
  go_enter Try.func15, Try.ntmps15
  go_upto_region 1 with fail
  generalize (w.alloc (.cells #[.slice A n c, .slice B m d] 27)) = V at *
  have xl := bx.lt
  have x0 : V.cell? ⟨w.heap.size, 0, none⟩ = some (.slice A n c) := bx.cell 0
  have x1 : V.cell? ⟨w.heap.size, 1, none⟩ = some (.slice B m d) := bx.cell 1
  go_wp2_with fail
  refine (isNetw_any _ _ _ _ _ _ ns ps _ (h.below hV)).mono ?_
  rintro e1 w1 ⟨b, hb, rfl, hb1⟩
  obtain rfl : b = true := hb.2 HOK.out
  have hW1 := bthen hV hb1 hV.size
  have bx1 := bx.belowA hb1
  clear x0 x1 xl hb1 hb bx
  have xl := bx1.lt
  have x0 : w1.cell? ⟨w.heap.size, 0, none⟩ = some (.slice A n c) := bx1.cell 0
  have x1 : w1.cell? ⟨w.heap.size, 1, none⟩ = some (.slice B m d) := bx1.cell 1
  go_wp2_with fail
  refine (comps_any _ _ _ _ _ _ ns ps _ (h.below hW1) HOK.out).mono ?_
  rintro e2 w2 ⟨A2, c2, rfl, o2, hb2⟩
  have hs1 := hW1.size
  go_wp2_with fail
  go_ret2
  exact ⟨A2, c2, rfl, o2.mono hs1, bthen hW1 hb2 hW1.size⟩
theorem op_sub2 (ps : List Pp) (zs : List Int) (k : Nat) : ∀ p ∈ opP ps zs k, p ∈ ps := by
  intro p hp
  unfold opP at hp
  obtain ⟨x, hx, hy⟩ := List.mem_filterMap.1 hp
  have h1 := List.mem_of_mem_take hx
  have h2 : x.1 ∈ ps := (List.of_mem_zip h1).1
  by_cases hz : x.2 = 0
  · rw [if_pos hz] at hy; cases hy
  · rw [if_neg hz] at hy
    injection hy with hy
    rw [← hy]; exact h2
theorem netOk_op2 {ns : List Nd} {ps : List Pp} {zs : List Int} {m : Nat} (h : NetOk ns ps) (hm : m ≤ 40) : NetOk ns (opP ps zs m) :=
  ⟨h.1, h.2.1, Nat.le_trans (opP_len ps zs m) hm, h.2.2.2.1, fun p hp => h.2.2.2.2 p (op_sub2 _ _ _ p hp)⟩
theorem cls_set {es : Es} {n m : Nat} (h : es.length = m) : setB m (cls es n) = true := by
  unfold setB
  rw [Bool.and_eq_true]
  refine ⟨decide_eq_true (by rw [cls_len]; exact h), ?_⟩
  unfold allB
  rw [List.all_eq_true]
  intro x hx
  unfold cls clsTo at hx
  obtain ⟨i, _, rfl⟩ := List.mem_map.1 hx
  rw [inB_iff]
  split <;> omega
theorem cntD_self (xs : List Int) : cntD xs xs = 0 := by
  unfold cntD
  rw [List.countP_eq_zero]
  intro p hp
  have h : p.1 = p.2 := by
    induction xs with
    | nil => simp at hp
    | cons x xs ih =>
      rw [List.zip_cons_cons] at hp
      rcases List.mem_cons.1 hp with rfl | hp
      · rfl
      · exact ih hp
  simp [h]
theorem ch_back {z : Int} (h : z = 0 ∨ z = 1 ∨ z = 2) : setC (UInt8.ofNat (chS z).toNat) = z := by
  rcases h with rfl | rfl | rfl <;> rfl
theorem read_text {ns : List Nd} {ps : List Pp} {m : Nat} {zs : List Int} (h : NetOk ns ps) (h2 : setB m zs = true) : readOk ns ps m (textS ns ps m zs) = true ∧ readS ns ps m (textS ns ps m zs) = zs := by
  have hv : ∀ z ∈ zs, setC (UInt8.ofNat (chS z).toNat) = z := fun z hz => by
    obtain ⟨i, hi, rfl⟩ := List.mem_iff_getElem.1 hz
    exact ch_back (set_cases h2 (List.getElem?_eq_getElem hi))
  have e0 := textS_ok h h2
  have e1 : rdS (textS ns ps m zs).data.toList = zs := by
    rw [e0, strOfNums_data]
    unfold rdS txS
    rw [List.map_map, List.map_map]
    conv => rhs; rw [← List.map_id zs]
    exact List.map_congr_left fun z hz => by simpa using hv z hz
  have e2 : rdOk (textS ns ps m zs).data.toList = true := by
    rw [e0, strOfNums_data]
    unfold rdOk txS
    rw [List.all_eq_true]
    intro c hc
    rw [List.map_map] at hc
    obtain ⟨z, hz, rfl⟩ := List.mem_map.1 hc
    have hz2 := hv z hz
    obtain ⟨i, hi, rfl⟩ := List.mem_iff_getElem.1 hz
    have := set_cases h2 (List.getElem?_eq_getElem hi)
    exact decide_eq_true (by show 0 ≤ setC (UInt8.ofNat (chS zs[i]).toNat); rw [hz2]; omega)
  have e3 : (textS ns ps m zs).size = m := by
    rw [e0, strOfNums_size]
    unfold txS
    rw [List.length_map]
    exact setB_len h2
  have e4 := readOk_yes ⟨h, e3, e2⟩
  exact ⟨e4, by unfold readS; rw [if_pos e4, e1]⟩
theorem textS_size {ns : List Nd} {ps : List Pp} {m : Nat} {zs : List Int} : (textS ns ps m zs).size ≤ zs.length := by
  unfold textS
  split
  · rw [strOfNums_size]; unfold txS; rw [List.length_map]; exact Nat.le_refl _
  · exact Nat.zero_le _
set_option maxHeartbeats 16000000 in
theorem law_FnSettingsText (A : Option Addr) (n c : Nat) (zs : List Int) (w : World) (h0 : Byts w A n zs ∧ n ≤ c ∧ c ≤ maxLen) :
    Calls Try.prog 3 #[.slice A n c] w fun e w' => e = .returned (.bool true) ∧ Below w.heap.size w w' := by
  obtain ⟨h, hnc, hcm⟩ := h0
  unfold maxLen at hcm
  by_cases hbig : 4096 < n
  · have hg := fun W => big_any A n c W (by omega)
    simp only [hbig, decide_true] at hg
    have HG := Lib.hid hg
    clear hg
    go_enter Try.func3, Try.ntmps3
    go_wp2_with (go_at_call 4; refine (HG.out _).mono ?_; rintro e w' ⟨rfl, rfl⟩)
    go_ret
    exact ⟨rfl, Below.refl _ _⟩
  have hg := fun W => big_any A n c W (by omega)
  simp only [hbig, decide_false] at hg
  have HG := Lib.hid hg
  have hn : n ≤ 4096 := by omega
  clear hg hbig
  go_enter Try.func3, Try.ntmps3
  go_wp2_with (go_at_call 4; refine (HG.out _).mono ?_; rintro e w' ⟨rfl, rfl⟩)
  refine (drawST_any _ _ _ _ _ h hn).mono ?_
  rintro e w1 ⟨A1, c1, B1, d1, ns, ps, A2, c2, ys, rfl, oN1, oY1, hk7, hm11, hl8, hW1⟩
  clear h
  have hb2 : Below w1.heap.size w1 (w1.alloc (.cells #[.slice A1 ns.length c1, .slice B1 ps.length d1] 27)) := (Below.refl _ _).alloc (Nat.le_refl _) _
  have b_1 := box_new w1 #[.slice A1 ns.length c1, .slice B1 ps.length d1] 27
  have net_2 := oN1.below hb2
  clear oN1
  have set_3 := oY1.below hb2
  clear oY1
  have hB_4 := bthen hW1 hb2 hW1.size
  clear hW1
  go_wp2_with fail
  generalize (w1.alloc (.cells #[.slice A1 ns.length c1, .slice B1 ps.length d1] 27)) = w2 at *
  generalize w1.heap.size = X2 at *
  clear hb2
  have x_5 := b_1.lt
  have x_6 : w2.cell? ⟨X2, 0, none⟩ = some (.slice A1 ns.length c1) := b_1.cell 0
  have x_7 : w2.cell? ⟨X2, 1, none⟩ = some (.slice B1 ps.length d1) := b_1.cell 1
  obtain ⟨T, hT⟩ : ∃ y, textS ns ps ps.length ys = y := ⟨_, rfl⟩
  have HT := Lib.hid hT
  clear hT
  obtain ⟨b, hb⟩ : ∃ y, readOk ns ps ps.length T = y := ⟨_, rfl⟩
  have Hb := Lib.hid hb
  clear hb
  obtain ⟨X, hX⟩ : ∃ y, readS ns ps ps.length T = y := ⟨_, rfl⟩
  have HX := Lib.hid hX
  clear hX
  have hTs : T.size ≤ 1048576 := by rw [← HT.out]; have := textS_size (ns := ns) (ps := ps) (m := ps.length) (zs := ys); omega
  refine (text_any _ _ _ _ _ _ _ _ ns ps ys _ net_2.reads set_3.ints (by omega)).mono ?_
  rw [HT.out]
  rintro e w3 ⟨rfl, hb3⟩
  have net_8 := net_2.below hb3
  clear net_2
  have set_9 := set_3.below hb3
  clear set_3
  have b_10 := b_1.belowA hb3
  have hB_11 := bthen hB_4 hb3 hB_4.size
  clear hB_4
  clear x_5 x_6 x_7
  clear b_1
  have x_12 := b_10.lt
  have x_13 : w3.cell? ⟨X2, 0, none⟩ = some (.slice A1 ns.length c1) := b_10.cell 0
  have x_14 : w3.cell? ⟨X2, 1, none⟩ = some (.slice B1 ps.length d1) := b_10.cell 1
  clear hb3
  go_wp2_with fail
  refine (sText_any _ _ _ _ _ _ _ _ ns ps ys _ net_8.reads set_9.ints (by omega)).mono ?_
  rw [HT.out]
  rintro e w4 ⟨rfl, hb4⟩
  have net_15 := net_8.below hb4
  clear net_8
  have set_16 := set_9.below hb4
  clear set_9
  have b_17 := b_10.belowA hb4
  have hB_18 := bthen hB_11 hb4 hB_11.size
  clear hB_11
  clear x_12 x_13 x_14
  clear b_10
  have x_19 := b_17.lt
  have x_20 : w4.cell? ⟨X2, 0, none⟩ = some (.slice A1 ns.length c1) := b_17.cell 0
  have x_21 : w4.cell? ⟨X2, 1, none⟩ = some (.slice B1 ps.length d1) := b_17.cell 1
  clear hb4
  go_wp2_with fail
  refine (read_any _ _ _ _ _ _ ns ps T _ net_15.reads hTs).mono ?_
  rw [HX.out, Hb.out]
  rintro e w5 ⟨P5, p5, rfl, oX5, hb5⟩
  have net_22 := net_15.below hb5
  clear net_15
  have set_23 := set_16.below hb5
  clear set_16
  have b_24 := b_17.belowA hb5
  have hB_25 := bthen hB_18 hb5 hB_18.size
  clear hB_18
  clear x_19 x_20 x_21
  clear b_17
  have x_26 := b_24.lt
  have x_27 : w5.cell? ⟨X2, 0, none⟩ = some (.slice A1 ns.length c1) := b_24.cell 0
  have x_28 : w5.cell? ⟨X2, 1, none⟩ = some (.slice B1 ps.length d1) := b_24.cell 1
  clear hb5
  go_wp2_with fail
  refine (sIsSett_any _ _ _ _ _ _ _ _ _ ns ps ys _ net_22.reads set_23.ints (by omega)).mono ?_
  rintro e w6 ⟨s, hs, rfl, hb6⟩
  have net_29 := net_22.below hb6
  clear net_22
  have set_30 := set_23.below hb6
  clear set_23
  have rd_31 := oX5.below hb6
  clear oX5
  have b_32 := b_24.belowA hb6
  have hB_33 := bthen hB_25 hb6 hB_25.size
  clear hB_25
  clear x_26 x_27 x_28
  clear b_24
  have x_34 := b_32.lt
  have x_35 : w6.cell? ⟨X2, 0, none⟩ = some (.slice A1 ns.length c1) := b_32.cell 0
  have x_36 : w6.cell? ⟨X2, 1, none⟩ = some (.slice B1 ps.length d1) := b_32.cell 1
  clear hb6
  have HSS := Lib.hid hs
  clear hs
  by_cases hset : NetOk ns ps ∧ setB ps.length ys = true
  case pos =>
    obtain rfl : s = true := HSS.out.2 hset
    obtain ⟨k1, k2⟩ := read_text hset.1 hset.2
    rw [HT.out, Hb.out] at k1
    rw [HT.out, HX.out] at k2
    subst k1
    subst k2
    clear hset
    go_wp2_with fail
    refine (likeInts_any _ _ _ _ _ _ _ _ _ rd_31.ints set_30.ints (by omega)).mono ?_
    rintro e w7 ⟨rfl, hq7⟩
    have hb7 := hq7.below w6.heap.size
    have net_37 := net_29.below hb7
    clear net_29
    have set_38 := set_30.below hb7
    clear set_30
    have rd_39 := rd_31.below hb7
    clear rd_31
    have b_40 := b_32.belowA hb7
    have hB_41 := bthen hB_33 hb7 hB_33.size
    clear hB_33
    clear x_34 x_35 x_36
    clear b_32
    have x_42 := b_40.lt
    have x_43 : w7.cell? ⟨X2, 0, none⟩ = some (.slice A1 ns.length c1) := b_40.cell 0
    have x_44 : w7.cell? ⟨X2, 1, none⟩ = some (.slice B1 ps.length d1) := b_40.cell 1
    clear hb7
    clear hq7
    by_cases hok : NetOk ns ps
    case pos =>
      have HR := Lib.hid (clR_ok (n := ns.length) hok)
      have HOK := Lib.hid hok
      clear hok
      obtain ⟨L, hL⟩ : ∃ y, cls (esOf ps) ns.length = y := ⟨_, rfl⟩
      have HL := Lib.hid hL
      clear hL
      have hLs : setB ps.length L = true := by rw [← HL.out]; exact cls_set (esOf_len ps)
      have HLS := Lib.hid hLs
      have hLl : L.length ≤ 1048576 := by rw [setB_len hLs]; omega
      have HCS := Lib.hid (codeS_ok HOK.out hLs)
      have HSW := Lib.hid (swOf_ok HCS.out hLs (cntD_self L))
      have HON := Lib.hid (show opNs ns ps ps.length L = ns by unfold opNs; rw [if_pos HCS.out])
      have HOP := Lib.hid (show opPs ns ps ps.length L = opP ps L ps.length by unfold opPs; rw [if_pos HCS.out])
      have HO2 := Lib.hid (netOk_op2 (zs := L) HOK.out HOK.out.2.2.1)
      have hgd : Good (esOf ps) ns.length := net_good HOK.out
      have HC1 := Lib.hid (show chd (esOf (opP ps L ps.length)) ns.length = [] by rw [← HL.out]; exact closed_chd hgd rfl)
      have HC2 := Lib.hid (show comps (esOf (opP ps L ps.length)) ns.length = comps (esOf ps) ns.length by rw [← HL.out]; exact closed_comps hgd rfl)
      clear hLs hgd
      go_wp2_with fail
      refine (closeAll_any _ _ _ _ _ _ ns ps _ net_37.reads (by omega)).mono ?_
      rw [HR.out, HL.out]
      rintro e w8 ⟨P8, p8, rfl, oX8, hb8⟩
      have net_45 := net_37.below hb8
      clear net_37
      have set_46 := set_38.below hb8
      clear set_38
      have rd_47 := rd_39.below hb8
      clear rd_39
      have b_48 := b_40.belowA hb8
      have hB_49 := bthen hB_41 hb8 hB_41.size
      clear hB_41
      clear x_42 x_43 x_44
      clear b_40
      have x_50 := b_48.lt
      have x_51 : w8.cell? ⟨X2, 0, none⟩ = some (.slice A1 ns.length c1) := b_48.cell 0
      have x_52 : w8.cell? ⟨X2, 1, none⟩ = some (.slice B1 ps.length d1) := b_48.cell 1
      clear hb8
      go_wp2_with fail
      refine (sCloseAll_any _ _ _ _ _ _ ns ps _ net_45.reads (by omega)).mono ?_
      rw [HR.out, HL.out]
      rintro e w9 ⟨P9, p9, rfl, oX9, hb9⟩
      have net_53 := net_45.below hb9
      clear net_45
      have set_54 := set_46.below hb9
      clear set_46
      have rd_55 := rd_47.below hb9
      clear rd_47
      have c_56 := oX8.below hb9
      clear oX8
      have b_57 := b_48.belowA hb9
      have hB_58 := bthen hB_49 hb9 hB_49.size
      clear hB_49
      clear x_50 x_51 x_52
      clear b_48
      have x_59 := b_57.lt
      have x_60 : w9.cell? ⟨X2, 0, none⟩ = some (.slice A1 ns.length c1) := b_57.cell 0
      have x_61 : w9.cell? ⟨X2, 1, none⟩ = some (.slice B1 ps.length d1) := b_57.cell 1
      clear hb9
      go_wp2_with fail
      refine (likeInts_any _ _ _ _ _ _ _ _ _ c_56.ints oX9.ints hLl).mono ?_
      rintro e w10 ⟨rfl, hq10⟩
      have hb10 := hq10.below w9.heap.size
      have net_62 := net_53.below hb10
      clear net_53
      have set_63 := set_54.below hb10
      clear set_54
      have rd_64 := rd_55.below hb10
      clear rd_55
      have c_65 := c_56.below hb10
      clear c_56
      have r_66 := oX9.below hb10
      clear oX9
      have b_67 := b_57.belowA hb10
      have hB_68 := bthen hB_58 hb10 hB_58.size
      clear hB_58
      clear x_59 x_60 x_61
      clear b_57
      have x_69 := b_67.lt
      have x_70 : w10.cell? ⟨X2, 0, none⟩ = some (.slice A1 ns.length c1) := b_67.cell 0
      have x_71 : w10.cell? ⟨X2, 1, none⟩ = some (.slice B1 ps.length d1) := b_67.cell 1
      clear hb10
      clear hq10
      clear r_66
      go_wp2_with fail
      refine (openN_any _ _ _ _ _ _ _ _ ns ps L _ net_62.reads c_65.ints hLl).mono ?_
      rw [HON.out, HOP.out, HCS.out]
      rintro e w11 ⟨P11, p11, Q11, q11, Z11, z11, rfl, oM11, oX11, hb11⟩
      have net_72 := net_62.below hb11
      clear net_62
      have set_73 := set_63.below hb11
      clear set_63
      have rd_74 := rd_64.below hb11
      clear rd_64
      have c_75 := c_65.below hb11
      clear c_65
      have b_76 := b_67.belowA hb11
      have hB_77 := bthen hB_68 hb11 hB_68.size
      clear hB_68
      clear x_69 x_70 x_71
      clear b_67
      have x_78 := b_76.lt
      have x_79 : w11.cell? ⟨X2, 0, none⟩ = some (.slice A1 ns.length c1) := b_76.cell 0
      have x_80 : w11.cell? ⟨X2, 1, none⟩ = some (.slice B1 ps.length d1) := b_76.cell 1
      clear hb11
      obtain ⟨ps2, hps2⟩ : ∃ y, opP ps L ps.length = y := ⟨_, rfl⟩
      rw [hps2] at HO2 HC1 HC2 oM11
      rw [hps2]
      clear hps2 oX11
      have hb12 : Below w11.heap.size w11 (w11.alloc (.cells #[.slice P11 ns.length p11, .slice Q11 ps2.length q11] 27)) := (Below.refl _ _).alloc (Nat.le_refl _) _
      have b_81 := box_new w11 #[.slice P11 ns.length p11, .slice Q11 ps2.length q11] 27
      have net_82 := net_72.below hb12
      clear net_72
      have set_83 := set_73.below hb12
      clear set_73
      have rd_84 := rd_74.below hb12
      clear rd_74
      have c_85 := c_75.below hb12
      clear c_75
      have op_86 := oM11.below hb12
      clear oM11
      have b_87 := b_76.belowA hb12
      clear b_76
      have hB_88 := bthen hB_77 hb12 hB_77.size
      clear hB_77
      go_wp2_with fail
      generalize (w11.alloc (.cells #[.slice P11 ns.length p11, .slice Q11 ps2.length q11] 27)) = w12 at *
      generalize w11.heap.size = X12 at *
      clear hb12
      clear x_78 x_79 x_80
      have x_89 := b_87.lt
      have x_90 : w12.cell? ⟨X2, 0, none⟩ = some (.slice A1 ns.length c1) := b_87.cell 0
      have x_91 : w12.cell? ⟨X2, 1, none⟩ = some (.slice B1 ps.length d1) := b_87.cell 1
      have x_92 := b_81.lt
      have x_93 : w12.cell? ⟨X12, 0, none⟩ = some (.slice P11 ns.length p11) := b_81.cell 0
      have x_94 : w12.cell? ⟨X12, 1, none⟩ = some (.slice Q11 ps2.length q11) := b_81.cell 1
      refine (chordsW_any _ _ _ _ _ _ ns ps2 _ op_86.reads HO2.out).mono ?_
      rw [HC1.out]
      rintro e w13 ⟨P13, p13, rfl, oX13, hb13⟩
      have net_95 := net_82.below hb13
      clear net_82
      have set_96 := set_83.below hb13
      clear set_83
      have rd_97 := rd_84.below hb13
      clear rd_84
      have c_98 := c_85.below hb13
      clear c_85
      have op_99 := op_86.below hb13
      clear op_86
      have b_100 := b_87.belowA hb13
      have b_101 := b_81.belowA hb13
      have hB_102 := bthen hB_88 hb13 hB_88.size
      clear hB_88
      clear x_89 x_90 x_91 x_92 x_93 x_94
      clear b_87
      clear b_81
      have x_103 := b_100.lt
      have x_104 : w13.cell? ⟨X2, 0, none⟩ = some (.slice A1 ns.length c1) := b_100.cell 0
      have x_105 : w13.cell? ⟨X2, 1, none⟩ = some (.slice B1 ps.length d1) := b_100.cell 1
      have x_106 := b_101.lt
      have x_107 : w13.cell? ⟨X12, 0, none⟩ = some (.slice P11 ns.length p11) := b_101.cell 0
      have x_108 : w13.cell? ⟨X12, 1, none⟩ = some (.slice Q11 ps2.length q11) := b_101.cell 1
      clear hb13
      clear oX13
      go_wp2_with fail
      refine (compsW_any _ _ _ _ _ _ ns ps _ net_95.reads HOK.out).mono ?_
      rintro e w14 ⟨P14, p14, rfl, oX14, hb14⟩
      have net_109 := net_95.below hb14
      clear net_95
      have set_110 := set_96.below hb14
      clear set_96
      have rd_111 := rd_97.below hb14
      clear rd_97
      have c_112 := c_98.below hb14
      clear c_98
      have op_113 := op_99.below hb14
      clear op_99
      have b_114 := b_100.belowA hb14
      have b_115 := b_101.belowA hb14
      have hB_116 := bthen hB_102 hb14 hB_102.size
      clear hB_102
      clear x_103 x_104 x_105 x_106 x_107 x_108
      clear b_100
      clear b_101
      have x_117 := b_114.lt
      have x_118 : w14.cell? ⟨X2, 0, none⟩ = some (.slice A1 ns.length c1) := b_114.cell 0
      have x_119 : w14.cell? ⟨X2, 1, none⟩ = some (.slice B1 ps.length d1) := b_114.cell 1
      have x_120 := b_115.lt
      have x_121 : w14.cell? ⟨X12, 0, none⟩ = some (.slice P11 ns.length p11) := b_115.cell 0
      have x_122 : w14.cell? ⟨X12, 1, none⟩ = some (.slice Q11 ps2.length q11) := b_115.cell 1
      clear hb14
      go_wp2_with fail
      refine (compsW_any _ _ _ _ _ _ ns ps2 _ op_113.reads HO2.out).mono ?_
      rw [HC2.out]
      rintro e w15 ⟨P15, p15, rfl, oX15, hb15⟩
      have net_123 := net_109.below hb15
      clear net_109
      have set_124 := set_110.below hb15
      clear set_110
      have rd_125 := rd_111.below hb15
      clear rd_111
      have c_126 := c_112.below hb15
      clear c_112
      have op_127 := op_113.below hb15
      clear op_113
      have a_128 := oX14.below hb15
      clear oX14
      have b_129 := b_114.belowA hb15
      have b_130 := b_115.belowA hb15
      have hB_131 := bthen hB_116 hb15 hB_116.size
      clear hB_116
      clear x_117 x_118 x_119 x_120 x_121 x_122
      clear b_114
      clear b_115
      have x_132 := b_129.lt
      have x_133 : w15.cell? ⟨X2, 0, none⟩ = some (.slice A1 ns.length c1) := b_129.cell 0
      have x_134 : w15.cell? ⟨X2, 1, none⟩ = some (.slice B1 ps.length d1) := b_129.cell 1
      have x_135 := b_130.lt
      have x_136 : w15.cell? ⟨X12, 0, none⟩ = some (.slice P11 ns.length p11) := b_130.cell 0
      have x_137 : w15.cell? ⟨X12, 1, none⟩ = some (.slice Q11 ps2.length q11) := b_130.cell 1
      clear hb15
      go_wp2_with fail
      refine (switch_any _ _ _ _ _ _ _ _ _ _ ns ps L L _ net_123.reads c_126.ints c_126.ints hLl hLl).mono ?_
      rw [HSW.out]
      rintro e w16 ⟨rfl, hb16⟩
      have net_138 := net_123.below hb16
      clear net_123
      have set_139 := set_124.below hb16
      clear set_124
      have rd_140 := rd_125.below hb16
      clear rd_125
      have c_141 := c_126.below hb16
      clear c_126
      have op_142 := op_127.below hb16
      clear op_127
      have a_143 := a_128.below hb16
      clear a_128
      have b_144 := oX15.below hb16
      clear oX15
      have b_145 := b_129.belowA hb16
      have b_146 := b_130.belowA hb16
      have hB_147 := bthen hB_131 hb16 hB_131.size
      clear hB_131
      clear x_132 x_133 x_134 x_135 x_136 x_137
      clear b_129
      clear b_130
      have x_148 := b_145.lt
      have x_149 : w16.cell? ⟨X2, 0, none⟩ = some (.slice A1 ns.length c1) := b_145.cell 0
      have x_150 : w16.cell? ⟨X2, 1, none⟩ = some (.slice B1 ps.length d1) := b_145.cell 1
      have x_151 := b_146.lt
      have x_152 : w16.cell? ⟨X12, 0, none⟩ = some (.slice P11 ns.length p11) := b_146.cell 0
      have x_153 : w16.cell? ⟨X12, 1, none⟩ = some (.slice Q11 ps2.length q11) := b_146.cell 1
      clear hb16
      go_wp2_with fail
      refine (likeInts_any _ _ _ _ _ _ _ _ _ a_143.ints b_144.ints (by rw [encE_len, comps_len]; omega)).mono ?_
      rintro e w17 ⟨rfl, hq17⟩
      have hb17 := hq17.below w16.heap.size
      have net_154 := net_138.below hb17
      clear net_138
      have set_155 := set_139.below hb17
      clear set_139
      have rd_156 := rd_140.below hb17
      clear rd_140
      have c_157 := c_141.below hb17
      clear c_141
      have op_158 := op_142.below hb17
      clear op_142
      have a_159 := a_143.below hb17
      clear a_143
      have b_160 := b_144.below hb17
      clear b_144
      have b_161 := b_145.belowA hb17
      have b_162 := b_146.belowA hb17
      have hB_163 := bthen hB_147 hb17 hB_147.size
      clear hB_147
      clear x_148 x_149 x_150 x_151 x_152 x_153
      clear b_145
      clear b_146
      have x_164 := b_161.lt
      have x_165 : w17.cell? ⟨X2, 0, none⟩ = some (.slice A1 ns.length c1) := b_161.cell 0
      have x_166 : w17.cell? ⟨X2, 1, none⟩ = some (.slice B1 ps.length d1) := b_161.cell 1
      have x_167 := b_162.lt
      have x_168 : w17.cell? ⟨X12, 0, none⟩ = some (.slice P11 ns.length p11) := b_162.cell 0
      have x_169 : w17.cell? ⟨X12, 1, none⟩ = some (.slice Q11 ps2.length q11) := b_162.cell 1
      clear hb17
      clear hq17
      go_wp2_with fail
      go_ret
      exact ⟨rfl, hB_163⟩
    case neg =>
      have HR := Lib.hid (clR_no (n := ns.length) hok)
      clear hok
      go_wp2_with fail
      refine (closeAll_any _ _ _ _ _ _ ns ps _ net_37.reads (by omega)).mono ?_
      rw [HR.out]
      rintro e w8 ⟨P8, p8, rfl, oX8, hb8⟩
      have net_45 := net_37.below hb8
      clear net_37
      have set_46 := set_38.below hb8
      clear set_38
      have rd_47 := rd_39.below hb8
      clear rd_39
      have b_48 := b_40.belowA hb8
      have hB_49 := bthen hB_41 hb8 hB_41.size
      clear hB_41
      clear x_42 x_43 x_44
      clear b_40
      have x_50 := b_48.lt
      have x_51 : w8.cell? ⟨X2, 0, none⟩ = some (.slice A1 ns.length c1) := b_48.cell 0
      have x_52 : w8.cell? ⟨X2, 1, none⟩ = some (.slice B1 ps.length d1) := b_48.cell 1
      clear hb8
      go_wp2_with fail
      refine (sCloseAll_any _ _ _ _ _ _ ns ps _ net_45.reads (by omega)).mono ?_
      rw [HR.out]
      rintro e w9 ⟨P9, p9, rfl, oX9, hb9⟩
      have net_53 := net_45.below hb9
      clear net_45
      have set_54 := set_46.below hb9
      clear set_46
      have rd_55 := rd_47.below hb9
      clear rd_47
      have c_56 := oX8.below hb9
      clear oX8
      have b_57 := b_48.belowA hb9
      have hB_58 := bthen hB_49 hb9 hB_49.size
      clear hB_49
      clear x_50 x_51 x_52
      clear b_48
      have x_59 := b_57.lt
      have x_60 : w9.cell? ⟨X2, 0, none⟩ = some (.slice A1 ns.length c1) := b_57.cell 0
      have x_61 : w9.cell? ⟨X2, 1, none⟩ = some (.slice B1 ps.length d1) := b_57.cell 1
      clear hb9
      go_wp2_with fail
      refine (likeInts_any _ _ _ _ _ _ _ _ _ c_56.ints oX9.ints (by simp)).mono ?_
      rintro e w10 ⟨rfl, hq10⟩
      have hb10 := hq10.below w9.heap.size
      have net_62 := net_53.below hb10
      clear net_53
      have set_63 := set_54.below hb10
      clear set_54
      have rd_64 := rd_55.below hb10
      clear rd_55
      have c_65 := c_56.below hb10
      clear c_56
      have r_66 := oX9.below hb10
      clear oX9
      have b_67 := b_57.belowA hb10
      have hB_68 := bthen hB_58 hb10 hB_58.size
      clear hB_58
      clear x_59 x_60 x_61
      clear b_57
      have x_69 := b_67.lt
      have x_70 : w10.cell? ⟨X2, 0, none⟩ = some (.slice A1 ns.length c1) := b_67.cell 0
      have x_71 : w10.cell? ⟨X2, 1, none⟩ = some (.slice B1 ps.length d1) := b_67.cell 1
      clear hb10
      clear hq10
      go_wp2_with fail
      go_ret
      exact ⟨rfl, hB_68⟩
  case neg =>
    obtain rfl : s = false := Bool.eq_false_iff.2 (fun hh => hset (HSS.out.1 hh))
    clear hset rd_31
    by_cases hok : NetOk ns ps
    case pos =>
      have HR := Lib.hid (clR_ok (n := ns.length) hok)
      have HOK := Lib.hid hok
      clear hok
      obtain ⟨L, hL⟩ : ∃ y, cls (esOf ps) ns.length = y := ⟨_, rfl⟩
      have HL := Lib.hid hL
      clear hL
      have hLs : setB ps.length L = true := by rw [← HL.out]; exact cls_set (esOf_len ps)
      have HLS := Lib.hid hLs
      have hLl : L.length ≤ 1048576 := by rw [setB_len hLs]; omega
      have HCS := Lib.hid (codeS_ok HOK.out hLs)
      have HSW := Lib.hid (swOf_ok HCS.out hLs (cntD_self L))
      have HON := Lib.hid (show opNs ns ps ps.length L = ns by unfold opNs; rw [if_pos HCS.out])
      have HOP := Lib.hid (show opPs ns ps ps.length L = opP ps L ps.length by unfold opPs; rw [if_pos HCS.out])
      have HO2 := Lib.hid (netOk_op2 (zs := L) HOK.out HOK.out.2.2.1)
      have hgd : Good (esOf ps) ns.length := net_good HOK.out
      have HC1 := Lib.hid (show chd (esOf (opP ps L ps.length)) ns.length = [] by rw [← HL.out]; exact closed_chd hgd rfl)
      have HC2 := Lib.hid (show comps (esOf (opP ps L ps.length)) ns.length = comps (esOf ps) ns.length by rw [← HL.out]; exact closed_comps hgd rfl)
      clear hLs hgd
      go_wp2_with fail
      refine (closeAll_any _ _ _ _ _ _ ns ps _ net_29.reads (by omega)).mono ?_
      rw [HR.out, HL.out]
      rintro e w7 ⟨P7, p7, rfl, oX7, hb7⟩
      have net_37 := net_29.below hb7
      clear net_29
      have set_38 := set_30.below hb7
      clear set_30
      have b_39 := b_32.belowA hb7
      have hB_40 := bthen hB_33 hb7 hB_33.size
      clear hB_33
      clear x_34 x_35 x_36
      clear b_32
      have x_41 := b_39.lt
      have x_42 : w7.cell? ⟨X2, 0, none⟩ = some (.slice A1 ns.length c1) := b_39.cell 0
      have x_43 : w7.cell? ⟨X2, 1, none⟩ = some (.slice B1 ps.length d1) := b_39.cell 1
      clear hb7
      go_wp2_with fail
      refine (sCloseAll_any _ _ _ _ _ _ ns ps _ net_37.reads (by omega)).mono ?_
      rw [HR.out, HL.out]
      rintro e w8 ⟨P8, p8, rfl, oX8, hb8⟩
      have net_44 := net_37.below hb8
      clear net_37
      have set_45 := set_38.below hb8
      clear set_38
      have c_46 := oX7.below hb8
      clear oX7
      have b_47 := b_39.belowA hb8
      have hB_48 := bthen hB_40 hb8 hB_40.size
      clear hB_40
      clear x_41 x_42 x_43
      clear b_39
      have x_49 := b_47.lt
      have x_50 : w8.cell? ⟨X2, 0, none⟩ = some (.slice A1 ns.length c1) := b_47.cell 0
      have x_51 : w8.cell? ⟨X2, 1, none⟩ = some (.slice B1 ps.length d1) := b_47.cell 1
      clear hb8
      go_wp2_with fail
      refine (likeInts_any _ _ _ _ _ _ _ _ _ c_46.ints oX8.ints hLl).mono ?_
      rintro e w9 ⟨rfl, hq9⟩
      have hb9 := hq9.below w8.heap.size
      have net_52 := net_44.below hb9
      clear net_44
      have set_53 := set_45.below hb9
      clear set_45
      have c_54 := c_46.below hb9
      clear c_46
      have r_55 := oX8.below hb9
      clear oX8
      have b_56 := b_47.belowA hb9
      have hB_57 := bthen hB_48 hb9 hB_48.size
      clear hB_48
      clear x_49 x_50 x_51
      clear b_47
      have x_58 := b_56.lt
      have x_59 : w9.cell? ⟨X2, 0, none⟩ = some (.slice A1 ns.length c1) := b_56.cell 0
      have x_60 : w9.cell? ⟨X2, 1, none⟩ = some (.slice B1 ps.length d1) := b_56.cell 1
      clear hb9
      clear hq9
      clear r_55
      go_wp2_with fail
      refine (openN_any _ _ _ _ _ _ _ _ ns ps L _ net_52.reads c_54.ints hLl).mono ?_
      rw [HON.out, HOP.out, HCS.out]
      rintro e w10 ⟨P10, p10, Q10, q10, Z10, z10, rfl, oM10, oX10, hb10⟩
      have net_61 := net_52.below hb10
      clear net_52
      have set_62 := set_53.below hb10
      clear set_53
      have c_63 := c_54.below hb10
      clear c_54
      have b_64 := b_56.belowA hb10
      have hB_65 := bthen hB_57 hb10 hB_57.size
      clear hB_57
      clear x_58 x_59 x_60
      clear b_56
      have x_66 := b_64.lt
      have x_67 : w10.cell? ⟨X2, 0, none⟩ = some (.slice A1 ns.length c1) := b_64.cell 0
      have x_68 : w10.cell? ⟨X2, 1, none⟩ = some (.slice B1 ps.length d1) := b_64.cell 1
      clear hb10
      obtain ⟨ps2, hps2⟩ : ∃ y, opP ps L ps.length = y := ⟨_, rfl⟩
      rw [hps2] at HO2 HC1 HC2 oM10
      rw [hps2]
      clear hps2 oX10
      have hb11 : Below w10.heap.size w10 (w10.alloc (.cells #[.slice P10 ns.length p10, .slice Q10 ps2.length q10] 27)) := (Below.refl _ _).alloc (Nat.le_refl _) _
      have b_69 := box_new w10 #[.slice P10 ns.length p10, .slice Q10 ps2.length q10] 27
      have net_70 := net_61.below hb11
      clear net_61
      have set_71 := set_62.below hb11
      clear set_62
      have c_72 := c_63.below hb11
      clear c_63
      have op_73 := oM10.below hb11
      clear oM10
      have b_74 := b_64.belowA hb11
      clear b_64
      have hB_75 := bthen hB_65 hb11 hB_65.size
      clear hB_65
      go_wp2_with fail
      generalize (w10.alloc (.cells #[.slice P10 ns.length p10, .slice Q10 ps2.length q10] 27)) = w11 at *
      generalize w10.heap.size = X11 at *
      clear hb11
      clear x_66 x_67 x_68
      have x_76 := b_74.lt
      have x_77 : w11.cell? ⟨X2, 0, none⟩ = some (.slice A1 ns.length c1) := b_74.cell 0
      have x_78 : w11.cell? ⟨X2, 1, none⟩ = some (.slice B1 ps.length d1) := b_74.cell 1
      have x_79 := b_69.lt
      have x_80 : w11.cell? ⟨X11, 0, none⟩ = some (.slice P10 ns.length p10) := b_69.cell 0
      have x_81 : w11.cell? ⟨X11, 1, none⟩ = some (.slice Q10 ps2.length q10) := b_69.cell 1
      refine (chordsW_any _ _ _ _ _ _ ns ps2 _ op_73.reads HO2.out).mono ?_
      rw [HC1.out]
      rintro e w12 ⟨P12, p12, rfl, oX12, hb12⟩
      have net_82 := net_70.below hb12
      clear net_70
      have set_83 := set_71.below hb12
      clear set_71
      have c_84 := c_72.below hb12
      clear c_72
      have op_85 := op_73.below hb12
      clear op_73
      have b_86 := b_74.belowA hb12
      have b_87 := b_69.belowA hb12
      have hB_88 := bthen hB_75 hb12 hB_75.size
      clear hB_75
      clear x_76 x_77 x_78 x_79 x_80 x_81
      clear b_74
      clear b_69
      have x_89 := b_86.lt
      have x_90 : w12.cell? ⟨X2, 0, none⟩ = some (.slice A1 ns.length c1) := b_86.cell 0
      have x_91 : w12.cell? ⟨X2, 1, none⟩ = some (.slice B1 ps.length d1) := b_86.cell 1
      have x_92 := b_87.lt
      have x_93 : w12.cell? ⟨X11, 0, none⟩ = some (.slice P10 ns.length p10) := b_87.cell 0
      have x_94 : w12.cell? ⟨X11, 1, none⟩ = some (.slice Q10 ps2.length q10) := b_87.cell 1
      clear hb12
      clear oX12
      go_wp2_with fail
      refine (compsW_any _ _ _ _ _ _ ns ps _ net_82.reads HOK.out).mono ?_
      rintro e w13 ⟨P13, p13, rfl, oX13, hb13⟩
      have net_95 := net_82.below hb13
      clear net_82
      have set_96 := set_83.below hb13
      clear set_83
      have c_97 := c_84.below hb13
      clear c_84
      have op_98 := op_85.below hb13
      clear op_85
      have b_99 := b_86.belowA hb13
      have b_100 := b_87.belowA hb13
      have hB_101 := bthen hB_88 hb13 hB_88.size
      clear hB_88
      clear x_89 x_90 x_91 x_92 x_93 x_94
      clear b_86
      clear b_87
      have x_102 := b_99.lt
      have x_103 : w13.cell? ⟨X2, 0, none⟩ = some (.slice A1 ns.length c1) := b_99.cell 0
      have x_104 : w13.cell? ⟨X2, 1, none⟩ = some (.slice B1 ps.length d1) := b_99.cell 1
      have x_105 := b_100.lt
      have x_106 : w13.cell? ⟨X11, 0, none⟩ = some (.slice P10 ns.length p10) := b_100.cell 0
      have x_107 : w13.cell? ⟨X11, 1, none⟩ = some (.slice Q10 ps2.length q10) := b_100.cell 1
      clear hb13
      go_wp2_with fail
      refine (compsW_any _ _ _ _ _ _ ns ps2 _ op_98.reads HO2.out).mono ?_
      rw [HC2.out]
      rintro e w14 ⟨P14, p14, rfl, oX14, hb14⟩
      have net_108 := net_95.below hb14
      clear net_95
      have set_109 := set_96.below hb14
      clear set_96
      have c_110 := c_97.below hb14
      clear c_97
      have op_111 := op_98.below hb14
      clear op_98
      have a_112 := oX13.below hb14
      clear oX13
      have b_113 := b_99.belowA hb14
      have b_114 := b_100.belowA hb14
      have hB_115 := bthen hB_101 hb14 hB_101.size
      clear hB_101
      clear x_102 x_103 x_104 x_105 x_106 x_107
      clear b_99
      clear b_100
      have x_116 := b_113.lt
      have x_117 : w14.cell? ⟨X2, 0, none⟩ = some (.slice A1 ns.length c1) := b_113.cell 0
      have x_118 : w14.cell? ⟨X2, 1, none⟩ = some (.slice B1 ps.length d1) := b_113.cell 1
      have x_119 := b_114.lt
      have x_120 : w14.cell? ⟨X11, 0, none⟩ = some (.slice P10 ns.length p10) := b_114.cell 0
      have x_121 : w14.cell? ⟨X11, 1, none⟩ = some (.slice Q10 ps2.length q10) := b_114.cell 1
      clear hb14
      go_wp2_with fail
      refine (switch_any _ _ _ _ _ _ _ _ _ _ ns ps L L _ net_108.reads c_110.ints c_110.ints hLl hLl).mono ?_
      rw [HSW.out]
      rintro e w15 ⟨rfl, hb15⟩
      have net_122 := net_108.below hb15
      clear net_108
      have set_123 := set_109.below hb15
      clear set_109
      have c_124 := c_110.below hb15
      clear c_110
      have op_125 := op_111.below hb15
      clear op_111
      have a_126 := a_112.below hb15
      clear a_112
      have b_127 := oX14.below hb15
      clear oX14
      have b_128 := b_113.belowA hb15
      have b_129 := b_114.belowA hb15
      have hB_130 := bthen hB_115 hb15 hB_115.size
      clear hB_115
      clear x_116 x_117 x_118 x_119 x_120 x_121
      clear b_113
      clear b_114
      have x_131 := b_128.lt
      have x_132 : w15.cell? ⟨X2, 0, none⟩ = some (.slice A1 ns.length c1) := b_128.cell 0
      have x_133 : w15.cell? ⟨X2, 1, none⟩ = some (.slice B1 ps.length d1) := b_128.cell 1
      have x_134 := b_129.lt
      have x_135 : w15.cell? ⟨X11, 0, none⟩ = some (.slice P10 ns.length p10) := b_129.cell 0
      have x_136 : w15.cell? ⟨X11, 1, none⟩ = some (.slice Q10 ps2.length q10) := b_129.cell 1
      clear hb15
      go_wp2_with fail
      refine (likeInts_any _ _ _ _ _ _ _ _ _ a_126.ints b_127.ints (by rw [encE_len, comps_len]; omega)).mono ?_
      rintro e w16 ⟨rfl, hq16⟩
      have hb16 := hq16.below w15.heap.size
      have net_137 := net_122.below hb16
      clear net_122
      have set_138 := set_123.below hb16
      clear set_123
      have c_139 := c_124.below hb16
      clear c_124
      have op_140 := op_125.below hb16
      clear op_125
      have a_141 := a_126.below hb16
      clear a_126
      have b_142 := b_127.below hb16
      clear b_127
      have b_143 := b_128.belowA hb16
      have b_144 := b_129.belowA hb16
      have hB_145 := bthen hB_130 hb16 hB_130.size
      clear hB_130
      clear x_131 x_132 x_133 x_134 x_135 x_136
      clear b_128
      clear b_129
      have x_146 := b_143.lt
      have x_147 : w16.cell? ⟨X2, 0, none⟩ = some (.slice A1 ns.length c1) := b_143.cell 0
      have x_148 : w16.cell? ⟨X2, 1, none⟩ = some (.slice B1 ps.length d1) := b_143.cell 1
      have x_149 := b_144.lt
      have x_150 : w16.cell? ⟨X11, 0, none⟩ = some (.slice P10 ns.length p10) := b_144.cell 0
      have x_151 : w16.cell? ⟨X11, 1, none⟩ = some (.slice Q10 ps2.length q10) := b_144.cell 1
      clear hb16
      clear hq16
      go_wp2_with fail
      go_ret
      exact ⟨rfl, hB_145⟩
    case neg =>
      have HR := Lib.hid (clR_no (n := ns.length) hok)
      clear hok
      go_wp2_with fail
      refine (closeAll_any _ _ _ _ _ _ ns ps _ net_29.reads (by omega)).mono ?_
      rw [HR.out]
      rintro e w7 ⟨P7, p7, rfl, oX7, hb7⟩
      have net_37 := net_29.below hb7
      clear net_29
      have set_38 := set_30.below hb7
      clear set_30
      have b_39 := b_32.belowA hb7
      have hB_40 := bthen hB_33 hb7 hB_33.size
      clear hB_33
      clear x_34 x_35 x_36
      clear b_32
      have x_41 := b_39.lt
      have x_42 : w7.cell? ⟨X2, 0, none⟩ = some (.slice A1 ns.length c1) := b_39.cell 0
      have x_43 : w7.cell? ⟨X2, 1, none⟩ = some (.slice B1 ps.length d1) := b_39.cell 1
      clear hb7
      go_wp2_with fail
      refine (sCloseAll_any _ _ _ _ _ _ ns ps _ net_37.reads (by omega)).mono ?_
      rw [HR.out]
      rintro e w8 ⟨P8, p8, rfl, oX8, hb8⟩
      have net_44 := net_37.below hb8
      clear net_37
      have set_45 := set_38.below hb8
      clear set_38
      have c_46 := oX7.below hb8
      clear oX7
      have b_47 := b_39.belowA hb8
      have hB_48 := bthen hB_40 hb8 hB_40.size
      clear hB_40
      clear x_41 x_42 x_43
      clear b_39
      have x_49 := b_47.lt
      have x_50 : w8.cell? ⟨X2, 0, none⟩ = some (.slice A1 ns.length c1) := b_47.cell 0
      have x_51 : w8.cell? ⟨X2, 1, none⟩ = some (.slice B1 ps.length d1) := b_47.cell 1
      clear hb8
      go_wp2_with fail
      refine (likeInts_any _ _ _ _ _ _ _ _ _ c_46.ints oX8.ints (by simp)).mono ?_
      rintro e w9 ⟨rfl, hq9⟩
      have hb9 := hq9.below w8.heap.size
      have net_52 := net_44.below hb9
      clear net_44
      have set_53 := set_45.below hb9
      clear set_45
      have c_54 := c_46.below hb9
      clear c_46
      have r_55 := oX8.below hb9
      clear oX8
      have b_56 := b_47.belowA hb9
      have hB_57 := bthen hB_48 hb9 hB_48.size
      clear hB_48
      clear x_49 x_50 x_51
      clear b_47
      have x_58 := b_56.lt
      have x_59 : w9.cell? ⟨X2, 0, none⟩ = some (.slice A1 ns.length c1) := b_56.cell 0
      have x_60 : w9.cell? ⟨X2, 1, none⟩ = some (.slice B1 ps.length d1) := b_56.cell 1
      clear hb9
      clear hq9
      go_wp2_with fail
      go_ret
      exact ⟨rfl, hB_57⟩
end Go.Proofs.Ytpgegfnhokhlmab
