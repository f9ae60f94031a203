/- The walk of the law FnOpenNetworks. No condition. -/
import Derived.Test.YtebefamekjjbcaaNDrawS
import Derived.Laws.StructEq
import Derived.Deep.DeepCutAuto
import Derived.Test.YtebefamekjjbcaaOnp
import Derived.Test.YtebefamekjjbcaaSpread
import Derived.Test.YtebefamekjjbcaaOpenN
import Derived.Test.YtebefamekjjbcaaAllow
import Derived.Test.YtebefamekjjbcaaSett
import Derived.Test.YtebefamekjjbcaaBig
set_option linter.unusedVariables false
set_option maxRecDepth 100000
namespace Go.Proofs.Ytebefamekjjbcaa
open Go.ChangeShapes Go.WideShapes Go.ChangeAt Go.RowKit Go.Joins Go.Deep
attribute [local go_sem ↓] Go.wp_at_zero Go.wp_at_succ

theorem isSettB_any (b : Bool) (A B C : Option Addr) (n c m d l e : Nat) (ns : List Nd) (ps : List Pp) (zs : List Int) (w : World) (h : IsNet w A n c ns B m d ps) (hz : Ints w C l zs) (hl : l ≤ 1048576) (hb : b = true ↔ NetOk ns ps ∧ setB m zs = true) :
    Calls Try.prog 9 #[.agg #[.slice A n c, .slice B m d], .slice C l e] w fun e w' => e = .returned (.bool b) ∧ Below w.heap.size w w' := by
  refine (isSett_any A B C n c m d l e ns ps zs w h hz hl).mono ?_
  rintro e w' ⟨b', hb', rfl, hbl⟩
  obtain rfl : b' = b := by rw [Bool.eq_iff_iff, hb', hb]
  exact ⟨rfl, hbl⟩
theorem sIsSettB_any (b : Bool) (A B C : Option Addr) (n c m d l e : Nat) (ns : List Nd) (ps : List Pp) (zs : List Int) (w : World) (h : IsNet w A n c ns B m d ps) (hz : Ints w C l zs) (hl : l ≤ 1048576) (hb : b = true ↔ NetOk ns ps ∧ setB m zs = true) :
    Calls Try.prog 10 #[.agg #[.slice A n c, .slice B m d], .slice C l e] w fun e w' => e = .returned (.bool b) ∧ Below w.heap.size w w' := by
  refine (sIsSett_any A B C n c m d l e ns ps zs w h hz hl).mono ?_
  rintro e w' ⟨b', hb', rfl, hbl⟩
  obtain rfl : b' = b := by rw [Bool.eq_iff_iff, hb', hb]
  exact ⟨rfl, hbl⟩
theorem take_sum {l : List Int} {k : Nat} {z : Int} (h : l[k]? = some z) : (l.take (k + 1)).sum = (l.take k).sum + z := by
  rw [List.take_add_one, h, List.sum_append]
  simp
theorem take_sum_bd {l : List Int} (h : ∀ z ∈ l, -30000 ≤ z ∧ z ≤ 30000) : ∀ k : Nat, -(30000 * (k : Int)) ≤ (l.take k).sum ∧ (l.take k).sum ≤ 30000 * (k : Int)
  | 0 => by simp
  | k + 1 => by
    have ih := take_sum_bd h k
    rcases Nat.lt_or_ge k l.length with hk | hk
    · have hz : l[k]? = some l[k] := List.getElem?_eq_getElem hk
      rw [take_sum hz]
      have := h l[k] (List.getElem_mem hk)
      omega
    · rw [List.take_of_length_le (by omega)] at ih ⊢
      omega
set_option maxHeartbeats 2000000 in
theorem sum_any (A : Option Addr) (n c : Nat) (zs : List Int) (w : World) (h : Ints w A n zs) (hn : n ≤ 1000) (hb : ∀ z ∈ zs, -30000 ≤ z ∧ z ≤ 30000) :
    Calls Try.prog 14 #[.slice A n c] w fun e w' => e = .returned (.int .i64 zs.sum) ∧ w = w' := by
  have hl := Lib.hid h.len
  have HB := Lib.hid hb
  clear hb
  go_enter Try.func14, Try.ntmps14
  go_wp2_with fail
  go_loop [3, 4] (fun ss ii => ∃ (k : Nat) (s : Int), k ≤ n ∧ ii = .int .i64 (k : Int) ∧ ss = .int .i64 s ∧ Hid ((zs.take k).sum = s)) (fun _ ii => n - (intOf ii).toNat)
  case atStart => exact ⟨0, 0, Nat.zero_le _, rfl, rfl, rfl⟩
  case round =>
    obtain ⟨k, s, hk, rfl, rfl, HS⟩ := hrel
    have hsb := take_sum_bd HB.out k
    rw [HS.out] at hsb
    by_cases hlt : k < n
    · obtain ⟨b, o, z, rfl, hbl, hz, hz64, hc⟩ := h.at_ hlt
      have hzb := HB.out z (List.mem_of_getElem? hz)
      have HN := Lib.hid (show (zs.take (k + 1)).sum = s + z by rw [take_sum hz, HS.out])
      have i1 : (k : Int) < (n : Int) := by omega
      clear hz
      go_wp2_with fail
      go_round
      case rel => exact ⟨k + 1, s + z, by omega, by go_num, rfl, HN.out⟩
      case measure => simp [intOf]; omega
    · have i1 : ¬ (k : Int) < (n : Int) := by omega
      have HE := Lib.hid (show zs.sum = s by rw [← HS.out, List.take_of_length_le (by have := hl.out; omega)])
      go_wp2_with fail
      go_ret
      exact ⟨ri HE.out.symm, rfl⟩
theorem spF_parts {ns : List Nd} {ps : List Pp} {m : Nat} {zs fs : List Int} (hk : (spF ns ps m zs fs).2 = 0) : codeS ns ps m zs = 0 ∧ flB (opP ps zs m).length fs = true := by
  rcases codeS_in ns ps m zs with ⟨h, _⟩ | h | h
  · refine ⟨h, ?_⟩
    cases h2 : flB (opP ps zs m).length fs
    · rw [spF_bad h h2] at hk; exact absurd hk (by decide)
    · rfl
  · rw [spF_code h (by decide)] at hk; exact absurd hk (by decide)
  · rw [spF_code h (by decide)] at hk; exact absurd hk (by decide)
theorem spF_len {ns : List Nd} {ps : List Pp} {m : Nat} {zs fs : List Int} : (spF ns ps m zs fs).1.length ≤ m := by
  unfold spF
  split
  · split
    · rw [spr_len]; exact Nat.le_refl _
    · simp
  · simp
theorem pipe_neq (a b c d e : Int) : ∀ W, (binOp .neq 38 (.agg #[.int .i64 a, .int .i64 b, .int .i64 c, .int .i64 d, .int .i64 e]) (.agg #[.int .i64 a, .int .i64 b, .int .i64 c, .int .i64 d, .int .i64 e])).run Try.prog W = .ok (.bool false) W := by
  intro W
  rw [run_neq_struct]
  simp [go_sem]
set_option maxHeartbeats 16000000 in
theorem law_FnOpenNetworks (A : Option Addr) (n c : Nat) (zs : List Int) (w : World) (h0 : Byts w A n zs ∧ n ≤ c ∧ c ≤ maxLen) :
    Calls Try.prog 3 #[.slice A n c] w fun e w' => e = .returned (.bool true) ∧ Below w.heap.size w w' := by
  obtain ⟨h, hnc, hcm⟩ := h0
  unfold maxLen at hcm
  by_cases hbig : 4096 < n
  · have hg := fun W => big_any A n c W (by omega)
    simp only [hbig, decide_true] at hg
    have HG := Lib.hid hg
    clear hg
    go_enter Try.func3, Try.ntmps3
    go_wp2_with (go_at_call 4; refine (HG.out _).mono ?_; rintro e w' ⟨rfl, rfl⟩)
    go_ret
    exact ⟨rfl, Below.refl _ _⟩
  have hg := fun W => big_any A n c W (by omega)
  simp only [hbig, decide_false] at hg
  have HG := Lib.hid hg
  have hn : n ≤ 4096 := by omega
  clear hg hbig
  go_enter Try.func3, Try.ntmps3
  go_wp2_with (go_at_call 4; refine (HG.out _).mono ?_; rintro e w' ⟨rfl, rfl⟩)
  refine (drawSpF_any _ _ _ _ _ h hn).mono ?_
  rintro e w1 ⟨A1, c1, B1, d1, ns, ps, A2, c2, xs, A3, c3, ys, rfl, oN1, oX1, oY1, hk7, hm11, hl1, hl2, hW1⟩
  clear h
  have hb2 : Below w1.heap.size w1 (w1.alloc (.cells #[.slice A1 ns.length c1, .slice B1 ps.length d1] 27)) := (Below.refl _ _).alloc (Nat.le_refl _) _
  have b_1 := box_new w1 #[.slice A1 ns.length c1, .slice B1 ps.length d1] 27
  have net_2 := oN1.below hb2
  clear oN1
  have set_3 := oX1.below hb2
  clear oX1
  have fl_4 := oY1.below hb2
  clear oY1
  have hB_5 := bthen hW1 hb2 hW1.size
  clear hW1
  go_wp2_with fail
  generalize (w1.alloc (.cells #[.slice A1 ns.length c1, .slice B1 ps.length d1] 27)) = w2 at *
  generalize w1.heap.size = X2 at *
  clear hb2
  have x_6 := b_1.lt
  have x_7 : w2.cell? ⟨X2, 0, none⟩ = some (.slice A1 ns.length c1) := b_1.cell 0
  have x_8 : w2.cell? ⟨X2, 1, none⟩ = some (.slice B1 ps.length d1) := b_1.cell 1
  obtain ⟨K, hK⟩ : ∃ y, (spF ns ps ps.length xs ys).2 = y := ⟨_, rfl⟩
  have HK := Lib.hid hK
  clear hK
  obtain ⟨X, hX⟩ : ∃ y, (spF ns ps ps.length xs ys).1 = y := ⟨_, rfl⟩
  have HX := Lib.hid hX
  clear hX
  have hXl : X.length ≤ 11 := by rw [← HX.out]; have := spF_len (ns := ns) (ps := ps) (m := ps.length) (zs := xs) (fs := ys); omega
  refine (spreadF_any _ _ _ _ _ _ _ _ _ _ ns ps xs ys _ net_2.reads set_3.ints fl_4.ints (by omega) (by omega)).mono ?_
  rw [HX.out, HK.out]
  rintro e w3 ⟨P3, p3, rfl, oX3, hb3⟩
  have net_9 := net_2.below hb3
  clear net_2
  have set_10 := set_3.below hb3
  clear set_3
  have fl_11 := fl_4.below hb3
  clear fl_4
  have b_12 := b_1.belowA hb3
  have hB_13 := bthen hB_5 hb3 hB_5.size
  clear hB_5
  clear x_6 x_7 x_8
  clear b_1
  have x_14 := b_12.lt
  have x_15 : w3.cell? ⟨X2, 0, none⟩ = some (.slice A1 ns.length c1) := b_12.cell 0
  have x_16 : w3.cell? ⟨X2, 1, none⟩ = some (.slice B1 ps.length d1) := b_12.cell 1
  clear hb3
  go_wp2_with fail
  refine (sSpreadF_any _ _ _ _ _ _ _ _ _ _ ns ps xs ys _ net_9.reads set_10.ints fl_11.ints (by omega) (by omega)).mono ?_
  rw [HX.out, HK.out]
  rintro e w4 ⟨P4, p4, rfl, oX4, hb4⟩
  have net_17 := net_9.below hb4
  clear net_9
  have set_18 := set_10.below hb4
  clear set_10
  have fl_19 := fl_11.below hb4
  clear fl_11
  have x_20 := oX3.below hb4
  clear oX3
  have b_21 := b_12.belowA hb4
  have hB_22 := bthen hB_13 hb4 hB_13.size
  clear hB_13
  clear x_14 x_15 x_16
  clear b_12
  have x_23 := b_21.lt
  have x_24 : w4.cell? ⟨X2, 0, none⟩ = some (.slice A1 ns.length c1) := b_21.cell 0
  have x_25 : w4.cell? ⟨X2, 1, none⟩ = some (.slice B1 ps.length d1) := b_21.cell 1
  clear hb4
  obtain ⟨b, hbI⟩ : ∃ b : Bool, (b = true ↔ NetOk ns ps ∧ setB ps.length xs = true) := ⟨@decide _ (Classical.propDecidable _), @decide_eq_true_iff _ (Classical.propDecidable _)⟩
  have HBI := Lib.hid hbI
  clear hbI
  have kd : Below w4.heap.size w4 w4.drew := (Below.refl _ _).drew
  have KN := Lib.hid net_17
  have KS := Lib.hid set_18
  have KB := Lib.hid b_21
  have xd := (x_20.below kd).ints
  have yd := (oX4.below kd).ints
  have hXl2 : X.length ≤ 1048576 := by omega
  go_upto_region 6 with fail
  go_cut [57] (fun t wx => t = .bool false ∧ Below w4.heap.size w4 wx)
  case first =>
    clear net_17 set_18 x_20 oX4 b_21
    go_region_with (first | (go_at_call 8; refine (likeInts_any _ _ _ _ _ _ _ _ w4.drew xd yd hXl2).mono ?_; rintro e7 v7 ⟨rfl, hq7⟩; have kk7 := bthen kd (hq7.below w4.drew.heap.size) kd.size; have bq7 := KB.out.belowA kk7; have ql7 := bq7.lt; have qa7 : v7.cell? ⟨X2, 0, none⟩ = some (.slice A1 ns.length c1) := bq7.cell 0; have qb7 : v7.cell? ⟨X2, 1, none⟩ = some (.slice B1 ps.length d1) := bq7.cell 1) | (go_at_call 9; (first | (refine (isSettB_any b _ _ _ _ _ _ _ _ _ ns ps xs v9 (KN.out.below kk9).reads (KS.out.below kk9).ints (by omega) HBI.out).mono ?_; rintro e10 v10 ⟨rfl, hbl10⟩; have kk10 := bthen kk9 hbl10 kk9.size) | (refine (isSettB_any b _ _ _ _ _ _ _ _ _ ns ps xs v7 (KN.out.below kk7).reads (KS.out.below kk7).ints (by omega) HBI.out).mono ?_; rintro e8 v8 ⟨rfl, hbl8⟩; have kk8 := bthen kk7 hbl8 kk7.size; have bq8 := KB.out.belowA kk8; have ql8 := bq8.lt; have qa8 : v8.cell? ⟨X2, 0, none⟩ = some (.slice A1 ns.length c1) := bq8.cell 0; have qb8 : v8.cell? ⟨X2, 1, none⟩ = some (.slice B1 ps.length d1) := bq8.cell 1))) | (go_at_call 10; (first | (refine (sIsSettB_any b _ _ _ _ _ _ _ _ _ ns ps xs v8 (KN.out.below kk8).reads (KS.out.below kk8).ints (by omega) HBI.out).mono ?_; rintro e10 v10 ⟨rfl, hbl10⟩; have kk10 := bthen kk8 hbl10 kk8.size) | (refine (sIsSettB_any b _ _ _ _ _ _ _ _ _ ns ps xs v7 (KN.out.below kk7).reads (KS.out.below kk7).ints (by omega) HBI.out).mono ?_; rintro e9 v9 ⟨rfl, hbl9⟩; have kk9 := bthen kk7 hbl9 kk7.size; have bq9 := KB.out.belowA kk9; have ql9 := bq9.lt; have qa9 : v9.cell? ⟨X2, 0, none⟩ = some (.slice A1 ns.length c1) := bq9.cell 0; have qb9 : v9.cell? ⟨X2, 1, none⟩ = some (.slice B1 ps.length d1) := bq9.cell 1))))
    all_goals (go_wp2_with fail; go_meet)
    all_goals exact ⟨rfl, kk10⟩
  case rest =>
  obtain ⟨rfl, hbc⟩ := hcut
  clear kd KN KS KB xd yd HBI
  have net_26 := net_17.below hbc
  clear net_17
  have set_27 := set_18.below hbc
  clear set_18
  have fl_28 := fl_19.below hbc
  clear fl_19
  have x_29 := x_20.below hbc
  clear x_20
  have y_30 := oX4.below hbc
  clear oX4
  have b_31 := b_21.belowA hbc
  have hB_32 := bthen hB_22 hbc hB_22.size
  clear hB_22
  clear x_23 x_24 x_25
  clear b_21
  have x_33 := b_31.lt
  have x_34 : wc.cell? ⟨X2, 0, none⟩ = some (.slice A1 ns.length c1) := b_31.cell 0
  have x_35 : wc.cell? ⟨X2, 1, none⟩ = some (.slice B1 ps.length d1) := b_31.cell 1
  clear hbc
  by_cases t0 : K = 0
  case neg =>
    have e0 : (K != 0) = true := by simpa using t0
    clear t0
    go_wp2_with fail
    go_ret
    exact ⟨rfl, hB_32⟩
  subst t0
  obtain ⟨hcs, hfl⟩ := spF_parts HK.out
  have hX2 := spF_ok hcs hfl
  have hsx : setB ps.length xs = true := by
    rcases codeS_in ns ps ps.length xs with ⟨_, hs⟩ | hk | hk
    · exact hs
    · omega
    · omega
  have hxl := setB_len hsx
  obtain ⟨ix, hix⟩ : ∃ y, opI xs ps.length = y := ⟨_, rfl⟩
  have hil : ix.length = ys.length := by rw [← hix, ← op_len rfl hxl, flB_len hfl]
  have HIX := Lib.hid hix
  obtain ⟨ps2, hps2⟩ : ∃ y, opP ps xs ps.length = y := ⟨_, rfl⟩
  have HPS := Lib.hid hps2
  have hpl : ps2.length = ys.length := by rw [← hps2]; exact (flB_len hfl).symm
  have hXX : X = spr ps.length (ix.zip ys) := by rw [← HX.out, hX2, hix]
  have HXX := Lib.hid hXX
  have hXlen : X.length = ps.length := by rw [hXX, spr_len]
  have HXL := Lib.hid hXlen
  have HCS := Lib.hid hcs
  have HFY := Lib.hid (flB_all hfl)
  have HON := Lib.hid (show opNs ns ps ps.length xs = ns by unfold opNs; rw [if_pos hcs])
  have HOP := Lib.hid (show opPs ns ps ps.length xs = ps2 by unfold opPs; rw [if_pos hcs, hps2])
  have HOI := Lib.hid (show opIs ns ps ps.length xs = ix by unfold opIs; rw [if_pos hcs, hix])
  have HIY := Lib.hid (show ∀ z ∈ ys, -30000 ≤ z ∧ z ≤ 30000 from fun z hz => by have := List.all_eq_true.1 (flB_all hfl) z hz; simpa using (inB_iff _ _ _).1 this)
  have HIXB := Lib.hid (show ∀ z ∈ X, -30000 ≤ z ∧ z ≤ 30000 from fun z hz => by
    rw [hXX] at hz
    have h1 := spr_inR (m := ps.length) (l := ix.zip ys) (fun p hp => HIY.out p.2 (List.of_mem_zip hp).2)
    have := List.all_eq_true.1 h1 z hz
    simpa using this)
  have HAL := Lib.hid (show AllowP ns ps ps.length xs X ↔ agB xs ix ys ys.length = false from by
    have h1 := al_ag (fs := ys) hxl (by rw [hix]; exact hil)
    rw [hix, ← hXX] at h1
    have h2 : flB ps.length X = true := flB_of hXlen (List.all_eq_true.2 fun z hz => by have := HIXB.out z hz; simp [this])
    constructor
    · intro h3
      have h4 := h3.2.2
      rw [h1] at h4
      simpa using h4
    · intro h3
      exact ⟨⟨codeS_net' hcs, hsx⟩, h2, by rw [h1, h3]; rfl⟩)
  have HSUM := Lib.hid (show X.sum = ys.sum by rw [hXX, ← hix]; exact spr_total (fs := ys) hxl (by rw [hix]; exact hil))
  have HSP := Lib.hid (show ∀ i, i < ys.length → ∃ k z p f, k < ps.length ∧ ix[i]? = some ((k : Nat) : Int) ∧ xs[k]? = some z ∧ ps[k]? = some p ∧ ps2[i]? = some p ∧ X[k]? = some f ∧ ys[i]? = some f from fun i hi => by
    obtain ⟨k, z, h1, h2, h3, h4, h5⟩ := opI_spot hxl (show i < (opI xs ps.length).length by rw [hix]; omega)
    have h6 : ps[k]? = some ps[k] := List.getElem?_eq_getElem h1
    have h7 := opP_spot hxl rfl h2
    have h8 : ys[i]? = some ys[i] := List.getElem?_eq_getElem hi
    have h9 := spr_open (fl := ys) (m := ps.length) (by omega) (by rw [hix]; exact hil) h1 h3 h4
    rw [hix, ← hXX, ← h5] at h9
    refine ⟨k, z, ps[k], ys[i], h1, by rw [← hix]; exact h2, h3, h6, by rw [← hps2, h7, h6], ?_, h8⟩
    have h10 : X[k]? = some (X[k]'(by omega)) := List.getElem?_eq_getElem (by omega)
    rw [h10]
    have h11 : X.getD k 0 = X[k]'(by omega) := by rw [List.getD_eq_getElem?_getD, h10]; rfl
    have h12 : ys.getD i 0 = ys[i] := by rw [List.getD_eq_getElem?_getD, h8]; rfl
    rw [← h11, h9, h12])
  have G1 := Lib.hid hil
  have G2 := Lib.hid hpl
  clear hix hps2 hXX hXlen hfl hX2 hcs hsx hxl hil hpl
  go_wp2_with fail
  refine (openN_any _ _ _ _ _ _ _ _ ns ps xs _ net_26.reads set_27.ints (by omega)).mono ?_
  rw [HON.out, HOP.out, HOI.out, HCS.out]
  rintro e w5 ⟨P5, p5, Q5, q5, Z5, z5, rfl, oM5, oX5, hb5⟩
  have net_36 := net_26.below hb5
  clear net_26
  have set_37 := set_27.below hb5
  clear set_27
  have fl_38 := fl_28.below hb5
  clear fl_28
  have x_39 := x_29.below hb5
  clear x_29
  have y_40 := y_30.below hb5
  clear y_30
  have b_41 := b_31.belowA hb5
  have hB_42 := bthen hB_32 hb5 hB_32.size
  clear hB_32
  clear x_33 x_34 x_35
  clear b_31
  have x_43 := b_41.lt
  have x_44 : w5.cell? ⟨X2, 0, none⟩ = some (.slice A1 ns.length c1) := b_41.cell 0
  have x_45 : w5.cell? ⟨X2, 1, none⟩ = some (.slice B1 ps.length d1) := b_41.cell 1
  clear hb5
  have hb6 : Below w5.heap.size w5 (w5.alloc (.cells #[.slice P5 ns.length p5, .slice Q5 ps2.length q5] 27)) := (Below.refl _ _).alloc (Nat.le_refl _) _
  have b_46 := box_new w5 #[.slice P5 ns.length p5, .slice Q5 ps2.length q5] 27
  have net_47 := net_36.below hb6
  clear net_36
  have set_48 := set_37.below hb6
  clear set_37
  have fl_49 := fl_38.below hb6
  clear fl_38
  have x_50 := x_39.below hb6
  clear x_39
  have y_51 := y_40.below hb6
  clear y_40
  have op_52 := oM5.below hb6
  clear oM5
  have ix_53 := oX5.below hb6
  clear oX5
  have b_54 := b_41.belowA hb6
  clear b_41
  have hB_55 := bthen hB_42 hb6 hB_42.size
  clear hB_42
  go_wp2_with fail
  generalize (w5.alloc (.cells #[.slice P5 ns.length p5, .slice Q5 ps2.length q5] 27)) = w6 at *
  generalize w5.heap.size = X6 at *
  clear hb6
  clear x_43 x_44 x_45
  have x_56 := b_54.lt
  have x_57 : w6.cell? ⟨X2, 0, none⟩ = some (.slice A1 ns.length c1) := b_54.cell 0
  have x_58 : w6.cell? ⟨X2, 1, none⟩ = some (.slice B1 ps.length d1) := b_54.cell 1
  have x_59 := b_46.lt
  have x_60 : w6.cell? ⟨X6, 0, none⟩ = some (.slice P5 ns.length p5) := b_46.cell 0
  have x_61 : w6.cell? ⟨X6, 1, none⟩ = some (.slice Q5 ps2.length q5) := b_46.cell 1
  refine (sOpenN_any _ _ _ _ _ _ _ _ ns ps xs _ net_47.reads set_48.ints (by omega)).mono ?_
  rw [HON.out, HOP.out, HOI.out, HCS.out]
  rintro e w7 ⟨P7, p7, Q7, q7, Z7, z7, rfl, oM7, oX7, hb7⟩
  have net_62 := net_47.below hb7
  clear net_47
  have set_63 := set_48.below hb7
  clear set_48
  have fl_64 := fl_49.below hb7
  clear fl_49
  have x_65 := x_50.below hb7
  clear x_50
  have y_66 := y_51.below hb7
  clear y_51
  have op_67 := op_52.below hb7
  clear op_52
  have ix_68 := ix_53.below hb7
  clear ix_53
  have b_69 := b_54.belowA hb7
  have b_70 := b_46.belowA hb7
  have hB_71 := bthen hB_55 hb7 hB_55.size
  clear hB_55
  clear x_56 x_57 x_58 x_59 x_60 x_61
  clear b_54
  clear b_46
  have x_72 := b_69.lt
  have x_73 : w7.cell? ⟨X2, 0, none⟩ = some (.slice A1 ns.length c1) := b_69.cell 0
  have x_74 : w7.cell? ⟨X2, 1, none⟩ = some (.slice B1 ps.length d1) := b_69.cell 1
  have x_75 := b_70.lt
  have x_76 : w7.cell? ⟨X6, 0, none⟩ = some (.slice P5 ns.length p5) := b_70.cell 0
  have x_77 : w7.cell? ⟨X6, 1, none⟩ = some (.slice Q5 ps2.length q5) := b_70.cell 1
  clear hb7
  clear oM7
  have hb8 : Below w7.heap.size w7 (w7.alloc (.cells #[.slice P7 ns.length p7, .slice Q7 ps2.length q7] 27)) := (Below.refl _ _).alloc (Nat.le_refl _) _
  have b_78 := box_new w7 #[.slice P7 ns.length p7, .slice Q7 ps2.length q7] 27
  have net_79 := net_62.below hb8
  clear net_62
  have set_80 := set_63.below hb8
  clear set_63
  have fl_81 := fl_64.below hb8
  clear fl_64
  have x_82 := x_65.below hb8
  clear x_65
  have y_83 := y_66.below hb8
  clear y_66
  have op_84 := op_67.below hb8
  clear op_67
  have ix_85 := ix_68.below hb8
  clear ix_68
  have ix2_86 := oX7.below hb8
  clear oX7
  have b_87 := b_69.belowA hb8
  clear b_69
  have b_88 := b_70.belowA hb8
  clear b_70
  have hB_89 := bthen hB_71 hb8 hB_71.size
  clear hB_71
  go_wp2_with fail
  generalize (w7.alloc (.cells #[.slice P7 ns.length p7, .slice Q7 ps2.length q7] 27)) = w8 at *
  generalize w7.heap.size = X8 at *
  clear hb8
  clear x_72 x_73 x_74 x_75 x_76 x_77
  have x_90 := b_87.lt
  have x_91 : w8.cell? ⟨X2, 0, none⟩ = some (.slice A1 ns.length c1) := b_87.cell 0
  have x_92 : w8.cell? ⟨X2, 1, none⟩ = some (.slice B1 ps.length d1) := b_87.cell 1
  have x_93 := b_88.lt
  have x_94 : w8.cell? ⟨X6, 0, none⟩ = some (.slice P5 ns.length p5) := b_88.cell 0
  have x_95 : w8.cell? ⟨X6, 1, none⟩ = some (.slice Q5 ps2.length q5) := b_88.cell 1
  have x_96 := b_78.lt
  have x_97 : w8.cell? ⟨X8, 0, none⟩ = some (.slice P7 ns.length p7) := b_78.cell 0
  have x_98 : w8.cell? ⟨X8, 1, none⟩ = some (.slice Q7 ps2.length q7) := b_78.cell 1
  refine (likeInts_any _ _ _ _ _ _ _ _ _ ix_85.ints ix2_86.ints (by have := G1.out; omega)).mono ?_
  rintro e w9 ⟨rfl, hq9⟩
  have hb9 := hq9.below w8.heap.size
  have net_99 := net_79.below hb9
  clear net_79
  have set_100 := set_80.below hb9
  clear set_80
  have fl_101 := fl_81.below hb9
  clear fl_81
  have x_102 := x_82.below hb9
  clear x_82
  have y_103 := y_83.below hb9
  clear y_83
  have op_104 := op_84.below hb9
  clear op_84
  have ix_105 := ix_85.below hb9
  clear ix_85
  have ix2_106 := ix2_86.below hb9
  clear ix2_86
  have b_107 := b_87.belowA hb9
  have b_108 := b_88.belowA hb9
  have b_109 := b_78.belowA hb9
  have hB_110 := bthen hB_89 hb9 hB_89.size
  clear hB_89
  clear x_90 x_91 x_92 x_93 x_94 x_95 x_96 x_97 x_98
  clear b_87
  clear b_88
  clear b_78
  have x_111 := b_107.lt
  have x_112 : w9.cell? ⟨X2, 0, none⟩ = some (.slice A1 ns.length c1) := b_107.cell 0
  have x_113 : w9.cell? ⟨X2, 1, none⟩ = some (.slice B1 ps.length d1) := b_107.cell 1
  have x_114 := b_108.lt
  have x_115 : w9.cell? ⟨X6, 0, none⟩ = some (.slice P5 ns.length p5) := b_108.cell 0
  have x_116 : w9.cell? ⟨X6, 1, none⟩ = some (.slice Q5 ps2.length q5) := b_108.cell 1
  have x_117 := b_109.lt
  have x_118 : w9.cell? ⟨X8, 0, none⟩ = some (.slice P7 ns.length p7) := b_109.cell 0
  have x_119 : w9.cell? ⟨X8, 1, none⟩ = some (.slice Q7 ps2.length q7) := b_109.cell 1
  clear hb9
  clear hq9
  clear ix2_106 y_103
  have g1 : ((ps2.length : Int) != (ix.length : Int)) = false := by simp [G1.out, G2.out]
  have g2 : ((ix.length : Int) != (ys.length : Int)) = false := by simp [G1.out]
  obtain ⟨D, hD⟩ : ∃ y, ys.length = y := ⟨_, rfl⟩
  have HR0 := Lib.hid net_99
  have HR1 := Lib.hid set_100
  have HR2 := Lib.hid fl_101
  have HR3 := Lib.hid x_102
  have HR4 := Lib.hid op_104
  have HR5 := Lib.hid ix_105
  have HR6 := Lib.hid b_107
  have HR7 := Lib.hid b_108
  have HR8 := Lib.hid hB_110
  have HDD := Lib.hid hD
  clear hD
  have hWW : Below w9.heap.size w9 w9 := Below.refl _ _
  go_upto_region 18 with fail
  clear x_111 x_112 x_113 x_114 x_115 x_116 x_117 x_118 x_119 net_99 set_100 fl_101 x_102 op_104 ix_105 b_107 b_108 b_109 hB_110
  go_wp2_with fail
  go_loopw [16, 17] (fun bb ii wr => ∃ j : Nat, j ≤ ys.length ∧ ii = .int .i64 (j : Int) ∧ bb = .bool (agB xs ix ys j) ∧ Below w9.heap.size w9 wr) (fun _ ii _ => ys.length - (intOf ii).toNat)
  case atStart => exact ⟨0, Nat.zero_le _, rfl, rfl, hWW⟩
  case round =>
    obtain ⟨j, hj, rfl, rfl, hWr⟩ := hrel
    clear hWW
    by_cases hlt : j < ys.length
    · obtain ⟨k, z, p, f, hk, s1, s2, s3, s4, s5, s6⟩ := HSP.out j hlt
      have hil := G1.out
      have hpl := G2.out
      have hXL := HXL.out
      have HST := Lib.hid (agB_step xs ix ys j)
      have HZ1 := Lib.hid (show (ix.getD j 0).toNat = k by rw [List.getD_eq_getElem?_getD, s1]; rfl)
      have HZ2 := Lib.hid (show xs.getD k 0 = z by rw [List.getD_eq_getElem?_getD, s2]; rfl)
      have HZ3 := Lib.hid (show ys.getD j 0 = f by rw [List.getD_eq_getElem?_getD, s6]; rfl)
      have i1 : (j : Int) < (ix.length : Int) := by omega
      have i2 : ¬ ((k : Int) < 0) := by omega
      have i3 : ¬ ((ps.length : Int) ≤ (k : Int)) := by omega
      have hkz : k < xs.length := (List.getElem?_eq_some_iff.1 s2).1
      obtain ⟨a1, o1, z1, hA1, hb1, y1, t1, q1⟩ := (HR5.out.below hWr).ints.at_ (show j < ix.length by omega)
      obtain ⟨a2, o2, z2, hA2, hb2, y2, t2, q2⟩ := (HR3.out.below hWr).ints.at_ (show k < X.length by omega)
      obtain ⟨a3, o3, z3, hA3, hb3, y3, t3, q3⟩ := (HR2.out.below hWr).ints.at_ (show j < ys.length by omega)
      obtain ⟨a4, o4, z4, hA4, hb4, y4, t4, q4⟩ := (HR1.out.below hWr).ints.at_ hkz
      obtain ⟨a5, o5, pa5, hA5, hb5, y5, k5, f50, f51, f52, f53, f54⟩ := (HR0.out.below hWr).pipes.reads.at_ (show k < ps.length by omega)
      obtain ⟨a6, o6, pa6, hA6, hb6, y6, k6, f60, f61, f62, f63, f64⟩ := (HR4.out.below hWr).pipes.reads.at_ (show j < ps2.length by omega)
      rw [s1] at y1
      injection y1 with y1
      rw [s5] at y2
      injection y2 with y2
      rw [s6] at y3
      injection y3 with y3
      rw [s2] at y4
      injection y4 with y4
      rw [s3] at y5
      injection y5 with y5
      rw [s4] at y6
      injection y6 with y6
      subst y1 y2 y3 y4 y5 y6
      subst hA1 hA2 hA3 hA4 hA5 hA6
      have bn := HR6.out.belowA hWr
      have bo := HR7.out.belowA hWr
      have nl := bn.lt
      have n0 : wr.cell? ⟨X2, 0, none⟩ = some (.slice A1 ns.length c1) := bn.cell 0
      have n1 : wr.cell? ⟨X2, 1, none⟩ = some (.slice (some ⟨a5, o5, none⟩) ps.length d1) := bn.cell 1
      have ol := bo.lt
      have o0 : wr.cell? ⟨X6, 0, none⟩ = some (.slice P5 ns.length p5) := bo.cell 0
      have o1_ : wr.cell? ⟨X6, 1, none⟩ = some (.slice (some ⟨a6, o6, none⟩) ps2.length q5) := bo.cell 1
      have hpn := pipe_neq p.fr p.to p.k p.v p.l
      have n2 : j < ix.length := by omega
      have n3 : j < ps2.length := by omega
      have n4 : k < X.length := by omega
      clear bn bo s1 s2 s3 s4 s5 s6 hil hpl hXL
      go_upto_region 20 with fail
      go_cut [145] (fun t wx => t = .bool false ∧ Below wr.heap.size wr wx)
      case first =>
        go_big_quiet (fail)
        all_goals (go_wp2_with fail; go_meet)
        all_goals exact ⟨rfl, ⟨rfl, rfl, rfl, Nat.le_refl _, fun _ _ => rfl⟩⟩
      case rest =>
      obtain ⟨rfl, hbc⟩ := hcut
      have q1' := (hbc.cell (p := ⟨a1, o1 + j, none⟩) hb1).trans q1
      have q3' := (hbc.cell (p := ⟨a3, o3 + j, none⟩) hb3).trans q3
      have q4' := (hbc.cell (p := ⟨a4, o4 + k, none⟩) hb4).trans q4
      have hc1 := Nat.lt_of_lt_of_le hb1 hbc.size
      have hc3 := Nat.lt_of_lt_of_le hb3 hbc.size
      have hc4 := Nat.lt_of_lt_of_le hb4 hbc.size
      have hW2 := bthen hWr hbc hWr.size
      clear q1 q2 q3 q4 f50 f51 f52 f53 f54 f60 f61 f62 f63 f64 n0 n1 o0 o1_ nl ol hpn hb1 hb2 hb3 hb4 hb5 hb6
      cases hag : agB xs ix ys j
      · by_cases hz2 : z = 2
        · subst hz2
          by_cases hf0 : f < 0
          · have HR := Lib.hid (show agB xs ix ys (j + 1) = true by rw [HST.out, hag, HZ1.out, HZ2.out, HZ3.out]; simp [hf0])
            clear hag
            go_wp2_with fail
            go_roundw
            case rel => exact ⟨j + 1, by omega, by go_num, by rw [HR.out], hW2⟩
            case measure => simp [intOf]; omega
          · have HR := Lib.hid (show agB xs ix ys (j + 1) = false by rw [HST.out, hag, HZ1.out, HZ2.out, HZ3.out]; simp; omega)
            clear hag
            go_wp2_with fail
            go_roundw
            case rel => exact ⟨j + 1, by omega, by go_num, by rw [HR.out], hW2⟩
            case measure => simp [intOf]; omega
        · have e2 : (z == 2) = false := by simpa using hz2
          have HR := Lib.hid (show agB xs ix ys (j + 1) = false by rw [HST.out, hag, HZ1.out, HZ2.out, HZ3.out, e2]; rfl)
          clear hag
          go_wp2_with fail
          go_roundw
          case rel => exact ⟨j + 1, by omega, by go_num, by rw [HR.out], hW2⟩
          case measure => simp [intOf]; omega
      · have HR := Lib.hid (show agB xs ix ys (j + 1) = true by rw [HST.out, hag]; rfl)
        clear hag
        go_wp2_with fail
        go_roundw
        case rel => exact ⟨j + 1, by omega, by go_num, by rw [HR.out], hW2⟩
        case measure => simp [intOf]; omega
    · have HJ := Lib.hid (show j = ys.length by omega)
      have i1 : ¬ (j : Int) < (ix.length : Int) := by have := G1.out; omega
      have bn := HR6.out.belowA hWr
      have nl := bn.lt
      have n0 : wr.cell? ⟨X2, 0, none⟩ = some (.slice A1 ns.length c1) := bn.cell 0
      have n1 : wr.cell? ⟨X2, 1, none⟩ = some (.slice B1 ps.length d1) := bn.cell 1
      have KW := bthen HR8.out hWr HR8.out.size
      have hys : ys.length ≤ 1000 := by omega
      obtain ⟨ag, hag⟩ : ∃ y, agB xs ix ys j = y := ⟨_, rfl⟩
      have HAG := Lib.hid (show agB xs ix ys ys.length = ag by rw [← HJ.out]; exact hag)
      rw [hag]
      clear bn hag
      go_wp2_with fail
      refine (isAllowed_any _ _ _ _ _ _ _ _ _ _ ns ps xs X _ (HR0.out.below hWr).reads (HR1.out.below hWr).ints (HR3.out.below hWr).ints (by omega) (by omega)).mono ?_
      rintro e10 v10 ⟨b4, hb4, rfl, hbl⟩
      obtain rfl : b4 = !ag := by rw [HAL.out, HAG.out] at hb4; rw [Bool.eq_iff_iff, hb4]; simp
      have KW2 := bthen KW hbl KW.size
      have hX10 := ((HR3.out.below hWr).below hbl).ints
      have hY10 := ((HR2.out.below hWr).below hbl).ints
      clear n0 n1 nl hb4
      have HK2 := Lib.hid KW2
      have HX10 := Lib.hid hX10
      have HY10 := Lib.hid hY10
      clear KW KW2 hX10 hY10 hbl hWr
      cases ag
      all_goals
        go_wp2_with fail
        refine (sum_any _ _ _ X _ HX10.out (by omega) HIXB.out).mono ?_
        rw [HSUM.out]
        rintro e11 v11 ⟨rfl, rfl⟩
        go_wp2_with fail
        refine (sum_any _ _ _ ys _ HY10.out hys HIY.out).mono ?_
        rintro e12 v12 ⟨rfl, rfl⟩
        go_wp2_with fail
        go_ret
        exact ⟨rfl, HK2.out⟩
end Go.Proofs.Ytebefamekjjbcaa
