/- The walk of the law FnSettledFlows. No condition. -/
import Derived.Test.YtpgegfnhokhlmabGreatNDraw9
import Derived.Test.YtpgegfnhokhlmabGreatBlc
import Derived.Test.YtpgegfnhokhlmabGreatFac
import Derived.Test.YtpgegfnhokhlmabGreatBig
set_option linter.unusedVariables false
set_option maxRecDepth 100000
namespace Go.Proofs.YtpgegfnhokhlmabGreat
open Go.ChangeShapes Go.WideShapes Go.ChangeAt Go.RowKit Go.Joins Go.Deep
attribute [local go_sem ↓] Go.wp_at_zero Go.wp_at_succ

set_option maxHeartbeats 16000000 in
theorem law_FnSettledFlows (A : Option Addr) (n c : Nat) (zs : List Int) (w : World) (h0 : Byts w A n zs ∧ n ≤ c ∧ c ≤ maxLen) :
    Calls Tryz.prog 6 #[.slice A n c] w fun e w' => e = .returned (.bool true) ∧ Below w.heap.size w w' := by
  obtain ⟨h, hnc, hcm⟩ := h0
  unfold maxLen at hcm
  by_cases hbig : 4096 < n
  · have hg := fun W => big_any A n c W (by omega)
    simp only [hbig, decide_true] at hg
    have HG := Lib.hid hg
    clear hg
    go_enter Tryz.func6, Tryz.ntmps6
    go_wp2_with (go_at_call 15; refine (HG.out _).mono ?_; rintro e w' ⟨rfl, rfl⟩)
    go_ret
    exact ⟨rfl, Below.refl _ _⟩
  have hg := fun W => big_any A n c W (by omega)
  simp only [hbig, decide_false] at hg
  have HG := Lib.hid hg
  have hn : n ≤ 4096 := by omega
  clear hg hbig
  go_enter Tryz.func6, Tryz.ntmps6
  go_wp2_with (go_at_call 15; refine (HG.out _).mono ?_; rintro e w' ⟨rfl, rfl⟩)
  refine (drawSF_any _ _ _ _ _ h hn).mono ?_
  rintro e w1 ⟨A1, c1, B1, d1, ns, ps, A2, c2, xs, A3, c3, ys, rfl, oN1, oX1, oY1, hk7, hm11, hl1, hl2, hW1⟩
  clear h
  obtain ⟨K, hK⟩ : ∃ y, sefC ns ps ps.length xs ys = y := ⟨_, rfl⟩
  have HK := Lib.hid hK
  clear hK
  obtain ⟨L, hL⟩ : ∃ y, sefL ns ps ps.length xs ys = y := ⟨_, rfl⟩
  have HL := Lib.hid hL
  clear hL
  have hb2 : Below w1.heap.size w1 (w1.alloc (.cells #[.slice A1 ns.length c1, .slice B1 ps.length d1] 33)) := (Below.refl _ _).alloc (Nat.le_refl _) _
  have b_1 := box_new w1 #[.slice A1 ns.length c1, .slice B1 ps.length d1] 33
  have set_2 := oX1.below hb2
  clear oX1
  have net_3 := oN1.below hb2
  clear oN1
  have sup_4 := oY1.below hb2
  clear oY1
  have hB_5 := bthen hW1 hb2 hW1.size
  clear hW1
  go_wp2_with fail
  generalize (w1.alloc (.cells #[.slice A1 ns.length c1, .slice B1 ps.length d1] 33)) = w2 at *
  generalize w1.heap.size = X2 at *
  clear hb2
  have x_6 := b_1.lt
  have x_7 : w2.cell? ⟨X2, 0, none⟩ = some (.slice A1 ns.length c1) := b_1.cell 0
  have x_8 : w2.cell? ⟨X2, 1, none⟩ = some (.slice B1 ps.length d1) := b_1.cell 1
  have hLl : L.length ≤ 1048576 := by rw [← HL.out]; have := sefL_len (ns := ns) (ps := ps) (m := ps.length) (zs := xs) (sup := ys); omega
  refine (settled_any _ _ _ _ _ _ _ _ _ _ ns ps xs ys _ net_3.reads set_2.ints sup_4.ints (by omega) (by omega)).mono ?_
  rw [HL.out, HK.out]
  rintro e w3 ⟨P3, p3, rfl, oX3, hb3⟩
  have set_9 := set_2.below hb3
  clear set_2
  have net_10 := net_3.below hb3
  clear net_3
  have sup_11 := sup_4.below hb3
  clear sup_4
  have b_12 := b_1.belowA hb3
  have hB_13 := bthen hB_5 hb3 hB_5.size
  clear hB_5
  clear x_6 x_7 x_8
  clear b_1
  have x_14 := b_12.lt
  have x_15 : w3.cell? ⟨X2, 0, none⟩ = some (.slice A1 ns.length c1) := b_12.cell 0
  have x_16 : w3.cell? ⟨X2, 1, none⟩ = some (.slice B1 ps.length d1) := b_12.cell 1
  clear hb3
  go_wp2_with fail
  refine (sSettled_any _ _ _ _ _ _ _ _ _ _ ns ps xs ys _ net_10.reads set_9.ints sup_11.ints sup_11.nilc (by omega) (by omega)).mono ?_
  rw [HL.out, HK.out]
  rintro e w4 ⟨P4, p4, rfl, oX4, hb4⟩
  have set_17 := set_9.below hb4
  clear set_9
  have net_18 := net_10.below hb4
  clear net_10
  have sup_19 := sup_11.below hb4
  clear sup_11
  have x_20 := oX3.below hb4
  clear oX3
  have b_21 := b_12.belowA hb4
  have hB_22 := bthen hB_13 hb4 hB_13.size
  clear hB_13
  clear x_14 x_15 x_16
  clear b_12
  have x_23 := b_21.lt
  have x_24 : w4.cell? ⟨X2, 0, none⟩ = some (.slice A1 ns.length c1) := b_21.cell 0
  have x_25 : w4.cell? ⟨X2, 1, none⟩ = some (.slice B1 ps.length d1) := b_21.cell 1
  clear hb4
  go_wp2_with fail
  refine (likeInts_any _ _ _ _ _ _ _ _ _ x_20.ints oX4.ints hLl).mono ?_
  rintro e w5 ⟨rfl, hq5⟩
  have hb5 := hq5.below w4.heap.size
  have set_26 := set_17.below hb5
  clear set_17
  have net_27 := net_18.below hb5
  clear net_18
  have sup_28 := sup_19.below hb5
  clear sup_19
  have x_29 := x_20.below hb5
  clear x_20
  have y_30 := oX4.below hb5
  clear oX4
  have b_31 := b_21.belowA hb5
  have hB_32 := bthen hB_22 hb5 hB_22.size
  clear hB_22
  clear x_23 x_24 x_25
  clear b_21
  have x_33 := b_31.lt
  have x_34 : w5.cell? ⟨X2, 0, none⟩ = some (.slice A1 ns.length c1) := b_31.cell 0
  have x_35 : w5.cell? ⟨X2, 1, none⟩ = some (.slice B1 ps.length d1) := b_31.cell 1
  clear hb5
  clear hq5
  by_cases t0 : K = 0
  case neg =>
    have e0 : (K != 0) = true := by simpa using t0
    clear t0
    go_wp2_with fail
    go_ret
    exact ⟨rfl, hB_32⟩
  subst t0
  obtain ⟨hok, hfl, hfy, hbl, hal⟩ := sef_facts rfl HK.out
  rw [HL.out] at hfl hbl hal
  have HOK := Lib.hid hok.1
  have H1 := Lib.hid hfl
  have H2 := Lib.hid hfy
  have HB := Lib.hid hbl
  have HA := Lib.hid (show AllowP ns ps ps.length xs L from ⟨hok, hfl, hal⟩)
  clear hok hfy hfl hbl hal
  go_wp2_with fail
  refine (balanced_any _ _ _ _ _ _ _ _ _ _ ns ps L ys _ net_27.reads HOK.out x_29.ints sup_28.ints H1.out H2.out HB.out).mono ?_
  rintro e w6 ⟨rfl, hb6⟩
  have set_36 := set_26.below hb6
  clear set_26
  have net_37 := net_27.below hb6
  clear net_27
  have sup_38 := sup_28.below hb6
  clear sup_28
  have x_39 := x_29.below hb6
  clear x_29
  have y_40 := y_30.below hb6
  clear y_30
  have b_41 := b_31.belowA hb6
  have hB_42 := bthen hB_32 hb6 hB_32.size
  clear hB_32
  clear x_33 x_34 x_35
  clear b_31
  have x_43 := b_41.lt
  have x_44 : w6.cell? ⟨X2, 0, none⟩ = some (.slice A1 ns.length c1) := b_41.cell 0
  have x_45 : w6.cell? ⟨X2, 1, none⟩ = some (.slice B1 ps.length d1) := b_41.cell 1
  clear hb6
  go_wp2_with fail
  refine (isAllowed_any _ _ _ _ _ _ _ _ _ _ ns ps xs L _ net_37.reads set_36.ints x_39.ints (by omega) hLl).mono ?_
  rintro e w7 ⟨b, hb, rfl, hb7⟩
  have set_46 := set_36.below hb7
  clear set_36
  have net_47 := net_37.below hb7
  clear net_37
  have sup_48 := sup_38.below hb7
  clear sup_38
  have x_49 := x_39.below hb7
  clear x_39
  have y_50 := y_40.below hb7
  clear y_40
  have b_51 := b_41.belowA hb7
  have hB_52 := bthen hB_42 hb7 hB_42.size
  clear hB_42
  clear x_43 x_44 x_45
  clear b_41
  have x_53 := b_51.lt
  have x_54 : w7.cell? ⟨X2, 0, none⟩ = some (.slice A1 ns.length c1) := b_51.cell 0
  have x_55 : w7.cell? ⟨X2, 1, none⟩ = some (.slice B1 ps.length d1) := b_51.cell 1
  clear hb7
  obtain rfl : b = true := hb.2 HA.out
  go_wp2_with fail
  go_ret
  exact ⟨rfl, hB_52⟩
end Go.Proofs.YtpgegfnhokhlmabGreat
