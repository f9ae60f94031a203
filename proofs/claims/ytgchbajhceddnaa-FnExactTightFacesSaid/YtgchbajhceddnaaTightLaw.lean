/- The walk of the law on TightFaces. No condition. -/
import Derived.Test.YtgchbajhceddnaaMarkF
import Derived.Test.YtgchbajhceddnaaTight
set_option linter.unusedVariables false
namespace Go.Proofs.Ytgchbajhceddnaa
open Go.RowKit Go.Joins Go.Deep
attribute [local go_sem ↓] Go.wp_at_zero Go.wp_at_succ

theorem apart_of {A A' : Option Addr} {N : Nat} (h : ∀ g, A.map (·.block) = some g → g < N) (h' : ∀ g, A'.map (·.block) = some g → N ≤ g) :
    (∀ g, A' = some ⟨g, 0, none⟩ → A.map (·.block) ≠ some g) ∧ (∀ g, A = some ⟨g, 0, none⟩ → A'.map (·.block) ≠ some g) := by
  refine ⟨fun g hg hh => ?_, fun g hg hh => ?_⟩
  · have h1 := h g hh
    have h2 := h' g (by rw [hg]; rfl)
    omega
  · have h1 := h g (by rw [hg]; rfl)
    have h2 := h' g hh
    omega
theorem tightOf_le {n : Nat} {fs : List Fc} {fu le q r : Int} (h : fs.length ≤ 1048576) : (tightOf n fs fu le q r).length ≤ 1048576 := by
  unfold tightOf
  split
  · exact Nat.le_trans (tightTo_le _ _ _ _) h
  · simp
set_option maxHeartbeats 8000000 in
theorem law_FnExactTightFaces (A : Option Addr) (n c : Nat) (fs : List Fc) (fu le : Int) (q r : Int) (w : World) (h0 : Faces w A n fs ∧ n ≤ c ∧ c ≤ maxLen ∧ I64 fu ∧ I64 le) (_hq : I64 q) (_hr : I64 r) :
    Calls Try.prog 8 #[.agg #[.slice A n c, .int .i64 fu, .int .i64 le], .int .i64 q, .int .i64 r] w fun e w' => e = .returned (.bool true) ∧ Below w.heap.size w w' := by
  obtain ⟨h, hnc, hcm, hfu, hle⟩ := h0
  obtain rfl : fs.length = n := h.len
  unfold maxLen at hcm
  have hI0 := h.alloc (.cells #[.slice A fs.length c, .int .i64 fu, .int .i64 le] 27)
  have hW : Below w.heap.size w (w.alloc (.cells #[.slice A fs.length c, .int .i64 fu, .int .i64 le] 27)) := (Below.refl _ _).alloc (Nat.le_refl _) _
  by_cases hbig : (fs.length : Int) ≤ 1048576
  case neg =>
    go_enter Try.func8, Try.ntmps8
    go_wp2_with fail
    have hsz := fun W => szComp_any A fs.length c fu le 1048576 W (by omega) (by omega) (by omega)
    rw [if_neg (by omega)] at hsz
    refine (hsz _).mono ?_
    clear hsz
    rintro e w1 ⟨rfl, hb1⟩
    go_wp2_with fail
    go_ret
    exact ⟨rfl, bthen hW hb1 hW.size⟩
  have hn : fs.length ≤ 1048576 := by omega
  have hs : (tightOf fs.length fs fu le q r).length ≤ 1048576 := tightOf_le hn
  obtain ⟨T, hT⟩ : ∃ T, tightOf fs.length fs fu le q r = T := ⟨_, rfl⟩
  have hts := fun W A c hF => sTight_any A fs.length c fs fu le q r W hF (by omega)
  have hti := fun W A c hF => tight_any A fs.length c fs fu le q r W hF (by omega)
  rw [hT] at hs hts hti
  have HTS := Lib.hid hts
  have HTI := Lib.hid hti
  clear hts hti hT
  go_enter Try.func8, Try.ntmps8
  go_wp2_with fail
  have hsz := fun W => szComp_any A fs.length c fu le 1048576 W (by omega) (by omega) (by omega)
  rw [if_pos hbig] at hsz
  refine (hsz _).mono ?_
  clear hsz
  rintro e w1 ⟨rfl, hB1⟩
  obtain ⟨hc1, hf1⟩ := bcell hB1
  have hz1 : w.heap.size < w1.heap.size := by have := hB1.size; simp at this; omega
  go_wp2_with fail
  refine (toComp_any _ _ _ _ _ _ (hI0.below hB1) hn).mono ?_
  rintro e w2 ⟨A2, c2, rfl, ho2, hb2⟩
  have hB2 := bthen hB1 hb2 hB1.size
  clear hB1 hb2 hc1 hf1 hz1
  go_wp2_with fail
  refine (HTS.out _ _ _ ho2.faces).mono ?_
  rintro e w3 ⟨A3, c3, rfl, how3, hb3⟩
  have hB3 := bthen hB2 hb3 hB2.size
  clear hB2 hb3 ho2
  obtain ⟨hc3, hf3⟩ := bcell hB3
  have hz3 : w.heap.size < w3.heap.size := by have := hB3.size; simp at this; omega
  go_wp2_with fail
  refine (toComp_any _ _ _ _ _ _ (hI0.below hB3) hn).mono ?_
  rintro e w4 ⟨A4, c4, rfl, ho4, hb4⟩
  have lt3 := fun g hg => (how3.lt g hg).2
  have ge4 := fun g hg => (ho4.1.lt g hg).1
  have lt4 := fun g hg => (ho4.1.lt g hg).2
  have AP34 := Lib.hid (apart_of lt3 ge4)
  have GE4 := Lib.hid (fun g hg => Nat.le_trans hB3.size (ge4 g hg))
  have how4 := how3.below hb4
  have hB4 := bthen hB3 hb4 hB3.size
  have h34 := hb4.size
  clear hB3 hb4 hc3 hf3 hz3 how3 ge4
  obtain ⟨hc4, hf4⟩ := bcell hB4
  have hz4 : w.heap.size < w4.heap.size := by have := hB4.size; simp at this; omega
  go_wp2_with fail
  have hb45 : Below w4.heap.size w4 (w4.alloc (.cells #[.slice A4 fs.length c4, .int .i64 fu, .int .i64 le] 32)) := (Below.refl _ _).alloc (Nat.le_refl _) _
  have ho5 := ho4.below hb45
  have how5 := how4.below hb45
  refine (HTI.out _ _ _ ho5.faces).mono ?_
  rintro e w6 ⟨A6, c6, rfl, hog6, hb6⟩
  have ge6 := fun g hg => (hog6.lt g hg).1
  have AP46 := Lib.hid (apart_of lt4 (fun g hg => Nat.le_trans (by simp) (ge6 g hg)))
  have AP36 := Lib.hid (apart_of lt3 (fun g hg => Nat.le_trans (by simp; omega) (ge6 g hg)))
  have ho6 := ho5.below hb6
  have how6 := how5.below hb6
  have hB5 : Below (w.alloc (.cells #[.slice A fs.length c, .int .i64 fu, .int .i64 le] 27)).heap.size (w.alloc (.cells #[.slice A fs.length c, .int .i64 fu, .int .i64 le] 27)) (w4.alloc (.cells #[.slice A4 fs.length c4, .int .i64 fu, .int .i64 le] 32)) := hB4.alloc hB4.size _
  have hB6 := bthen hB5 hb6 hB5.size
  have GE6 := Lib.hid (fun g hg => Nat.le_trans hB5.size (ge6 g hg))
  replace hog6 := hog6.mono hB5.size
  have hz6 : w4.heap.size < w6.heap.size := by have := hb6.size; simp at this; omega
  have x0 : w6.cell? ⟨w4.heap.size, 0, none⟩ = some (.slice A4 fs.length c4) := (hb6.cell (by simp)).trans (by simp)
  have x1 : w6.cell? ⟨w4.heap.size, 1, none⟩ = some (.int .i64 fu) := (hb6.cell (by simp)).trans (by simp)
  have x2 : w6.cell? ⟨w4.heap.size, 2, none⟩ = some (.int .i64 le) := (hb6.cell (by simp)).trans (by simp)
  have y0 : w6.cell? ⟨w.heap.size, 0, none⟩ = some (.slice A fs.length c) := (hB6.cell (by simp)).trans (by simp)
  have y1 : w6.cell? ⟨w.heap.size, 1, none⟩ = some (.int .i64 fu) := (hB6.cell (by simp)).trans (by simp)
  have y2 : w6.cell? ⟨w.heap.size, 2, none⟩ = some (.int .i64 le) := (hB6.cell (by simp)).trans (by simp)
  clear hB4 hB5 hb6 ho4 ho5 hc4 hf4 how4 how5 hb45 lt3 lt4 ge6
  have hzW : w.heap.size < (w.alloc (.cells #[.slice A fs.length c, .int .i64 fu, .int .i64 le] 27)).heap.size := by simp
  have hW00 : (w.alloc (.cells #[.slice A fs.length c, .int .i64 fu, .int .i64 le] 27)).cell? ⟨w.heap.size, 0, none⟩ = some (.slice A fs.length c) := by simp
  have hW01 : (w.alloc (.cells #[.slice A fs.length c, .int .i64 fu, .int .i64 le] 27)).cell? ⟨w.heap.size, 1, none⟩ = some (.int .i64 fu) := by simp
  have hW02 : (w.alloc (.cells #[.slice A fs.length c, .int .i64 fu, .int .i64 le] 27)).cell? ⟨w.heap.size, 2, none⟩ = some (.int .i64 le) := by simp
  generalize w.alloc (.cells #[.slice A fs.length c, .int .i64 fu, .int .i64 le] 27) = W0 at hzW hW00 hW01 hW02 hog6 hB6 hW hI0 GE4 GE6
  go_wp2_with fail
  refine (eqInts_any _ _ _ _ _ _ _ _ _ hog6.ints how6.ints hs).mono ?_
  rintro e w7 ⟨rfl, hq7⟩
  have kB : Kept (Below W0.heap.size W0 w7.drew) := ⟨(bthen hB6 (hq7.below _) hB6.size).drew⟩
  have kF : Kept (OwnF w7.drew _ A4 fs.length c4 fs) := ⟨ho6.below (hq7.below _).drew⟩
  have kW : Kept (Own w7.drew _ A3 T.length c3 T) := ⟨(how6.qt hq7).drew⟩
  have kG : Kept (Own w7.drew _ A6 T.length c6 T) := ⟨(hog6.qt hq7).drew⟩
  replace x0 := (hq7.cell _).trans x0
  replace x1 := (hq7.cell _).trans x1
  replace x2 := (hq7.cell _).trans x2
  replace y0 := (hq7.cell _).trans y0
  replace y1 := (hq7.cell _).trans y1
  replace y2 := (hq7.cell _).trans y2
  have hz7 : w4.heap.size < w7.heap.size := Nat.lt_of_lt_of_le hz6 (hq7.below 0).size
  clear ho6 how6 hog6 hB6 hz6 hq7
  go_wp2_with fail
  go_region_held3 (fun w' => w4.heap.size < w'.heap.size ∧ w'.cell? ⟨w4.heap.size, 0, none⟩ = some (.slice A4 fs.length c4) ∧ w'.cell? ⟨w4.heap.size, 1, none⟩ = some (.int .i64 fu) ∧ w'.cell? ⟨w4.heap.size, 2, none⟩ = some (.int .i64 le) ∧ w'.cell? ⟨w.heap.size, 0, none⟩ = some (.slice A fs.length c) ∧ w'.cell? ⟨w.heap.size, 1, none⟩ = some (.int .i64 fu) ∧ w'.cell? ⟨w.heap.size, 2, none⟩ = some (.int .i64 le) ∧ Kept (OwnF w' w3.heap.size A4 fs.length c4 fs) ∧ Kept (Own w' w2.heap.size A3 T.length c3 T) ∧ Kept (Own w' W0.heap.size A6 T.length c6 T) ∧ Kept (Below W0.heap.size W0 w'))
    (first | go_keep | (go_split_ands; refine ⟨by have := hb8.size; omega, ?_, ?_, ?_, ?_, ?_, ?_, ⟨(Kept.out ‹Kept (OwnF _ _ _ _ _ _)›).below hb8⟩, ⟨(Kept.out ‹Kept (Own _ _ A3 _ _ _)›).below hb8⟩, ⟨(Kept.out ‹Kept (Own _ _ A6 _ _ _)›).below hb8⟩, ⟨bthen (Kept.out ‹Kept (Below _ _ _)›) hb8 (Kept.out ‹Kept (Below _ _ _)›).size⟩⟩ <;> (rw [hb8.cell (by simp; omega)]; assumption)))
    (first | (go_at_call 19; go_split_ands; refine (toComp_any _ _ _ _ _ _ (hI0.below (Kept.out ‹Kept (Below _ _ _)›)) hn).mono ?_; rintro e w8 ⟨A8, c8, rfl, ho8, hb8⟩) | (go_at_call 21; go_split_ands; refine (eqComp_any _ _ _ _ _ _ _ _ _ (Kept.out ‹Kept (OwnF _ _ _ _ _ _)›).faces ho8.faces hn).mono ?_; rintro e w9 ⟨rfl, hb8⟩))
  rename_i hh
  obtain ⟨z9, a0, a1, a2, b0, b1, b2, ⟨hx9⟩, ⟨hw9⟩, ⟨hg9⟩, ⟨hB9⟩⟩ := hh
  clear kB kF kW kG x0 x1 x2 y0 y1 y2 hz7
  go_wp2_with fail
  refine (markComp_any _ _ _ _ _ _ _ _ _ hx9.1 hn (by omega) (by omega)).mono ?_
  rintro e w10 ⟨rfl, hg10⟩
  have hw10 := hw9.grown hg10 AP34.out.2
  have hgg10 := hg9.grown hg10 AP46.out.1
  have hB10 := hB9.grown hg10 hB9.size GE4.out
  clear hw9 hg9 hB9 hg10 hx9 ho8 hb8
  go_wp2_with fail
  refine (eqInts_any _ _ _ _ _ _ _ _ _ hgg10.ints hw10.ints hs).mono ?_
  rintro e w11 ⟨rfl, hq11⟩
  have hw11 := hw10.qt hq11
  have hg11 := hgg10.qt hq11
  have hB11 := bthen hB10 (hq11.below _) hB10.size
  clear hw10 hgg10 hB10 hq11
  go_wp2_with fail
  refine (markInts_any _ _ _ _ _ _ _ hg11 hs (by omega) (by omega)).mono ?_
  rintro e w12 ⟨rfl, hg12, hgr12⟩
  have hw12 := hw11.grown hgr12 AP36.out.2
  have hB12 := hB11.grown hgr12 hB11.size GE6.out
  clear hw11 hg11 hB11 hgr12
  go_wp2_with fail
  refine (heldInts_any _ _ _ _ _ hg12.ints hs (by omega) (by omega)).mono ?_
  rintro e w' ⟨rfl, rfl⟩
  have y0 : w12.cell? ⟨w.heap.size, 0, none⟩ = some (.slice A fs.length c) := (hB12.cell hzW).trans hW00
  have y1 : w12.cell? ⟨w.heap.size, 1, none⟩ = some (.int .i64 fu) := (hB12.cell hzW).trans hW01
  have y2 : w12.cell? ⟨w.heap.size, 2, none⟩ = some (.int .i64 le) := (hB12.cell hzW).trans hW02
  go_wp2_with fail
  refine (toComp_any _ _ _ _ _ _ (hI0.below hB12) hn).mono ?_
  rintro e w13 ⟨A13, c13, rfl, ho13, hb13⟩
  have hw13 := hw12.below hb13
  have hg13 := hg12.below hb13
  have hB13 := bthen hB12 hb13 hB12.size
  clear hw12 hg12 hB12 hb13 y0 y1 y2
  go_wp2_with fail
  refine (HTI.out _ _ _ ho13.faces).mono ?_
  rintro e w14 ⟨A14, c14, rfl, hoh14, hb14⟩
  have hw14 := hw13.below hb14
  have hg14 := hg13.below hb14
  have hB14 := bthen hB13 hb14 hB13.size
  clear hw13 hg13 hB13 hb14 ho13
  go_wp2_with fail
  refine (eqInts_any _ _ _ _ _ _ _ _ _ hoh14.ints hw14.ints hs).mono ?_
  rintro e w15 ⟨rfl, hq15⟩
  have hg15 := hg14.qt hq15
  have hB15 := bthen hB14 (hq15.below _) hB14.size
  clear hw14 hg14 hB14 hoh14
  go_wp2_with fail
  refine (heldInts_any _ _ _ _ _ hg15.ints hs (by omega) (by omega)).mono ?_
  rintro e w' ⟨rfl, rfl⟩
  go_wp2_with fail
  go_ret
  exact ⟨rfl, bthen hW hB15 hW.size⟩
end Go.Proofs.Ytgchbajhceddnaa
