/- The walk of the law FnPlans. No condition. -/
import Derived.Test.YtiofjnohdmminaaBig
import Derived.Test.YtiofjnohdmminaaUDraw4
import Derived.Test.YtiofjnohdmminaaPlanL
import Derived.Test.YtiofjnohdmminaaUnit
set_option linter.unusedVariables false
set_option maxRecDepth 100000
namespace Go.Proofs.Ytiofjnohdmminaa
open Go.RowKit Go.Joins Go.Deep
attribute [local go_sem ↓] Go.wp_at_zero Go.wp_at_succ

set_option maxHeartbeats 8000000 in
theorem law_FnPlans (A : Option Addr) (n c : Nat) (zs : List Int) (w : World) (h0 : Byts w A n zs ∧ n ≤ c ∧ c ≤ maxLen) :
    Calls Try.prog 14 #[.slice A n c] w fun e w' => e = .returned (.bool true) ∧ Below w.heap.size w w' := by
  obtain ⟨h, hnc, hcm⟩ := h0
  unfold maxLen at hcm
  by_cases hbig : 4096 < n
  · have hg := fun W => big_any A n c W (by omega)
    simp only [hbig, decide_true] at hg
    have HG := Lib.hid hg
    clear hg
    go_enter Try.func14, Try.ntmps14
    go_wp2_with (go_at_call 39; refine (HG.out _).mono ?_; rintro e w' ⟨rfl, rfl⟩)
    go_ret
    exact ⟨rfl, Below.refl _ _⟩
  have hg := fun W => big_any A n c W (by omega)
  simp only [hbig, decide_false] at hg
  have HG := Lib.hid hg
  have hn : n ≤ 4096 := by omega
  clear hg hbig
  go_enter Try.func14, Try.ntmps14
  go_wp2_with (go_at_call 39; refine (HG.out _).mono ?_; rintro e w' ⟨rfl, rfl⟩)
  refine (drawBestPlan_any _ _ _ _ _ h hn).mono ?_
  rintro e v1 ⟨s, u, d, A2, c2, S, rfl, is, iu, id, oS, hS, hw1⟩
  have bX1 := box_new v1 #[.int .i64 s, .int .i64 u, .int .i64 d] 25
  have hW1 : Below w.heap.size w (v1.alloc (.cells #[.int .i64 s, .int .i64 u, .int .i64 d] 25)) := hw1.alloc hw1.size _
  have S1 := oS.alloc (.cells #[.int .i64 s, .int .i64 u, .int .i64 d] 25)
  have Y1 := (h.below hw1).below ((Below.refl v1.heap.size v1).alloc (Nat.le_refl _) (.cells #[.int .i64 s, .int .i64 u, .int .i64 d] 25))
  go_wp2_with fail
  generalize v1.alloc (.cells #[.int .i64 s, .int .i64 u, .int .i64 d] 25) = w1 at *
  generalize v1.heap.size = X at *
  clear oS hw1
  have xl := bX1.lt
  have x0 : w1.cell? ⟨X, 0, none⟩ = some (.int .i64 s) := bX1.cell 0
  have x1 : w1.cell? ⟨X, 1, none⟩ = some (.int .i64 u) := bX1.cell 1
  have x2 : w1.cell? ⟨X, 2, none⟩ = some (.int .i64 d) := bX1.cell 2
  refine (bestP_any _ _ _ _ _ _ _ S1.ints (by omega)).mono ?_
  rintro e w2 ⟨A4, c4, rfl, P2, hb2⟩
  have bX2 := bX1.belowA hb2
  have hW2 := bthen hW1 hb2 hW1.size
  have S2 := S1.below hb2
  have Y2 := Y1.below hb2
  clear x0 x1 x2 xl bX1 hW1 hb2 S1 Y1
  have xl := bX2.lt
  have x0 : w2.cell? ⟨X, 0, none⟩ = some (.int .i64 s) := bX2.cell 0
  have x1 : w2.cell? ⟨X, 1, none⟩ = some (.int .i64 u) := bX2.cell 1
  have x2 : w2.cell? ⟨X, 2, none⟩ = some (.int .i64 d) := bX2.cell 2
  go_wp2_with fail
  refine (sBestP_any _ _ _ _ _ _ _ S2.ints (by omega)).mono ?_
  rintro e w3 ⟨A5, c5, rfl, Q3, hb3⟩
  have bX3 := bX2.belowA hb3
  have hW3 := bthen hW2 hb3 hW2.size
  have S3 := S2.below hb3
  have Y3 := Y2.below hb3
  have P3 := P2.below hb3
  clear x0 x1 x2 xl bX2 hW2 hb3 S2 Y2 P2
  have xl := bX3.lt
  have x0 : w3.cell? ⟨X, 0, none⟩ = some (.int .i64 s) := bX3.cell 0
  have x1 : w3.cell? ⟨X, 1, none⟩ = some (.int .i64 u) := bX3.cell 1
  have x2 : w3.cell? ⟨X, 2, none⟩ = some (.int .i64 d) := bX3.cell 2
  have hPl : (fpPlan s u d S (zer S.length)).length ≤ 1048576 := fpPlan_le (by omega)
  go_wp2_with fail
  refine (likeInts_any _ _ _ _ _ _ _ _ _ P3.ints Q3.ints hPl).mono ?_
  rintro e w4 ⟨rfl, hq4⟩
  have hb4 := hq4.below w3.heap.size
  have bX4 := bX3.belowA hb4
  have hW4 := bthen hW3 hb4 hW3.size
  have S4 := S3.below hb4
  have Y4 := Y3.below hb4
  have P4 := P3.below hb4
  have Q4 := Q3.below hb4
  clear x0 x1 x2 xl bX3 hW3 hb4 S3 Y3 P3 Q3
  have xl := bX4.lt
  have x0 : w4.cell? ⟨X, 0, none⟩ = some (.int .i64 s) := bX4.cell 0
  have x1 : w4.cell? ⟨X, 1, none⟩ = some (.int .i64 u) := bX4.cell 1
  have x2 : w4.cell? ⟨X, 2, none⟩ = some (.int .i64 d) := bX4.cell 2
  by_cases t0 : fpCode s u d S (zer S.length) = 0
  case neg =>
    have e0 : (fpCode s u d S (zer S.length) != 0) = true := by simp [t0]
    clear t0
    go_wp2_with fail
    go_ret
    exact ⟨rfl, hW4⟩
  have e0 : (fpCode s u d S (zer S.length) != 0) = false := by simp [t0]
  have h1 := (fp_ok t0).1
  have h2 := (fp_ok t0).2.1
  have h4 := (fp_ok t0).2.2.1
  obtain ⟨k1, k2, k3⟩ := fp_cost t0
  have HO := Lib.hid (show ∀ O : List Int, O.length = S.length → (∀ x ∈ O, x = 0 ∨ x = 1) → costCode s u d O.length S.length O S = 0 ∧ (keepsB s u d O = true → fpCost s u d S (zer S.length) ≤ costVal s u d O.length S.length O S) from fun O hl hb =>
    ⟨(cost_of (ms := zer S.length) h1 h2 h4 hl hb (zer_len _)).1, fun hk => (best_le h1 h2 h4 hl hb ((keeps_of h1 (by rw [hl]; exact h2) hb).1 hk)).2⟩)
  have HK1 := Lib.hid k1
  have HK2 := Lib.hid k2
  have HK3 := Lib.hid k3
  have HS48 : S.length ≤ 48 := by have := (inB_iff _ _ _).1 h2; omega
  clear t0 h1 h2 h4 k1 k2 k3
  generalize fpCode s u d S (zer S.length) = cd at *
  generalize fpCost s u d S (zer S.length) = ct at *
  generalize fpPlan s u d S (zer S.length) = P at *
  go_wp2_with fail
  refine (planCost_any _ _ _ _ _ _ _ _ _ _ _ _ P4.ints S4.ints hPl (by omega)).mono ?_
  rintro e w5 ⟨rfl, hb5⟩
  have bX5 := bX4.belowA hb5
  have hW5 := bthen hW4 hb5 hW4.size
  have S5 := S4.below hb5
  have Y5 := Y4.below hb5
  have P5 := P4.below hb5
  clear x0 x1 x2 xl bX4 hW4 hb5 S4 Y4 P4
  have xl := bX5.lt
  have x0 : w5.cell? ⟨X, 0, none⟩ = some (.int .i64 s) := bX5.cell 0
  have x1 : w5.cell? ⟨X, 1, none⟩ = some (.int .i64 u) := bX5.cell 1
  have x2 : w5.cell? ⟨X, 2, none⟩ = some (.int .i64 d) := bX5.cell 2
  rw [HK1.out, HK2.out]
  go_wp2_with fail
  refine (keepsRules_any _ _ _ _ _ _ _ P5.ints hPl).mono ?_
  rintro e w6 ⟨rfl, hb6⟩
  have bX6 := bX5.belowA hb6
  have hW6 := bthen hW5 hb6 hW5.size
  have S6 := S5.below hb6
  have Y6 := Y5.below hb6
  have P6 := P5.below hb6
  clear x0 x1 x2 xl bX5 hW5 hb6 S5 Y5 P5
  have xl := bX6.lt
  have x0 : w6.cell? ⟨X, 0, none⟩ = some (.int .i64 s) := bX6.cell 0
  have x1 : w6.cell? ⟨X, 1, none⟩ = some (.int .i64 u) := bX6.cell 1
  have x2 : w6.cell? ⟨X, 2, none⟩ = some (.int .i64 d) := bX6.cell 2
  rw [HK3.out]
  go_wp2_with fail
  refine (roll_any _ _ _ _ _ _ Y6 hn (by omega) (by omega)).mono ?_
  rintro e w7 ⟨rfl, hD, hb7⟩
  have bX7 := bX6.belowA hb7
  have hW7 := bthen hW6 hb7 hW6.size
  have S7 := S6.below hb7
  have hs7 := hb7.size
  have hdl : w6.heap.size < w7.heap.size := heap_lt' (Exists.choose_spec (Exists.choose_spec hD)).2.1
  have hWG : w.heap.size ≤ w6.heap.size := hW6.size
  have hXG0 : X < w6.heap.size := bX6.lt
  have hAG : ∀ g, A2.map (·.block) = some g → g < w6.heap.size := fun g hg => (S6.lt g hg).2
  generalize w6.heap.size = G at *
  clear x0 x1 x2 xl bX6 hW6 hb7
  have kD : Kept (Dice w7 G A n c zs) := ⟨hD⟩
  clear hD
  have oE : Own (w7.alloc (.cells #[] 2)) w7.heap.size (some ⟨w7.heap.size, 0, none⟩) 0 0 [] := own_empty1 w7 w7.heap.size (Nat.le_refl _)
  have bE : Below w7.heap.size w7 (w7.alloc (.cells #[] 2)) := (Below.refl _ _).alloc (Nat.le_refl _) _
  have dE : Dice (w7.alloc (.cells #[] 2)) G A n c zs := kD.out.below bE
  have xE := bX7.belowA bE
  have sE := S7.below bE
  have wE := bthen hW7 bE hW7.size
  have zE : w7.heap.size ≤ (w7.alloc (.cells #[] 2)).heap.size := bE.size
  have hXG : X ≠ G := by omega
  clear kD bE bX7 S7 hW7
  go_wp2_with fail
  go_loopw [14, 15] (fun oo ii wr => ∃ (i : Nat) (A6 : Option Addr) (c6 : Nat) (O : List Int), i ≤ S.length ∧ ii = .int .i64 i ∧ oo = .slice A6 i c6 ∧ Own wr w7.heap.size A6 i c6 O ∧ Kept (∀ x ∈ O, x = 0 ∨ x = 1) ∧ Dice wr G A n c zs ∧ Box wr X #[.int .i64 s, .int .i64 u, .int .i64 d] 25 ∧ Own wr w.heap.size A2 S.length c2 S ∧ Below w.heap.size w wr ∧ w7.heap.size ≤ wr.heap.size) (fun _ ii _ => S.length - (intOf ii).toNat)
  case atStart => exact ⟨0, _, _, [], Nat.zero_le _, rfl, rfl, oE, ⟨fun x hx => absurd hx List.not_mem_nil⟩, dE, xE, sE, wE, zE⟩
  case round =>
    clear oE dE xE sE wE zE
    obtain ⟨i, A6, c6, O, hi, rfl, rfl, hO, kO, hD, bX, hS5, hW, hz⟩ := hrel
    by_cases hlt : i < S.length
    · have kD : Kept (Dice wr G A n c zs) := ⟨hD⟩
      have kO2 : Kept (Own wr w7.heap.size A6 i c6 O) := ⟨hO⟩
      have kX : Kept (Box wr X #[.int .i64 s, .int .i64 u, .int .i64 d] 25) := ⟨bX⟩
      have kS : Kept (Own wr w.heap.size A2 S.length c2 S) := ⟨hS5⟩
      have kW : Kept (Below w.heap.size w wr) := ⟨hW⟩
      have hA6 : ∀ g, A6.map (·.block) = some g → w7.heap.size ≤ g := fun g hg => (hO.lt g hg).1
      have HA6 := Lib.hid hA6
      have kO2f : Kept (∀ w8, wr.grownBy w8 (some G) → Own w8 w7.heap.size A6 i c6 O) := ⟨fun w8 hg8 => hO.grown hg8 (fun g hg hh => by
        have := hA6 g (by rw [hg]; rfl)
        injection hh with hh
        omega)⟩
      have hB0 : ∀ b o, A = some ⟨b, o, none⟩ → 0 < n → b < w.heap.size := fun b o hA hn0 => by
        obtain ⟨b', o', z, e, hb, _⟩ := h.at_ hn0
        rw [hA] at e
        injection e with e
        injection e with e
        omega
      have HB0 := Lib.hid hB0
      clear hD hO bX hS5 hW hA6 hB0
      go_wp2_with (first | (go_at_call 45; refine (below_any G _ _ _ _ 2 _ kD.out hn (by omega) (by omega)).mono ?_; rintro e w8 ⟨x, hx0, hx1, rfl, hD8, hg8⟩; have hO8 := kO2f.out w8 hg8; have hs8 := hg8.size) | (at_builtin; refine wpList_push w8 rfl _ _ rfl w7.heap.size _ _ _ _ x rfl rfl hO8 (WalkArith.wf_i64 (by omega)) (by omega) (by omega) ?_; intro g c9 w9 hown9 hb9 hg9 hg9'))
      have hD9 : Dice w9 G A n c zs := by
        obtain ⟨p, hh, e1, e2, e3, e4⟩ := hD8
        exact ⟨p, hh, e1, (hb9.block G hdl).trans e2, (e3.below ((Below.refl _ _).alloc (Nat.le_refl _) _)).grown hg9 (fun b o hA hn0 e => by
          have h1 := HB0.out b o hA hn0
          have h2 := HA6.out b e.symm
          have h3 := hWG
          omega), e4⟩
      have bX9 := (kX.out.grown hg8 (fun e => by injection e with e; exact hXG e.symm)).below hb9 (by omega)
      have hS9 := ((kS.out.grown hg8 (fun g hg e => by
        injection e with e
        have := hAG g (by rw [hg]; rfl)
        omega)).alloc (.cells #[.int .i64 x] 2)).grown hg9 (fun g hg e => by
        have h1 := hAG g (by rw [hg]; rfl)
        have h2 := HA6.out g e
        omega)
      have hW9 := (kW.out.grown hg8 kW.out.size (fun k hk => by injection hk with hk; omega)).trans (hb9.mono (by omega))
      have hz9 := hb9.size
      go_roundw
      case rel => exact ⟨i + 1, some ⟨g, 0, none⟩, c9, O ++ [x], by omega, by go_num, rfl, hown9, ⟨fun y hy => by
        rcases List.mem_append.1 hy with hy | hy
        · exact kO.out y hy
        · simp at hy; omega⟩, hD9, bX9, hS9, hW9, by omega⟩
      case measure => simp [intOf]; omega
    · obtain rfl : i = S.length := by omega
      have hOl := hO.len
      obtain ⟨q1, q2⟩ := HO.out O hOl kO.out
      rw [hOl] at q1 q2
      have KO := Lib.hid hOl
      have hcv : (costCode s u d S.length S.length O S == 0) = true := by simp [q1]
      have xl := bX.lt
      have x0 : wr.cell? ⟨X, 0, none⟩ = some (.int .i64 s) := bX.cell 0
      have x1 : wr.cell? ⟨X, 1, none⟩ = some (.int .i64 u) := bX.cell 1
      have x2 : wr.cell? ⟨X, 2, none⟩ = some (.int .i64 d) := bX.cell 2
      clear hOl q1 hlt hD
      go_wp2_with fail
      refine (planCost_any _ _ _ _ _ _ _ _ _ _ _ _ hO.ints hS5.ints (by omega) (by omega)).mono ?_
      rintro e w8 ⟨rfl, hb8⟩
      have hO8 := hO.below hb8
      have bX8 := bX.belowA hb8
      have hW8 := bthen hW hb8 hW.size
      clear x0 x1 x2 xl hO bX hW hb8 hS5
      have xl := bX8.lt
      have x0 : w8.cell? ⟨X, 0, none⟩ = some (.int .i64 s) := bX8.cell 0
      have x1 : w8.cell? ⟨X, 1, none⟩ = some (.int .i64 u) := bX8.cell 1
      have x2 : w8.cell? ⟨X, 2, none⟩ = some (.int .i64 d) := bX8.cell 2
      generalize costVal s u d S.length S.length O S = cv at *
      generalize costCode s u d S.length S.length O S = cc at *
      have hO9 : Ints w8 A6 O.length O := by rw [KO.out]; exact hO8.ints
      have hkr := keepsRules_any s u d A6 c6 O w8 hO9 (by rw [KO.out]; omega)
      rw [KO.out] at hkr
      have KK : Kept _ := ⟨hkr⟩
      clear hkr hO9 hO8 HO
      cases hkb : keepsB s u d O
      · rw [hkb] at KK
        clear q2 hkb
        go_wp2_with (go_at_call 30; refine KK.out.mono ?_; rintro e w9 ⟨rfl, hb9⟩)
        go_ret
        exact ⟨rfl, bthen hW8 hb9 hW8.size⟩
      · have hle := q2 hkb
        rw [hkb] at KK
        clear q2 hkb
        go_wp2_with (go_at_call 30; refine KK.out.mono ?_; rintro e w9 ⟨rfl, hb9⟩)
        go_ret
        exact ⟨rfl, bthen hW8 hb9 hW8.size⟩
end Go.Proofs.Ytiofjnohdmminaa
