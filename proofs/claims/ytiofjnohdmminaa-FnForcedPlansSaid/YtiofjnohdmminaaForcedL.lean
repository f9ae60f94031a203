/- The walk of the law FnForcedPlans. No condition. -/
import Derived.Test.YtiofjnohdmminaaBig
import Derived.Test.YtiofjnohdmminaaUDraw4
import Derived.Test.YtiofjnohdmminaaPlanL
import Derived.Test.YtiofjnohdmminaaUnit
set_option linter.unusedVariables false
set_option maxRecDepth 100000
namespace Go.Proofs.Ytiofjnohdmminaa
open Go.RowKit Go.Joins Go.Deep
attribute [local go_sem ↓] Go.wp_at_zero Go.wp_at_succ

set_option maxHeartbeats 8000000 in
theorem law_FnForcedPlans (A : Option Addr) (n c : Nat) (zs : List Int) (w : World) (h0 : Byts w A n zs ∧ n ≤ c ∧ c ≤ maxLen) :
    Calls Try.prog 13 #[.slice A n c] w fun e w' => e = .returned (.bool true) ∧ Below w.heap.size w w' := by
  obtain ⟨h, hnc, hcm⟩ := h0
  unfold maxLen at hcm
  by_cases hbig : 4096 < n
  · have hg := fun W => big_any A n c W (by omega)
    simp only [hbig, decide_true] at hg
    have HG := Lib.hid hg
    clear hg
    go_enter Try.func13, Try.ntmps13
    go_wp2_with (go_at_call 39; refine (HG.out _).mono ?_; rintro e w' ⟨rfl, rfl⟩)
    go_ret
    exact ⟨rfl, Below.refl _ _⟩
  have hg := fun W => big_any A n c W (by omega)
  simp only [hbig, decide_false] at hg
  have HG := Lib.hid hg
  have hn : n ≤ 4096 := by omega
  clear hg hbig
  go_enter Try.func13, Try.ntmps13
  go_wp2_with (go_at_call 39; refine (HG.out _).mono ?_; rintro e w' ⟨rfl, rfl⟩)
  refine (drawForcedPlan_any _ _ _ _ _ h hn).mono ?_
  rintro e v1 ⟨s, u, d, A2, A3, c2, c3, S, T, rfl, is, iu, id, oS, oT, hS, hT, hw1⟩
  have bX1 := box_new v1 #[.int .i64 s, .int .i64 u, .int .i64 d] 25
  have hW1 : Below w.heap.size w (v1.alloc (.cells #[.int .i64 s, .int .i64 u, .int .i64 d] 25)) := hw1.alloc hw1.size _
  have S1 := oS.alloc (.cells #[.int .i64 s, .int .i64 u, .int .i64 d] 25)
  have T1 := oT.alloc (.cells #[.int .i64 s, .int .i64 u, .int .i64 d] 25)
  have Y1 := (h.below hw1).below ((Below.refl v1.heap.size v1).alloc (Nat.le_refl _) (.cells #[.int .i64 s, .int .i64 u, .int .i64 d] 25))
  go_wp2_with fail
  generalize v1.alloc (.cells #[.int .i64 s, .int .i64 u, .int .i64 d] 25) = w1 at *
  generalize v1.heap.size = X at *
  clear oS hw1 oT
  have xl := bX1.lt
  have x0 : w1.cell? ⟨X, 0, none⟩ = some (.int .i64 s) := bX1.cell 0
  have x1 : w1.cell? ⟨X, 1, none⟩ = some (.int .i64 u) := bX1.cell 1
  have x2 : w1.cell? ⟨X, 2, none⟩ = some (.int .i64 d) := bX1.cell 2
  refine (forced_any _ _ _ _ _ _ _ _ _ _ S1.ints T1.ints (by omega) (by omega)).mono ?_
  rintro e w2 ⟨A4, c4, rfl, P2, hb2⟩
  have bX2 := bX1.belowA hb2
  have hW2 := bthen hW1 hb2 hW1.size
  have S2 := S1.below hb2
  have T2 := T1.below hb2
  have Y2 := Y1.below hb2
  clear x0 x1 x2 xl bX1 hW1 hb2 S1 T1 Y1
  have xl := bX2.lt
  have x0 : w2.cell? ⟨X, 0, none⟩ = some (.int .i64 s) := bX2.cell 0
  have x1 : w2.cell? ⟨X, 1, none⟩ = some (.int .i64 u) := bX2.cell 1
  have x2 : w2.cell? ⟨X, 2, none⟩ = some (.int .i64 d) := bX2.cell 2
  go_wp2_with fail
  refine (sForced_any _ _ _ _ _ _ _ _ _ _ S2.ints T2.ints (by omega) (by omega)).mono ?_
  rintro e w3 ⟨A5, c5, rfl, Q3, hb3⟩
  have bX3 := bX2.belowA hb3
  have hW3 := bthen hW2 hb3 hW2.size
  have S3 := S2.below hb3
  have T3 := T2.below hb3
  have Y3 := Y2.below hb3
  have P3 := P2.below hb3
  clear x0 x1 x2 xl bX2 hW2 hb3 S2 T2 Y2 P2
  have xl := bX3.lt
  have x0 : w3.cell? ⟨X, 0, none⟩ = some (.int .i64 s) := bX3.cell 0
  have x1 : w3.cell? ⟨X, 1, none⟩ = some (.int .i64 u) := bX3.cell 1
  have x2 : w3.cell? ⟨X, 2, none⟩ = some (.int .i64 d) := bX3.cell 2
  have hPl : (fpPlan s u d S T).length ≤ 1048576 := fpPlan_le (by omega)
  go_wp2_with fail
  refine (likeInts_any _ _ _ _ _ _ _ _ _ P3.ints Q3.ints hPl).mono ?_
  rintro e w4 ⟨rfl, hq4⟩
  have hb4 := hq4.below w3.heap.size
  have bX4 := bX3.belowA hb4
  have hW4 := bthen hW3 hb4 hW3.size
  have S4 := S3.below hb4
  have T4 := T3.below hb4
  have Y4 := Y3.below hb4
  have P4 := P3.below hb4
  have Q4 := Q3.below hb4
  clear x0 x1 x2 xl bX3 hW3 hb4 S3 T3 Y3 P3 Q3
  have xl := bX4.lt
  have x0 : w4.cell? ⟨X, 0, none⟩ = some (.int .i64 s) := bX4.cell 0
  have x1 : w4.cell? ⟨X, 1, none⟩ = some (.int .i64 u) := bX4.cell 1
  have x2 : w4.cell? ⟨X, 2, none⟩ = some (.int .i64 d) := bX4.cell 2
  by_cases t0 : fpCode s u d S T = 0
  case neg =>
    have e0 : (fpCode s u d S T != 0) = true := by simp [t0]
    clear t0
    go_wp2_with fail
    go_ret
    exact ⟨rfl, hW4⟩
  have e0 : (fpCode s u d S T != 0) = false := by simp [t0]
  have hlen := (fp_ok t0).2.2.2.2.1
  have p1 := (fp_plan t0).1
  have p2 := (fp_plan t0).2.1
  have p5 := (fp_plan t0).2.2.2.2
  have k3 := (fp_cost t0).2.2
  obtain ⟨b1, b2⟩ := forced_best t0
  have HM := Lib.hid (show ∀ (i : Nat) (m x : Int), i < S.length → T[i]? = some m → (fpPlan s u d S T)[i]? = some x → (m == 1) = true → x = 1 from fun i m x hi hm hx h1 => by
    have g1 := musts_at p5 i m x hi hm hx
    have g2 := p2 x (List.mem_of_getElem? hx)
    have g3 : m = 1 := by simpa using h1
    omega)
  have HL := Lib.hid p1
  have HN := Lib.hid hlen
  have B1 : (fpCode s u d S (zer S.length) == 0) = true := by simp [b1]
  have B2 := Lib.hid b2
  have B3 := Lib.hid k3
  clear t0 hlen p1 p2 p5 k3 b1 b2
  generalize fpCode s u d S T = cd at *
  generalize fpCost s u d S T = ct at *
  generalize fpPlan s u d S T = P at *
  go_wp2_with fail
  go_loopw [12] (fun ii wr => ∃ i : Nat, i ≤ T.length ∧ ii = .int .i64 i ∧ wr = w4) (fun ii _ => T.length - (intOf ii).toNat)
  case atStart => exact ⟨0, Nat.zero_le _, rfl, rfl⟩
  case round =>
    obtain ⟨i, hi, rfl, rfl⟩ := hrel
    by_cases hlt : i < T.length
    · obtain ⟨b1', o1', m, rfl, hbl1, hm, _, hcm⟩ := T4.ints.at_ hlt
      obtain ⟨b2', o2', x, rfl, hbl2, hx, _, hcx⟩ := P4.ints.at_ (show i < P.length by have := HL.out; have := HN.out; omega)
      have hxx := HM.out i m x (by have := HN.out; omega) hm hx
      have i0 : (0 : Int) ≤ (i : Int) := by omega
      have i1 : (i : Int) < (T.length : Int) := by omega
      have i2 : (i : Int) < (P.length : Int) := by have := HL.out; have := HN.out; omega
      clear hm hx
      cases tm : (m == 1)
      · clear hxx
        go_wp2_with fail
        go_roundw
        case rel => exact ⟨i + 1, by omega, by go_num, trivial⟩
        case measure => simp [intOf]; omega
      · obtain rfl := hxx tm
        clear hxx
        go_wp2_with fail
        go_roundw
        case rel => exact ⟨i + 1, by omega, by go_num, trivial⟩
        case measure => simp [intOf]; omega
    · obtain rfl : i = T.length := by omega
      clear hlt
      clear T4
      go_wp2_with fail
      refine (bestP_any _ _ _ _ _ _ _ S4.ints (by omega)).mono ?_
      rintro e w5 ⟨A6, c6, rfl, o6, hb5⟩
      have bX5 := bX4.belowA hb5
      have hW5 := bthen hW4 hb5 hW4.size
      have S5 := S4.below hb5
      have Y5 := Y4.below hb5
      have P5 := P4.below hb5
      clear x0 x1 x2 xl bX4 hW4 hb5 S4 Y4 P4
      have xl := bX5.lt
      have x0 : w5.cell? ⟨X, 0, none⟩ = some (.int .i64 s) := bX5.cell 0
      have x1 : w5.cell? ⟨X, 1, none⟩ = some (.int .i64 u) := bX5.cell 1
      have x2 : w5.cell? ⟨X, 2, none⟩ = some (.int .i64 d) := bX5.cell 2
      have B4 : fpCost s u d S (zer S.length) ≤ ct := B2.out
      go_wp2_with fail
      refine (keepsRules_any _ _ _ _ _ _ _ P5.ints hPl).mono ?_
      rintro e w6 ⟨rfl, hb6⟩
      have bX6 := bX5.belowA hb6
      have hW6 := bthen hW5 hb6 hW5.size
      have S6 := S5.below hb6
      have Y6 := Y5.below hb6
      have P6 := P5.below hb6
      clear x0 x1 x2 xl bX5 hW5 hb6 S5 Y5 P5
      have xl := bX6.lt
      have x0 : w6.cell? ⟨X, 0, none⟩ = some (.int .i64 s) := bX6.cell 0
      have x1 : w6.cell? ⟨X, 1, none⟩ = some (.int .i64 u) := bX6.cell 1
      have x2 : w6.cell? ⟨X, 2, none⟩ = some (.int .i64 d) := bX6.cell 2
      rw [B3.out]
      go_wp2_with fail
      go_ret
      exact ⟨rfl, hW6⟩
end Go.Proofs.Ytiofjnohdmminaa
