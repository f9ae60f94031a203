/- What checkPlan, l15Plan, firstBroken, l15Broken do, by walks over their text. Conditions: at most 1048576 hours; of the two searches: 1 to 1000 hours. -/
import Derived.Test.YtiofjnohdmminaaUnit
import Derived.Test.YtiofjnohdmminaaLists
set_option linter.unusedVariables false
set_option maxRecDepth 100000
namespace Go.Proofs.Ytiofjnohdmminaa
open Go.RowKit Go.Joins

def planCode (s u d : Int) (n : Nat) (zs : List Int) : Int := if unitB s u d = false then 1 else if inB n 1 48 = false then 3 else if allB zs 0 1 = false then 2 else 0
theorem planCode_ok {s u d : Int} {n : Nat} {zs : List Int} (h : planCode s u d n zs = 0) : unitB s u d = true ∧ inB n 1 48 = true ∧ allB zs 0 1 = true := by
  unfold planCode at h
  split at h
  · omega
  split at h
  · omega
  split at h
  · omega
  · rename_i h1 h2 h3
    exact ⟨by simpa using h1, by simpa using h2, by simpa using h3⟩

set_option maxHeartbeats 1000000 in
theorem checkPlan_any (s u d : Int) (A : Option Addr) (n c : Nat) (zs : List Int) (w : World) (h : Ints w A n zs) (hn : n ≤ 1048576) :
    Calls Try.prog 57 #[.agg #[.int .i64 s, .int .i64 u, .int .i64 d], .slice A n c] w fun e w' => e = .returned (.int .i64 (planCode s u d n zs)) ∧ Below w.heap.size w w' := by
  rcases (orB (orB (orB trivial)) : unitB s u d = false ∨ unitB s u d = true ∧ (inB n 1 48 = false ∨ inB n 1 48 = true ∧ (allB zs 0 1 = false ∨ allB zs 0 1 = true ∧ True))) with h1 | ⟨h1, h2 | ⟨h2, h3 | ⟨h3, _⟩⟩⟩
  all_goals
    go_enter Try.func57, Try.ntmps57
    go_wp2_with fail
    refine (isUnit_any _ _ _ _).mono ?_
    rintro e w1 ⟨rfl, hb1⟩
    have hI := (h.alloc (.cells #[.int .i64 s, .int .i64 u, .int .i64 d] 25)).below hb1
    have hw1 : Below w.heap.size w w1 := bthen ((Below.refl _ _).alloc (Nat.le_refl _) _) hb1 (by simp)
    go_wp2_with (first | (go_at_call 53; refine (areHours_any _ _ _ _ hn).mono ?_; rintro e w' ⟨rfl, rfl⟩) | (go_at_call 54; refine (allWithin_any _ _ _ _ _ _ _ hI hn).mono ?_; rintro e w' ⟨rfl, rfl⟩))
    go_ret
    exact ⟨ri (by first | (simp [planCode, h1, h2, h3]; done) | (simp [planCode, h1, h2]; done) | (simp [planCode, h1]; done)), hw1⟩
set_option maxHeartbeats 1000000 in
theorem sPlan_any (s u d : Int) (A : Option Addr) (n c : Nat) (zs : List Int) (w : World) (h : Ints w A n zs) (hn : n ≤ 1048576) :
    Calls Try.prog 55 #[.agg #[.int .i64 s, .int .i64 u, .int .i64 d], .slice A n c] w fun e w' => e = .returned (.int .i64 (planCode s u d n zs)) ∧ Below w.heap.size w w' := by
  rcases (orB (orB (orB trivial)) : unitB s u d = false ∨ unitB s u d = true ∧ (inB n 1 48 = false ∨ inB n 1 48 = true ∧ (allB zs 0 1 = false ∨ allB zs 0 1 = true ∧ True))) with h1 | ⟨h1, h2 | ⟨h2, h3 | ⟨h3, _⟩⟩⟩
  all_goals
    go_enter Try.func55, Try.ntmps55
    go_wp2_with fail
    refine (sIsUnit_any _ _ _ _).mono ?_
    rintro e w1 ⟨rfl, hb1⟩
    have hI := (h.alloc (.cells #[.int .i64 s, .int .i64 u, .int .i64 d] 25)).below hb1
    have hw1 : Below w.heap.size w w1 := bthen ((Below.refl _ _).alloc (Nat.le_refl _) _) hb1 (by simp)
    go_wp2_with (first | (go_at_call 51; refine (hours_any _ _ _ _ hn).mono ?_; rintro e w' ⟨rfl, rfl⟩) | (go_at_call 52; refine (bits_any _ _ _ _ _ hI hn).mono ?_; rintro e w' ⟨rfl, rfl⟩))
    go_ret
    exact ⟨ri (by first | (simp [planCode, h1, h2, h3]; done) | (simp [planCode, h1, h2]; done) | (simp [planCode, h1]; done)), hw1⟩

/-- The last hour of the first sequence that is too short, or -1: from hour i on, the sequence having begun at a. -/
def brk (zs : List Int) (u d : Int) : Nat → Nat → Nat → Int
  | 0, _, _ => -1
  | f + 1, a, i =>
    if zs[i]? = zs[i + 1]? then brk zs u d f a (i + 1)
    else if (zs[i]? = some 1 ∧ (i : Int) + 1 - a < u) ∨ (zs[i]? = some 0 ∧ 0 < a ∧ (i : Int) + 1 - a < d) then i
    else brk zs u d f (i + 1) (i + 1)
section
variable {zs : List Int} {u d R : Int} {n a i : Nat} {x y : Int}
theorem brk_same (hR : brk zs u d (n - 1 - i) a i = R) (hi : i + 1 < n) (hx : zs[i]? = some x) (hy : zs[i + 1]? = some y) (h : x = y) : brk zs u d (n - 1 - (i + 1)) a (i + 1) = R := by
  rw [show n - 1 - i = (n - 1 - (i + 1)) + 1 by omega, brk, if_pos (by rw [hx, hy, h])] at hR
  exact hR
theorem brk_ret (hR : brk zs u d (n - 1 - i) a i = R) (hi : i + 1 < n) (hx : zs[i]? = some x) (hy : zs[i + 1]? = some y) (h : x ≠ y) (hc : (x = 1 ∧ (i : Int) + 1 - a < u) ∨ (x = 0 ∧ 0 < a ∧ (i : Int) + 1 - a < d)) : (i : Int) = R := by
  rw [show n - 1 - i = (n - 1 - (i + 1)) + 1 by omega, brk, if_neg (by rw [hx, hy]; simpa using h), if_pos (by rw [hx]; simpa using hc)] at hR
  exact hR
theorem brk_go (hR : brk zs u d (n - 1 - i) a i = R) (hi : i + 1 < n) (hx : zs[i]? = some x) (hy : zs[i + 1]? = some y) (h : x ≠ y) (hc : ¬ ((x = 1 ∧ (i : Int) + 1 - a < u) ∨ (x = 0 ∧ 0 < a ∧ (i : Int) + 1 - a < d))) : brk zs u d (n - 1 - (i + 1)) (i + 1) (i + 1) = R := by
  rw [show n - 1 - i = (n - 1 - (i + 1)) + 1 by omega, brk, if_neg (by rw [hx, hy]; simpa using h), if_neg (by rw [hx]; simpa using hc)] at hR
  exact hR
theorem brk_end (hR : brk zs u d (n - 1 - i) a i = R) (hi : ¬ i + 1 < n) : -1 = R := by
  rw [show n - 1 - i = 0 by omega, brk] at hR
  exact hR
end

/-- The ways through the test of a sequence's length. -/
theorem brk_ways (x L u d : Int) (a : Nat) :
    ((x == 1) = true ∧ L < u ∧ ((x = 1 ∧ L < u) ∨ (x = 0 ∧ 0 < a ∧ L < d))) ∨ ((x == 1) = false ∧ (x == 0) = true ∧ (0 : Int) < a ∧ L < d ∧ ((x = 1 ∧ L < u) ∨ (x = 0 ∧ 0 < a ∧ L < d))) ∨
    ((x == 1) = true ∧ ¬ L < u ∧ (x == 0) = false ∧ ¬ ((x = 1 ∧ L < u) ∨ (x = 0 ∧ 0 < a ∧ L < d))) ∨ ((x == 1) = false ∧ (x == 0) = false ∧ ¬ ((x = 1 ∧ L < u) ∨ (x = 0 ∧ 0 < a ∧ L < d))) ∨
    ((x == 1) = false ∧ (x == 0) = true ∧ ¬ (0 : Int) < a ∧ ¬ ((x = 1 ∧ L < u) ∨ (x = 0 ∧ 0 < a ∧ L < d))) ∨ ((x == 1) = false ∧ (x == 0) = true ∧ (0 : Int) < a ∧ ¬ L < d ∧ ¬ ((x = 1 ∧ L < u) ∨ (x = 0 ∧ 0 < a ∧ L < d))) := by
  simp only [beq_iff_eq, beq_eq_false_iff_ne, ne_eq]
  omega

set_option maxHeartbeats 2000000 in
theorem sBroken_any (s u d : Int) (A : Option Addr) (n c : Nat) (zs : List Int) (w : World) (h : Ints w A n zs) (hn : n ≤ 1000) (h1n : 1 ≤ n) :
    Calls Try.prog 56 #[.agg #[.int .i64 s, .int .i64 u, .int .i64 d], .slice A n c] w fun e w' => e = .returned (.int .i64 (brk zs u d (n - 1) 0 0)) ∧ Below w.heap.size w w' := by
  obtain ⟨R, hR0⟩ : ∃ R, brk zs u d (n - 1 - 0) 0 0 = R := ⟨_, rfl⟩
  have HR0 := Lib.hid hR0
  rw [show n - 1 = n - 1 - 0 by omega, hR0]
  clear hR0
  go_enter Try.func56, Try.ntmps56
  go_wp2
  have hbox : (w.alloc (.cells #[.int .i64 s, .int .i64 u, .int .i64 d] 25)).cell? ⟨w.heap.size, 1, none⟩ = some (.int .i64 u) ∧ (w.alloc (.cells #[.int .i64 s, .int .i64 u, .int .i64 d] 25)).cell? ⟨w.heap.size, 2, none⟩ = some (.int .i64 d) := by simp
  have h' := h.alloc (.cells #[.int .i64 s, .int .i64 u, .int .i64 d] 25)
  have hb0 : Below w.heap.size w (w.alloc (.cells #[.int .i64 s, .int .i64 u, .int .i64 d] 25)) := (Below.refl _ _).alloc (Nat.le_refl _) _
  generalize w.alloc (.cells #[.int .i64 s, .int .i64 u, .int .i64 d] 25) = W at *
  obtain ⟨hu0, hd0⟩ := hbox
  go_loopw [5, 6] (fun fr ii wr => ∃ a i : Nat, a ≤ i ∧ i < n ∧ fr = .int .i64 a ∧ ii = .int .i64 i ∧ Hid (brk zs u d (n - 1 - i) a i = R) ∧ Qt W wr) (fun _ ii _ => n - (intOf ii).toNat)
  case atStart => exact ⟨0, 0, Nat.le_refl _, by omega, rfl, rfl, HR0, Qt.refl _⟩
  case round =>
    obtain ⟨a, i, hai, hin, rfl, rfl, HR, hq⟩ := hrel
    by_cases hlt : i + 1 < n
    · obtain ⟨b, o, x, rfl, hbl, hx, hx64, hcx⟩ := (h'.qt hq).at_ (show i < n by omega)
      obtain ⟨b', o', y, hA, hbl', hy, hy64, hcy⟩ := (h'.qt hq).at_ hlt
      obtain ⟨rfl, rfl⟩ : b = b' ∧ o = o' := by injection hA with hA; injection hA with h1 h2; exact ⟨h1, h2⟩
      have hu := (hq.cell ⟨w.heap.size, 1, none⟩).trans hu0
      have hd := (hq.cell ⟨w.heap.size, 2, none⟩).trans hd0
      have HX := Lib.hid hx
      have HY := Lib.hid hy
      clear hx hy hA hu0 hd0
      have e1 : IntKind.i64.wrap ((i : Int) + 1) = (i : Int) + 1 := IntWalk.i64_in _ (by omega)
      have e2 : (0 : Int) ≤ (i : Int) + 1 := by omega
      have e3 : ((i : Int) + 1).toNat = i + 1 := by omega
      by_cases hxy : x = y
      · have HE := Lib.hid hxy
        have hbe : (x == y) = true := by simp [hxy]
        clear hxy
        go_wp2
        go_quiet (fail)
        clear e1 e2 e3
        go_wp2
        go_roundw
        case rel => exact ⟨a, i + 1, by omega, by omega, rfl, by go_num, brk_same HR.out hlt HX.out HY.out HE.out, hq.drewN _⟩
        case measure => simp [intOf]; omega
      · have HE := Lib.hid hxy
        have hbe : (x == y) = false := by simp [hxy]
        clear hxy
        rcases brk_ways x ((i : Int) + 1 - a) u d a with ⟨t1, t2, tc⟩ | ⟨t1, t2, t3, t4, tc⟩ | ⟨t1, t2, t3, tc⟩ | ⟨t1, t2, tc⟩ | ⟨t1, t2, t3, tc⟩ | ⟨t1, t2, t3, t4, tc⟩
        · have TC := Lib.hid tc
          clear tc
          go_wp2
          go_quiet (fail)
          clear e1 e2 e3
          go_wp2
          go_ret
          exact ⟨ri (brk_ret HR.out hlt HX.out HY.out HE.out TC.out), bthen hb0 ((hq.drewN _).below _) hb0.size⟩
        · have TC := Lib.hid tc
          clear tc
          go_wp2
          go_quiet (fail)
          clear e1 e2 e3
          go_wp2
          go_ret
          exact ⟨ri (brk_ret HR.out hlt HX.out HY.out HE.out TC.out), bthen hb0 ((hq.drewN _).below _) hb0.size⟩
        · have TC := Lib.hid tc
          clear tc
          go_wp2
          go_quiet (fail)
          clear e1 e2 e3
          go_wp2
          go_roundw
          case rel => exact ⟨i + 1, i + 1, by omega, by omega, by go_num, by go_num, brk_go HR.out hlt HX.out HY.out HE.out TC.out, hq.drewN _⟩
          case measure => simp [intOf]; omega
        · have TC := Lib.hid tc
          clear tc
          go_wp2
          go_quiet (fail)
          clear e1 e2 e3
          go_wp2
          go_roundw
          case rel => exact ⟨i + 1, i + 1, by omega, by omega, by go_num, by go_num, brk_go HR.out hlt HX.out HY.out HE.out TC.out, hq.drewN _⟩
          case measure => simp [intOf]; omega
        · have TC := Lib.hid tc
          clear tc
          go_wp2
          go_quiet (fail)
          clear e1 e2 e3
          go_wp2
          go_roundw
          case rel => exact ⟨i + 1, i + 1, by omega, by omega, by go_num, by go_num, brk_go HR.out hlt HX.out HY.out HE.out TC.out, hq.drewN _⟩
          case measure => simp [intOf]; omega
        · have TC := Lib.hid tc
          clear tc
          go_wp2
          go_quiet (fail)
          clear e1 e2 e3
          go_wp2
          go_roundw
          case rel => exact ⟨i + 1, i + 1, by omega, by omega, by go_num, by go_num, brk_go HR.out hlt HX.out HY.out HE.out TC.out, hq.drewN _⟩
          case measure => simp [intOf]; omega
    · go_wp2
      go_ret
      exact ⟨ri (brk_end HR.out hlt), bthen hb0 (hq.below _) hb0.size⟩
end Go.Proofs.Ytiofjnohdmminaa
