/- What firstBroken, KeepsRules, FirstBroken (of the program and of the reference) and the laws on them do, by walks over their text. Conditions: at most 1048576 hours. -/
import Derived.Test.YtiofjnohdmminaaPlan
set_option linter.unusedVariables false
set_option maxRecDepth 100000
namespace Go.Proofs.Ytiofjnohdmminaa
open Go.RowKit Go.Joins

section
variable {zs : List Int} {u d R : Int} {n a j : Nat} {x y : Int}
theorem same_next (ha : zs[a]? = zs[j - 1]?) (hx : zs[a]? = some x) (hy : zs[j]? = some y) (h : x = y) : zs[a]? = zs[j + 1 - 1]? := by
  rw [Nat.add_sub_cancel, hx, hy, h]
theorem bk_same (hR : brk zs u d (n - 1 - (j - 1)) a (j - 1) = R) (hj : a < j) (hi : j < n) (ha : zs[a]? = zs[j - 1]?) (hx : zs[a]? = some x) (hy : zs[j]? = some y) (h : x = y) : brk zs u d (n - 1 - (j + 1 - 1)) a (j + 1 - 1) = R := by
  obtain ⟨i, rfl⟩ : ∃ i, j = i + 1 := ⟨j - 1, by omega⟩
  exact brk_same hR hi (ha.symm.trans hx) hy h
theorem bk_ret (hR : brk zs u d (n - 1 - (j - 1)) a (j - 1) = R) (hj : a < j) (hi : j < n) (ha : zs[a]? = zs[j - 1]?) (hx : zs[a]? = some x) (hy : zs[j]? = some y) (h : x ≠ y) (hc : (x = 1 ∧ (j : Int) - a < u) ∨ (x = 0 ∧ 0 < a ∧ (j : Int) - a < d)) : (j : Int) - 1 = R := by
  obtain ⟨i, rfl⟩ : ∃ i, j = i + 1 := ⟨j - 1, by omega⟩
  have := brk_ret hR hi (ha.symm.trans hx) hy h (by simpa using hc)
  omega
theorem bk_go (hR : brk zs u d (n - 1 - (j - 1)) a (j - 1) = R) (hj : a < j) (hi : j < n) (ha : zs[a]? = zs[j - 1]?) (hx : zs[a]? = some x) (hy : zs[j]? = some y) (h : x ≠ y) (hc : ¬ ((x = 1 ∧ (j : Int) - a < u) ∨ (x = 0 ∧ 0 < a ∧ (j : Int) - a < d))) : brk zs u d (n - 1 - (j + 1 - 1)) j (j + 1 - 1) = R := by
  obtain ⟨i, rfl⟩ : ∃ i, j = i + 1 := ⟨j - 1, by omega⟩
  exact brk_go hR hi (ha.symm.trans hx) hy h (by simpa using hc)
end
set_option maxHeartbeats 2000000 in
theorem broken_any (s u d : Int) (A : Option Addr) (n c : Nat) (zs : List Int) (w : World) (h : Ints w A n zs) (hn : n ≤ 1000) (h1n : 1 ≤ n) :
    Calls Try.prog 58 #[.agg #[.int .i64 s, .int .i64 u, .int .i64 d], .slice A n c] w fun e w' => e = .returned (.int .i64 (brk zs u d (n - 1) 0 0)) ∧ Below w.heap.size w w' := by
  obtain ⟨R, hR0⟩ : ∃ R, brk zs u d (n - 1 - 0) 0 0 = R := ⟨_, rfl⟩
  have HR0 := Lib.hid hR0
  rw [show n - 1 = n - 1 - 0 by omega, hR0]
  clear hR0
  go_enter Try.func58, Try.ntmps58
  go_wp2
  have hbox : (w.alloc (.cells #[.int .i64 s, .int .i64 u, .int .i64 d] 25)).cell? ⟨w.heap.size, 1, none⟩ = some (.int .i64 u) ∧ (w.alloc (.cells #[.int .i64 s, .int .i64 u, .int .i64 d] 25)).cell? ⟨w.heap.size, 2, none⟩ = some (.int .i64 d) := by simp
  have h' := h.alloc (.cells #[.int .i64 s, .int .i64 u, .int .i64 d] 25)
  have hb0 : Below w.heap.size w (w.alloc (.cells #[.int .i64 s, .int .i64 u, .int .i64 d] 25)) := (Below.refl _ _).alloc (Nat.le_refl _) _
  generalize w.alloc (.cells #[.int .i64 s, .int .i64 u, .int .i64 d] 25) = W at *
  obtain ⟨hu0, hd0⟩ := hbox
  go_loopw [5, 6] (fun fr ii wr => ∃ a j : Nat, a < j ∧ j ≤ n ∧ fr = .int .i64 a ∧ ii = .int .i64 j ∧ Hid (zs[a]? = zs[j - 1]?) ∧ Hid (brk zs u d (n - 1 - (j - 1)) a (j - 1) = R) ∧ Qt W wr) (fun _ ii _ => n - (intOf ii).toNat)
  case atStart => exact ⟨0, 1, by omega, by omega, rfl, rfl, rfl, HR0, Qt.refl _⟩
  case round =>
    obtain ⟨a, j, hai, hin, rfl, rfl, HA, HR, hq⟩ := hrel
    by_cases hlt : j < n
    · obtain ⟨b, o, x, rfl, hbl, hx, hx64, hcx⟩ := (h'.qt hq).at_ (show a < n by omega)
      obtain ⟨b', o', y, hA, hbl', hy, hy64, hcy⟩ := (h'.qt hq).at_ hlt
      obtain ⟨rfl, rfl⟩ : b = b' ∧ o = o' := by injection hA with hA; injection hA with h1 h2; exact ⟨h1, h2⟩
      have hu := (hq.cell ⟨w.heap.size, 1, none⟩).trans hu0
      have hd := (hq.cell ⟨w.heap.size, 2, none⟩).trans hd0
      have HX := Lib.hid hx
      have HY := Lib.hid hy
      clear hx hy hA hu0 hd0
      by_cases hxy : x = y
      · have HE := Lib.hid hxy
        have hbe : (x == y) = true := by simp [hxy]
        clear hxy
        go_wp2
        go_quiet (fail)
        go_wp2
        go_roundw
        case rel => exact ⟨a, j + 1, by omega, by omega, rfl, by go_num, same_next HA.out HX.out HY.out HE.out, bk_same HR.out hai hlt HA.out HX.out HY.out HE.out, hq.drewN _⟩
        case measure => simp [intOf]; omega
      · have HE := Lib.hid hxy
        have hbe : (x == y) = false := by simp [hxy]
        clear hxy
        rcases brk_ways x ((j : Int) - a) u d a with ⟨t1, t2, tc⟩ | ⟨t1, t2, t3, t4, tc⟩ | ⟨t1, t2, t3, tc⟩ | ⟨t1, t2, tc⟩ | ⟨t1, t2, t3, tc⟩ | ⟨t1, t2, t3, t4, tc⟩
        · have TC := Lib.hid tc
          clear tc
          go_wp2
          go_quiet (fail)
          go_wp2
          go_ret
          exact ⟨ri (bk_ret HR.out hai hlt HA.out HX.out HY.out HE.out TC.out), bthen hb0 ((hq.drewN _).below _) hb0.size⟩
        · have TC := Lib.hid tc
          clear tc
          go_wp2
          go_quiet (fail)
          go_wp2
          go_ret
          exact ⟨ri (bk_ret HR.out hai hlt HA.out HX.out HY.out HE.out TC.out), bthen hb0 ((hq.drewN _).below _) hb0.size⟩
        · have TC := Lib.hid tc
          clear tc
          go_wp2
          go_quiet (fail)
          go_wp2
          go_roundw
          case rel => exact ⟨j, j + 1, by omega, by omega, rfl, by go_num, rfl, bk_go HR.out hai hlt HA.out HX.out HY.out HE.out TC.out, hq.drewN _⟩
          case measure => simp [intOf]; omega
        · have TC := Lib.hid tc
          clear tc
          go_wp2
          go_quiet (fail)
          go_wp2
          go_roundw
          case rel => exact ⟨j, j + 1, by omega, by omega, rfl, by go_num, rfl, bk_go HR.out hai hlt HA.out HX.out HY.out HE.out TC.out, hq.drewN _⟩
          case measure => simp [intOf]; omega
        · have TC := Lib.hid tc
          clear tc
          go_wp2
          go_quiet (fail)
          go_wp2
          go_roundw
          case rel => exact ⟨j, j + 1, by omega, by omega, rfl, by go_num, rfl, bk_go HR.out hai hlt HA.out HX.out HY.out HE.out TC.out, hq.drewN _⟩
          case measure => simp [intOf]; omega
        · have TC := Lib.hid tc
          clear tc
          go_wp2
          go_quiet (fail)
          go_wp2
          go_roundw
          case rel => exact ⟨j, j + 1, by omega, by omega, rfl, by go_num, rfl, bk_go HR.out hai hlt HA.out HX.out HY.out HE.out TC.out, hq.drewN _⟩
          case measure => simp [intOf]; omega
    · go_wp2
      go_ret
      exact ⟨ri (brk_end HR.out (by omega)), bthen hb0 (hq.below _) hb0.size⟩
end Go.Proofs.Ytiofjnohdmminaa
