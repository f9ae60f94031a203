/- What PlanCost (of the program and of the reference) and the law on it do, by walks over their text. Conditions: at most 1048576 hours; of the sums: 1 to 48 hours and costs in their range; of the law: none. -/
import Derived.Test.YtiofjnohdmminaaPlan
set_option linter.unusedVariables false
set_option maxRecDepth 100000
namespace Go.Proofs.Ytiofjnohdmminaa
open Go.RowKit Go.Joins

/-- The cost of the first k hours of a plan. -/
def costTo (s : Int) (zs cs : List Int) : Nat → Int
  | 0 => 0
  | k + 1 => costTo s zs cs k + (if zs.getD k 0 = 1 then cs.getD k 0 + (if k = 0 ∨ zs.getD (k - 1) 0 = 0 then s else 0) else 0)
theorem costTo_bd {s : Int} {zs cs : List Int} (hs : 0 ≤ s ∧ s ≤ 1000000) (hc : allB cs (-1000000) 1000000 = true) (k : Nat) : -1000000 * (k : Int) ≤ costTo s zs cs k ∧ costTo s zs cs k ≤ 2000000 * (k : Int) := by
  induction k with
  | zero => simp [costTo]
  | succ k ih =>
    have hb : -1000000 ≤ cs.getD k 0 ∧ cs.getD k 0 ≤ 1000000 := by
      rw [List.getD_eq_getElem?_getD]
      cases h : cs[k]? with
      | none => simp
      | some x => exact all_at hc h
    rw [costTo]
    split
    · split <;> omega
    · omega
theorem costTo_off {s x : Int} {zs cs : List Int} {k : Nat} (hx : zs[k]? = some x) (h : (x == 1) = false) : costTo s zs cs (k + 1) = costTo s zs cs k := by
  have h' : x ≠ 1 := by simpa using h
  rw [costTo, if_neg (by rw [List.getD_eq_getElem?_getD, hx]; exact h')]
  omega
theorem costTo_on {s x y : Int} {zs cs : List Int} {k : Nat} (hx : zs[k]? = some x) (h : (x == 1) = true) (hy : cs[k]? = some y) (hp : ¬ (k = 0 ∨ zs.getD (k - 1) 0 = 0)) : costTo s zs cs (k + 1) = costTo s zs cs k + y := by
  have h' : x = 1 := by simpa using h
  rw [costTo, if_pos (by rw [List.getD_eq_getElem?_getD, hx]; exact h'), if_neg hp, List.getD_eq_getElem?_getD, hy]
  simp
theorem costTo_start {s x y : Int} {zs cs : List Int} {k : Nat} (hx : zs[k]? = some x) (h : (x == 1) = true) (hy : cs[k]? = some y) (hp : k = 0 ∨ zs.getD (k - 1) 0 = 0) : costTo s zs cs (k + 1) = costTo s zs cs k + y + s := by
  have h' : x = 1 := by simpa using h
  rw [costTo, if_pos (by rw [List.getD_eq_getElem?_getD, hx]; exact h'), if_pos hp, List.getD_eq_getElem?_getD, hy]
  simp
  omega
/-- The hour before: 0 at the first. -/
def prev (zs : List Int) (k : Nat) : Int := if k = 0 then 0 else zs.getD (k - 1) 0
theorem prev_succ {zs : List Int} {k : Nat} {x : Int} (hx : zs[k]? = some x) : x = prev zs (k + 1) := by
  simp [prev, hx]
theorem prev_zero {zs : List Int} {k : Nat} (h : (prev zs k == 0) = true) : k = 0 ∨ zs.getD (k - 1) 0 = 0 := by
  have h' : prev zs k = 0 := by simpa using h
  unfold prev at h'
  split at h'
  · exact .inl ‹_›
  · exact .inr h'
theorem prev_one {zs : List Int} {k : Nat} (h : (prev zs k == 0) = false) : ¬ (k = 0 ∨ zs.getD (k - 1) 0 = 0) := by
  have h' : prev zs k ≠ 0 := by simpa using h
  unfold prev at h'
  split at h'
  · omega
  · intro hh
    rcases hh with hh | hh
    · omega
    · exact h' hh

set_option maxHeartbeats 2000000 in
theorem sCost_any (s u d : Int) (A C : Option Addr) (n c e : Nat) (zs cs : List Int) (w : World) (h : Ints w A n zs) (k0 : Ints w C n cs) (hn : n ≤ 48) (hs0 : 0 ≤ s) (hs1 : s ≤ 1000000) (hcs : Hid (allB cs (-1000000) 1000000 = true)) :
    Calls Try.prog 60 #[.agg #[.int .i64 s, .int .i64 u, .int .i64 d], .slice A n c, .slice C n e] w fun e w' => e = .returned (.int .i64 (costTo s zs cs n)) ∧ Below w.heap.size w w' := by
  go_enter Try.func60, Try.ntmps60
  go_wp2
  have hbox : (w.alloc (.cells #[.int .i64 s, .int .i64 u, .int .i64 d] 25)).cell? ⟨w.heap.size, 0, none⟩ = some (.int .i64 s) := by simp
  have h' := h.alloc (.cells #[.int .i64 s, .int .i64 u, .int .i64 d] 25)
  have k' := k0.alloc (.cells #[.int .i64 s, .int .i64 u, .int .i64 d] 25)
  have hb0 : Below w.heap.size w (w.alloc (.cells #[.int .i64 s, .int .i64 u, .int .i64 d] 25)) := (Below.refl _ _).alloc (Nat.le_refl _) _
  generalize w.alloc (.cells #[.int .i64 s, .int .i64 u, .int .i64 d] 25) = W at *
  go_loop [7, 8] (fun ou ii => ∃ k : Nat, k ≤ n ∧ ii = .int .i64 k ∧ ou = .int .i64 (costTo s zs cs k)) (fun _ ii => n - (intOf ii).toNat)
  case atStart => exact ⟨0, Nat.zero_le _, rfl, rfl⟩
  case round =>
    obtain ⟨k, hk, rfl, rfl⟩ := hrel
    have hbd := costTo_bd (zs := zs) ⟨hs0, hs1⟩ hcs.out k
    by_cases hlt : k < n
    · obtain ⟨b, o, x, rfl, hbl, hx, hx64, hcx⟩ := h'.at_ hlt
      obtain ⟨b', o', y, rfl, hbl', hy, hy64, hcy⟩ := k'.at_ hlt
      have hyb := all_at hcs.out hy
      have HX := Lib.hid hx
      have HY := Lib.hid hy
      clear hx hy
      cases t1 : (x == 1)
      · have HC := Lib.hid (costTo_off (s := s) (cs := cs) HX.out t1)
        generalize costTo s zs cs k = S at *
        go_wp2
        go_round
        case rel => exact ⟨k + 1, by omega, by go_num, by rw [HC.out]⟩
        case measure => simp [intOf]; omega
      · by_cases hk0 : k = 0
        · have HC := Lib.hid (costTo_start (s := s) HX.out t1 HY.out (.inl hk0))
          have hk1 : ((k : Int) == 0) = true := by simp; omega
          clear hk0
          generalize costTo s zs cs k = S at *
          go_wp2
          go_round
          case rel => exact ⟨k + 1, by omega, by go_num, by rw [HC.out]⟩
          case measure => simp [intOf]; omega
        · obtain ⟨b'', o'', p, hA, _, hp, hp64, hcp⟩ := h'.at_ (show k - 1 < n by omega)
          obtain ⟨rfl, rfl⟩ : b = b'' ∧ o = o'' := by injection hA with hA; injection hA with h1 h2; exact ⟨h1, h2⟩
          have HP := Lib.hid hp
          clear hp hA
          have hk1 : ((k : Int) == 0) = false := by simp; omega
          have e3 : ((k : Int) - 1).toNat = k - 1 := by omega
          cases t2 : (p == 0)
          · have HC := Lib.hid (costTo_on (s := s) HX.out t1 HY.out (by rw [List.getD_eq_getElem?_getD, HP.out]; simpa [hk0] using t2))
            generalize costTo s zs cs k = S at *
            go_wp2
            go_round
            case rel => exact ⟨k + 1, by omega, by go_num, by rw [HC.out]⟩
            case measure => simp [intOf]; omega
          · have HC := Lib.hid (costTo_start (s := s) HX.out t1 HY.out (by rw [List.getD_eq_getElem?_getD, HP.out]; right; simpa using t2))
            generalize costTo s zs cs k = S at *
            go_wp2
            go_round
            case rel => exact ⟨k + 1, by omega, by go_num, by rw [HC.out]⟩
            case measure => simp [intOf]; omega
    · go_wp2
      go_ret
      obtain rfl : k = n := by omega
      exact ⟨rfl, hb0⟩
set_option maxHeartbeats 2000000 in
theorem cost_any (s u d : Int) (A C : Option Addr) (n c e : Nat) (zs cs : List Int) (w : World) (h : Ints w A n zs) (k0 : Ints w C n cs) (hn : n ≤ 48) (hs0 : 0 ≤ s) (hs1 : s ≤ 1000000) (hcs : Hid (allB cs (-1000000) 1000000 = true)) :
    Calls Try.prog 61 #[.agg #[.int .i64 s, .int .i64 u, .int .i64 d], .slice A n c, .slice C n e] w fun e w' => e = .returned (.int .i64 (costTo s zs cs n)) ∧ Below w.heap.size w w' := by
  go_enter Try.func61, Try.ntmps61
  go_wp2
  have hbox : (w.alloc (.cells #[.int .i64 s, .int .i64 u, .int .i64 d] 25)).cell? ⟨w.heap.size, 0, none⟩ = some (.int .i64 s) := by simp
  have h' := h.alloc (.cells #[.int .i64 s, .int .i64 u, .int .i64 d] 25)
  have k' := k0.alloc (.cells #[.int .i64 s, .int .i64 u, .int .i64 d] 25)
  have hb0 : Below w.heap.size w (w.alloc (.cells #[.int .i64 s, .int .i64 u, .int .i64 d] 25)) := (Below.refl _ _).alloc (Nat.le_refl _) _
  generalize w.alloc (.cells #[.int .i64 s, .int .i64 u, .int .i64 d] 25) = W at *
  go_loop [7, 8, 13] (fun ou pp ii => ∃ k : Nat, k ≤ n ∧ ii = .int .i64 k ∧ ou = .int .i64 (costTo s zs cs k) ∧ pp = .int .i64 (prev zs k)) (fun _ _ ii => n - (intOf ii).toNat)
  case atStart => exact ⟨0, Nat.zero_le _, rfl, rfl, rfl⟩
  case round =>
    obtain ⟨k, hk, rfl, rfl, rfl⟩ := hrel
    have hbd := costTo_bd (zs := zs) ⟨hs0, hs1⟩ hcs.out k
    by_cases hlt : k < n
    · obtain ⟨b, o, x, rfl, hbl, hx, hx64, hcx⟩ := h'.at_ hlt
      obtain ⟨b', o', y, rfl, hbl', hy, hy64, hcy⟩ := k'.at_ hlt
      have hyb := all_at hcs.out hy
      have HX := Lib.hid hx
      have HY := Lib.hid hy
      have HP := Lib.hid (prev_succ hx)
      clear hx hy
      cases t1 : (x == 1)
      · have HC := Lib.hid (costTo_off (s := s) (cs := cs) HX.out t1)
        generalize costTo s zs cs k = S at *
        generalize prev zs k = V at *
        go_wp2
        go_round
        case rel => exact ⟨k + 1, by omega, by go_num, by rw [HC.out], by rw [← HP.out]⟩
        case measure => simp [intOf]; omega
      · cases t2 : (prev zs k == 0)
        · have HC := Lib.hid (costTo_on (s := s) HX.out t1 HY.out (prev_one t2))
          generalize costTo s zs cs k = S at *
          generalize prev zs k = V at *
          go_wp2
          go_round
          case rel => exact ⟨k + 1, by omega, by go_num, by rw [HC.out], by rw [← HP.out]⟩
          case measure => simp [intOf]; omega
        · have HC := Lib.hid (costTo_start (s := s) HX.out t1 HY.out (prev_zero t2))
          generalize costTo s zs cs k = S at *
          generalize prev zs k = V at *
          go_wp2
          go_round
          case rel => exact ⟨k + 1, by omega, by go_num, by rw [HC.out], by rw [← HP.out]⟩
          case measure => simp [intOf]; omega
    · go_wp2
      go_ret
      obtain rfl : k = n := by omega
      exact ⟨rfl, hb0⟩
end Go.Proofs.Ytiofjnohdmminaa
