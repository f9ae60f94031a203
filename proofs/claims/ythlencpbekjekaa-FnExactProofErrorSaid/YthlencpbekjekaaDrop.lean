/- What absOf, l01Abs, l01Signed, dropOf, l07Drop do, by walks over their text. Conditions: numbers of at most 2^60. -/
import Derived.Test.YthlencpbekjekaaNetG
import Derived.Test.YthlencpbekjekaaPrf
set_option linter.unusedVariables false
set_option maxRecDepth 100000
namespace Go.Proofs.Ythlencpbekjekaa
open Go.ChangeShapes Go.WideShapes Go.ChangeAt Go.RowKit Go.Joins Go.Deep

theorem mul_bd {a b : Int} {A B : Nat} (ha : a.natAbs ≤ A) (hb : b.natAbs ≤ B) : (a * b).natAbs ≤ A * B := by
  rw [Int.natAbs_mul]
  exact Nat.mul_le_mul ha hb
theorem drp_bd {k f : Int} (hk : 1 ≤ k ∧ k ≤ 1000) (hf : -30000 ≤ f ∧ f ≤ 30000) : -900000000000 ≤ drp k f ∧ drp k f ≤ 900000000000 := by
  have h1 := mul_bd (a := f) (b := ab f) (A := 30000) (B := 30000) (by omega) (by unfold ab; omega)
  have h2 := mul_bd (a := k) (b := f * ab f) (A := 1000) (B := 30000 * 30000) (by omega) h1
  unfold drp
  omega
theorem absOf_any (x : Int) (w : World) (h0 : -4611686018427387904 ≤ x) (h1 : x ≤ 4611686018427387904) :
    Calls Try.prog 31 #[.int .i64 x] w fun e w' => e = .returned (.int .i64 (ab x)) ∧ w' = w := by
  by_cases hx : x < 0
  · go_enter Try.func31, Try.ntmps31
    go_wp2
    go_ret
    exact ⟨ri (by unfold ab; omega), rfl⟩
  · go_enter Try.func31, Try.ntmps31
    go_wp2
    go_ret
    exact ⟨ri (by unfold ab; omega), rfl⟩
theorem sAbs_any (x : Int) (w : World) (h0 : -4611686018427387904 ≤ x) (h1 : x ≤ 4611686018427387904) :
    Calls Try.prog 30 #[.int .i64 x] w fun e w' => e = .returned (.int .i64 (ab x)) ∧ w' = w := by
  go_enter Try.func30, Try.ntmps30
  go_wp2
  all_goals
    go_ret
    exact ⟨ri (by unfold ab; omega), rfl⟩
theorem sSigned_any (x : Int) (w : World) (h0 : -30000 ≤ x) (h1 : x ≤ 30000) :
    Calls Try.prog 47 #[.int .i64 x] w fun e w' => e = .returned (.int .i64 (x * ab x)) ∧ w' = w := by
  have hb := mul_bd (a := x) (b := ab x) (A := 30000) (B := 30000) (by omega) (by unfold ab; omega)
  have b1 : -900000000 ≤ x * ab x := by omega
  have b2 : x * ab x ≤ 900000000 := by omega
  clear hb
  go_enter Try.func47, Try.ntmps47
  go_wp2_with (go_at_call 30; refine (sAbs_any _ _ (by omega) (by omega)).mono ?_; rintro e w' ⟨rfl, rfl⟩)
  go_ret
  exact ⟨rfl, rfl⟩
set_option maxHeartbeats 1000000 in
theorem dropOf_any (a b k v l f : Int) (w : World) (hk : 1 ≤ k ∧ k ≤ 1000) (hf : -30000 ≤ f ∧ f ≤ 30000) :
    Calls Try.prog 41 #[.agg #[.int .i64 a, .int .i64 b, .int .i64 k, .int .i64 v, .int .i64 l], .int .i64 f] w fun e w' => e = .returned (.int .i64 (drp k f)) ∧ Below w.heap.size w w' := by
  have h1 := mul_bd (a := k) (b := f) (A := 1000) (B := 30000) (by omega) (by omega)
  have h2 := mul_bd (a := k * f) (b := ab f) (A := 1000 * 30000) (B := 30000) h1 (by unfold ab; omega)
  have s1 : IntKind.i64.wrap (k * f) = k * f := IntWalk.i64_in _ (by omega)
  have s2 : IntKind.i64.wrap (k * f * ab f) = k * f * ab f := IntWalk.i64_in _ (by omega)
  have bx := box_new w #[.int .i64 a, .int .i64 b, .int .i64 k, .int .i64 v, .int .i64 l] 65
  have hV : Below w.heap.size w (w.alloc (.cells #[.int .i64 a, .int .i64 b, .int .i64 k, .int .i64 v, .int .i64 l] 65)) := (Below.refl _ _).alloc (Nat.le_refl _) _
  have f1 := hf.1
  have f2 := hf.2
  clear h1 h2 hk hf
  go_enter Try.func41, Try.ntmps41
  go_wp2_with fail
  generalize (w.alloc (.cells #[.int .i64 a, .int .i64 b, .int .i64 k, .int .i64 v, .int .i64 l] 65)) = V at *
  have x2 : V.cell? ⟨w.heap.size, 2, none⟩ = some (.int .i64 k) := bx.cell 2
  have xl := bx.lt
  clear bx
  go_quiet ((go_at_call 31; exact Calls.quiet_of_same (absOf_any _ _ (by omega) (by omega))))
  go_wp2_with fail
  go_ret
  exact ⟨ri (by unfold drp; rw [Int.mul_assoc]), below_drewN hV _⟩
set_option maxHeartbeats 1000000 in
theorem sDrop_any (A B : Option Addr) (n c m d : Nat) (i : Nat) (f : Int) (p : Pp) (ns : List Nd) (ps : List Pp) (w : World) (h : IsNet w A n c ns B m d ps) (hi : i < m) (hp : ps[i]? = some p) (hk : 1 ≤ p.k ∧ p.k ≤ 1000) (hf : -30000 ≤ f ∧ f ≤ 30000) :
    Calls Try.prog 35 #[.agg #[.slice A n c, .slice B m d], .int .i64 i, .int .i64 f] w fun e w' => e = .returned (.int .i64 (drp p.k f)) ∧ Below w.heap.size w w' := by
  have hm : m ≤ 9223372036854775807 := by have := h.capB.1; have := h.capB.2; unfold maxLen at this; omega
  obtain ⟨b, o, p', rfl, hbl, hp', hpk, q0, q1, q2, q3, q4⟩ := (h.pipes.alloc (.cells #[.slice A n c, .slice B m d] 36)).at_ hi
  obtain rfl : p' = p := Option.some.inj (hp'.symm.trans hp)
  have h1 := mul_bd (a := f) (b := ab f) (A := 30000) (B := 30000) (by omega) (by unfold ab; omega)
  have h2 := mul_bd (a := p'.k) (b := f * ab f) (A := 1000) (B := 30000 * 30000) (by omega) h1
  have s2 : IntKind.i64.wrap (p'.k * (f * ab f)) = p'.k * (f * ab f) := IntWalk.i64_in _ (by omega)
  have bx := box_new w #[.slice A n c, .slice (some ⟨b, o, none⟩) m d] 36
  have hV : Below w.heap.size w (w.alloc (.cells #[.slice A n c, .slice (some ⟨b, o, none⟩) m d] 36)) := (Below.refl _ _).alloc (Nat.le_refl _) _
  have f1 := hf.1
  have f2 := hf.2
  have i0 : (0 : Int) ≤ (i : Int) := by omega
  have i1 : (i : Int) < (m : Int) := by omega
  clear h1 h2 hk hf hp hp'
  go_enter Try.func35, Try.ntmps35
  go_wp2_with fail
  generalize (w.alloc (.cells #[.slice A n c, .slice (some ⟨b, o, none⟩) m d] 36)) = V at *
  have x1 : V.cell? ⟨w.heap.size, 1, none⟩ = some (.slice (some ⟨b, o, none⟩) m d) := bx.cell 1
  have xl := bx.lt
  clear bx
  go_quiet ((go_at_call 47; exact Calls.quiet_of_same (sSigned_any _ _ f1 f2)))
  go_wp2_with fail
  go_ret
  exact ⟨rfl, below_drewN hV _⟩
end Go.Proofs.Ythlencpbekjekaa
