/- What checkPoint, l14Point, isPossible, l14Possible do, by walks over their text. Conditions: of the two searches: a valid compressor and a point in its ranges. -/
import Derived.Test.YtgchbajhceddnaaIsComp
set_option linter.unusedVariables false
set_option maxRecDepth 100000
namespace Go.Proofs.Ytgchbajhceddnaa
open Go.RowKit Go.Joins Go.Deep

def pointB (q r : Int) : Bool := inB q 0 30000 && inB r 1000 3000
def pointCode (n : Nat) (fs : List Fc) (fu le q r : Int) : Int := if compB n fs fu le = false then 1 else if pointB q r = false then 2 else 0
theorem pointCode_ok {n : Nat} {fs : List Fc} {fu le q r : Int} (h : pointCode n fs fu le q r = 0) : compB n fs fu le = true ∧ pointB q r = true := by
  unfold pointCode at h
  split at h
  · omega
  split at h
  · omega
  · rename_i h1 h2
    exact ⟨by simpa using h1, by simpa using h2⟩
theorem point_bd {q r : Int} (h : pointB q r = true) : 0 ≤ q ∧ q ≤ 30000 ∧ 1000 ≤ r ∧ r ≤ 3000 := by
  simp only [pointB, Bool.and_eq_true, inB_iff] at h
  omega
theorem comp_bd {n : Nat} {fs : List Fc} {fu le : Int} (h : compB n fs fu le = true) : 1 ≤ n ∧ n ≤ 8 ∧ 0 ≤ fu ∧ fu ≤ 1000 ∧ 0 ≤ le ∧ le ≤ 30000 := by
  simp only [compB, Bool.and_eq_true, inB_iff] at h
  omega
theorem comp_face {n : Nat} {fs : List Fc} {fu le : Int} (h : compB n fs fu le = true) {i : Nat} {f : Fc} (hf : fs[i]? = some f) : -1000 ≤ f.p ∧ f.p ≤ 1000 ∧ -1000 ≤ f.q ∧ f.q ≤ 1000 ∧ -100000000 ≤ f.r ∧ f.r ≤ 100000000 := by
  simp only [compB, Bool.and_eq_true] at h
  have := List.all_eq_true.1 h.2.2.2 f (List.mem_of_getElem? hf)
  simp only [faceB, Bool.and_eq_true, inB_iff] at this
  omega
theorem mul_bnd {a b X Y : Int} (h1 : -X ≤ a) (h2 : a ≤ X) (h3 : 0 ≤ b) (h4 : b ≤ Y) (hX : 0 ≤ X) : -(X * Y) ≤ a * b ∧ a * b ≤ X * Y := by
  have h5 : X * b ≤ X * Y := Int.mul_le_mul_of_nonneg_left h4 hX
  have h6 : a * b ≤ X * b := Int.mul_le_mul_of_nonneg_right h2 h3
  have h7 : -X * b ≤ a * b := Int.mul_le_mul_of_nonneg_right h1 h3
  rw [Int.neg_mul] at h7
  omega
def possF (q r : Int) (f : Fc) : Bool := decide (f.p * q + f.q * r ≤ f.r)
def possB (fs : List Fc) (le q r : Int) : Bool := fs.all (possF q r) && decide (le ≤ q)
theorem poss_no {fs : List Fc} {i : Nat} {f : Fc} {le q r : Int} (hx : fs[i]? = some f) (h : ¬ f.p * q + f.q * r ≤ f.r) : possB fs le q r = false := by
  have : fs.all (possF q r) = false := by
    rw [List.all_eq_false]
    exact ⟨f, List.mem_of_getElem? hx, by simpa [possF] using h⟩
  simp [possB, this]
theorem poss_step {fs : List Fc} {i : Nat} {f : Fc} {q r : Int} (hp : (fs.take i).all (possF q r) = true) (hx : fs[i]? = some f) (h : f.p * q + f.q * r ≤ f.r) : (fs.take (i + 1)).all (possF q r) = true := by
  rw [List.take_add_one, List.all_append, hp, hx]
  simpa [possF] using h

theorem sPoint_any (q r : Int) (w : World) :
    Calls Try.prog 54 #[.int .i64 q, .int .i64 r] w fun e w' => e = .returned (.bool (pointB q r)) ∧ w = w' := by
  cases h1 : inB q 0 30000 <;> cases h2 : inB r 1000 3000
  all_goals
    go_enter Try.func54, Try.ntmps54
    go_wp2_with (go_at_call 51; refine (in_any _ _ _ _).mono ?_; rintro e w' ⟨rfl, rfl⟩)
    go_ret
    exact ⟨rb (by simp [pointB, h1, h2]), rfl⟩
set_option maxHeartbeats 1000000 in
theorem checkPoint_any (A : Option Addr) (n c : Nat) (fs : List Fc) (fu le q r : Int) (w : World) (h : Faces w A n fs) (hn : n ≤ 9223372036854775807) :
    Calls Try.prog 56 #[.agg #[.slice A n c, .int .i64 fu, .int .i64 le], .int .i64 q, .int .i64 r] w fun e w' => e = .returned (.int .i64 (pointCode n fs fu le q r)) ∧ Below w.heap.size w w' := by
  rcases (orB (orB (orB trivial)) : compB n fs fu le = false ∨ compB n fs fu le = true ∧ (inB q 0 30000 = false ∨ inB q 0 30000 = true ∧ (inB r 1000 3000 = false ∨ inB r 1000 3000 = true ∧ True))) with h1 | ⟨h1, h2 | ⟨h2, h3 | ⟨h3, _⟩⟩⟩
  all_goals
    go_enter Try.func56, Try.ntmps56
    go_wp2_with fail
    refine (isComp_any _ _ _ _ _ _ _ (h.alloc _) hn).mono ?_
    rintro e w1 ⟨rfl, hb1⟩
    have hw1 : Below w.heap.size w w1 := bthen ((Below.refl _ _).alloc (Nat.le_refl _) _) hb1 (by simp)
    go_wp2_with (go_at_call 48; refine (within_any _ _ _ _).mono ?_; rintro e w' ⟨rfl, rfl⟩)
    go_ret
    exact ⟨ri (by first | (simp [pointCode, pointB, h1, h2, h3]; done) | (simp [pointCode, pointB, h1, h2]; done) | (simp [pointCode, h1]; done)), hw1⟩
set_option maxHeartbeats 4000000 in
theorem isPoss_any (A : Option Addr) (n c : Nat) (fs : List Fc) (fu le q r : Int) (w : World) (h : Faces w A n fs) (hc : Hid (compB n fs fu le = true)) (hq : 0 ≤ q ∧ q ≤ 30000) (hr : 0 ≤ r ∧ r ≤ 3001) :
    Calls Try.prog 57 #[.agg #[.slice A n c, .int .i64 fu, .int .i64 le], .int .i64 q, .int .i64 r] w fun e w' => e = .returned (.bool (possB fs le q r)) ∧ Below w.heap.size w w' := by
  have hbd := comp_bd hc.out
  have hl := Lib.hid h.len
  go_enter Try.func57, Try.ntmps57
  go_wp2_with fail
  have hx : (w.alloc (.cells #[.slice A n c, .int .i64 fu, .int .i64 le] 32)).cell? ⟨w.heap.size, 0, none⟩ = some (.slice A n c) ∧ (w.alloc (.cells #[.slice A n c, .int .i64 fu, .int .i64 le] 32)).cell? ⟨w.heap.size, 2, none⟩ = some (.int .i64 le) := by simp
  have hI := h.alloc (.cells #[.slice A n c, .int .i64 fu, .int .i64 le] 32)
  have hw0 : Below w.heap.size w (w.alloc (.cells #[.slice A n c, .int .i64 fu, .int .i64 le] 32)) := (Below.refl _ _).alloc (Nat.le_refl _) _
  have hszl : w.heap.size < (w.alloc (.cells #[.slice A n c, .int .i64 fu, .int .i64 le] 32)).heap.size := by simp
  generalize w.alloc (.cells #[.slice A n c, .int .i64 fu, .int .i64 le] 32) = W at *
  obtain ⟨hx0, hx2⟩ := hx
  go_loopw [12] (fun ii wr => ∃ k : Nat, k ≤ n ∧ ii = .int .i64 k ∧ Hid ((fs.take k).all (possF q r) = true) ∧ Below W.heap.size W wr) (fun ii _ => n - (intOf ii).toNat)
  case atStart => exact ⟨0, Nat.zero_le _, rfl, rfl, Below.refl _ _⟩
  case round =>
    obtain ⟨k, hk, rfl, HP, hb⟩ := hrel
    have hx0' := (hb.cell (p := ⟨w.heap.size, 0, none⟩) hszl).trans hx0
    have hx2' := (hb.cell (p := ⟨w.heap.size, 2, none⟩) hszl).trans hx2
    by_cases hlt : k < n
    · obtain ⟨b, o, f, rfl, hbl, hf, hok, hcp, hcq, hcr⟩ := (hI.below hb).at_ hlt
      have hfb := comp_face hc.out hf
      have hm1 := mul_bnd (a := f.p) (b := q) (X := 1000) (Y := 30000) (by omega) (by omega) (by omega) (by omega) (by omega)
      have hm2 := mul_bnd (a := f.q) (b := r) (X := 1000) (Y := 3001) (by omega) (by omega) (by omega) (by omega) (by omega)
      have HF := Lib.hid hf
      clear hf hx0 hx2
      by_cases ht : f.p * q + f.q * r ≤ f.r
      · have hw2 : True := trivial
        have hb2 : ∀ cs t, Below W.heap.size W (wr.alloc (.cells cs t)) := fun cs t => hb.alloc hb.size _
        go_wp2_with fail
        go_roundw
        case rel => exact ⟨k + 1, by omega, by go_num, poss_step HP.out HF.out ht, hb2 _ _⟩
        case measure => simp [intOf]; omega
      · have HT := Lib.hid ht
        have ht' : f.r < f.p * q + f.q * r := by omega
        clear ht
        have hb2 : ∀ cs t, Below W.heap.size W (wr.alloc (.cells cs t)) := fun cs t => hb.alloc hb.size _
        go_wp2_with fail
        go_ret
        exact ⟨rb (poss_no HF.out (by omega)).symm, bthen hw0 (hb2 _ _) hw0.size⟩
    · go_wp2_with fail
      go_ret
      have hp := HP.out
      rw [List.take_of_length_le (by have := hl.out; omega)] at hp
      exact ⟨rb (by simp [possB, hp]), bthen hw0 hb hw0.size⟩
set_option maxHeartbeats 4000000 in
theorem sPoss_any (A : Option Addr) (n c : Nat) (fs : List Fc) (fu le q r : Int) (w : World) (h : Faces w A n fs) (hc : Hid (compB n fs fu le = true)) (hq : 0 ≤ q ∧ q ≤ 30000) (hr : 0 ≤ r ∧ r ≤ 3001) :
    Calls Try.prog 55 #[.agg #[.slice A n c, .int .i64 fu, .int .i64 le], .int .i64 q, .int .i64 r] w fun e w' => e = .returned (.bool (possB fs le q r)) ∧ Below w.heap.size w w' := by
  have hbd := comp_bd hc.out
  have hl := Lib.hid h.len
  go_enter Try.func55, Try.ntmps55
  go_wp2_with fail
  have hx : (w.alloc (.cells #[.slice A n c, .int .i64 fu, .int .i64 le] 32)).cell? ⟨w.heap.size, 0, none⟩ = some (.slice A n c) ∧ (w.alloc (.cells #[.slice A n c, .int .i64 fu, .int .i64 le] 32)).cell? ⟨w.heap.size, 2, none⟩ = some (.int .i64 le) := by simp
  have hI := h.alloc (.cells #[.slice A n c, .int .i64 fu, .int .i64 le] 32)
  have hw0 : Below w.heap.size w (w.alloc (.cells #[.slice A n c, .int .i64 fu, .int .i64 le] 32)) := (Below.refl _ _).alloc (Nat.le_refl _) _
  have hszl : w.heap.size < (w.alloc (.cells #[.slice A n c, .int .i64 fu, .int .i64 le] 32)).heap.size := by simp
  generalize w.alloc (.cells #[.slice A n c, .int .i64 fu, .int .i64 le] 32) = W at *
  obtain ⟨hx0, hx2⟩ := hx
  go_loopw [7] (fun ii wr => ∃ k : Nat, k ≤ n ∧ ii = .int .i64 k ∧ Hid ((fs.take k).all (possF q r) = true) ∧ Below W.heap.size W wr) (fun ii _ => n - (intOf ii).toNat)
  case atStart => exact ⟨0, Nat.zero_le _, rfl, rfl, Below.refl _ _⟩
  case round =>
    obtain ⟨k, hk, rfl, HP, hb⟩ := hrel
    have hx0' := (hb.cell (p := ⟨w.heap.size, 0, none⟩) hszl).trans hx0
    have hx2' := (hb.cell (p := ⟨w.heap.size, 2, none⟩) hszl).trans hx2
    by_cases hlt : k < n
    · obtain ⟨b, o, f, rfl, hbl, hf, hok, hcp, hcq, hcr⟩ := (hI.below hb).at_ hlt
      have hfb := comp_face hc.out hf
      have hm1 := mul_bnd (a := f.p) (b := q) (X := 1000) (Y := 30000) (by omega) (by omega) (by omega) (by omega) (by omega)
      have hm2 := mul_bnd (a := f.q) (b := r) (X := 1000) (Y := 3001) (by omega) (by omega) (by omega) (by omega) (by omega)
      have HF := Lib.hid hf
      clear hf hx0 hx2
      by_cases ht : f.p * q + f.q * r ≤ f.r
      · have hw2 : True := trivial
        have e0 : (0 : Int) ≤ (k : Int) := by omega
        have e1 : (k : Int) < (n : Int) := by omega
        have e2 : IntKind.i64.wrap (f.p * q) = f.p * q := IntWalk.i64_in _ (by omega)
        have e3 : IntKind.i64.wrap (f.q * r) = f.q * r := IntWalk.i64_in _ (by omega)
        have e4 : IntKind.i64.wrap (f.p * q + f.q * r) = f.p * q + f.q * r := IntWalk.i64_in _ (by omega)
        have hb2 : ∀ m, Below W.heap.size W (wr.drewN m) := fun m => below_drewN hb m
        go_wp2_with fail
        go_quiet (fail)
        clear e0 e1 e2 e3 e4
        go_wp2_with fail
        go_roundw
        case rel => exact ⟨k + 1, by omega, by go_num, poss_step HP.out HF.out ht, hb2 _⟩
        case measure => simp [intOf]; omega
      · have HT := Lib.hid ht
        have ht' : f.r < f.p * q + f.q * r := by omega
        clear ht
        have e0 : (0 : Int) ≤ (k : Int) := by omega
        have e1 : (k : Int) < (n : Int) := by omega
        have e2 : IntKind.i64.wrap (f.p * q) = f.p * q := IntWalk.i64_in _ (by omega)
        have e3 : IntKind.i64.wrap (f.q * r) = f.q * r := IntWalk.i64_in _ (by omega)
        have e4 : IntKind.i64.wrap (f.p * q + f.q * r) = f.p * q + f.q * r := IntWalk.i64_in _ (by omega)
        have hb2 : ∀ m, Below W.heap.size W (wr.drewN m) := fun m => below_drewN hb m
        go_wp2_with fail
        go_quiet (fail)
        clear e0 e1 e2 e3 e4
        go_wp2_with fail
        go_ret
        exact ⟨rb (poss_no HF.out (by omega)).symm, bthen hw0 (hb2 _) hw0.size⟩
    · go_wp2_with fail
      go_ret
      have hp := HP.out
      rw [List.take_of_length_le (by have := hl.out; omega)] at hp
      exact ⟨rb (by simp [possB, hp]), bthen hw0 hb hw0.size⟩
end Go.Proofs.Ytgchbajhceddnaa
