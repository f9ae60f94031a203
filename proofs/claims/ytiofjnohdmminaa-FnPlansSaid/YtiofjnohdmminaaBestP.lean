/- What BestPlan of the program and of the reference do, by walks over their text. Condition: at most 1048576 hours. -/
import Derived.Test.YtiofjnohdmminaaForced
set_option linter.unusedVariables false
set_option maxRecDepth 100000
namespace Go.Proofs.Ytiofjnohdmminaa
open Go.RowKit Go.Joins Go.Deep

def zer (n : Nat) : List Int := List.replicate n 0
theorem zer_len (n : Nat) : (zer n).length = n := by simp [zer]
theorem zer_bits (n : Nat) : allB (zer n) 0 1 = true := by
  unfold allB zer
  rw [List.all_eq_true]
  intro x hx
  rw [(List.mem_replicate.1 hx).2]
  rfl
theorem bestPlan_ret {s u d : Int} {cs ms : List Int} {w w' : World} {e : Ending} (hk : fpCode s u d cs ms = if lst s u d (capO u d) (cs.zip ms) 0 d = none then 7 else 0) (h : RetPlan s u d cs ms w e w') : RetInts3 w (fpPlan s u d cs ms) (fpCost s u d cs ms) (fpCode s u d cs ms) e w' := by
  obtain ⟨A2, c2, rfl, ho, hb⟩ := h
  cases hl : lst s u d (capO u d) (cs.zip ms) 0 d with
  | none =>
    rw [hl] at ho hk
    have hk7 : fpCode s u d cs ms = 7 := hk
    exact retInts3_mk (by unfold fpPlan; rw [if_neg (by rw [hk7]; decide)]; rfl) (by unfold fpCost; rw [if_neg (by rw [hk7]; decide)]; rfl) (by rw [hk7]; rfl) rfl (Nat.le_refl _) ho hb
  | some t =>
    rw [hl] at ho hk
    have hk0 : fpCode s u d cs ms = 0 := by rw [hk]; simp
    simp only [reduceCtorEq, if_false] at ho ⊢
    exact retInts3_mk (by unfold fpPlan; rw [if_pos hk0]) (by unfold fpCost; rw [if_pos hk0, hl]) hk0 rfl (Nat.le_refl _) ho hb
set_option maxHeartbeats 4000000 in
theorem sBestP_any (s u d : Int) (A : Option Addr) (c : Nat) (cs : List Int) (w : World) (h : Ints w A cs.length cs) (hn : cs.length ≤ 1048576) :
    Calls Try.prog 37 #[.agg #[.int .i64 s, .int .i64 u, .int .i64 d], .slice A cs.length c] w (RetInts3 w (fpPlan s u d cs (zer cs.length)) (fpCost s u d cs (zer cs.length)) (fpCode s u d cs (zer cs.length))) := by
  have hmk := fun W => run_make_row' (P := Try.prog) 36 2 (.int .i64 0) 8 Try.underlying36 info_i64 rfl .i64 .i64 cs.length (by omega) (by omega) W
  have bu := box_new w #[.int .i64 s, .int .i64 u, .int .i64 d] 25
  have hV : Below w.heap.size w (w.alloc (.cells #[.int .i64 s, .int .i64 u, .int .i64 d] 25)) := (Below.refl _ _).alloc (Nat.le_refl _) _
  go_enter Try.func37, Try.ntmps37
  go_wp2_with fail
  generalize (w.alloc (.cells #[.int .i64 s, .int .i64 u, .int .i64 d] 25)) = V at *
  have ul := bu.lt
  have u0 : V.cell? ⟨w.heap.size, 0, none⟩ = some (.int .i64 s) := bu.cell 0
  have u1 : V.cell? ⟨w.heap.size, 1, none⟩ = some (.int .i64 u) := bu.cell 1
  have u2 : V.cell? ⟨w.heap.size, 2, none⟩ = some (.int .i64 d) := bu.cell 2
  have bA := (bu.alloc (.cells (madeCells #[.int .i64 0] cs.length) 2)).drew
  have a0 : (V.alloc (.cells (madeCells #[.int .i64 0] cs.length) 2)).drew.cell? ⟨w.heap.size, 0, none⟩ = some (.int .i64 s) := bA.cell 0
  have a1 : (V.alloc (.cells (madeCells #[.int .i64 0] cs.length) 2)).drew.cell? ⟨w.heap.size, 1, none⟩ = some (.int .i64 u) := bA.cell 1
  have a2 : (V.alloc (.cells (madeCells #[.int .i64 0] cs.length) 2)).drew.cell? ⟨w.heap.size, 2, none⟩ = some (.int .i64 d) := bA.cell 2
  have hVX : Below V.heap.size V (V.alloc (.cells (madeCells #[.int .i64 0] cs.length) 2)).drew := ((Below.refl _ _).alloc (Nat.le_refl _) _).drew
  have kX : Kept (Below w.heap.size w (V.alloc (.cells (madeCells #[.int .i64 0] cs.length) 2)).drew) := ⟨bthen hV hVX hV.size⟩
  have kI : Kept (Ints (V.alloc (.cells (madeCells #[.int .i64 0] cs.length) 2)).drew A cs.length cs) := ⟨h.below kX.out⟩
  have kO : Kept (Own (V.alloc (.cells (madeCells #[.int .i64 0] cs.length) 2)).drew V.heap.size (some ⟨V.heap.size, 0, none⟩) cs.length cs.length (zer cs.length)) := ⟨(own_zeros V cs.length hn).drew⟩
  have ul1 : w.heap.size < (V.alloc (.cells (madeCells #[.int .i64 0] cs.length) 2)).drew.heap.size := Nat.lt_of_lt_of_le ul hVX.size
  have KF : Kept (Calls Try.prog 35 #[.agg #[.int .i64 s, .int .i64 u, .int .i64 d], .slice A cs.length c, .slice (some ⟨V.heap.size, 0, none⟩) cs.length cs.length] (V.alloc (.cells (madeCells #[.int .i64 0] cs.length) 2)).drew (RetInts3 (V.alloc (.cells (madeCells #[.int .i64 0] cs.length) 2)).drew (fpPlan s u d cs (zer cs.length)) (fpCost s u d cs (zer cs.length)) (fpCode s u d cs (zer cs.length)))) := ⟨by
    have hh := sForced_any s u d A (some ⟨V.heap.size, 0, none⟩) c cs.length cs (zer cs.length) _ kI.out (by rw [zer_len]; exact kO.out.ints) hn (by rw [zer_len]; exact hn)
    rwa [zer_len] at hh⟩
  clear bu hV h bA hVX kI kO
  go_region_held3 (fun w' => w.heap.size < w'.heap.size ∧ w'.cell? ⟨w.heap.size, 0, none⟩ = some (.int .i64 s) ∧ w'.cell? ⟨w.heap.size, 1, none⟩ = some (.int .i64 u) ∧ w'.cell? ⟨w.heap.size, 2, none⟩ = some (.int .i64 d))
    (first | exact ⟨ul, u0, u1, u2⟩ | exact ⟨ul1, a0, a1, a2⟩ | (go_split_ands; exact ⟨by have := hbr.size; omega, (hbr.cell (p := ⟨w.heap.size, 0, none⟩) ul1).trans a0, (hbr.cell (p := ⟨w.heap.size, 1, none⟩) ul1).trans a1, (hbr.cell (p := ⟨w.heap.size, 2, none⟩) ul1).trans a2⟩))
    (first | (go_at_call 35; refine KF.out.mono ?_; rintro e wq ⟨A2, c2, rfl, ho2, hbr⟩))
  go_wp2_with fail
  go_ret3
  exact retInts3_mk rfl rfl rfl rfl kX.out.size ho2 (bthen kX.out hbr kX.out.size)
set_option maxHeartbeats 4000000 in
theorem bestP_ok (s u d : Int) (A : Option Addr) (c : Nat) (cs : List Int) (w : World) (h : Ints w A cs.length cs) (hn : cs.length ≤ 1048576) (h1 : unitB s u d = true) (h2 : inB cs.length 1 48 = true) (h4 : allB cs (-1000000) 1000000 = true) :
    Calls Try.prog 38 #[.agg #[.int .i64 s, .int .i64 u, .int .i64 d], .slice A cs.length c] w (RetInts3 w (fpPlan s u d cs (zer cs.length)) (fpCost s u d cs (zer cs.length)) (fpCode s u d cs (zer cs.length))) := by
  have hmk := fun W => run_make_row' (P := Try.prog) 36 2 (.int .i64 0) 8 Try.underlying36 info_i64 rfl .i64 .i64 cs.length (by omega) (by omega) W
  have bu0 := box_new w #[.int .i64 s, .int .i64 u, .int .i64 d] 25
  have hf := fits_of h1 h2 h4 (zer_bits cs.length)
  have h48 := (inB_iff _ _ _).1 h2
  have HK := Lib.hid (show fpCode s u d cs (zer cs.length) = if lst s u d (capO u d) (cs.zip (zer cs.length)) 0 d = none then 7 else 0 by simp [fpCode, zer_len, zer_bits, h1, h2, h4])
  have HF := Lib.hid hf
  clear hf
  go_enter Try.func38, Try.ntmps38
  go_wp2_with fail
  refine (isUnit_any _ _ _ _).mono ?_
  rintro e V ⟨rfl, hb1⟩
  have hI := (h.alloc (.cells #[.int .i64 s, .int .i64 u, .int .i64 d] 25)).below hb1
  have hV : Below w.heap.size w V := bthen ((Below.refl _ _).alloc (Nat.le_refl _) _) hb1 (by simp)
  have bu := bu0.belowA hb1
  clear bu0 hb1
  go_wp2_with (first | (go_at_call 53; refine (areHours_any _ _ _ _ (by assumption)).mono ?_; rintro e w' ⟨rfl, rfl⟩) | (go_at_call 54; ((with_reducible refine (allWithin_any _ _ _ cs (-1000000) 1000000 _ hI (by assumption)).mono ?_)); rintro e w' ⟨rfl, rfl⟩))
  have ul := bu.lt
  have u0 : V.cell? ⟨w.heap.size, 0, none⟩ = some (.int .i64 s) := bu.cell 0
  have u1 : V.cell? ⟨w.heap.size, 1, none⟩ = some (.int .i64 u) := bu.cell 1
  have u2 : V.cell? ⟨w.heap.size, 2, none⟩ = some (.int .i64 d) := bu.cell 2
  have bA := (bu.alloc (.cells (madeCells #[.int .i64 0] cs.length) 2)).drew
  have a0 : (V.alloc (.cells (madeCells #[.int .i64 0] cs.length) 2)).drew.cell? ⟨w.heap.size, 0, none⟩ = some (.int .i64 s) := bA.cell 0
  have a1 : (V.alloc (.cells (madeCells #[.int .i64 0] cs.length) 2)).drew.cell? ⟨w.heap.size, 1, none⟩ = some (.int .i64 u) := bA.cell 1
  have a2 : (V.alloc (.cells (madeCells #[.int .i64 0] cs.length) 2)).drew.cell? ⟨w.heap.size, 2, none⟩ = some (.int .i64 d) := bA.cell 2
  have hVX : Below V.heap.size V (V.alloc (.cells (madeCells #[.int .i64 0] cs.length) 2)).drew := ((Below.refl _ _).alloc (Nat.le_refl _) _).drew
  have kX : Kept (Below w.heap.size w (V.alloc (.cells (madeCells #[.int .i64 0] cs.length) 2)).drew) := ⟨bthen hV hVX hV.size⟩
  have kI : Kept (Ints (V.alloc (.cells (madeCells #[.int .i64 0] cs.length) 2)).drew A cs.length cs) := ⟨h.below kX.out⟩
  have kO : Kept (Own (V.alloc (.cells (madeCells #[.int .i64 0] cs.length) 2)).drew V.heap.size (some ⟨V.heap.size, 0, none⟩) cs.length cs.length (zer cs.length)) := ⟨(own_zeros V cs.length hn).drew⟩
  have ul1 : w.heap.size < (V.alloc (.cells (madeCells #[.int .i64 0] cs.length) 2)).drew.heap.size := Nat.lt_of_lt_of_le ul hVX.size
  have KF : Kept (Calls Try.prog 63 #[.agg #[.int .i64 s, .int .i64 u, .int .i64 d], .slice A cs.length c, .slice (some ⟨V.heap.size, 0, none⟩) cs.length cs.length] (V.alloc (.cells (madeCells #[.int .i64 0] cs.length) 2)).drew (RetInts3 (V.alloc (.cells (madeCells #[.int .i64 0] cs.length) 2)).drew (fpPlan s u d cs (zer cs.length)) (fpCost s u d cs (zer cs.length)) (fpCode s u d cs (zer cs.length)))) := ⟨by
    exact (bestPlan_any (cc := cs.length) _ kI.out kO.out.ints HF.out (by omega) (by omega)).mono (fun e w' hh => bestPlan_ret HK.out hh)⟩
  clear bu hV h bA hVX kI kO hI
  go_region_held3 (fun w' => w.heap.size < w'.heap.size ∧ w'.cell? ⟨w.heap.size, 0, none⟩ = some (.int .i64 s) ∧ w'.cell? ⟨w.heap.size, 1, none⟩ = some (.int .i64 u) ∧ w'.cell? ⟨w.heap.size, 2, none⟩ = some (.int .i64 d))
    (first | exact ⟨ul, u0, u1, u2⟩ | exact ⟨ul1, a0, a1, a2⟩ | (go_split_ands; exact ⟨by have := hbr.size; omega, (hbr.cell (p := ⟨w.heap.size, 0, none⟩) ul1).trans a0, (hbr.cell (p := ⟨w.heap.size, 1, none⟩) ul1).trans a1, (hbr.cell (p := ⟨w.heap.size, 2, none⟩) ul1).trans a2⟩))
    (first | (go_at_call 63; refine KF.out.mono ?_; rintro e wq ⟨A2, c2, rfl, ho2, hbr⟩))
  go_wp2_with fail
  go_ret3
  exact retInts3_mk rfl rfl rfl rfl kX.out.size ho2 (bthen kX.out hbr kX.out.size)
set_option maxHeartbeats 4000000 in
theorem bestP_any (s u d : Int) (A : Option Addr) (c : Nat) (cs : List Int) (w : World) (h : Ints w A cs.length cs) (hn : cs.length ≤ 1048576) :
    Calls Try.prog 38 #[.agg #[.int .i64 s, .int .i64 u, .int .i64 d], .slice A cs.length c] w (RetInts3 w (fpPlan s u d cs (zer cs.length)) (fpCost s u d cs (zer cs.length)) (fpCode s u d cs (zer cs.length))) := by
  rcases (orB (orB (orB trivial)) : unitB s u d = false ∨ unitB s u d = true ∧ (inB cs.length 1 48 = false ∨ inB cs.length 1 48 = true ∧ (allB cs (-1000000) 1000000 = false ∨ allB cs (-1000000) 1000000 = true ∧ True)))
    with h1 | ⟨h1, h2 | ⟨h2, h4 | ⟨h4, _⟩⟩⟩
  case inr.inr.inr => exact bestP_ok s u d A c cs w h hn h1 h2 h4
  all_goals
    go_enter Try.func38, Try.ntmps38
    go_wp2_with fail
    refine (isUnit_any _ _ _ _).mono ?_
    rintro e w1 ⟨rfl, hb1⟩
    have hI := (h.alloc (.cells #[.int .i64 s, .int .i64 u, .int .i64 d] 25)).below hb1
    have hw1 : Below w.heap.size w w1 := bthen ((Below.refl _ _).alloc (Nat.le_refl _) _) hb1 (by simp)
    go_wp2_with (first | (go_at_call 53; refine (areHours_any _ _ _ _ (by assumption)).mono ?_; rintro e w' ⟨rfl, rfl⟩) | (go_at_call 54; ((with_reducible refine (allWithin_any _ _ _ cs (-1000000) 1000000 _ hI (by assumption)).mono ?_)); rintro e w' ⟨rfl, rfl⟩))
    go_ret3
    have hk : fpCode s u d cs (zer cs.length) ≠ 0 := by first | (simp [fpCode, zer_len, h1, h2, h4]; done) | (simp [fpCode, h1, h2]; done) | (simp [fpCode, h1]; done)
    exact retInts3_nil (by unfold fpPlan; rw [if_neg hk]) (by unfold fpCost; rw [if_neg hk]) (by first | (simp [fpCode, zer_len, h1, h2, h4]; done) | (simp [fpCode, h1, h2]; done) | (simp [fpCode, h1]; done)) hw1
end Go.Proofs.Ytiofjnohdmminaa
