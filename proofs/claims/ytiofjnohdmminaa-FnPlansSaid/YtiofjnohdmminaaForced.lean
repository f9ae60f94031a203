/- What ForcedPlan and BestPlan of the program and of the reference do, by walks over their text. Conditions: at most 1048576 hours. -/
import Derived.Test.YtiofjnohdmminaaBest2
import Derived.Test.YtiofjnohdmminaaTBest2
import Derived.Test.YtiofjnohdmminaaLists
import Derived.Test.YtiofjnohdmminaaUnit
import Derived.Test.YtiofjnohdmminaaSched2
set_option linter.unusedVariables false
set_option maxRecDepth 100000
namespace Go.Proofs.Ytiofjnohdmminaa
open Go.RowKit Go.Joins Go.Deep

def fpCode (s u d : Int) (cs ms : List Int) : Int :=
  if unitB s u d = false then 1 else if inB cs.length 1 48 = false then 3 else if inB ms.length 1 48 = false then 3 else if allB cs (-1000000) 1000000 = false then 2 else if allB ms 0 1 = false then 2 else if ((cs.length : Int) != ms.length) = true then 5
  else if lst s u d (capO u d) (cs.zip ms) 0 d = none then 7 else 0
def fpPlan (s u d : Int) (cs ms : List Int) : List Int := if fpCode s u d cs ms = 0 then plan s u d (capO u d) (cs.zip ms) 0 d else []
def fpCost (s u d : Int) (cs ms : List Int) : Int := if fpCode s u d cs ms = 0 then (lst s u d (capO u d) (cs.zip ms) 0 d).getD 0 else 0
/-- A call returns a slice of its own that reads as zs, and two numbers, and leaves what was there. -/
def RetInts3 (w : World) (zs : List Int) (k1 k2 : Int) (e : Ending) (w' : World) : Prop :=
  ∃ A c, e = .returned (.tuple #[.slice A zs.length c, .int .i64 k1, .int .i64 k2]) ∧ Own w' w.heap.size A zs.length c zs ∧ Below w.heap.size w w'
theorem retInts3_nil {w w' : World} {zs : List Int} {a b k : Int} (h0 : zs = []) (h1 : a = 0) (h2 : b = k) (hb : Below w.heap.size w w') : RetInts3 w zs a b (.returned (.tuple #[.slice none 0 0, .int .i64 0, .int .i64 k])) w' := by
  subst h0 h1 h2
  exact ⟨none, 0, rfl, ⟨World.ownsRow_nil _ _ _ _, fun z hz => absurd hz List.not_mem_nil⟩, hb⟩
theorem retInts3_mk {w w' : World} {fp zs : List Int} {fc fk a k : Int} {A : Option Addr} {c m : Nat} {B : Nat} (h0 : fp = zs) (h1 : fc = a) (h2 : fk = k) (hm : zs.length = m) (hB : w.heap.size ≤ B) (ho : Own w' B A m c zs) (hb : Below w.heap.size w w') :
    RetInts3 w fp fc fk (.returned (.tuple #[.slice A m c, .int .i64 a, .int .i64 k])) w' := by
  subst h0 h1 h2 hm
  exact ⟨A, c, rfl, ho.mono hB, hb⟩
theorem unitB_at {s u d : Int} (h : unitB s u d = true) : (0 ≤ s ∧ s ≤ 1000000) ∧ (1 ≤ u ∧ u ≤ 48) ∧ (1 ≤ d ∧ d ≤ 48) := by
  unfold unitB at h
  simp only [Bool.and_eq_true] at h
  exact ⟨(inB_iff _ _ _).1 h.1, (inB_iff _ _ _).1 h.2.1, (inB_iff _ _ _).1 h.2.2⟩
theorem fits_of {s u d : Int} {cs ms : List Int} (h1 : unitB s u d = true) (h2 : inB cs.length 1 48 = true) (h4 : allB cs (-1000000) 1000000 = true) (h5 : allB ms 0 1 = true) : Fits s u d (cs.zip ms) := by
  obtain ⟨a, b, c⟩ := unitB_at h1
  refine ⟨a, b, c, fun x hx => ?_, ?_⟩
  · obtain ⟨y1, y2⟩ := x
    have hy1 := (List.of_mem_zip hx).1
    have hy2 := (List.of_mem_zip hx).2
    obtain ⟨i, hi⟩ := List.getElem?_of_mem hy1
    obtain ⟨j, hj⟩ := List.getElem?_of_mem hy2
    have g1 := all_at h4 hi
    have g2 := all_at h5 hj
    refine ⟨g1, ?_⟩
    simp only
    omega
  · have := (inB_iff _ _ _).1 h2
    rw [List.length_zip]
    omega
theorem fpPlan_le {s u d : Int} {cs ms : List Int} (h : cs.length ≤ 1048576) : (fpPlan s u d cs ms).length ≤ 1048576 := by
  unfold fpPlan
  split
  · rw [plan_len, List.length_zip]; omega
  · simp
theorem same48 {s u d : Int} {l : List (Int × Int)} (hf : Fits s u d l) : lst s u d (fun _ => 48) l 0 48 = lst s u d (capO u d) l 0 d ∧ plan s u d (fun _ => 48) l 0 48 = plan s u d (capO u d) l 0 d := by
  have e : d = min (capO u d 0) 48 := by
    have := hf.hd
    unfold capO
    simp
    omega
  exact ⟨(lst_same hf.hu hf.hd l 0 d 48 e (by omega)).symm, (plan_same hf.hu hf.hd l 0 d 48 e (by omega)).symm⟩

set_option maxHeartbeats 4000000 in
theorem forced_any (s u d : Int) (A C : Option Addr) (c e : Nat) (cs ms : List Int) (w : World) (h : Ints w A cs.length cs) (k0 : Ints w C ms.length ms) (hn : cs.length ≤ 1048576) (hm : ms.length ≤ 1048576) :
    Calls Try.prog 36 #[.agg #[.int .i64 s, .int .i64 u, .int .i64 d], .slice A cs.length c, .slice C ms.length e] w (RetInts3 w (fpPlan s u d cs ms) (fpCost s u d cs ms) (fpCode s u d cs ms)) := by
  rcases (orB (orB (orB (orB (orB (orB trivial))))) : unitB s u d = false ∨ unitB s u d = true ∧ (inB cs.length 1 48 = false ∨ inB cs.length 1 48 = true ∧ (inB ms.length 1 48 = false ∨ inB ms.length 1 48 = true ∧ (allB cs (-1000000) 1000000 = false ∨ allB cs (-1000000) 1000000 = true ∧ (allB ms 0 1 = false ∨ allB ms 0 1 = true ∧ (((cs.length : Int) != ms.length) = false ∨ ((cs.length : Int) != ms.length) = true ∧ True))))))
    with h1 | ⟨h1, h2 | ⟨h2, h3 | ⟨h3, h4 | ⟨h4, h5 | ⟨h5, h6 | ⟨h6, _⟩⟩⟩⟩⟩⟩
  case inr.inr.inr.inr.inr.inl =>
    have hnm : ms.length = cs.length := by
      have : (cs.length : Int) = ms.length := by simpa using h6
      omega
    have hf := fits_of h1 h2 h4 h5
    have h48 := (inB_iff _ _ _).1 h2
    have HK := Lib.hid (show fpCode s u d cs ms = if lst s u d (capO u d) (cs.zip ms) 0 d = none then 7 else 0 by simp [fpCode, h1, h2, h3, h4, h5, h6])
    have HF := Lib.hid hf
    have HNM := Lib.hid hnm
    clear hf hnm
    go_enter Try.func36, Try.ntmps36
    go_wp2_with fail
    refine (isUnit_any _ _ _ _).mono ?_
    rintro e w1 ⟨rfl, hb1⟩
    obtain ⟨hc1, hf1⟩ := bcell hb1
    have hz : w.heap.size < w1.heap.size := by have := hb1.size; simp at this; omega
    have hI := (h.alloc (.cells #[.int .i64 s, .int .i64 u, .int .i64 d] 25)).below hb1
    have hJ := (k0.alloc (.cells #[.int .i64 s, .int .i64 u, .int .i64 d] 25)).below hb1
    have hw1 : Below w.heap.size w w1 := bthen ((Below.refl _ _).alloc (Nat.le_refl _) _) hb1 (by simp)
    have hJ' : Ints w1 C cs.length ms := HNM.out ▸ hJ
    go_wp2_with (first | (go_at_call 53; refine (areHours_any _ _ _ _ (by assumption)).mono ?_; rintro e w' ⟨rfl, rfl⟩) | (go_at_call 54; ((with_reducible refine (allWithin_any _ _ _ ms 0 1 _ hJ (by assumption)).mono ?_)); rintro e w' ⟨rfl, rfl⟩) | (go_at_call 54; ((with_reducible refine (allWithin_any _ _ _ cs (-1000000) 1000000 _ hI (by assumption)).mono ?_)); rintro e w' ⟨rfl, rfl⟩) | fail)
    have hbp : Calls Try.prog 63 #[.agg #[.int .i64 s, .int .i64 u, .int .i64 d], .slice A cs.length c, .slice C ms.length e] w1 (RetPlan s u d cs ms w1) := by
      rw [HNM.out]
      exact bestPlan_any w1 hI hJ' HF.out (by omega) (by omega)
    cases hl : lst s u d (capO u d) (cs.zip ms) 0 d with
    | none =>
      have hbp' : Calls Try.prog 63 #[.agg #[.int .i64 s, .int .i64 u, .int .i64 d], .slice A cs.length c, .slice C ms.length e] w1 (fun e w' => ∃ A2 c2, e = .returned (.tuple #[.slice A2 0 c2, .int .i64 0, .int .i64 7]) ∧ Own w' w1.heap.size A2 0 c2 [] ∧ Below w1.heap.size w1 w') := hbp.mono (by
        rintro e w' ⟨A2, c2, rfl, ho, hb⟩
        rw [hl] at ho ⊢
        exact ⟨A2, c2, rfl, ho, hb⟩)
      have HL := Lib.hid hl
      clear hl hbp
      refine hbp'.mono ?_
      rintro e2 w2 ⟨A2, c2, rfl, ho2, hb2⟩
      have hw2 := bthen hw1 hb2 hw1.size
      go_wp2_with fail
      go_ret3
      have hk : fpCode s u d cs ms = 7 := by rw [HK.out, HL.out]; rfl
      exact retInts3_mk (by unfold fpPlan; rw [if_neg (by rw [hk]; decide)]) (by unfold fpCost; rw [if_neg (by rw [hk]; decide)]) hk rfl hw1.size ho2 hw2
    | some t =>
      have hbp' : Calls Try.prog 63 #[.agg #[.int .i64 s, .int .i64 u, .int .i64 d], .slice A cs.length c, .slice C ms.length e] w1 (fun e w' => ∃ A2 c2, e = .returned (.tuple #[.slice A2 (plan s u d (capO u d) (cs.zip ms) 0 d).length c2, .int .i64 t, .int .i64 0]) ∧ Own w' w1.heap.size A2 (plan s u d (capO u d) (cs.zip ms) 0 d).length c2 (plan s u d (capO u d) (cs.zip ms) 0 d) ∧ Below w1.heap.size w1 w') := hbp.mono (by
        rintro e w' ⟨A2, c2, rfl, ho, hb⟩
        rw [hl] at ho ⊢
        simp only [reduceCtorEq, if_false, Option.getD_some] at ho ⊢
        exact ⟨A2, c2, rfl, ho, hb⟩)
      have htb := (HF.out.lst (capO u d) 0 d) t hl
      have htn : (t == 1125899906842624) = false := by simp; omega
      have HL := Lib.hid hl
      clear hl hbp
      refine hbp'.mono ?_
      rintro e2 w2 ⟨A2, c2, rfl, ho2, hb2⟩
      have hw2 := bthen hw1 hb2 hw1.size
      go_wp2_with fail
      go_ret3
      have hk : fpCode s u d cs ms = 0 := by rw [HK.out, HL.out]; simp
      exact retInts3_mk (by unfold fpPlan; rw [if_pos hk]) (by unfold fpCost; rw [if_pos hk, HL.out]; rfl) hk rfl hw1.size ho2 hw2
  all_goals
    go_enter Try.func36, Try.ntmps36
    go_wp2_with fail
    refine (isUnit_any _ _ _ _).mono ?_
    rintro e w1 ⟨rfl, hb1⟩
    have hI := (h.alloc (.cells #[.int .i64 s, .int .i64 u, .int .i64 d] 25)).below hb1
    have hJ := (k0.alloc (.cells #[.int .i64 s, .int .i64 u, .int .i64 d] 25)).below hb1
    have hw1 : Below w.heap.size w w1 := bthen ((Below.refl _ _).alloc (Nat.le_refl _) _) hb1 (by simp)
    go_wp2_with (first | (go_at_call 53; refine (areHours_any _ _ _ _ (by assumption)).mono ?_; rintro e w' ⟨rfl, rfl⟩) | (go_at_call 54; ((with_reducible refine (allWithin_any _ _ _ ms 0 1 _ hJ (by assumption)).mono ?_)); rintro e w' ⟨rfl, rfl⟩) | (go_at_call 54; ((with_reducible refine (allWithin_any _ _ _ cs (-1000000) 1000000 _ hI (by assumption)).mono ?_)); rintro e w' ⟨rfl, rfl⟩))
    go_ret3
    have hk : fpCode s u d cs ms ≠ 0 := by first | (simp [fpCode, h1, h2, h3, h4, h5, h6]; done) | (simp [fpCode, h1, h2, h3, h4, h5]; done) | (simp [fpCode, h1, h2, h3, h4]; done) | (simp [fpCode, h1, h2, h3]; done) | (simp [fpCode, h1, h2]; done) | (simp [fpCode, h1]; done)
    exact retInts3_nil (by unfold fpPlan; rw [if_neg hk]) (by unfold fpCost; rw [if_neg hk]) (by first | (simp [fpCode, h1, h2, h3, h4, h5, h6]; done) | (simp [fpCode, h1, h2, h3, h4, h5]; done) | (simp [fpCode, h1, h2, h3, h4]; done) | (simp [fpCode, h1, h2, h3]; done) | (simp [fpCode, h1, h2]; done) | (simp [fpCode, h1]; done)) hw1
set_option maxHeartbeats 4000000 in
theorem sForced_any (s u d : Int) (A C : Option Addr) (c e : Nat) (cs ms : List Int) (w : World) (h : Ints w A cs.length cs) (k0 : Ints w C ms.length ms) (hn : cs.length ≤ 1048576) (hm : ms.length ≤ 1048576) :
    Calls Try.prog 35 #[.agg #[.int .i64 s, .int .i64 u, .int .i64 d], .slice A cs.length c, .slice C ms.length e] w (RetInts3 w (fpPlan s u d cs ms) (fpCost s u d cs ms) (fpCode s u d cs ms)) := by
  rcases (orB (orB (orB (orB (orB (orB trivial))))) : unitB s u d = false ∨ unitB s u d = true ∧ (inB cs.length 1 48 = false ∨ inB cs.length 1 48 = true ∧ (inB ms.length 1 48 = false ∨ inB ms.length 1 48 = true ∧ (allB cs (-1000000) 1000000 = false ∨ allB cs (-1000000) 1000000 = true ∧ (allB ms 0 1 = false ∨ allB ms 0 1 = true ∧ (((cs.length : Int) != ms.length) = false ∨ ((cs.length : Int) != ms.length) = true ∧ True))))))
    with h1 | ⟨h1, h2 | ⟨h2, h3 | ⟨h3, h4 | ⟨h4, h5 | ⟨h5, h6 | ⟨h6, _⟩⟩⟩⟩⟩⟩
  case inr.inr.inr.inr.inr.inl =>
    have hnm : ms.length = cs.length := by
      have : (cs.length : Int) = ms.length := by simpa using h6
      omega
    have hf := fits_of h1 h2 h4 h5
    have h48 := (inB_iff _ _ _).1 h2
    have HK := Lib.hid (show fpCode s u d cs ms = if lst s u d (capO u d) (cs.zip ms) 0 d = none then 7 else 0 by simp [fpCode, h1, h2, h3, h4, h5, h6])
    have HF := Lib.hid hf
    have HNM := Lib.hid hnm
    clear hf hnm
    go_enter Try.func35, Try.ntmps35
    go_wp2_with fail
    refine (sIsUnit_any _ _ _ _).mono ?_
    rintro e w1 ⟨rfl, hb1⟩
    obtain ⟨hc1, hf1⟩ := bcell hb1
    have hz : w.heap.size < w1.heap.size := by have := hb1.size; simp at this; omega
    have hI := (h.alloc (.cells #[.int .i64 s, .int .i64 u, .int .i64 d] 25)).below hb1
    have hJ := (k0.alloc (.cells #[.int .i64 s, .int .i64 u, .int .i64 d] 25)).below hb1
    have hw1 : Below w.heap.size w w1 := bthen ((Below.refl _ _).alloc (Nat.le_refl _) _) hb1 (by simp)
    have hJ' : Ints w1 C cs.length ms := HNM.out ▸ hJ
    go_wp2_with (first | (go_at_call 51; refine (hours_any _ _ _ _ (by assumption)).mono ?_; rintro e w' ⟨rfl, rfl⟩) | (go_at_call 52; refine (bits_any _ _ _ _ _ hJ (by assumption)).mono ?_; rintro e w' ⟨rfl, rfl⟩) | (go_at_call 59; refine (costs_any _ _ _ _ _ hI (by assumption)).mono ?_; rintro e w' ⟨rfl, rfl⟩) | fail)
    have hbp : Calls Try.prog 62 #[.agg #[.int .i64 s, .int .i64 u, .int .i64 d], .slice A cs.length c, .slice C ms.length e] w1 ((fun e w' => ∃ A2 c2, e = .returned (.tuple #[.slice A2 (bestL s u d (cs.zip ms)).length c2, .int .i64 (VS (lst s u d (fun _ => 48) (cs.zip ms) 0 48))]) ∧ Own w' w1.heap.size A2 (bestL s u d (cs.zip ms)).length c2 (bestL s u d (cs.zip ms)) ∧ Below w1.heap.size w1 w')) := by
      rw [HNM.out]
      exact sBest_any w1 hI hJ' HF.out (by omega) (by omega)
    cases hl : lst s u d (capO u d) (cs.zip ms) 0 d with
    | none =>
      have hbp' : Calls Try.prog 62 #[.agg #[.int .i64 s, .int .i64 u, .int .i64 d], .slice A cs.length c, .slice C ms.length e] w1 (fun e w' => ∃ A2 c2, e = .returned (.tuple #[.slice A2 0 c2, .int .i64 1125899906842624]) ∧ Own w' w1.heap.size A2 0 c2 [] ∧ Below w1.heap.size w1 w') := hbp.mono (by
        rintro e w' ⟨A2, c2, rfl, ho, hb⟩
        have hs := same48 HF.out
        unfold bestL at ho ⊢
        rw [hs.1, hl] at ho ⊢
        exact ⟨A2, c2, rfl, ho, hb⟩)
      have HL := Lib.hid hl
      clear hl hbp
      refine hbp'.mono ?_
      rintro e2 w2 ⟨A2, c2, rfl, ho2, hb2⟩
      have hw2 := bthen hw1 hb2 hw1.size
      go_wp2_with fail
      go_ret3
      have hk : fpCode s u d cs ms = 7 := by rw [HK.out, HL.out]; rfl
      exact retInts3_nil (by unfold fpPlan; rw [if_neg (by rw [hk]; decide)]) (by unfold fpCost; rw [if_neg (by rw [hk]; decide)]) hk hw2
    | some t =>
      have hbp' : Calls Try.prog 62 #[.agg #[.int .i64 s, .int .i64 u, .int .i64 d], .slice A cs.length c, .slice C ms.length e] w1 (fun e w' => ∃ A2 c2, e = .returned (.tuple #[.slice A2 (plan s u d (capO u d) (cs.zip ms) 0 d).length c2, .int .i64 t]) ∧ Own w' w1.heap.size A2 (plan s u d (capO u d) (cs.zip ms) 0 d).length c2 (plan s u d (capO u d) (cs.zip ms) 0 d) ∧ Below w1.heap.size w1 w') := hbp.mono (by
        rintro e w' ⟨A2, c2, rfl, ho, hb⟩
        have hs := same48 HF.out
        unfold bestL at ho ⊢
        rw [hs.1, hs.2, hl] at ho ⊢
        simp only [reduceCtorEq, if_false] at ho ⊢
        exact ⟨A2, c2, rfl, ho, hb⟩)
      have htb := (HF.out.lst (capO u d) 0 d) t hl
      have htn : (t == 1125899906842624) = false := by simp; omega
      have HL := Lib.hid hl
      clear hl hbp
      refine hbp'.mono ?_
      rintro e2 w2 ⟨A2, c2, rfl, ho2, hb2⟩
      have hw2 := bthen hw1 hb2 hw1.size
      go_wp2_with fail
      go_ret3
      have hk : fpCode s u d cs ms = 0 := by rw [HK.out, HL.out]; simp
      exact retInts3_mk (by unfold fpPlan; rw [if_pos hk]) (by unfold fpCost; rw [if_pos hk, HL.out]; rfl) hk rfl hw1.size ho2 hw2
  all_goals
    go_enter Try.func35, Try.ntmps35
    go_wp2_with fail
    refine (sIsUnit_any _ _ _ _).mono ?_
    rintro e w1 ⟨rfl, hb1⟩
    have hI := (h.alloc (.cells #[.int .i64 s, .int .i64 u, .int .i64 d] 25)).below hb1
    have hJ := (k0.alloc (.cells #[.int .i64 s, .int .i64 u, .int .i64 d] 25)).below hb1
    have hw1 : Below w.heap.size w w1 := bthen ((Below.refl _ _).alloc (Nat.le_refl _) _) hb1 (by simp)
    go_wp2_with (first | (go_at_call 51; refine (hours_any _ _ _ _ (by assumption)).mono ?_; rintro e w' ⟨rfl, rfl⟩) | (go_at_call 52; refine (bits_any _ _ _ _ _ hJ (by assumption)).mono ?_; rintro e w' ⟨rfl, rfl⟩) | (go_at_call 59; refine (costs_any _ _ _ _ _ hI (by assumption)).mono ?_; rintro e w' ⟨rfl, rfl⟩))
    go_ret3
    have hk : fpCode s u d cs ms ≠ 0 := by first | (simp [fpCode, h1, h2, h3, h4, h5, h6]; done) | (simp [fpCode, h1, h2, h3, h4, h5]; done) | (simp [fpCode, h1, h2, h3, h4]; done) | (simp [fpCode, h1, h2, h3]; done) | (simp [fpCode, h1, h2]; done) | (simp [fpCode, h1]; done)
    exact retInts3_nil (by unfold fpPlan; rw [if_neg hk]) (by unfold fpCost; rw [if_neg hk]) (by first | (simp [fpCode, h1, h2, h3, h4, h5, h6]; done) | (simp [fpCode, h1, h2, h3, h4, h5]; done) | (simp [fpCode, h1, h2, h3, h4]; done) | (simp [fpCode, h1, h2, h3]; done) | (simp [fpCode, h1, h2]; done) | (simp [fpCode, h1]; done)) hw1
end Go.Proofs.Ytiofjnohdmminaa
