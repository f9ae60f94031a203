/- What l15Step does, by a walk over its text. Conditions: within their bounds; the table's next row holds the least costs. -/
import Derived.Test.YtiofjnohdmminaaTab
import Derived.Deep.DeepCutAuto
set_option linter.unusedVariables false
set_option maxRecDepth 100000
namespace Go.Proofs.Ytiofjnohdmminaa
open Go.ChangeShapes Go.WideShapes Go.ChangeAt Go.RowKit Go.Joins Go.Deep

set_option maxHeartbeats 8000000 in
theorem step_any {B tb tc : Nat} {bk : Nat → Nat} {row : Nat → List Int} {A C : Option Addr} {n ca cc : Nat} {s u d : Int} {cs ms : List Int} {q : Nat} {c m on run x : Int} (w : World) (ic : Ints w A n cs) (im : Ints w C n ms) (hf : Fits s u d (cs.zip ms))
    (hT : Tab w B tb (n + 1) bk row) (hq : q < n) (hc : cs[q]? = some c) (hm : ms[q]? = some m) (hG : Good s u d ((cs.zip ms).drop (q + 1)) (row (q + 1))) (hst : St on run) (hx : x = 0 ∨ x = 1) :
    Calls Try.prog 70 #[.agg #[.int .i64 s, .int .i64 u, .int .i64 d], .slice A n ca, .slice C n cc, .slice (some ⟨tb, 0, none⟩) (n + 1) tc, .int .i64 q, .int .i64 on, .int .i64 run, .int .i64 x] w
      fun e w' => e = .returned (.int .i64 (VS (stp s u d (fun _ => 48) c m (lst s u d (fun _ => 48) ((cs.zip ms).drop (q + 1))) on run x))) ∧ Below w.heap.size w w' := by
  have hs := hf.hs
  have hu := hf.hu
  have hd := hf.hd
  have hst' := hst
  obtain ⟨hon, hr1, hr2⟩ := hst'
  obtain ⟨b1, o1, c', rfl, hb1, hc', _, hcc⟩ := ic.at_ hq
  obtain ⟨b2, o2, m', rfl, hb2, hm', _, hmm⟩ := im.at_ hq
  obtain rfl : c' = c := Option.some.inj (hc'.symm.trans hc)
  obtain rfl : m' = m := Option.some.inj (hm'.symm.trans hm)
  have hmem : (c', m') ∈ cs.zip ms := by
    have h1 := ic.len
    have h2 := im.len
    have hl : q < (cs.zip ms).length := by rw [List.length_zip]; omega
    have := List.getElem_mem hl
    simp only [List.getElem_zip] at this
    rw [List.getElem?_eq_some_iff] at hc hm
    obtain ⟨_, e1⟩ := hc
    obtain ⟨_, e2⟩ := hm
    rw [e1, e2] at this
    exact this
  obtain ⟨⟨hc1, hc2⟩, hm01⟩ := hf.hl _ hmem
  simp only at hc1 hc2 hm01
  have q0 : (0 : Int) ≤ (q : Int) := by omega
  have q1 : (q : Int) < (n : Int) := by omega
  have hn48 : n ≤ 48 := by
    have h1 := ic.len
    have h2 := im.len
    have h3 := hf.hn
    rw [List.length_zip] at h3
    omega
  have q48 : (q : Int) < 48 := by omega
  by_cases hok : okS u d m' on run x
  · obtain ⟨nx, hnx⟩ : ∃ nx, nx = nxt (fun _ => 48) on run x := ⟨_, rfl⟩
    have hsn : St x nx := hnx ▸ hst.nxt48 hx
    have hz := hG x nx hsn
    have hi : (2 * nx + x).toNat < 98 := by obtain ⟨h1, h2, h3⟩ := hsn; omega
    obtain ⟨hcell, _⟩ := hT.num (show q + 1 < n + 1 by omega) hi hz
    have hkc := hT.cell (q + 1) (by omega)
    have htl := hT.lt (by omega)
    have hrl := (hT.row_lt (show q + 1 < n + 1 by omega)).2
    have hbd := ((hf.drop (q + 1)).lst (fun _ => 48) x nx)
    have hres : VS (stp s u d (fun _ => 48) c' m' (lst s u d (fun _ => 48) ((cs.zip ms).drop (q + 1))) on run x) = if VS (lst s u d (fun _ => 48) ((cs.zip ms).drop (q + 1)) x nx) = 1125899906842624 then 1125899906842624 else stepC s c' on x + VS (lst s u d (fun _ => 48) ((cs.zip ms).drop (q + 1)) x nx) := by
      unfold stp
      rw [if_pos hok, ← hnx]
      cases hh : lst s u d (fun _ => 48) ((cs.zip ms).drop (q + 1)) x nx with
      | none => rw [if_pos (by rfl)]; rfl
      | some t =>
        rw [hh] at hbd
        have := hbd t rfl
        rw [if_neg (by simp [VS]; omega)]
        rfl
    rw [hres]
    have hvb := VS_bd hbd
    generalize VS (lst s u d (fun _ => 48) ((cs.zip ms).drop (q + 1)) x nx) = v at *
    unfold okS at hok
    unfold nxt at hnx
    unfold stepC
    clear hz hG hT hres hbd hst hsn hc hm hc' hm' hmem ic im
    have hcap : ∀ k, capO u d k = if k = 1 then u else d := fun _ => rfl
    rw [hcap] at hok
    clear hcap
    obtain ⟨R, rfl⟩ : ∃ R : Nat, run = (R : Int) := ⟨run.toNat, by omega⟩
    have q2 : (0 : Int) ≤ (q : Int) + 1 := by omega
    have q3 : (q : Int) + 1 < (n : Int) + 1 := by omega
    have q4 : ((q : Int) + 1).toNat = q + 1 := by omega
    obtain ⟨A, hA⟩ : ∃ A : Int, (if (R : Int) + 1 < 48 then (R : Int) + 1 else 48) = A := ⟨_, rfl⟩
    have hA1 : 1 ≤ A ∧ A ≤ 48 := by rw [← hA]; split <;> omega
    have hnx' : nx = if x = on then A else 1 := by
      rw [hnx, ← hA]
      dsimp only
      split
      · split <;> omega
      · rfl
    clear hnx
    obtain ⟨J, hJ⟩ : ∃ J : Nat, (J : Int) = 2 * nx + x := ⟨(2 * nx + x).toNat, by
      have : 0 ≤ 2 * nx + x := by rw [hnx']; split <;> omega
      omega⟩
    rw [← hJ] at hi hcell
    simp only [Int.toNat_natCast] at hcell hi
    have hJ1 : (J : Int) < 98 := by omega
    have hJ0 : (0 : Int) ≤ (J : Int) := by omega
    have hJ' := hJ.symm
    clear hJ hi
    by_cases hv : v = 1125899906842624
    · rw [if_pos hv]
      have hv1 : (v == 1125899906842624) = true := by simp [hv]
      clear hv
      rcases hon with rfl | rfl <;> rcases hx with rfl | rfl <;> rcases hm01 with rfl | rfl
      all_goals (simp at hok hnx') <;>
        (subst hnx'
         try simp only [Int.add_zero] at hJ'
         have hJc : J = 2 ∨ J = 3 ∨ (J ≠ 2 ∧ J ≠ 3) := by omega
         rcases hJc with rfl | rfl | hJc <;> (first | (exfalso; omega) | skip)
         all_goals
           go_enter Try.func70, Try.ntmps70
           go_wp2_with fail
           go_ret
           exact ⟨rfl, (Below.refl _ _).alloc (Nat.le_refl _) _⟩)
    · rw [if_neg hv]
      have hv1 : (v == 1125899906842624) = false := by simp [hv]
      clear hv
      rcases hon with rfl | rfl <;> rcases hx with rfl | rfl <;> rcases hm01 with rfl | rfl
      all_goals (simp at hok hnx') <;>
        (subst hnx'
         try simp only [Int.add_zero] at hJ'
         have hJc : J = 2 ∨ J = 3 ∨ (J ≠ 2 ∧ J ≠ 3) := by omega
         rcases hJc with rfl | rfl | hJc <;> (first | (exfalso; omega) | skip)
         all_goals
           try simp
           go_enter Try.func70, Try.ntmps70
           go_wp2_with fail
           go_ret
           exact ⟨ri (by omega), (Below.refl _ _).alloc (Nat.le_refl _) _⟩)
  · have hres : VS (stp s u d (fun _ => 48) c' m' (lst s u d (fun _ => 48) ((cs.zip ms).drop (q + 1))) on run x) = 1125899906842624 := by
      unfold stp
      rw [if_neg hok]
      rfl
    rw [hres]
    unfold okS at hok
    have hcap : ∀ k, capO u d k = if k = 1 then u else d := fun _ => rfl
    rw [hcap] at hok
    clear hcap hres hG hT hst hc hm hc' hm' hmem
    rcases hon with rfl | rfl <;> rcases hx with rfl | rfl <;> rcases hm01 with rfl | rfl <;> simp at hok
    all_goals
      go_enter Try.func70, Try.ntmps70
      go_wp2_with fail
      go_ret
      exact ⟨rfl, (Below.refl _ _).alloc (Nat.le_refl _) _⟩
end Go.Proofs.Ytiofjnohdmminaa
