/- What ScaleSupplies (of the program and of the reference) does, by walks over its text. Condition: at most 1048576 supplies. -/
import Derived.Test.YtpgegfnhokhlmabGreatKA
set_option linter.unusedVariables false
set_option maxRecDepth 100000
namespace Go.Proofs.YtpgegfnhokhlmabGreat
open Go.RowKit Go.Joins Go.Deep

/-- A call returns a slice of its own that reads as zs, and a number, and leaves what was there. -/
def RetInts2 (w : World) (zs : List Int) (k : Int) (e : Ending) (w' : World) : Prop :=
  ∃ A c, e = .returned (.tuple #[.slice A zs.length c, .int .i64 k]) ∧ Own w' w.heap.size A zs.length c zs ∧ Below w.heap.size w w'
theorem retInts2_nil {w w' : World} (k : Int) (h : Below w.heap.size w w') : RetInts2 w [] k (.returned (.tuple #[.slice none 0 0, .int .i64 k])) w' := ⟨none, 0, rfl, own_nil _ _, h⟩

def scl (sc : Int) (zs : List Int) : List Int := zs.map fun z => z * sc
def scaleCode (sc : Int) (zs : List Int) : Int :=
  if 24 < zs.length then 3 else if inB sc 0 64 = false then 2 else if allB zs (-30000) 30000 = false then 2 else if allB (scl sc zs) (-30000) 30000 = false then 2 else 0
def scaleOf (sc : Int) (zs : List Int) : List Int := if scaleCode sc zs = 0 then scl sc zs else []
theorem scl_len (sc : Int) (zs : List Int) : (scl sc zs).length = zs.length := by simp [scl]
theorem scl_at {sc z : Int} {zs : List Int} {k : Nat} (h : zs[k]? = some z) : (scl sc zs)[k]? = some (z * sc) := by simp [scl, h]
theorem scl_take {sc z : Int} {zs : List Int} {k : Nat} (h : zs[k]? = some z) : scl sc (zs.take k) ++ [z * sc] = scl sc (zs.take (k + 1)) := by
  simp [scl, List.take_add_one, h]
theorem mul_sc {z sc : Int} (h1 : -30000 ≤ z) (h2 : z ≤ 30000) (h3 : 0 ≤ sc) (h4 : sc ≤ 64) : -1920000 ≤ z * sc ∧ z * sc ≤ 1920000 := by
  have h5 : z * sc ≤ 30000 * sc := Int.mul_le_mul_of_nonneg_right h2 h3
  have h6 : -30000 * sc ≤ z * sc := Int.mul_le_mul_of_nonneg_right h1 h3
  omega
theorem scl_step {sc z : Int} {zs : List Int} {n k : Nat} (hl : zs.length = n) (hk : k < n) (hz : zs[k]? = some z) :
    (scl sc (zs.take k) ++ List.replicate (n - k) 0).set k (z * sc) = scl sc (zs.take (k + 1)) ++ List.replicate (n - (k + 1)) 0 := by
  rw [← scl_take hz, List.set_append_right _ _ (by simp [scl]; omega), List.append_assoc]
  congr 1
  have e1 : k - (scl sc (zs.take k)).length = 0 := by simp [scl]; omega
  have e2 : n - k = (n - (k + 1)) + 1 := by omega
  rw [e1, e2, List.replicate_succ]
  rfl
theorem all_take {zs : List Int} {lo hi : Int} (k : Nat) (h : allB zs lo hi = true) : allB (zs.take k) lo hi = true := by
  unfold allB at *
  rw [List.all_eq_true] at *
  exact fun x hx => h x (List.mem_of_mem_take hx)

set_option maxHeartbeats 2000000 in
theorem scaled_any (A : Option Addr) (c : Nat) (zs : List Int) (sc : Int) (w : World) (h : Ints w A zs.length zs) (hn : zs.length ≤ 1048576) (h3 : 0 ≤ sc) (h4 : sc ≤ 64) (ha : Hid (allB zs (-30000) 30000 = true)) :
    Calls Tryz.prog 47 #[.slice A zs.length c, .int .i64 sc] w (RetInts w (scl sc zs)) := by
  generalize hl : zs.length = n at *
  have HL := Lib.hid hl
  clear hl
  have hmk := fun W => run_make_row' (P := Tryz.prog) 26 2 (.int .i64 0) 8 Tryz.underlying26 info_i64 rfl .i64 .i64 n (by omega) (by omega) W
  go_enter Tryz.func47, Tryz.ntmps47
  go_wp2
  clear hmk
  go_loopw [13] (fun i wr => ∃ k : Nat, k ≤ n ∧ i = .int .i64 k ∧ Own wr w.heap.size (some ⟨w.heap.size, 0, none⟩) n n (scl sc (zs.take k) ++ List.replicate (n - k) 0) ∧ Below w.heap.size w wr) (fun i _ => n - (intOf i).toNat)
  case atStart => exact ⟨0, Nat.zero_le _, rfl, by simpa [scl] using own_zeros w n hn, (Below.refl _ _).alloc (Nat.le_refl _) _⟩
  case round =>
    obtain ⟨k, hk, rfl, hown, hb⟩ := hrel
    by_cases hlt : k < n
    · obtain ⟨b, o, z, rfl, hbl, hz, hz64, hc⟩ := (h.below hb).at_ hlt
      obtain ⟨g, z', hg, hBg, hgl, _, _, hcg, hfg⟩ := hown.at_ hlt
      obtain rfl : g = w.heap.size := by injection hg with hg; injection hg with hg; exact hg.symm
      have hzb := all_at ha.out hz
      have hmb := mul_sc hzb.1 hzb.2 h3 h4
      have hown' := Lib.hid (hown.set_ k (z := z * sc) (WalkArith.wf_i64 (by omega)))
      have hst := Lib.hid (scl_step (sc := sc) HL.out hlt hz)
      have hb' := hb.setCell (p := ⟨w.heap.size, k, none⟩) (Nat.le_refl _) (.int .i64 (z * sc))
      clear hown hz hg
      go_wp2
      go_roundw
      case rel => exact ⟨k + 1, by omega, by go_num, by rw [← hst.out]; exact hown'.out, hb'⟩
      case measure => simp [intOf]; omega
    · go_wp2
      go_ret
      obtain rfl : k = n := by omega
      exact retInts_of (by rw [scl_len, HL.out]) (by simpa [List.take_of_length_le (Nat.le_of_eq HL.out)] using hown) hb

theorem l06Supply_any (z : Int) (w : World) :
    Calls Tryz.prog 105 #[.int .i64 z] w fun e w' => e = .returned (.bool (inB z (-30000) 30000)) ∧ w = w' := by
  go_enter Tryz.func105, Tryz.ntmps105
  go_wp2_with (go_at_call 104; refine (in_any _ _ _ _).mono ?_; rintro e w' ⟨rfl, rfl⟩)
  go_ret
  exact ⟨rfl, rfl⟩

/-- What the search of the reference finds: the first k supplies and their products are in their range. -/
theorem scale_bad {sc z : Int} {zs : List Int} {k : Nat} (h0 : ¬ 24 < zs.length) (h1 : inB sc 0 64 = true) (hz : zs[k]? = some z) (hb : inB z (-30000) 30000 = false ∨ inB (z * sc) (-30000) 30000 = false) : scaleCode sc zs = 2 := by
  unfold scaleCode
  rw [if_neg h0, h1]
  rcases hb with hb | hb
  · rw [all_no hz hb]; simp
  · rw [all_no (scl_at hz) hb]; simp
set_option maxHeartbeats 4000000 in
theorem sScale_any (A : Option Addr) (c : Nat) (zs : List Int) (sc : Int) (w : World) (h : Ints w A zs.length zs) (hn : zs.length ≤ 1048576) :
    Calls Tryz.prog 41 #[.slice A zs.length c, .int .i64 sc] w (RetInts2 w (scaleOf sc zs) (scaleCode sc zs)) := by
  rcases (orP (orB trivial) : ¬ (zs.length : Int) ≤ 24 ∨ (zs.length : Int) ≤ 24 ∧ (inB sc 0 64 = false ∨ inB sc 0 64 = true ∧ True)) with h0 | ⟨h0, h1 | ⟨h1, _⟩⟩
  · have e1 : scaleCode sc zs = 3 := by simp [scaleCode]; omega
    have e2 : scaleOf sc zs = [] := by simp [scaleOf, e1]
    rw [e1, e2]
    clear e1 e2
    go_enter Tryz.func41, Tryz.ntmps41
    go_wp2_with fail
    go_ret2
    exact retInts2_nil _ (Below.refl _ _)
  · have e1 : scaleCode sc zs = 2 := by have : ¬ 24 < zs.length := by omega
                                        simp [scaleCode, this, h1]
    have e2 : scaleOf sc zs = [] := by simp [scaleOf, e1]
    rw [e1, e2]
    clear e1 e2
    go_enter Tryz.func41, Tryz.ntmps41
    go_wp2_with (go_at_call 104; refine (in_any _ _ _ _).mono ?_; rintro e w' ⟨rfl, rfl⟩)
    go_ret2
    exact retInts2_nil _ (Below.refl _ _)
  · have hsb := (inB_iff _ _ _).1 h1
    have H0 := Lib.hid (show ¬ 24 < zs.length by omega)
    have H1 := Lib.hid h1
    generalize hl : zs.length = n at h hn h0
    have HL := Lib.hid hl
    clear hl
    go_enter Tryz.func41, Tryz.ntmps41
    go_wp2_with (go_at_call 104; refine (in_any _ _ _ _).mono ?_; rintro e w' ⟨rfl, rfl⟩)
    clear h1
    go_loopw [6, 7] (fun ss ii wr => ∃ (k : Nat) (A2 : Option Addr) (m2 c2 : Nat), k ≤ n ∧ ii = .int .i64 k ∧ ss = .slice A2 m2 c2 ∧ Own wr w.heap.size A2 m2 c2 (scl sc (zs.take k)) ∧ Below w.heap.size w wr ∧ m2 = k ∧ Hid (allB (zs.take k) (-30000) 30000 = true ∧ allB (scl sc (zs.take k)) (-30000) 30000 = true)) (fun _ ii _ => n - (intOf ii).toNat)
    case atStart => exact ⟨0, _, 0, 0, Nat.zero_le _, rfl, rfl, own_empty _ _ (Nat.le_refl _), (Below.refl _ _).alloc (Nat.le_refl _) _, rfl, rfl, rfl⟩
    case round =>
      obtain ⟨k, A2, m2, c2, hk, rfl, rfl, hown, hb, rfl, HP⟩ := hrel
      by_cases hlt : m2 < n
      · obtain ⟨b, o, z, rfl, hbl, hz, hz64, hc⟩ := (h.below hb).at_ hlt
        have HZ := Lib.hid hz
        clear hz
        have ecom : sc * z = z * sc := Int.mul_comm _ _
        cases t1 : inB z (-30000) 30000
        · have HF := Lib.hid (scale_bad H0.out H1.out HZ.out (.inl t1))
          go_wp2_with (go_at_call 105; refine (l06Supply_any _ _).mono ?_; rintro e w' ⟨rfl, rfl⟩)
          go_ret2
          rw [HF.out, show scaleOf sc zs = [] by simp [scaleOf, HF.out]]
          exact retInts2_nil _ hb
        · have hzb := (inB_iff _ _ _).1 t1
          have hmb := mul_sc hzb.1 hzb.2 hsb.1 hsb.2
          cases t2 : inB (z * sc) (-30000) 30000
          · have HF := Lib.hid (scale_bad H0.out H1.out HZ.out (.inr t2))
            go_wp2_with (go_at_call 105; refine (l06Supply_any _ _).mono ?_; rintro e w' ⟨rfl, rfl⟩)
            go_ret2
            rw [HF.out, show scaleOf sc zs = [] by simp [scaleOf, HF.out]]
            exact retInts2_nil _ hb
          · have HS := Lib.hid (scl_take (sc := sc) HZ.out)
            have HQ := Lib.hid (And.intro (all_step HP.out.1 HZ.out t1) (show allB (scl sc (zs.take (m2 + 1))) (-30000) 30000 = true by
              rw [← scl_take HZ.out]; unfold allB; rw [List.all_append]; have := HP.out.2; unfold allB at this; rw [this]; simp [t2]))
            go_wp2_with (first | (go_at_call 105; refine (l06Supply_any _ _).mono ?_; rintro e w' ⟨rfl, rfl⟩) | (at_builtin; refine wpList_push wr rfl _ _ rfl w.heap.size _ _ _ _ (z * sc) rfl rfl hown (WalkArith.wf_i64 (by omega)) (by omega) (by have := hb.size; omega) ?_; intro g c3 w3 hown3 hb3 _ _))
            go_roundw
            case rel => exact ⟨m2 + 1, _, _, _, by omega, by go_num, rfl, HS.out ▸ hown3, hb.trans hb3, rfl, HQ.out⟩
            case measure => simp [intOf]; omega
      · go_wp2_with fail
        go_ret2
        obtain rfl : m2 = n := by omega
        have hp := HP.out
        rw [List.take_of_length_le (Nat.le_of_eq HL.out)] at hp hown
        have e1 : scaleCode sc zs = 0 := by
          unfold scaleCode
          rw [if_neg H0.out, H1.out, hp.1, hp.2]
          simp
        rw [e1, show scaleOf sc zs = scl sc zs by simp [scaleOf, e1]]
        exact ⟨A2, c2, by rw [scl_len, HL.out]; rfl, by rw [scl_len, HL.out]; exact hown, hb⟩
end Go.Proofs.YtpgegfnhokhlmabGreat
