/- What toInt64S, eqInt64S, markInt64S, heldInt64S do, by walks over their text. Conditions: lengths of at most 1048576. -/
import Derived.Test.YtiofjnohdmminaaInts
set_option linter.unusedVariables false
set_option maxRecDepth 100000
namespace Go.Proofs.Ytiofjnohdmminaa
open Go.ChangeShapes Go.WideShapes Go.ChangeAt Go.RowKit Go.Joins Go.Deep

theorem info_i64 : (Try.prog.info? 2).map (fun i => (i.zero, i.size, i.bytes)) = some (some (.int .i64 0), 1, 8) := by kernel_rfl
theorem own_zeros (w : World) (n : Nat) (hn : n ≤ 1048576) : Own (w.alloc (.cells (madeCells #[.int .i64 0] n) 2)) w.heap.size (some ⟨w.heap.size, 0, none⟩) n n (List.replicate n 0) := by
  refine ⟨?_, fun z hz => by rw [(List.mem_replicate.1 hz).2]; exact I64.zero⟩
  have h := World.ownsRow_lit (base := w.heap.size) (e := 2) (size := 1) w (madeCells #[.int .i64 0] n) n (Nat.le_refl _) (by unfold maxLen; omega) (by simp [madeCells])
  have e : (madeCells #[.int .i64 0] n).toList = (List.replicate n (0 : Int)).map (Value.int .i64) := by
    apply List.ext_getElem?
    intro i
    by_cases hi : i < n <;> simp [madeCells, hi, Nat.mod_one]
  rwa [e] at h
theorem retInts_of {w w' : World} {A : Option Addr} {n c : Nat} {zs : List Int} (hl : zs.length = n) (ho : Own w' w.heap.size A n c zs) (hb : Below w.heap.size w w') : RetInts w zs (.returned (.slice A n c)) w' := by
  subst hl
  exact ⟨_, _, rfl, ho, hb⟩
theorem copy_step {zs : List Int} {n k : Nat} {z : Int} (hl : zs.length = n) (hk : k < n) (hz : zs[k]? = some z) :
    (zs.take k ++ List.replicate (n - k) 0).set k z = zs.take (k + 1) ++ List.replicate (n - (k + 1)) 0 := by
  obtain ⟨hk', rfl⟩ := List.getElem?_eq_some_iff.1 hz
  rw [List.set_append_right _ _ (by simp; omega), List.take_succ_eq_append_getElem hk', List.append_assoc]
  congr 1
  have e1 : k - (zs.take k).length = 0 := by simp; omega
  have e2 : n - k = (n - (k + 1)) + 1 := by omega
  rw [e1, e2, List.replicate_succ]
  rfl

theorem eq_take_succ {xs ys : List Int} {k : Nat} {z : Int} (h : xs.take k = ys.take k) (hx : xs[k]? = some z) (hy : ys[k]? = some z) : xs.take (k + 1) = ys.take (k + 1) := by
  rw [List.take_add_one, List.take_add_one, h, hx, hy]

set_option maxHeartbeats 1000000 in
theorem toInts_any (A : Option Addr) (n c : Nat) (zs : List Int) (w : World) (h : Ints w A n zs) (hn : n ≤ 1048576) :
    Calls Try.prog 24 #[.slice A n c] w (RetInts w zs) := by
  have hmk := fun W => run_make_row' (P := Try.prog) 36 2 (.int .i64 0) 8 Try.underlying36 info_i64 rfl .i64 .i64 n (by omega) (by omega) W
  have hl := Lib.hid h.len
  go_enter Try.func24, Try.ntmps24
  go_wp2
  clear hmk
  go_loopw [4] (fun i wr => ∃ k : Nat, k ≤ n ∧ i = .int .i64 k ∧ Own wr w.heap.size (some ⟨w.heap.size, 0, none⟩) n n (zs.take k ++ List.replicate (n - k) 0) ∧ Below w.heap.size w wr) (fun i _ => n - (intOf i).toNat)
  case atStart => exact ⟨0, Nat.zero_le _, rfl, by simpa using own_zeros w n hn, (Below.refl _ _).alloc (Nat.le_refl _) _⟩
  case round =>
    obtain ⟨k, hk, rfl, hown, hb⟩ := hrel
    by_cases hlt : k < n
    · obtain ⟨b, o, z, rfl, hbl, hz, hz64, hc⟩ := (h.below hb).at_ hlt
      obtain ⟨g, z', hg, hBg, hgl, _, _, hcg, hfg⟩ := hown.at_ hlt
      obtain rfl : g = w.heap.size := by injection hg with hg; injection hg with hg; exact hg.symm
      have hown' := Lib.hid (hown.set_ k hz64)
      have hst := Lib.hid (copy_step hl.out hlt hz)
      have hb' := hb.setCell (p := ⟨w.heap.size, k, none⟩) (Nat.le_refl _) (.int .i64 z)
      clear hown hz hg
      go_wp2
      go_roundw
      case rel => exact ⟨k + 1, by omega, by go_num, by rw [← hst.out]; exact hown'.out, hb'⟩
      case measure => simp [intOf]; omega
    · go_wp2
      go_ret
      obtain rfl : k = n := by omega
      exact retInts_of hl.out (by simpa [List.take_of_length_le (Nat.le_of_eq hl.out)] using hown) hb
set_option maxHeartbeats 1000000 in
theorem eqInts_any (A B : Option Addr) (n m c d : Nat) (xs ys : List Int) (w : World) (ha : Ints w A n xs) (hb : Ints w B m ys) (hn : n ≤ 1048576) :
    Calls Try.prog 26 #[.slice A n c, .slice B m d] w fun e w' => e = .returned (.bool (decide (xs = ys))) ∧ Qt w w' := by
  have hla := Lib.hid ha.len
  have hlb := Lib.hid hb.len
  by_cases hnm : n = m
  · subst hnm
    have hne : ((n : Int) != (n : Int)) = false := by simp
    go_enter Try.func26, Try.ntmps26
    go_wp2
    go_loopw [5] (fun i wr => ∃ k : Nat, k ≤ n ∧ i = .int .i64 k ∧ xs.take k = ys.take k ∧ Qt w wr) (fun i _ => n - (intOf i).toNat)
    case atStart => exact ⟨0, Nat.zero_le _, rfl, rfl, Qt.refl _⟩
    case round =>
      obtain ⟨k, hk, rfl, hpre, hq⟩ := hrel
      have HP := Lib.hid hpre
      clear hpre
      by_cases hlt : k < n
      · obtain ⟨b, o, x, rfl, hbl, hx, hx64, hcx⟩ := (ha.qt hq).at_ hlt
        obtain ⟨b', o', y, rfl, hbl', hy, hy64, hcy⟩ := (hb.qt hq).at_ hlt
        have HX := Lib.hid hx
        have HY := Lib.hid hy
        clear hx hy
        by_cases hxy : x = y
        · have HE := Lib.hid hxy
          have hbe : (x != y) = false := by simp [hxy]
          clear hxy
          go_wp2
          go_quiet (fail)
          go_wp2
          go_roundw
          case rel => exact ⟨k + 1, by omega, by go_num, eq_take_succ HP.out HX.out (HE.out ▸ HY.out), hq.drewN _⟩
          case measure => simp [intOf]; omega
        · have HE := Lib.hid hxy
          have hbe : (x != y) = true := by simp [hxy]
          clear hxy
          go_wp2
          go_quiet (fail)
          go_wp2
          go_ret
          refine ⟨rb (decide_eq_false ?_).symm, hq.drewN _⟩
          rintro rfl
          exact HE.out (Option.some.inj (HX.out.symm.trans HY.out))
      · go_wp2
        go_ret
        refine ⟨rb (decide_eq_true ?_).symm, hq⟩
        have := HP.out
        rwa [List.take_of_length_le (by have := hla.out; omega), List.take_of_length_le (by have := hlb.out; omega)] at this
  · have HN := Lib.hid hnm
    have hne : ((n : Int) != (m : Int)) = true := by simp; omega
    clear hnm
    go_enter Try.func26, Try.ntmps26
    go_wp2
    go_ret
    refine ⟨rb (decide_eq_false ?_).symm, Qt.refl _⟩
    rintro rfl
    exact HN.out (hla.out.symm.trans hlb.out)
set_option maxHeartbeats 1000000 in
theorem likeInts_any (A B : Option Addr) (n m c d : Nat) (xs ys : List Int) (w : World) (ha : Ints w A n xs) (hb : Ints w B m ys) (hn : n ≤ 1048576) :
    Calls Try.prog 42 #[.slice A n c, .slice B m d] w fun e w' => e = .returned (.bool (decide (xs = ys))) ∧ Qt w w' := by
  have hla := Lib.hid ha.len
  have hlb := Lib.hid hb.len
  by_cases hnm : n = m
  · subst hnm
    have hne : ((n : Int) != (n : Int)) = false := by simp
    go_enter Try.func42, Try.ntmps42
    go_wp2
    go_loopw [5] (fun i wr => ∃ k : Nat, k ≤ n ∧ i = .int .i64 k ∧ xs.take k = ys.take k ∧ Qt w wr) (fun i _ => n - (intOf i).toNat)
    case atStart => exact ⟨0, Nat.zero_le _, rfl, rfl, Qt.refl _⟩
    case round =>
      obtain ⟨k, hk, rfl, hpre, hq⟩ := hrel
      have HP := Lib.hid hpre
      clear hpre
      by_cases hlt : k < n
      · obtain ⟨b, o, x, rfl, hbl, hx, hx64, hcx⟩ := (ha.qt hq).at_ hlt
        obtain ⟨b', o', y, rfl, hbl', hy, hy64, hcy⟩ := (hb.qt hq).at_ hlt
        have HX := Lib.hid hx
        have HY := Lib.hid hy
        clear hx hy
        by_cases hxy : x = y
        · have HE := Lib.hid hxy
          have hbe : (x != y) = false := by simp [hxy]
          clear hxy
          go_wp2
          go_quiet (fail)
          go_wp2
          go_roundw
          case rel => exact ⟨k + 1, by omega, by go_num, eq_take_succ HP.out HX.out (HE.out ▸ HY.out), hq.drewN _⟩
          case measure => simp [intOf]; omega
        · have HE := Lib.hid hxy
          have hbe : (x != y) = true := by simp [hxy]
          clear hxy
          go_wp2
          go_quiet (fail)
          go_wp2
          go_ret
          refine ⟨rb (decide_eq_false ?_).symm, hq.drewN _⟩
          rintro rfl
          exact HE.out (Option.some.inj (HX.out.symm.trans HY.out))
      · go_wp2
        go_ret
        refine ⟨rb (decide_eq_true ?_).symm, hq⟩
        have := HP.out
        rwa [List.take_of_length_le (by have := hla.out; omega), List.take_of_length_le (by have := hlb.out; omega)] at this
  · have HN := Lib.hid hnm
    have hne : ((n : Int) != (m : Int)) = true := by simp; omega
    clear hnm
    go_enter Try.func42, Try.ntmps42
    go_wp2
    go_ret
    refine ⟨rb (decide_eq_false ?_).symm, Qt.refl _⟩
    rintro rfl
    exact HN.out (hla.out.symm.trans hlb.out)

/-- The numbers k, k + 1, .. -/
def marks (k : Int) (n : Nat) : List Int := (List.range n).map fun i : Nat => k + (i : Int)
theorem marks_len (k : Int) (n : Nat) : (marks k n).length = n := by simp [marks]
theorem marks_at (k : Int) {n i : Nat} (h : i < n) : (marks k n)[i]? = some (k + (i : Int)) := by simp [marks, h]
theorem marks_step {zs : List Int} {n j : Nat} (k : Int) (hl : zs.length = n) (hj : j < n) : (marks k j ++ zs.drop j).set j (k + (j : Int)) = marks k (j + 1) ++ zs.drop (j + 1) := by
  rw [List.set_append_right _ _ (by simp [marks_len])]
  have e : List.drop j zs = zs[j] :: zs.drop (j + 1) := by rw [List.drop_eq_getElem_cons (by omega)]
  rw [e, marks_len, Nat.sub_self]
  simp [marks, List.range_succ]
  rw [e]
  rfl

set_option maxHeartbeats 1000000 in
theorem markInts_any (B : Nat) (A : Option Addr) (n c : Nat) (k : Int) (zs : List Int) (w : World) (h : Own w B A n c zs) (hn : n ≤ 1048576) (hk0 : 0 ≤ k) (hk1 : k ≤ 1000000000000) :
    Calls Try.prog 27 #[.slice A n c, .int .i64 k] w fun e w' => e = .returned (.int .i64 (k + (n : Int))) ∧ Own w' B A n c (marks k n) ∧ w.grownBy w' (A.map (·.block)) := by
  have hl := Lib.hid h.len
  go_enter Try.func27, Try.ntmps27
  go_wp2
  go_loopw [1, 5] (fun kk i wr => ∃ j : Nat, j ≤ n ∧ i = .int .i64 j ∧ kk = .int .i64 (k + (j : Int)) ∧ Own wr B A n c (marks k j ++ zs.drop j) ∧ w.grownBy wr (A.map (·.block))) (fun _ i _ => n - (intOf i).toNat)
  case atStart => exact ⟨0, Nat.zero_le _, rfl, by simp, by simpa [marks] using h, World.grownBy.refl w _⟩
  case round =>
    obtain ⟨j, hj, rfl, rfl, hown, hgr⟩ := hrel
    by_cases hlt : j < n
    · obtain ⟨g, z', rfl, hBg, hgl, _, _, hcg, hfg⟩ := hown.at_ hlt
      have hown' := Lib.hid (hown.set_ j (z := k + (j : Int)) (WalkArith.wf_i64 (by omega)))
      have hst := Lib.hid (marks_step k hl.out hlt)
      have hgr' := hgr.trans (hown.1.stored j (.int .i64 (k + (j : Int)))).2
      clear hown
      go_wp2
      go_roundw
      case rel => exact ⟨j + 1, by omega, by go_num, by go_num, by rw [← hst.out]; exact hown'.out, hgr'⟩
      case measure => simp [intOf]; omega
    · go_wp2
      go_ret
      obtain rfl : j = n := by omega
      exact ⟨rfl, by simpa [List.drop_of_length_le (Nat.le_of_eq hl.out)] using hown, hgr⟩
set_option maxHeartbeats 1000000 in
theorem heldInts_any (A : Option Addr) (n c : Nat) (k : Int) (w : World) (h : Ints w A n (marks k n)) (hn : n ≤ 1048576) (hk0 : 0 ≤ k) (hk1 : k ≤ 1000000000000) :
    Calls Try.prog 28 #[.slice A n c, .int .i64 k] w fun e w' => e = .returned (.int .i64 (k + (n : Int))) ∧ w = w' := by
  go_enter Try.func28, Try.ntmps28
  go_wp2
  go_loop [1, 5] (fun kk i => ∃ j : Nat, j ≤ n ∧ i = .int .i64 j ∧ kk = .int .i64 (k + (j : Int))) (fun _ i => n - (intOf i).toNat)
  case atStart => exact ⟨0, Nat.zero_le _, rfl, by simp⟩
  case round =>
    obtain ⟨j, hj, rfl, rfl⟩ := hrel
    by_cases hlt : j < n
    · obtain ⟨b, o, x, rfl, hbl, hx, hx64, hcx⟩ := h.at_ hlt
      obtain rfl : x = k + (j : Int) := Option.some.inj (hx.symm.trans (marks_at k hlt))
      clear hx
      go_wp2
      go_round
      case rel => exact ⟨j + 1, by omega, by go_num, by go_num⟩
      case measure => simp [intOf]; omega
    · go_wp2
      go_ret
      obtain rfl : j = n := by omega
      exact ⟨rfl, rfl⟩
end Go.Proofs.Ytiofjnohdmminaa
