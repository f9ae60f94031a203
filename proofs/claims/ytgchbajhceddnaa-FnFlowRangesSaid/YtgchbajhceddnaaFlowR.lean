/- What FlowRange (of the program and of the reference) does, by walks over its text. No condition but that the numbers fit their kind. -/
import Derived.Test.YtgchbajhceddnaaRatioR
set_option linter.unusedVariables false
set_option maxRecDepth 100000
namespace Go.Proofs.Ytgchbajhceddnaa
open Go.RowKit Go.Joins Go.Deep
attribute [local go_sem ↓] Go.wp_at_zero Go.wp_at_succ

set_option maxHeartbeats 8000000 in
theorem fr_any (A : Option Addr) (n c : Nat) (fs : List Fc) (fu le r : Int) (w : World) (h : Faces w A n fs) (hn : n ≤ 9223372036854775807) :
    Calls Try.prog 27 #[.agg #[.slice A n c, .int .i64 fu, .int .i64 le], .int .i64 r] w fun e w' => e = .returned (.tuple #[.int .i64 (frLo n fs fu le r), .int .i64 (frHi n fs fu le r), .int .i64 (frCode n fs fu le r)]) ∧ Below w.heap.size w w' := by
  by_cases hp : pointCode n fs fu le 0 r = 0
  case neg =>
    have e1 : (pointCode n fs fu le 0 r != 0) = true := by simp [hp]
    have HK := Lib.hid (show frCode n fs fu le r = pointCode n fs fu le 0 r by simp [frCode, hp])
    have HL := Lib.hid (show frLo n fs fu le r = 0 by simp [frLo, HK.out, hp])
    have HH := Lib.hid (show frHi n fs fu le r = 0 by simp [frHi, HK.out, hp])
    clear hp
    have hI0 := h.alloc (.cells #[.slice A n c, .int .i64 fu, .int .i64 le] 32)
    have hw0 : Below w.heap.size w (w.alloc (.cells #[.slice A n c, .int .i64 fu, .int .i64 le] 32)) := (Below.refl _ _).alloc (Nat.le_refl _) _
    have hB0 : Below (w.alloc (.cells #[.slice A n c, .int .i64 fu, .int .i64 le] 32)).heap.size (w.alloc (.cells #[.slice A n c, .int .i64 fu, .int .i64 le] 32)) (w.alloc (.cells #[.slice A n c, .int .i64 fu, .int .i64 le] 32)) := Below.refl _ _
    go_enter Try.func27, Try.ntmps27
    go_wp2_with fail
    refine (checkPoint_any _ _ _ _ _ _ _ _ _ (hI0.below hB0) hn).mono ?_
    rintro e w1 ⟨rfl, hb1⟩
    have hB1 := bthen hB0 hb1 hB0.size
    obtain ⟨hc1, hf1⟩ := bcell hB1
    have hz1 : w.heap.size < w1.heap.size := by have := hB1.size; simp at this; omega
    go_wp2_with fail
    go_ret3
    exact ⟨ri3 HL.out.symm HH.out.symm HK.out.symm, bthen hw0 hB1 hw0.size⟩
  case pos =>
    obtain ⟨p1, p2⟩ := pointCode_ok hp
    have hrb := pt0 p2
    have hbd := comp_bd p1
    have e1 : (pointCode n fs fu le 0 r != 0) = false := by simp [hp]
    have hc := Lib.hid p1
    have HP := Lib.hid hp
    have hl := Lib.hid h.len
    have hok := Lib.hid (pairsP_ok p1 (show 0 ≤ r by omega) hrb.2)
    clear hp p1 p2
    have hI0 := h.alloc (.cells #[.slice A n c, .int .i64 fu, .int .i64 le] 32)
    have hw0 : Below w.heap.size w (w.alloc (.cells #[.slice A n c, .int .i64 fu, .int .i64 le] 32)) := (Below.refl _ _).alloc (Nat.le_refl _) _
    have hB0 : Below (w.alloc (.cells #[.slice A n c, .int .i64 fu, .int .i64 le] 32)).heap.size (w.alloc (.cells #[.slice A n c, .int .i64 fu, .int .i64 le] 32)) (w.alloc (.cells #[.slice A n c, .int .i64 fu, .int .i64 le] 32)) := Below.refl _ _
    go_enter Try.func27, Try.ntmps27
    go_wp2_with fail
    refine (checkPoint_any _ _ _ _ _ _ _ _ _ (hI0.below hB0) hn).mono ?_
    rintro e w1 ⟨rfl, hb1⟩
    have hB1 := bthen hB0 hb1 hB0.size
    obtain ⟨hc1, hf1⟩ := bcell hB1
    have hz1 : w.heap.size < w1.heap.size := by have := hB1.size; simp at this; omega
    go_wp2_with fail
    have hx0 : w1.cell? ⟨w.heap.size, 0, none⟩ = some (.slice A n c) := (hB1.cell (by simp)).trans (by simp)
    have hx2 : w1.cell? ⟨w.heap.size, 2, none⟩ = some (.int .i64 le) := (hB1.cell (by simp)).trans (by simp)
    have hI := hI0.below hB1
    have hw1 := bthen hw0 hB1 hw0.size
    have hszl := hz1
    clear hc1 hf1 hz1 hB1 hb1
    obtain ⟨W, hWe⟩ : ∃ W, w1 = W := ⟨_, rfl⟩
    subst hWe
    go_loopw [8, 9, 23] (fun ll hh ii wr => ∃ k : Nat, k ≤ n ∧ ii = .int .i64 k ∧ ll = .int .i64 (cutTo le 30000 (pairsP r fs) k).1 ∧ hh = .int .i64 (cutTo le 30000 (pairsP r fs) k).2 ∧ Below w1.heap.size w1 wr) (fun _ _ ii _ => n - (intOf ii).toNat)
    case atStart => exact ⟨0, Nat.zero_le _, rfl, rfl, rfl, Below.refl _ _⟩
    case round =>
      obtain ⟨k, hk, rfl, rfl, rfl, hb⟩ := hrel
      have hcb := cutTo_bd hok.out (lo := le) (hi := 30000) (by omega) (by omega) (by omega) (by omega) k
      by_cases hlt : k < n
      · obtain ⟨b, o, f, rfl, hbl, hf, hokf, hcp, hcq, hcr⟩ := (hI.below hb).at_ hlt
        have hfb := comp_face hc.out hf
        have hm1 := mul_bnd (a := f.q) (b := r) (X := 1000) (Y := 3000) (by omega) (by omega) (by omega) (by omega) (by omega)
        have HS := Lib.hid (cutTo_step (lo := le) (hi := 30000) (pairsP_at r hf))
        have hb2 : ∀ cs t, Below w1.heap.size w1 (wr.alloc (.cells cs t)) := fun cs t => hb.alloc hb.size _
        clear hf hx0 hx2
        generalize cutTo le 30000 (pairsP r fs) k = LH at *
        obtain ⟨L, H⟩ := LH
        simp only at *
        go_wp2_with (go_at_call 61; refine (cutRange_any _ _ _ _ _ ⟨by simp only; omega, by simp only; omega, by simp only; omega, by simp only; omega⟩ (by omega) (by omega) (by omega) (by omega)).mono ?_; rintro e w' ⟨rfl, rfl⟩)
        go_roundw
        case rel => exact ⟨k + 1, by omega, by go_num, by rw [HS.out], by rw [HS.out], hb2 _ _⟩
        case measure => simp [intOf]; omega
      · obtain rfl : k = n := by omega
        have HR := Lib.hid (show floLo fs le r = (cutTo le 30000 (pairsP r fs) k).1 ∧ floHi fs le r = (cutTo le 30000 (pairsP r fs) k).2 by unfold floLo floHi; rw [hl.out]; exact ⟨rfl, rfl⟩)
        by_cases t : floLo fs le r ≤ floHi fs le r
        · have HK := Lib.hid (show frCode k fs fu le r = 0 by simp [frCode, HP.out, t])
          have HL := Lib.hid (show frLo k fs fu le r = (cutTo le 30000 (pairsP r fs) k).1 by simp [frLo, HK.out, HR.out])
          have HH := Lib.hid (show frHi k fs fu le r = (cutTo le 30000 (pairsP r fs) k).2 by simp [frHi, HK.out, HR.out])
          have t' : (cutTo le 30000 (pairsP r fs) k).1 ≤ (cutTo le 30000 (pairsP r fs) k).2 := by rw [← HR.out.1, ← HR.out.2]; exact t
          clear t HR
          generalize cutTo le 30000 (pairsP r fs) k = LH at *
          obtain ⟨L, H⟩ := LH
          simp only at *
          go_wp2_with fail
          go_ret3
          exact ⟨ri3 HL.out.symm HH.out.symm HK.out.symm, bthen hw1 hb hw1.size⟩
        · have HK := Lib.hid (show frCode k fs fu le r = 7 by simp [frCode, HP.out, t])
          have HL := Lib.hid (show frLo k fs fu le r = 0 by simp [frLo, HK.out])
          have HH := Lib.hid (show frHi k fs fu le r = 0 by simp [frHi, HK.out])
          have t' : ¬ (cutTo le 30000 (pairsP r fs) k).1 ≤ (cutTo le 30000 (pairsP r fs) k).2 := by rw [← HR.out.1, ← HR.out.2]; exact t
          clear t HR
          generalize cutTo le 30000 (pairsP r fs) k = LH at *
          obtain ⟨L, H⟩ := LH
          simp only at *
          go_wp2_with fail
          go_ret3
          exact ⟨ri3 HL.out.symm HH.out.symm HK.out.symm, bthen hw1 hb hw1.size⟩
set_option maxHeartbeats 8000000 in
theorem sFr_any (A : Option Addr) (n c : Nat) (fs : List Fc) (fu le r : Int) (w : World) (h : Faces w A n fs) (hn : n ≤ 9223372036854775807) :
    Calls Try.prog 26 #[.agg #[.slice A n c, .int .i64 fu, .int .i64 le], .int .i64 r] w fun e w' => e = .returned (.tuple #[.int .i64 (frLo n fs fu le r), .int .i64 (frHi n fs fu le r), .int .i64 (frCode n fs fu le r)]) ∧ Below w.heap.size w w' := by
  obtain ⟨i0, hi0, hz0, hz1', hz2⟩ := info_parts info_ints
  rcases (orB (orB trivial) : compB n fs fu le = false ∨ compB n fs fu le = true ∧ (pointB 0 r = false ∨ pointB 0 r = true ∧ True)) with h1 | ⟨h1, h2 | ⟨h2, _⟩⟩
  · have HK := Lib.hid (show frCode n fs fu le r = 1 by simp [frCode, pointCode, h1])
    have HL := Lib.hid (show frLo n fs fu le r = 0 by simp [frLo, HK.out])
    have HH := Lib.hid (show frHi n fs fu le r = 0 by simp [frHi, HK.out])
    have hI0 := h.alloc (.cells #[.slice A n c, .int .i64 fu, .int .i64 le] 32)
    have hw0 : Below w.heap.size w (w.alloc (.cells #[.slice A n c, .int .i64 fu, .int .i64 le] 32)) := (Below.refl _ _).alloc (Nat.le_refl _) _
    have hB0 : Below (w.alloc (.cells #[.slice A n c, .int .i64 fu, .int .i64 le] 32)).heap.size (w.alloc (.cells #[.slice A n c, .int .i64 fu, .int .i64 le] 32)) (w.alloc (.cells #[.slice A n c, .int .i64 fu, .int .i64 le] 32)) := Below.refl _ _
    go_enter Try.func26, Try.ntmps26
    go_wp2_with fail
    refine (sIsComp_any _ _ _ _ _ _ _ (hI0.below hB0) hn).mono ?_
    rintro e w1 ⟨rfl, hb1⟩
    have hB1 := bthen hB0 hb1 hB0.size
    obtain ⟨hc1, hf1⟩ := bcell hB1
    have hz1 : w.heap.size < w1.heap.size := by have := hB1.size; simp at this; omega
    go_wp2_with fail
    go_ret3
    exact ⟨ri3 HL.out.symm HH.out.symm HK.out.symm, bthen hw0 hB1 hw0.size⟩
  · have HK := Lib.hid (show frCode n fs fu le r = 2 by simp [frCode, pointCode, h1, h2])
    have HL := Lib.hid (show frLo n fs fu le r = 0 by simp [frLo, HK.out])
    have HH := Lib.hid (show frHi n fs fu le r = 0 by simp [frHi, HK.out])
    have hI0 := h.alloc (.cells #[.slice A n c, .int .i64 fu, .int .i64 le] 32)
    have hw0 : Below w.heap.size w (w.alloc (.cells #[.slice A n c, .int .i64 fu, .int .i64 le] 32)) := (Below.refl _ _).alloc (Nat.le_refl _) _
    have hB0 : Below (w.alloc (.cells #[.slice A n c, .int .i64 fu, .int .i64 le] 32)).heap.size (w.alloc (.cells #[.slice A n c, .int .i64 fu, .int .i64 le] 32)) (w.alloc (.cells #[.slice A n c, .int .i64 fu, .int .i64 le] 32)) := Below.refl _ _
    go_enter Try.func26, Try.ntmps26
    go_wp2_with fail
    refine (sIsComp_any _ _ _ _ _ _ _ (hI0.below hB0) hn).mono ?_
    rintro e w1 ⟨rfl, hb1⟩
    have hB1 := bthen hB0 hb1 hB0.size
    obtain ⟨hc1, hf1⟩ := bcell hB1
    have hz1 : w.heap.size < w1.heap.size := by have := hB1.size; simp at this; omega
    go_wp2_with (first | (go_at_call 54; refine (sPoint_any _ _ _).mono ?_; rintro e w' ⟨rfl, rfl⟩))
    go_ret3
    exact ⟨ri3 HL.out.symm HH.out.symm HK.out.symm, bthen hw0 hB1 hw0.size⟩
  · have hq := pt0 h2
    have hbd := comp_bd h1
    have HP := Lib.hid (show pointCode n fs fu le 0 r = 0 by simp [pointCode, h1, h2])
    have hc := Lib.hid h1
    have hl := Lib.hid h.len
    have hok := Lib.hid (pairsP_ok h1 (show 0 ≤ r by omega) hq.2)
    have hI0 := h.alloc (.cells #[.slice A n c, .int .i64 fu, .int .i64 le] 32)
    have hw0 : Below w.heap.size w (w.alloc (.cells #[.slice A n c, .int .i64 fu, .int .i64 le] 32)) := (Below.refl _ _).alloc (Nat.le_refl _) _
    have hB0 : Below (w.alloc (.cells #[.slice A n c, .int .i64 fu, .int .i64 le] 32)).heap.size (w.alloc (.cells #[.slice A n c, .int .i64 fu, .int .i64 le] 32)) (w.alloc (.cells #[.slice A n c, .int .i64 fu, .int .i64 le] 32)) := Below.refl _ _
    go_enter Try.func26, Try.ntmps26
    go_wp2_with fail
    refine (sIsComp_any _ _ _ _ _ _ _ (hI0.below hB0) hn).mono ?_
    rintro e w1 ⟨rfl, hb1⟩
    have hB1 := bthen hB0 hb1 hB0.size
    obtain ⟨hc1, hf1⟩ := bcell hB1
    have hz1 : w.heap.size < w1.heap.size := by have := hB1.size; simp at this; omega
    go_wp2_with (first | (go_at_call 54; refine (sPoint_any _ _ _).mono ?_; rintro e w' ⟨rfl, rfl⟩))
    have hx0 : w1.cell? ⟨w.heap.size, 0, none⟩ = some (.slice A n c) := (hB1.cell (by simp)).trans (by simp)
    have hx2 : w1.cell? ⟨w.heap.size, 2, none⟩ = some (.int .i64 le) := (hB1.cell (by simp)).trans (by simp)
    have hI := hI0.below hB1
    have hw1 := bthen hw0 hB1 hw0.size
    have hszl := hz1
    clear hc1 hf1 hz1 hB1 hb1
    obtain ⟨W, hWe⟩ : ∃ W, w1 = W := ⟨_, rfl⟩
    subst hWe
    have hblW : ∀ b o, A = some ⟨b, o, none⟩ → 0 < n → b < w1.heap.size := fun b o hA hn => by
      obtain ⟨b', o', _, hA', hb', _⟩ := hI.at_ hn
      rw [hA] at hA'
      injection hA' with hA'
      injection hA' with h1
      omega
    have HZ := Lib.hid (show w1.heap.size = w1.heap.size from rfl)
    have hz1 := hz1'
    go_loopw [7, 8] (fun pp ii wr => ∃ (k : Nat) (A2 : Option Addr) (c1 : Nat) (bs : List Nat), k ≤ n ∧ ii = .int .i64 k ∧ pp = .slice A2 k c1 ∧ PairsOwn wr w1.heap.size A2 k c1 bs (pairsP r (fs.take k)) ∧ Below w1.heap.size w1 wr) (fun _ ii _ => n - (intOf ii).toNat)
    case atStart => exact ⟨0, _, _, [], Nat.zero_le _, rfl, rfl, pairs_nil w1 _ _ (Nat.le_refl _) HZ.out, (Below.refl _ _).alloc (Nat.le_refl _) _⟩
    case round =>
      obtain ⟨k, A2, c1, bs, hk, rfl, rfl, hpo, hb⟩ := hrel
      have hx0' := (hb.cell (p := ⟨w.heap.size, 0, none⟩) hszl).trans hx0
      have hx2' := (hb.cell (p := ⟨w.heap.size, 2, none⟩) hszl).trans hx2
      by_cases hlt : k < n
      · obtain ⟨b, o, f, rfl, hbl, hf, hokf, hcp, hcq, hcr⟩ := (hI.below hb).at_ hlt
        have hfb := comp_face hc.out hf
        have HT := Lib.hid (pairsP_take r hf)
        have HPO := Lib.hid hpo
        have hown := hpo.2.2.1
        have nb : some b ≠ Value.ownBlock (.slice A2 k c1) := fun he => absurd (hown.lt b he.symm).1 (by have := hblW b o rfl (by omega); omega)
        have nw : some w.heap.size ≠ Value.ownBlock (.slice A2 k c1) := fun he => absurd (hown.lt _ he.symm).1 (by omega)
        have hm1 := mul_bnd (a := f.q) (b := r) (X := 1000) (Y := 3000) (by omega) (by omega) (by omega) (by omega) (by omega)
        have e0 : (0 : Int) ≤ (k : Int) := by omega
        have e1 : (k : Int) < (n : Int) := by omega
        have e2 : IntKind.i64.wrap (f.q * r) = f.q * r := IntWalk.i64_in _ (by omega)
        have e3 : IntKind.i64.wrap (f.r - f.q * r) = f.r - f.q * r := IntWalk.i64_in _ (by omega)
        have hbs := hb.size
        have hwl := World.block_lt_of_cell? wr _ hx0'
        clear hf hx0 hx2 hpo
        go_wp2_with fail
        go_region_held3 (fun w' => w'.cell? ⟨w.heap.size, 0, none⟩ = some (.slice (some ⟨b, o, none⟩) n c) ∧ w'.cell? ⟨b, o + k * 3, none⟩ = some (.int .i64 f.p) ∧ w'.cell? ⟨b, o + k * 3 + 1, none⟩ = some (.int .i64 f.q) ∧ w'.cell? ⟨b, o + k * 3 + 2, none⟩ = some (.int .i64 f.r))
          (first | go_keep | (go_split_ands; refine ⟨?_, ?_, ?_, ?_⟩ <;> (rw [hgrow.cell_far _ (by simp; omega) (by assumption)]; assumption)))
          ((refine step_append_lies _ (by rfl) _ _ _ (by rfl) w1.heap.size 42 i0 _ 1 24 Try.underlying70 hi0 hz0 hz1 hz2 rfl (by omega) (.slice A2 k c1) k _ (by rfl) (((hown.alloc _).alloc _).drew) ⟨wr.heap.size + 1, 0, none⟩ 1 1 [.slice (some ⟨wr.heap.size, 0, none⟩) 2 2] (by rfl) (by rfl) (news2 wr (.cells #[.int .i64 f.p, .int .i64 (f.r - f.q * r)] 2) (.slice (some ⟨wr.heap.size, 0, none⟩) 2 2) 42) (by simp [Value.oneCell']) (by omega) (by unfold maxLen; omega) (by omega) (by simp; omega) (wr.heap.size + 2) (by simp) ?_; intro gg cap w1 hown1 hgrow hat hlt2))
        clear e0 e1 e2 e3
        go_wp2_with fail
        go_roundw
        case rel => exact ⟨k + 1, _, _, _, by omega, by go_num, rfl, HT.out ▸ pairs_push HPO.out (by rfl) hown1 hgrow, hb.trans (pairs_below HPO.out hb.size hgrow)⟩
        case measure => simp [intOf]; omega
      · obtain rfl : k = n := by omega
        have hps := hpo.pairs
        rw [List.take_of_length_le (Nat.le_of_eq hl.out)] at hps
        have hcb := cutTo_bd hok.out (lo := le) (hi := 30000) (by omega) (by omega) (by omega) (by omega) k
        have HR := Lib.hid (show floLo fs le r = (cutTo le 30000 (pairsP r fs) k).1 ∧ floHi fs le r = (cutTo le 30000 (pairsP r fs) k).2 by unfold floLo floHi; rw [hl.out]; exact ⟨rfl, rfl⟩)
        clear hpo
        by_cases t : floLo fs le r ≤ floHi fs le r
        · have HK := Lib.hid (show frCode k fs fu le r = 0 by simp [frCode, HP.out, t])
          have HL := Lib.hid (show frLo k fs fu le r = (cutTo le 30000 (pairsP r fs) k).1 by simp [frLo, HK.out, HR.out])
          have HH := Lib.hid (show frHi k fs fu le r = (cutTo le 30000 (pairsP r fs) k).2 by simp [frHi, HK.out, HR.out])
          have t' : (cutTo le 30000 (pairsP r fs) k).1 ≤ (cutTo le 30000 (pairsP r fs) k).2 := by rw [← HR.out.1, ← HR.out.2]; exact t
          clear t HR
          go_wp2_with fail
          refine (interval_any _ _ _ _ _ _ _ hps (by omega) hok (by omega) (by omega) (by omega) (by omega)).mono ?_
          rintro e w2 ⟨rfl, hq2⟩
          generalize cutTo le 30000 (pairsP r fs) k = LH at *
          obtain ⟨L, H⟩ := LH
          simp only at *
          go_wp2_with fail
          go_ret3
          exact ⟨ri3 HL.out.symm HH.out.symm HK.out.symm, bthen hw1 (hb.trans (hq2.below _)) hw1.size⟩
        · have HK := Lib.hid (show frCode k fs fu le r = 7 by simp [frCode, HP.out, t])
          have HL := Lib.hid (show frLo k fs fu le r = 0 by simp [frLo, HK.out])
          have HH := Lib.hid (show frHi k fs fu le r = 0 by simp [frHi, HK.out])
          have t' : ¬ (cutTo le 30000 (pairsP r fs) k).1 ≤ (cutTo le 30000 (pairsP r fs) k).2 := by rw [← HR.out.1, ← HR.out.2]; exact t
          clear t HR
          go_wp2_with fail
          refine (interval_any _ _ _ _ _ _ _ hps (by omega) hok (by omega) (by omega) (by omega) (by omega)).mono ?_
          rintro e w2 ⟨rfl, hq2⟩
          generalize cutTo le 30000 (pairsP r fs) k = LH at *
          obtain ⟨L, H⟩ := LH
          simp only at *
          go_wp2_with fail
          go_ret3
          exact ⟨ri3 HL.out.symm HH.out.symm HK.out.symm, bthen hw1 (hb.trans (hq2.below _)) hw1.size⟩
end Go.Proofs.Ytgchbajhceddnaa
