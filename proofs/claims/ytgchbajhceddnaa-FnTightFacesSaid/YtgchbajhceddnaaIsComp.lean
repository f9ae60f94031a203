/- What IsCompressor of the program and of the reference do, by walks over their text. No condition but that the numbers fit their kind. -/
import Derived.Test.YtgchbajhceddnaaFaces
set_option linter.unusedVariables false
set_option maxRecDepth 100000
namespace Go.Proofs.Ytgchbajhceddnaa
open Go.RowKit Go.Joins

set_option maxHeartbeats 4000000 in
theorem isComp_any (A : Option Addr) (n c : Nat) (fs : List Fc) (fu le : Int) (w : World) (h : Faces w A n fs) (hn : n ≤ 9223372036854775807) :
    Calls Try.prog 20 #[.agg #[.slice A n c, .int .i64 fu, .int .i64 le]] w fun e w' => e = .returned (.bool (compB n fs fu le)) ∧ Below w.heap.size w w' := by
  rcases (orB (orB (orB trivial)) : inB n 1 8 = false ∨ inB n 1 8 = true ∧ (inB fu 0 1000 = false ∨ inB fu 0 1000 = true ∧ (inB le 0 30000 = false ∨ inB le 0 30000 = true ∧ True))) with h1 | ⟨h1, h2 | ⟨h2, h3 | ⟨h3, _⟩⟩⟩
  case inr.inr.inr =>
    have HV := Lib.hid (show compB n fs fu le = fs.all faceB by simp [compB, h1, h2, h3])
    have hn8 : n ≤ 8 := by have := (inB_iff _ _ _).1 h1; omega
    have hl := Lib.hid h.len
    go_enter Try.func20, Try.ntmps20
    go_wp2_with (go_at_call 48; refine (within_any _ _ _ _).mono ?_; rintro e w' ⟨rfl, rfl⟩)
    have hx : (w.alloc (.cells #[.slice A n c, .int .i64 fu, .int .i64 le] 32)).cell? ⟨w.heap.size, 0, none⟩ = some (.slice A n c) := by simp
    have hI := h.alloc (.cells #[.slice A n c, .int .i64 fu, .int .i64 le] 32)
    have hw0 : Below w.heap.size w (w.alloc (.cells #[.slice A n c, .int .i64 fu, .int .i64 le] 32)) := (Below.refl _ _).alloc (Nat.le_refl _) _
    have hsz : (w.alloc (.cells #[.slice A n c, .int .i64 fu, .int .i64 le] 32)).heap.size = w.heap.size + 1 := by simp
    generalize w.alloc (.cells #[.slice A n c, .int .i64 fu, .int .i64 le] 32) = W at *
    have HZ := Lib.hid hsz
    have hszl : w.heap.size < W.heap.size := by omega
    clear hsz
    go_loopw [25] (fun ii wr => ∃ k : Nat, k ≤ n ∧ ii = .int .i64 k ∧ Hid ((fs.take k).all faceB = true) ∧ Below W.heap.size W wr) (fun ii _ => n - (intOf ii).toNat)
    case atStart => exact ⟨0, Nat.zero_le _, rfl, rfl, Below.refl _ _⟩
    case round =>
      obtain ⟨k, hk, rfl, HP, hb⟩ := hrel
      have hx' := (hb.cell (p := ⟨w.heap.size, 0, none⟩) hszl).trans hx
      by_cases hlt : k < n
      · obtain ⟨b, o, f, rfl, hbl, hf, hok, hcp, hcq, hcr⟩ := (hI.below hb).at_ hlt
        have HF := Lib.hid hf
        clear hf
        have hb2 : ∀ cs t, Below W.heap.size W (wr.alloc (.cells cs t)) := fun cs t => hb.alloc hb.size _
        rcases face_ways f with ⟨t1, tf⟩ | ⟨t1, t2, tf⟩ | ⟨t1, t2, t3, t4, tf⟩ | ⟨t1, t2, t3, t4, t5, tf⟩ | ⟨t1, t2, t3, t5, tf⟩ | ⟨t1, t2, t3, t4, t5, tf⟩ | ⟨t1, t2, t3, t5, tf⟩
        all_goals
          have TF := Lib.hid tf
          clear tf
          go_wp2_with (go_at_call 48; refine (within_any _ _ _ _).mono ?_; rintro e w' ⟨rfl, rfl⟩)
        iterate 5
          · go_ret
            exact ⟨rb (by rw [HV.out]; exact (faces_no HF.out TF.out).symm), bthen hw0 (hb2 _ _) hw0.size⟩
        iterate 2
          · go_roundw
            case rel => exact ⟨k + 1, by omega, by go_num, faces_step HP.out HF.out TF.out, hb2 _ _⟩
            case measure => simp [intOf]; omega
      · go_wp2_with fail
        go_ret
        have hp := HP.out
        rw [List.take_of_length_le (by have := hl.out; omega)] at hp
        exact ⟨rb (by rw [HV.out]; exact hp.symm), bthen hw0 hb hw0.size⟩
  all_goals
    go_enter Try.func20, Try.ntmps20
    go_wp2_with (go_at_call 48; refine (within_any _ _ _ _).mono ?_; rintro e w' ⟨rfl, rfl⟩)
    go_ret
    exact ⟨rb (by first | (simp [compB, h1, h2, h3]; done) | (simp [compB, h1, h2]; done) | (simp [compB, h1]; done)), (Below.refl _ _).alloc (Nat.le_refl _) _⟩
set_option maxHeartbeats 4000000 in
theorem sIsComp_any (A : Option Addr) (n c : Nat) (fs : List Fc) (fu le : Int) (w : World) (h : Faces w A n fs) (hn : n ≤ 9223372036854775807) :
    Calls Try.prog 18 #[.agg #[.slice A n c, .int .i64 fu, .int .i64 le]] w fun e w' => e = .returned (.bool (compB n fs fu le)) ∧ Below w.heap.size w w' := by
  rcases (orP (orP (orB (orB trivial))) : ¬ 1 ≤ (n : Int) ∨ 1 ≤ (n : Int) ∧ (¬ (n : Int) ≤ 8 ∨ (n : Int) ≤ 8 ∧ (inB fu 0 1000 = false ∨ inB fu 0 1000 = true ∧ (inB le 0 30000 = false ∨ inB le 0 30000 = true ∧ True)))) with h0 | ⟨h0, h1 | ⟨h1, h2 | ⟨h2, h3 | ⟨h3, _⟩⟩⟩⟩
  case inr.inr.inr.inr =>
    have HV := Lib.hid (show compB n fs fu le = fs.all faceB by simp [compB, (inB_iff n 1 8).2 ⟨h0, h1⟩, h2, h3])
    have hn8 : n ≤ 8 := by omega
    have hl := Lib.hid h.len
    go_enter Try.func18, Try.ntmps18
    go_wp2_with (go_at_call 51; refine (in_any _ _ _ _).mono ?_; rintro e w' ⟨rfl, rfl⟩)
    have hx : (w.alloc (.cells #[.slice A n c, .int .i64 fu, .int .i64 le] 32)).cell? ⟨w.heap.size, 0, none⟩ = some (.slice A n c) := by simp
    have hI := h.alloc (.cells #[.slice A n c, .int .i64 fu, .int .i64 le] 32)
    have hw0 : Below w.heap.size w (w.alloc (.cells #[.slice A n c, .int .i64 fu, .int .i64 le] 32)) := (Below.refl _ _).alloc (Nat.le_refl _) _
    have hsz : (w.alloc (.cells #[.slice A n c, .int .i64 fu, .int .i64 le] 32)).heap.size = w.heap.size + 1 := by simp
    generalize w.alloc (.cells #[.slice A n c, .int .i64 fu, .int .i64 le] 32) = W at *
    have HZ := Lib.hid hsz
    have hszl : w.heap.size < W.heap.size := by omega
    clear hsz
    go_loopw [3] (fun ii wr => ∃ k : Nat, k ≤ n ∧ ii = .int .i64 k ∧ Hid ((fs.take k).all faceB = true) ∧ Below W.heap.size W wr) (fun ii _ => n - (intOf ii).toNat)
    case atStart => exact ⟨0, Nat.zero_le _, rfl, rfl, Below.refl _ _⟩
    case round =>
      obtain ⟨k, hk, rfl, HP, hb⟩ := hrel
      have hx' := (hb.cell (p := ⟨w.heap.size, 0, none⟩) hszl).trans hx
      by_cases hlt : k < n
      · obtain ⟨b, o, f, rfl, hbl, hf, hok, hcp, hcq, hcr⟩ := (hI.below hb).at_ hlt
        have HF := Lib.hid hf
        clear hf
        have hb2 : ∀ cs t, Below W.heap.size W (wr.alloc (.cells cs t)) := fun cs t => hb.alloc hb.size _
        rcases face_ways f with ⟨t1, tf⟩ | ⟨t1, t2, tf⟩ | ⟨t1, t2, t3, t4, tf⟩ | ⟨t1, t2, t3, t4, t5, tf⟩ | ⟨t1, t2, t3, t5, tf⟩ | ⟨t1, t2, t3, t4, t5, tf⟩ | ⟨t1, t2, t3, t5, tf⟩
        all_goals
          have TF := Lib.hid tf
          clear tf
          go_wp2_with (go_at_call 51; refine (in_any _ _ _ _).mono ?_; rintro e w' ⟨rfl, rfl⟩)
        iterate 5
          · go_ret
            exact ⟨rb (by rw [HV.out]; exact (faces_no HF.out TF.out).symm), bthen hw0 (hb2 _ _) hw0.size⟩
        iterate 2
          · go_roundw
            case rel => exact ⟨k + 1, by omega, by go_num, faces_step HP.out HF.out TF.out, hb2 _ _⟩
            case measure => simp [intOf]; omega
      · go_wp2_with fail
        go_ret
        have hp := HP.out
        rw [List.take_of_length_le (by have := hl.out; omega)] at hp
        exact ⟨rb (by rw [HV.out]; exact hp.symm), bthen hw0 hb hw0.size⟩
  all_goals
    go_enter Try.func18, Try.ntmps18
    go_wp2_with (go_at_call 51; refine (in_any _ _ _ _).mono ?_; rintro e w' ⟨rfl, rfl⟩)
    go_ret
    exact ⟨rb (by first | (simp [compB, h2, h3]; done) | (simp [compB, h2]; done) | (rw [compB, (inB_no n 1 8).2 (by omega)]; rfl)), (Below.refl _ _).alloc (Nat.le_refl _) _⟩
end Go.Proofs.Ytgchbajhceddnaa
