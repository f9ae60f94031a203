/- Proofs that come in and are copied and compared. Conditions: lengths of at most 1048576. -/
import Derived.Test.YtpgegfnhokhlmaaGreatKA
set_option linter.unusedVariables false
set_option maxRecDepth 100000
namespace Go.Proofs.YtpgegfnhokhlmaaGreat
open Go.ChangeShapes Go.WideShapes Go.ChangeAt Go.RowKit Go.Joins Go.Deep
attribute [local go_sem ↓] Go.wp_at_zero Go.wp_at_succ

section
variable {H : Type} {enc : TypeId × Value → H} {W : World} {base : Nat} {v : Value} {d : DataW H} {p : List MemPlace}
theorem opn_proof (hv : Value.okWide Tryz.prog W .any base 48 v) (h : DataW.Trod enc Tryz.prog W 0 (fun _ => true) true 48 v d p) (_lt : ∀ x ∈ p, x.block < W.heap.size) :
    ∃ A n c xs B m d ys, v = .agg #[.slice A n c, .slice B m d] ∧ (Ints W A n xs ∧ n ≤ c ∧ c ≤ maxLen) ∧ (Ints W B m ys ∧ m ≤ d ∧ d ≤ maxLen) := by
  obtain ⟨cs, rfl, hl, hg⟩ := opn_fields Tryz.underlying48 (by kernel_rfl) (by kernel_rfl) hv h
  obtain ⟨c0, c1, rfl⟩ := list2 hl
  obtain ⟨_, _, h0, _⟩ := hg 0 _ _ rfl rfl
  obtain ⟨_, _, h1, _⟩ := hg 1 _ _ rfl rfl
  obtain ⟨A, n, c, xs, rfl, hx⟩ := rd_ints h0
  obtain ⟨B, m, d, ys, rfl, hy⟩ := rd_ints h1
  exact ⟨A, n, c, xs, B, m, d, ys, rfl, hx, hy⟩
end
theorem szIntsP_any (A : Option Addr) (n c : Nat) (left : Int) (w : World) (hn : n ≤ 9223372036854775807) (h0 : 0 ≤ left) (h1 : left ≤ 1048576) :
    Calls Tryz.prog 81 #[.slice A n c, .int .i64 left] w fun e w' => e = .returned (.int .i64 (if (n : Int) ≤ left then left - n else -1)) ∧ w = w' := by
  by_cases h : (n : Int) ≤ left
  · rw [if_pos h]
    go_enter Tryz.func81, Tryz.ntmps81
    go_wp2_with fail
    go_ret
    exact ⟨rfl, rfl⟩
  · rw [if_neg h]
    go_enter Tryz.func81, Tryz.ntmps81
    go_wp2_with fail
    go_ret
    exact ⟨rfl, rfl⟩
set_option maxHeartbeats 1000000 in
theorem szProofE_any (A B : Option Addr) (n c m d : Nat) (left : Int) (w : World) (hn : n ≤ 9223372036854775807) (hm : m ≤ 9223372036854775807) (h0 : 0 ≤ left) (h1 : left ≤ 1048576) :
    Calls Tryz.prog 30 #[.agg #[.slice A n c, .slice B m d], .int .i64 left] w fun e w' => e = .returned (.int .i64 (if (n : Int) + m ≤ left then left - n - m else -1)) ∧ Below w.heap.size w w' := by
  have hb : ∀ cs t, Below w.heap.size w (w.alloc (.cells cs t)) := fun cs t => (Below.refl _ _).alloc (Nat.le_refl _) _
  have hs := fun W => szIntsP_any A n c left W hn h0 h1
  by_cases h : (n : Int) ≤ left
  · rw [if_pos h] at hs
    have hs2 := fun W => szIntsP_any B m d (left - n) W hm (by omega) (by omega)
    by_cases h2 : (m : Int) ≤ left - n
    · rw [if_pos h2] at hs2
      rw [if_pos (by omega)]
      have HS := Lib.hid hs
      have HS2 := Lib.hid hs2
      clear hs hs2
      go_enter Tryz.func30, Tryz.ntmps30
      go_wp2_with fail
      refine (HS.out _).mono ?_
      rintro e w' ⟨rfl, rfl⟩
      go_wp2_with fail
      refine (HS2.out _).mono ?_
      rintro e w' ⟨rfl, rfl⟩
      go_wp2_with fail
      go_ret
      exact ⟨rfl, hb _ _⟩
    · rw [if_neg h2] at hs2
      rw [if_neg (by omega)]
      have HS := Lib.hid hs
      have HS2 := Lib.hid hs2
      clear hs hs2
      go_enter Tryz.func30, Tryz.ntmps30
      go_wp2_with fail
      refine (HS.out _).mono ?_
      rintro e w' ⟨rfl, rfl⟩
      go_wp2_with fail
      refine (HS2.out _).mono ?_
      rintro e w' ⟨rfl, rfl⟩
      go_wp2_with fail
      go_ret
      exact ⟨rfl, hb _ _⟩
  · rw [if_neg h] at hs
    rw [if_neg (by omega)]
    have HS := Lib.hid hs
    clear hs
    go_enter Tryz.func30, Tryz.ntmps30
    go_wp2_with fail
    refine (HS.out _).mono ?_
    rintro e w' ⟨rfl, rfl⟩
    go_wp2_with fail
    go_ret
    exact ⟨rfl, hb _ _⟩

/-- A call returns a proof whose lists lie in new memory. -/
def RetPr (w : World) (xs ys : List Int) (e : Ending) (w' : World) : Prop :=
  ∃ A c B d, e = .returned (.agg #[.slice A xs.length c, .slice B ys.length d]) ∧ Own w' w.heap.size A xs.length c xs ∧ Own w' w.heap.size B ys.length d ys ∧ Below w.heap.size w w'
theorem Own.lw_ {w : World} {B : Nat} {A : Option Addr} {n c : Nat} {zs : List Int} (h : Own w B A n c zs) {a : Addr} (ha : a.block < B) (u : Value) : Own (w.setCell a u) B A n c zs := ⟨ownsRow_setCell_below h.1 ha u, h.2⟩
set_option maxHeartbeats 2000000 in
theorem toProofA_any (A B : Option Addr) (c d : Nat) (xs ys : List Int) (w : World) (h : Ints w A xs.length xs) (k : Ints w B ys.length ys) (hn : xs.length ≤ 1048576) (hm : ys.length ≤ 1048576) :
    Calls Tryz.prog 32 #[.agg #[.slice A xs.length c, .slice B ys.length d]] w (RetPr w xs ys) := by
  have h3 : ∀ a ta b tb d td, Ints (((w.alloc (.cells a ta)).alloc (.cells b tb)).alloc (.cells d td)) A xs.length xs := fun a ta b tb d td => ((h.alloc _).alloc _).alloc _
  have k3 : ∀ a ta b tb d td, Ints (((w.alloc (.cells a ta)).alloc (.cells b tb)).alloc (.cells d td)) B ys.length ys := fun a ta b tb d td => ((k.alloc _).alloc _).alloc _
  go_enter Tryz.func32, Tryz.ntmps32
  go_wp2_with fail
  have k3' := k3 #[.slice A xs.length c, .slice B ys.length d] 48 #[.slice none 0 0, .slice none 0 0] 51 #[.slice none 0 0, .slice none 0 0] 51
  refine (toInts_any _ _ _ _ _ (h3 _ _ _ _ _ _) hn).mono ?_
  rintro e w1 ⟨A1, c1, rfl, ho1, hb1⟩
  obtain ⟨hc, hf⟩ := bcell hb1
  have hz : w.heap.size + 2 < w1.heap.size := by have := hb1.size; simp at this; omega
  have hw1 : Below w.heap.size w w1 := bthen (by repeat (first | exact Below.refl _ _ | refine Below.alloc ?_ (by simp <;> omega) _)) hb1 (by simp; omega)
  have hB : Own w1 (w.heap.size + 3) A1 xs.length c1 xs := by simpa using ho1
  have hk1 := k3'.below hb1
  have hb2' := hw1.setCell (p := ⟨w.heap.size + 1 + 1, 0, none⟩) (by simp; omega) (.slice A1 xs.length c1)
  have hz1 : (w1.setCell ⟨w.heap.size + 1 + 1, 0, none⟩ (.slice A1 xs.length c1)).heap.size = w1.heap.size := by simp [World.setCell]
  have hB1 : Own (w1.setCell ⟨w.heap.size + 1 + 1, 0, none⟩ (.slice A1 xs.length c1)) (w.heap.size + 3) A1 xs.length c1 xs := hB.lw_ (by simp) _
  clear h3 k3 ho1 k3' hk1
  go_wp2_with fail
  refine (toInts_any _ _ _ _ _ (k.below hb2') hm).mono ?_
  rintro e w2 ⟨A2, c2, rfl, ho2, hb2⟩
  have hB2 := hB1.below hb2
  have hw2 := bthen hb2' hb2 hb2'.size
  obtain ⟨hc2, hf2⟩ := bcell hb2
  have hz2 : w.heap.size + 2 < w2.heap.size := by have := hb2.size; omega
  have x0 : w2.cell? ⟨w.heap.size, 1, none⟩ = some (.slice B ys.length d) := by rw [hc2 _ _ (by omega)]; simp [go_sem, hc]
  have y0 : w2.cell? ⟨w.heap.size + 1 + 1, 0, none⟩ = some (.slice A1 xs.length c1) := by rw [hc2 _ _ (by omega)]; simp [go_sem, hc]
  have y1 : w2.cell? ⟨w.heap.size + 1 + 1, 1, none⟩ = some (.slice none 0 0) := by rw [hc2 _ _ (by omega)]; simp [go_sem, hc]
  have z0 : w2.cell? ⟨w.heap.size + 1, 0, none⟩ = some (.slice none 0 0) := by rw [hc2 _ _ (by omega)]; simp [go_sem, hc]
  have z1 : w2.cell? ⟨w.heap.size + 1, 1, none⟩ = some (.slice none 0 0) := by rw [hc2 _ _ (by omega)]; simp [go_sem, hc]
  have f1 : w2.frozen? ⟨w.heap.size + 1 + 1, 1, none⟩ = false := by rw [hf2 _ _ (by omega)]; simp [go_sem, hf]
  have f2 : w2.frozen? ⟨w.heap.size + 1, 0, none⟩ = false := by rw [hf2 _ _ (by omega)]; simp [go_sem, hf]
  have f3 : w2.frozen? ⟨w.heap.size + 1, 1, none⟩ = false := by rw [hf2 _ _ (by omega)]; simp [go_sem, hf]
  have ho2' : Own w2 (w.heap.size + 3) A2 ys.length c2 ys := ho2.mono (by omega)
  clear ho2 hB hB1 hc hf hc2 hf2
  go_wp2_with fail
  refine bodyPost_ret (v := .agg #[.slice A1 xs.length c1, .slice A2 ys.length c2]) (by simp [results, Tryz.results32, go_sem, z0, z1]) rfl ⟨A1, c1, A2, c2, rfl, ?_, ?_, ?_⟩
  · refine Own.mono (B := w.heap.size + 3) ?_ (by omega)
    iterate 3 refine Own.lw_ ?_ (by simp) _
    exact hB2
  · refine Own.mono (B := w.heap.size + 3) ?_ (by omega)
    iterate 3 refine Own.lw_ ?_ (by simp) _
    exact ho2'
  · iterate 3 refine Below.setCell ?_ (by simp <;> omega) _
    exact hw2
set_option maxHeartbeats 1000000 in
theorem eqProofA_any (A B A' B' : Option Addr) (c d c' d' : Nat) (xs ys : List Int) (w : World) (h : Ints w A xs.length xs) (k : Ints w B ys.length ys) (h' : Ints w A' xs.length xs) (k' : Ints w B' ys.length ys) (hn : xs.length ≤ 1048576) (hm : ys.length ≤ 1048576) :
    Calls Tryz.prog 34 #[.agg #[.slice A xs.length c, .slice B ys.length d], .agg #[.slice A' xs.length c', .slice B' ys.length d']] w fun e w' => e = .returned (.bool true) ∧ Below w.heap.size w w' := by
  have hw0 : ∀ a ta b tb, Below w.heap.size w ((w.alloc (.cells a ta)).alloc (.cells b tb)) := fun a ta b tb => ((Below.refl _ _).alloc (Nat.le_refl _) _).alloc (by simp) _
  go_enter Tryz.func34, Tryz.ntmps34
  go_wp2_with fail
  refine (eqInts_any _ _ _ _ _ _ _ _ _ (h.below (hw0 _ _ _ _)) (h'.below (hw0 _ _ _ _)) hn).mono ?_
  rintro e w1 ⟨rfl, hq1⟩
  obtain ⟨m1, rfl⟩ := hq1
  go_wp2_with fail
  refine (eqInts_any _ _ _ _ _ _ _ _ _ ((k.below (hw0 _ _ _ _)).drewN _) ((k'.below (hw0 _ _ _ _)).drewN _) hm).mono ?_
  rintro e w2 ⟨rfl, hq2⟩
  go_wp2_with fail
  go_ret
  exact ⟨rfl, bthen (below_drewN (hw0 _ _ _ _) _) (hq2.below _) (by simp; omega)⟩
theorem szProof_any (A B : Option Addr) (n c m d : Nat) (left : Int) (w : World) (hn : n ≤ 9223372036854775807) (hm : m ≤ 9223372036854775807) (h0 : 0 ≤ left) (h1 : left ≤ 1048576) :
    Calls Tryz.prog 30 #[.agg #[.slice A n c, .slice B m d], .int .i64 left] w fun e w' => ∃ r : Int, e = .returned (.int .i64 r) ∧ (r = -1 ∨ (0 ≤ r ∧ r + n + m ≤ left)) ∧ Below w.heap.size w w' := by
  refine (szProofE_any A B n c m d left w hn hm h0 h1).mono ?_
  rintro e w' ⟨rfl, hb⟩
  refine ⟨_, rfl, ?_, hb⟩
  split
  · exact .inr ⟨by omega, by omega⟩
  · exact .inl rfl
end Go.Proofs.YtpgegfnhokhlmaaGreat
