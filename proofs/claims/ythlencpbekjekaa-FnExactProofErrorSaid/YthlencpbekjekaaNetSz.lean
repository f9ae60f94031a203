/- What szNode, szNodeS, szPipeS, szNetwork, toNetwork, eqNetwork do, by walks over their text. Conditions: lengths of at most 1048576, but for the sz. -/
import Derived.Test.YthlencpbekjekaaNetOps
import Derived.Test.YthlencpbekjekaaInts
set_option linter.unusedVariables false
set_option maxRecDepth 100000
namespace Go.Proofs.Ythlencpbekjekaa
open Go.ChangeShapes Go.WideShapes Go.ChangeAt Go.RowKit Go.Joins Go.Deep

/-- What is left behind a count: -1, or what is left, the count taken off. -/
def RetLeft (w : World) (left n : Int) (e : Ending) (w' : World) : Prop :=
  ∃ r : Int, e = .returned (.int .i64 r) ∧ (r = -1 ∨ 0 ≤ r ∧ r + n ≤ left) ∧ Below w.heap.size w w'

theorem szPipes_any (A : Option Addr) (n c : Nat) (left : Int) (w : World) (hn : n ≤ maxLen) (h0 : 0 ≤ left) (hl : left ≤ 1048576) :
    Calls Try.prog 16 #[.slice A n c, .int .i64 left] w (RetLeft w left n) := by
  unfold maxLen at hn
  by_cases h : left - (n : Int) < 0
  all_goals
    go_enter Try.func16, Try.ntmps16
    go_wp2
    go_ret
  · exact ⟨_, rfl, .inl rfl, Below.refl _ _⟩
  · exact ⟨_, rfl, .inr ⟨by omega, by omega⟩, Below.refl _ _⟩
theorem szNode_any (f : Nd) (left : Int) (w : World) (hn : f.nm.size ≤ maxLen) (h0 : 0 ≤ left) (hl : left ≤ 1048576) :
    Calls Try.prog 32 #[.agg #[.string f.nm, .int .i64 f.lo, .int .i64 f.hi], .int .i64 left] w (RetLeft w left 0) := by
  unfold maxLen at hn
  have hb : ∀ cs t, Below w.heap.size w (w.alloc (.cells cs t)) := fun cs t => (Below.refl _ _).alloc (Nat.le_refl _) _
  by_cases h : left - (f.nm.size : Int) < 0
  all_goals
    go_enter Try.func32, Try.ntmps32
    go_wp2
    go_ret
  · exact ⟨_, rfl, .inl rfl, hb _ _⟩
  · exact ⟨_, rfl, .inr ⟨by omega, by omega⟩, hb _ _⟩
set_option maxHeartbeats 2000000 in
theorem szNodes_any (A : Option Addr) (n c : Nat) (fs : List Nd) (left : Int) (w : World) (h : Nodes w A n fs) (hn : n ≤ maxLen) (h0 : 0 ≤ left) (hl : left ≤ 1048576) :
    Calls Try.prog 15 #[.slice A n c, .int .i64 left] w (RetLeft w left n) := by
  unfold maxLen at hn
  by_cases hs : left - (n : Int) < 0
  · go_enter Try.func15, Try.ntmps15
    go_wp2
    go_ret
    exact ⟨_, rfl, .inl rfl, Below.refl _ _⟩
  go_enter Try.func15, Try.ntmps15
  go_wp2_with fail
  go_loopw [1, 5] (fun l ii wr => ∃ (k : Nat) (r : Int), k ≤ n ∧ ii = .int .i64 k ∧ l = .int .i64 r ∧ 0 ≤ r ∧ r + n ≤ left ∧ Below w.heap.size w wr) (fun _ ii _ => n - (intOf ii).toNat)
  case atStart => exact ⟨0, _, Nat.zero_le _, rfl, rfl, by omega, by omega, Below.refl _ _⟩
  case round =>
    obtain ⟨k, r, hk, rfl, rfl, hr0, hr, hb⟩ := hrel
    by_cases hlt : k < n
    · obtain ⟨b, o, f, rfl, hbl, hf, hok, hc0, hc1, hc2⟩ := (h.below hb).at_ hlt
      have HF := Lib.hid hf
      clear hf
      go_wp2_with fail
      refine (szNode_any f r _ hok.1 hr0 (by omega)).mono ?_
      rintro e w1 ⟨r1, rfl, h1, hb1⟩
      have hb' := bthen hb hb1 hb.size
      rcases h1 with rfl | ⟨h10, h1l⟩
      · go_wp2_with fail
        go_ret
        exact ⟨_, rfl, .inl rfl, hb'⟩
      · go_wp2_with fail
        go_roundw
        case rel => exact ⟨k + 1, r1, by omega, by go_num, rfl, h10, by omega, hb'⟩
        case measure => simp [intOf]; omega
    · go_wp2_with fail
      go_ret
      exact ⟨_, rfl, .inr ⟨hr0, hr⟩, hb⟩
set_option maxHeartbeats 2000000 in
theorem szNet_any (A B : Option Addr) (n c m d : Nat) (fs : List Nd) (left : Int) (w : World) (h : Nodes w A n fs) (hn : n ≤ maxLen) (hm : m ≤ maxLen) (h0 : 0 ≤ left) (hl : left ≤ 1048576) :
    Calls Try.prog 5 #[.agg #[.slice A n c, .slice B m d], .int .i64 left] w (RetLeft w left (n + m)) := by
  have hb0 : ∀ cs t, Below w.heap.size w (w.alloc (.cells cs t)) := fun cs t => (Below.refl _ _).alloc (Nat.le_refl _) _
  go_enter Try.func5, Try.ntmps5
  go_wp2_with fail
  refine (szNodes_any A n c fs left _ (h.alloc _) hn h0 hl).mono ?_
  rintro e w1 ⟨r1, rfl, h1, hb1⟩
  obtain ⟨hc, hf⟩ := bcell hb1
  have hz : w.heap.size < w1.heap.size := by have := hb1.size; simp at this; omega
  have hb' := bthen (hb0 _ _) hb1 (by simp)
  have x1 : w1.cell? ⟨w.heap.size, 1, none⟩ = some (.slice B m d) := by rw [hc _ _ (by simp)]; simp
  rcases h1 with rfl | ⟨h10, h1l⟩
  · go_wp2_with fail
    go_ret
    exact ⟨_, rfl, .inl rfl, hb'⟩
  · clear hc hf
    go_wp2_with fail
    refine (szPipes_any B m d r1 _ hm h10 (by omega)).mono ?_
    rintro e w2 ⟨r2, rfl, h2, hb2⟩
    have hb'' := bthen hb' hb2 hb'.size
    rcases h2 with rfl | ⟨h20, h2l⟩
    · go_wp2_with fail
      go_ret
      exact ⟨_, rfl, .inl rfl, hb''⟩
    · go_wp2_with fail
      go_ret
      exact ⟨_, rfl, .inr ⟨h20, by omega⟩, hb''⟩

/-- A call returns a network whose lists lie in new memory. -/
def RetNet (w : World) (xs : List Nd) (ys : List Pp) (e : Ending) (w' : World) : Prop :=
  ∃ A c B d, e = .returned (.agg #[.slice A xs.length c, .slice B ys.length d]) ∧ OwnN w' w.heap.size A xs.length c xs ∧ OwnP w' w.heap.size B ys.length d ys ∧ Below w.heap.size w w'
set_option maxHeartbeats 2000000 in
theorem toNet_any (A B : Option Addr) (c d : Nat) (xs : List Nd) (ys : List Pp) (w : World) (h : Nodes w A xs.length xs) (k : Pipes w B ys.length ys) (hn : xs.length ≤ 1048576) (hm : ys.length ≤ 1048576) :
    Calls Try.prog 8 #[.agg #[.slice A xs.length c, .slice B ys.length d]] w (RetNet w xs ys) := by
  have h3 : ∀ a ta b tb d td, Nodes (((w.alloc (.cells a ta)).alloc (.cells b tb)).alloc (.cells d td)) A xs.length xs := fun a ta b tb d td => ((h.alloc _).alloc _).alloc _
  have k3 : ∀ a ta b tb d td, Pipes (((w.alloc (.cells a ta)).alloc (.cells b tb)).alloc (.cells d td)) B ys.length ys := fun a ta b tb d td => ((k.alloc _).alloc _).alloc _
  go_enter Try.func8, Try.ntmps8
  go_wp2_with fail
  have k3' := k3 #[.slice A xs.length c, .slice B ys.length d] 25 #[.slice none 0 0, .slice none 0 0] 36 #[.slice none 0 0, .slice none 0 0] 36
  refine (toNodes_any _ _ _ _ _ (h3 _ _ _ _ _ _) hn).mono ?_
  rintro e w1 ⟨A1, c1, rfl, ho1, hb1⟩
  obtain ⟨hc, hf⟩ := bcell hb1
  have hz : w.heap.size + 2 < w1.heap.size := by have := hb1.size; simp at this; omega
  have hw1 : Below w.heap.size w w1 := bthen (by repeat (first | exact Below.refl _ _ | refine Below.alloc ?_ (by simp <;> omega) _)) hb1 (by simp; omega)
  have hB : OwnN w1 (w.heap.size + 3) A1 xs.length c1 xs := by simpa using ho1
  have hk1 := k3'.below hb1
  have hb2' := hw1.setCell (p := ⟨w.heap.size + 1 + 1, 0, none⟩) (by simp; omega) (.slice A1 xs.length c1)
  have hz1 : (w1.setCell ⟨w.heap.size + 1 + 1, 0, none⟩ (.slice A1 xs.length c1)).heap.size = w1.heap.size := by simp [World.setCell]
  have hB1 : OwnN (w1.setCell ⟨w.heap.size + 1 + 1, 0, none⟩ (.slice A1 xs.length c1)) (w.heap.size + 3) A1 xs.length c1 xs := hB.low (by simp) _
  clear h3 k3 ho1 k3' hk1
  go_wp2_with fail
  refine (toPipes_any _ _ _ _ _ (k.below hb2') hm).mono ?_
  rintro e w2 ⟨A2, c2, rfl, ho2, hb2⟩
  have hB2 := hB1.below hb2
  have hw2 := bthen hb2' hb2 hb2'.size
  obtain ⟨hc2, hf2⟩ := bcell hb2
  have hz2 : w.heap.size + 2 < w2.heap.size := by have := hb2.size; omega
  have x0 : w2.cell? ⟨w.heap.size, 1, none⟩ = some (.slice B ys.length d) := by rw [hc2 _ _ (by omega)]; simp [go_sem, hc]
  have y0 : w2.cell? ⟨w.heap.size + 1 + 1, 0, none⟩ = some (.slice A1 xs.length c1) := by rw [hc2 _ _ (by omega)]; simp [go_sem, hc]
  have y1 : w2.cell? ⟨w.heap.size + 1 + 1, 1, none⟩ = some (.slice none 0 0) := by rw [hc2 _ _ (by omega)]; simp [go_sem, hc]
  have z0 : w2.cell? ⟨w.heap.size + 1, 0, none⟩ = some (.slice none 0 0) := by rw [hc2 _ _ (by omega)]; simp [go_sem, hc]
  have z1 : w2.cell? ⟨w.heap.size + 1, 1, none⟩ = some (.slice none 0 0) := by rw [hc2 _ _ (by omega)]; simp [go_sem, hc]
  have f1 : w2.frozen? ⟨w.heap.size + 1 + 1, 1, none⟩ = false := by rw [hf2 _ _ (by omega)]; simp [go_sem, hf]
  have f2 : w2.frozen? ⟨w.heap.size + 1, 0, none⟩ = false := by rw [hf2 _ _ (by omega)]; simp [go_sem, hf]
  have f3 : w2.frozen? ⟨w.heap.size + 1, 1, none⟩ = false := by rw [hf2 _ _ (by omega)]; simp [go_sem, hf]
  have ho2' : OwnP w2 (w.heap.size + 3) A2 ys.length c2 ys := ho2.mono (by omega)
  clear ho2 hB hB1 hc hf hc2 hf2
  go_wp2_with fail
  refine bodyPost_ret (v := .agg #[.slice A1 xs.length c1, .slice A2 ys.length c2]) (by simp [results, Try.results8, go_sem, z0, z1]) rfl ⟨A1, c1, A2, c2, rfl, ?_, ?_, ?_⟩
  · refine OwnN.mono (B := w.heap.size + 3) ?_ (by omega)
    iterate 3 refine OwnN.low ?_ (by simp) _
    exact hB2
  · refine OwnP.mono (B := w.heap.size + 3) ?_ (by omega)
    iterate 3 refine OwnP.low ?_ (by simp) _
    exact ho2'
  · iterate 3 refine Below.setCell ?_ (by simp <;> omega) _
    exact hw2
set_option maxHeartbeats 2000000 in
theorem eqNet_any (A B A' B' : Option Addr) (n m n' m' c d c' d' : Nat) (xs xs' : List Nd) (ys ys' : List Pp) (w : World) (h : Nodes w A n xs) (k : Pipes w B m ys) (h' : Nodes w A' n' xs') (k' : Pipes w B' m' ys') (hn : n ≤ 1048576) (hm : m ≤ 1048576) :
    Calls Try.prog 11 #[.agg #[.slice A n c, .slice B m d], .agg #[.slice A' n' c', .slice B' m' d']] w (RetEq w (xs = xs' ∧ ys = ys')) := by
  have hw0 : ∀ a ta b tb, Below w.heap.size w ((w.alloc (.cells a ta)).alloc (.cells b tb)) := fun a ta b tb => ((Below.refl _ _).alloc (Nat.le_refl _) _).alloc (by simp) _
  go_enter Try.func11, Try.ntmps11
  go_wp2_with fail
  refine (eqNodes_any _ _ _ _ _ _ _ _ _ (h.below (hw0 _ _ _ _)) (h'.below (hw0 _ _ _ _)) hn).mono ?_
  rintro e w1 ⟨b1, hb1, rfl, hq1⟩
  obtain ⟨hc, hf⟩ := bcell hq1
  have hz : w.heap.size + 1 < w1.heap.size := by have := hq1.size; simp at this; omega
  have hw1 := bthen (hw0 _ _ _ _) hq1 (by simp; omega)
  have x1 : w1.cell? ⟨w.heap.size, 1, none⟩ = some (.slice B m d) := by rw [hc _ _ (by simp; omega)]; simp
  have x2 : w1.cell? ⟨w.heap.size + 1, 1, none⟩ = some (.slice B' m' d') := by rw [hc _ _ (by simp)]; simp
  have HB := Lib.hid hb1
  clear hb1 hc hf
  cases b1
  · go_wp2_with fail
    go_ret
    exact ⟨false, ⟨(fun h => by cases h), fun h => absurd (HB.out.2 h.1) (by simp)⟩, rfl, hw1⟩
  go_wp2_with fail
  refine (eqPipes_any _ _ _ _ _ _ _ _ _ (k.below hw1) (k'.below hw1) hm).mono ?_
  rintro e w2 ⟨b2, hb2, rfl, hq2⟩
  have HB2 := Lib.hid hb2
  have hw2 := bthen hw1 hq2 hw1.size
  clear hb2
  cases b2
  · go_wp2_with fail
    go_ret
    exact ⟨false, ⟨(fun h => by cases h), fun h => absurd (HB2.out.2 h.2) (by simp)⟩, rfl, hw2⟩
  · go_wp2_with fail
    go_ret
    exact ⟨true, ⟨fun _ => ⟨HB.out.1 (by trivial), HB2.out.1 (by trivial)⟩, fun _ => rfl⟩, rfl, hw2⟩
end Go.Proofs.Ythlencpbekjekaa
