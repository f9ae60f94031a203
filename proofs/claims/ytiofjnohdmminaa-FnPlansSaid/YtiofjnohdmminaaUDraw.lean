/- The draws of units, of zeros and ones, of costs: what they do, by walks over their text. Condition: a code of at most 4096 bytes; at most 100 numbers to draw. -/
import Derived.Test.YtiofjnohdmminaaDraw
import Derived.Test.YtiofjnohdmminaaPush
import Derived.Test.YtiofjnohdmminaaStarts
set_option linter.unusedVariables false
set_option maxRecDepth 100000
namespace Go.Proofs.Ytiofjnohdmminaa
open Go.ChangeShapes Go.WideShapes Go.ChangeAt Go.RowKit Go.Joins Go.Deep
attribute [local go_sem ↓] Go.wp_at_zero Go.wp_at_succ

theorem gcell {w w' : World} {B : Nat} (h : w.grownBy w' (some B)) (b o : Nat) (hb : b < w.heap.size) (hne : b ≠ B) : w'.cell? ⟨b, o, none⟩ = w.cell? ⟨b, o, none⟩ :=
  World.cell?_of_block (a := ⟨b, o, none⟩) (h.block b hb (fun e => hne (by injection e)))
theorem gfrozen {w w' : World} {B : Nat} (h : w.grownBy w' (some B)) (b o : Nat) (hb : b < w.heap.size) (hne : b ≠ B) : w'.frozen? ⟨b, o, none⟩ = w.frozen? ⟨b, o, none⟩ :=
  World.frozen?_of_block (a := ⟨b, o, none⟩) (h.block b hb (fun e => hne (by injection e)))
theorem gheap {w w' : World} {B b : Nat} {o : Obj} (h : w.grownBy w' (some B)) (hb : w.heap[b]? = some o) (hne : b ≠ B) : w'.heap[b]? = some o :=
  (h.block b (heap_lt' hb) (fun e => hne (by injection e))).trans hb
theorem aheap {w : World} {b : Nat} {o : Obj} (hb : w.heap[b]? = some o) (x : Obj) : (w.alloc x).heap[b]? = some o := (Below.heap_alloc w x b (heap_lt' hb)).trans hb
theorem Src.belowN {w w' : World} {B N : Nat} {A : Option Addr} {n c : Nat} {zs : List Int} (h : Src w B A n c zs) (hb : Below N w w') (hB : B < N) (hA : ∀ b o, A = some ⟨b, o, none⟩ → 0 < n → b < N) : Src w' B A n c zs := by
  obtain ⟨p, s, h1, h2, h3, h4, h5, h6⟩ := h
  refine ⟨p, s, h1, h2, h3, (hb.block B hB).trans h4, ⟨h5.1, h5.2.1, fun hn => ?_⟩, h6⟩
  obtain ⟨b, o, e, hlt, hc⟩ := h5.2.2 hn
  exact ⟨b, o, e, Nat.lt_of_lt_of_le hlt hb.size, fun k z hz => (hb.cell (p := ⟨b, o + k, none⟩) (hA b o e hn)).trans (hc k z hz)⟩
theorem Src.at_lt {w : World} {B : Nat} {A : Option Addr} {n c : Nat} {zs : List Int} (h : Src w B A n c zs) : ∀ b o, A = some ⟨b, o, none⟩ → 0 < n → b < w.heap.size := by
  obtain ⟨p, s, _, _, _, _, h5, _⟩ := h
  intro b o hA hn
  obtain ⟨b', o', e, hlt, _⟩ := h5.2.2 hn
  rw [hA] at e
  injection e with e
  injection e with e1
  omega
/-- A draw goes on: the source stands, and only it has turned. -/
def DS (w wr : World) (B : Nat) (A : Option Addr) (n c : Nat) (zs : List Int) : Prop := Src w B A n c zs ∧ Src wr B A n c zs ∧ w.grownBy wr (some B)
section
variable {w wr w' : World} {B : Nat} {A : Option Addr} {n c : Nat} {zs : List Int}
theorem DS.start (h : Src w B A n c zs) : DS w w B A n c zs := ⟨h, h, World.grownBy.refl w _⟩
theorem DS.next (h : DS w wr B A n c zs) (hs : Src w' B A n c zs) (hg : wr.grownBy w' (some B)) : DS w w' B A n c zs := ⟨h.1, hs, h.2.2.trans hg⟩
theorem DS.belowN (h : DS w wr B A n c zs) (hb : Below w.heap.size wr w') : DS w w' B A n c zs :=
  ⟨h.1, h.2.1.belowN hb h.1.lt h.1.at_lt, ⟨hb.os.trans h.2.2.os, hb.tape.trans h.2.2.tape, hb.output.trans h.2.2.output, Nat.le_trans h.2.2.size hb.size, fun i hi hne => (hb.block i hi).trans (h.2.2.block i hi hne)⟩⟩
theorem DS.alloc (h : DS w wr B A n c zs) (o : Obj) : DS w (wr.alloc o) B A n c zs := h.belowN ((Below.refl _ _).alloc h.2.2.size _)
theorem DS.set (h : DS w wr B A n c zs) {b : Nat} (hb : w.heap.size ≤ b) (i : Nat) (u : Value) : DS w (wr.setCell ⟨b, i, none⟩ u) B A n c zs := h.belowN ((Below.refl w.heap.size wr).setCell (p := ⟨b, i, none⟩) hb u)
theorem DS.size (h : DS w wr B A n c zs) : w.heap.size ≤ wr.heap.size := h.2.2.size
theorem DS.own {A2 : Option Addr} {m c1 : Nat} {S : List Int} (h : DS w wr B A n c zs) (ho : Own wr w.heap.size A2 m c1 S) (hg : wr.grownBy w' (some B)) : Own w' w.heap.size A2 m c1 S :=
  ho.grown hg (fun g hg' hE => by
    have h1 := (ho.lt g (by rw [hg']; rfl)).1
    have h2 := h.1.lt
    injection hE with hE
    omega)
end
/-- One of a few numbers is picked. -/
theorem pickI {w4 w5 : World} {B : Nat} (xs : List Int) {t : TypeId} (hg : (w4.alloc (.cells (xs.map (Value.int .i64)).toArray t)).grownBy w5 (some B)) (hB : B < w4.heap.size) {y : Int} (h0 : 0 ≤ y) (h1 : y = 0 ∨ y < (xs.length : Int)) (hl : 0 < xs.length) :
    ∃ v ∈ xs, w5.cell? ⟨w4.heap.size, y.toNat, none⟩ = some (.int .i64 v) := by
  obtain ⟨j, rfl⟩ := Int.eq_ofNat_of_zero_le h0
  have hj : j < xs.length := by omega
  refine ⟨xs[j], List.getElem_mem _, ?_⟩
  rw [Int.toNat_natCast, gcell hg _ _ (by simp) (by omega), cell_of_row _ _ j _ _ (0, 0) (heap_alloc_new _ _)]
  simp [hj]
theorem three_mem {a b c v lo hi : Int} (h : v ∈ [a, b, c]) (h1 : lo ≤ a ∧ a ≤ hi) (h2 : lo ≤ b ∧ b ≤ hi) (h3 : lo ≤ c ∧ c ≤ hi) : lo ≤ v ∧ v ≤ hi := by
  simp at h
  rcases h with rfl | rfl | rfl <;> assumption

/-- A call draws a unit. -/
def RetU (w : World) (B : Nat) (A : Option Addr) (n c : Nat) (zs : List Int) (e : Ending) (w' : World) : Prop :=
  ∃ s u d : Int, e = .returned (.agg #[.int .i64 s, .int .i64 u, .int .i64 d]) ∧ I64 s ∧ I64 u ∧ I64 d ∧ DS w w' B A n c zs
set_option maxHeartbeats 8000000 in
theorem drawUnit_any (B : Nat) (A : Option Addr) (n c : Nat) (zs : List Int) (w : World) (h : Src w B A n c zs) (hn : n ≤ 4096) :
    Calls Try.prog 65 #[.pointer (some ⟨B, 0, none⟩)] w (RetU w B A n c zs) := by
  have hlt := h.lt
  have hR0 : (w.alloc (.cells #[.int .i64 0, .int .i64 0, .int .i64 0] 25)).heap[w.heap.size]? = some (.cells #[.int .i64 0, .int .i64 0, .int .i64 0] 25 (0, 0)) := heap_alloc_new _ _
  have hd0 := (DS.start h).alloc (.cells #[.int .i64 0, .int .i64 0, .int .i64 0] 25)
  go_enter Try.func65, Try.ntmps65
  go_wp2_with fail
  generalize w.alloc (.cells #[.int .i64 0, .int .i64 0, .int .i64 0] 25) = W0 at *
  refine (next_any _ _ _ _ _ _ _ hd0.2.1 hn (by omega) (by omega)).mono ?_
  rintro e w1 ⟨x, hx0, hx1, rfl, hs1, hg1⟩
  have hd1 := hd0.next hs1 hg1
  have hR1 := gheap hg1 hR0 (by omega)
  clear hd0 hR0 hs1 hg1
  go_wp2_with fail
  refine (next_any _ _ _ _ _ _ _ hd1.2.1 hn (by omega) (by omega)).mono ?_
  rintro e w2 ⟨y, hy0, hy1, rfl, hs2, hg2⟩
  have hd2 := hd1.next hs2 hg2
  have hR2 := gheap hg2 hR1 (by omega)
  clear hd1 hR1 hs2 hg2
  go_wp2_with fail
  refine (next_any _ _ _ _ _ _ _ hd2.2.1 hn (by omega) (by omega)).mono ?_
  rintro e w3 ⟨z, hz0, hz1, rfl, hs3, hg3⟩
  have hd3 := hd2.next hs3 hg3
  have hR3 := gheap hg3 hR2 (by omega)
  clear hd2 hR2 hs3 hg3
  have hw3 : w.heap.size < w3.heap.size := heap_lt' hR3
  go_wp2_with fail
  have hd4 := hd3.alloc (.cells #[.int .i64 x, .int .i64 (1 + y), .int .i64 (1 + z)] 25)
  have hR4 := aheap hR3 (.cells #[.int .i64 x, .int .i64 (1 + y), .int .i64 (1 + z)] 25)
  have hU4 : (w3.alloc (.cells #[.int .i64 x, .int .i64 (1 + y), .int .i64 (1 + z)] 25)).heap[w3.heap.size]? = some (.cells #[.int .i64 x, .int .i64 (1 + y), .int .i64 (1 + z)] 25 (0, 0)) := heap_alloc_new _ _
  generalize w3.alloc (.cells #[.int .i64 x, .int .i64 (1 + y), .int .i64 (1 + z)] 25) = W at *
  generalize w3.heap.size = U at *
  clear hd3 hR3
  refine (next_any _ _ _ _ _ _ _ hd4.2.1 hn (by omega) (by omega)).mono ?_
  rintro e w5 ⟨t, ht0, ht1, rfl, hs5, hg5⟩
  have hd5 := hd4.next hs5 hg5
  have hR5 := gheap hg5 hR4 (by omega)
  have hU5 := gheap hg5 hU4 (by omega)
  clear hd4 hR4 hU4 hs5 hg5
  have hx : I64 x := WalkArith.wf_i64 (by omega)
  have hy : I64 (1 + y) := WalkArith.wf_i64 (by omega)
  have hz : I64 (1 + z) := WalkArith.wf_i64 (by omega)
  by_cases T0 : t = 0
  · have e0 : (t == 0) = true := by simp [T0]
    clear T0
    go_wp2_with fail
    have hd6 := hd5.alloc (.cells #[.int .i64 (-1), .int .i64 1000000, .int .i64 1000001] 2)
    have hR6 := aheap hR5 (.cells #[.int .i64 (-1), .int .i64 1000000, .int .i64 1000001] 2)
    have hU6 := aheap hU5 (.cells #[.int .i64 (-1), .int .i64 1000000, .int .i64 1000001] 2)
    refine (next_any _ _ _ _ _ _ _ hd6.2.1 hn (by omega) (by omega)).mono ?_
    rintro e w7 ⟨j, hj0, hj1, rfl, hs7, hg7⟩
    obtain ⟨v, hvm, hv5⟩ := pickI [-1, 1000000, 1000001] hg7 hd5.2.1.lt hj0 hj1 (by simp)
    have hvb := three_mem (lo := -9000000000) (hi := 9000000000) hvm (by omega) (by omega) (by omega)
    have hv : I64 v := WalkArith.wf_i64 (by omega)
    have hj3 : j < 3 := by omega
    have hd7 := hd6.next hs7 hg7
    obtain ⟨r0, r1, r2, s0, s1, s2⟩ := heap_cells (gheap hg7 hR6 (by omega))
    obtain ⟨m0, m1, m2, mf0, mf1, mf2⟩ := heap_cells (gheap hg7 hU6 (by omega))
    have HD := Lib.hid hd7
    clear hd5 hR5 hU5 hd6 hR6 hU6 hs7 hg7 hd7 hvm
    go_wp2_with fail
    refine bodyPost_ret (v := .agg #[.int .i64 v, .int .i64 (1 + y), .int .i64 (1 + z)]) (by simp [results, Try.results65, go_sem, r0, r1, r2]) rfl ⟨_, _, _, rfl, hv, hy, hz, ?_⟩
    exact (((HD.out.set (by omega) _ _).set (Nat.le_refl _) _ _).set (Nat.le_refl _) _ _).set (Nat.le_refl _) _ _
  have e0 : (t == 0) = false := by simp [T0]
  clear T0
  by_cases T1 : t = 1
  · have e1 : (t == 1) = true := by simp [T1]
    clear T1
    go_wp2_with fail
    have hd6 := hd5.alloc (.cells #[.int .i64 0, .int .i64 48, .int .i64 49] 2)
    have hR6 := aheap hR5 (.cells #[.int .i64 0, .int .i64 48, .int .i64 49] 2)
    have hU6 := aheap hU5 (.cells #[.int .i64 0, .int .i64 48, .int .i64 49] 2)
    refine (next_any _ _ _ _ _ _ _ hd6.2.1 hn (by omega) (by omega)).mono ?_
    rintro e w7 ⟨j, hj0, hj1, rfl, hs7, hg7⟩
    obtain ⟨v, hvm, hv5⟩ := pickI [0, 48, 49] hg7 hd5.2.1.lt hj0 hj1 (by simp)
    have hvb := three_mem (lo := -9000000000) (hi := 9000000000) hvm (by omega) (by omega) (by omega)
    have hv : I64 v := WalkArith.wf_i64 (by omega)
    have hj3 : j < 3 := by omega
    have hd7 := hd6.next hs7 hg7
    obtain ⟨r0, r1, r2, s0, s1, s2⟩ := heap_cells (gheap hg7 hR6 (by omega))
    obtain ⟨m0, m1, m2, mf0, mf1, mf2⟩ := heap_cells (gheap hg7 hU6 (by omega))
    have HD := Lib.hid hd7
    clear hd5 hR5 hU5 hd6 hR6 hU6 hs7 hg7 hd7 hvm
    go_wp2_with fail
    refine bodyPost_ret (v := .agg #[.int .i64 x, .int .i64 v, .int .i64 (1 + z)]) (by simp [results, Try.results65, go_sem, r0, r1, r2]) rfl ⟨_, _, _, rfl, hx, hv, hz, ?_⟩
    exact (((HD.out.set (by omega) _ _).set (Nat.le_refl _) _ _).set (Nat.le_refl _) _ _).set (Nat.le_refl _) _ _
  have e1 : (t == 1) = false := by simp [T1]
  clear T1
  by_cases T2 : t = 2
  · have e2 : (t == 2) = true := by simp [T2]
    clear T2
    go_wp2_with fail
    have hd6 := hd5.alloc (.cells #[.int .i64 0, .int .i64 48, .int .i64 49] 2)
    have hR6 := aheap hR5 (.cells #[.int .i64 0, .int .i64 48, .int .i64 49] 2)
    have hU6 := aheap hU5 (.cells #[.int .i64 0, .int .i64 48, .int .i64 49] 2)
    refine (next_any _ _ _ _ _ _ _ hd6.2.1 hn (by omega) (by omega)).mono ?_
    rintro e w7 ⟨j, hj0, hj1, rfl, hs7, hg7⟩
    obtain ⟨v, hvm, hv5⟩ := pickI [0, 48, 49] hg7 hd5.2.1.lt hj0 hj1 (by simp)
    have hvb := three_mem (lo := -9000000000) (hi := 9000000000) hvm (by omega) (by omega) (by omega)
    have hv : I64 v := WalkArith.wf_i64 (by omega)
    have hj3 : j < 3 := by omega
    have hd7 := hd6.next hs7 hg7
    obtain ⟨r0, r1, r2, s0, s1, s2⟩ := heap_cells (gheap hg7 hR6 (by omega))
    obtain ⟨m0, m1, m2, mf0, mf1, mf2⟩ := heap_cells (gheap hg7 hU6 (by omega))
    have HD := Lib.hid hd7
    clear hd5 hR5 hU5 hd6 hR6 hU6 hs7 hg7 hd7 hvm
    go_wp2_with fail
    refine bodyPost_ret (v := .agg #[.int .i64 x, .int .i64 (1 + y), .int .i64 v]) (by simp [results, Try.results65, go_sem, r0, r1, r2]) rfl ⟨_, _, _, rfl, hx, hy, hv, ?_⟩
    exact (((HD.out.set (by omega) _ _).set (Nat.le_refl _) _ _).set (Nat.le_refl _) _ _).set (Nat.le_refl _) _ _
  have e2 : (t == 2) = false := by simp [T2]
  clear T2
  obtain ⟨r0, r1, r2, s0, s1, s2⟩ := heap_cells hR5
  obtain ⟨m0, m1, m2, mf0, mf1, mf2⟩ := heap_cells hU5
  have HD := Lib.hid hd5
  clear hd5 hR5 hU5
  go_wp2_with fail
  refine bodyPost_ret (v := .agg #[.int .i64 x, .int .i64 (1 + y), .int .i64 (1 + z)]) (by simp [results, Try.results65, go_sem, r0, r1, r2]) rfl ⟨_, _, _, rfl, hx, hy, hz, ?_⟩
  exact ((HD.out.set (Nat.le_refl _) _ _).set (Nat.le_refl _) _ _).set (Nat.le_refl _) _ _
end Go.Proofs.Ytiofjnohdmminaa
