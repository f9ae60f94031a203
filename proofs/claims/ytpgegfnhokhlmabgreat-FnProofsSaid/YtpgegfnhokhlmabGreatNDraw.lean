/- Draws go on (NS); what l01Dec (small numbers), l02DrawNode, l02DrawPipe do, by walks over their text. Condition: a source over at most 4096 bytes. -/
import Derived.Test.YtpgegfnhokhlmabGreatDraw
import Derived.Test.YtpgegfnhokhlmabGreatKA
import Derived.Laws.BytesArg
set_option linter.unusedVariables false
set_option maxRecDepth 100000
namespace Go.Proofs.YtpgegfnhokhlmabGreat
open Go.ChangeShapes Go.WideShapes Go.ChangeAt Go.RowKit Go.Joins Go.Deep
attribute [local go_sem ↓] Go.wp_at_zero Go.wp_at_succ

theorem gcell {w w' : World} {B : Nat} (h : w.grownBy w' (some B)) (b o : Nat) (hb : b < w.heap.size) (hne : b ≠ B) : w'.cell? ⟨b, o, none⟩ = w.cell? ⟨b, o, none⟩ :=
  World.cell?_of_block (a := ⟨b, o, none⟩) (h.block b hb (fun e => hne (by injection e)))
theorem gfrozen {w w' : World} {B : Nat} (h : w.grownBy w' (some B)) (b o : Nat) (hb : b < w.heap.size) (hne : b ≠ B) : w'.frozen? ⟨b, o, none⟩ = w.frozen? ⟨b, o, none⟩ :=
  World.frozen?_of_block (a := ⟨b, o, none⟩) (h.block b hb (fun e => hne (by injection e)))
theorem gheap {w w' : World} {B b : Nat} {o : Obj} (h : w.grownBy w' (some B)) (hb : w.heap[b]? = some o) (hne : b ≠ B) : w'.heap[b]? = some o :=
  (h.block b (heap_lt' hb) (fun e => hne (by injection e))).trans hb
theorem aheap {w : World} {b : Nat} {o : Obj} (hb : w.heap[b]? = some o) (x : Obj) : (w.alloc x).heap[b]? = some o := (Below.heap_alloc w x b (heap_lt' hb)).trans hb
theorem Src.belowN {w w' : World} {B N : Nat} {A : Option Addr} {n c : Nat} {zs : List Int} (h : Src w B A n c zs) (hb : Below N w w') (hB : B < N) (hA : ∀ b o, A = some ⟨b, o, none⟩ → 0 < n → b < N) : Src w' B A n c zs := by
  obtain ⟨p, s, h1, h2, h3, h4, h5, h6⟩ := h
  refine ⟨p, s, h1, h2, h3, (hb.block B hB).trans h4, ⟨h5.1, h5.2.1, fun hn => ?_⟩, h6⟩
  obtain ⟨b, o, e, hlt, hc⟩ := h5.2.2 hn
  exact ⟨b, o, e, Nat.lt_of_lt_of_le hlt hb.size, fun k z hz => (hb.cell (p := ⟨b, o + k, none⟩) (hA b o e hn)).trans (hc k z hz)⟩
theorem Src.at_lt {w : World} {B : Nat} {A : Option Addr} {n c : Nat} {zs : List Int} (h : Src w B A n c zs) : ∀ b o, A = some ⟨b, o, none⟩ → 0 < n → b < w.heap.size := by
  obtain ⟨p, s, _, _, _, _, h5, _⟩ := h
  intro b o hA hn
  obtain ⟨b', o', e, hlt, _⟩ := h5.2.2 hn
  rw [hA] at e
  injection e with e
  injection e with e1
  omega
/-- A draw goes on: the source stands, and only it has turned. -/
def NS (w wr : World) (B : Nat) (A : Option Addr) (n c : Nat) (zs : List Int) : Prop := Src w B A n c zs ∧ Src wr B A n c zs ∧ w.grownBy wr (some B)
section
variable {w wr w' : World} {B : Nat} {A : Option Addr} {n c : Nat} {zs : List Int}
theorem NS.start (h : Src w B A n c zs) : NS w w B A n c zs := ⟨h, h, World.grownBy.refl w _⟩
theorem NS.next (h : NS w wr B A n c zs) (hs : Src w' B A n c zs) (hg : wr.grownBy w' (some B)) : NS w w' B A n c zs := ⟨h.1, hs, h.2.2.trans hg⟩
theorem NS.belowN (h : NS w wr B A n c zs) (hb : Below w.heap.size wr w') : NS w w' B A n c zs :=
  ⟨h.1, h.2.1.belowN hb h.1.lt h.1.at_lt, ⟨hb.os.trans h.2.2.os, hb.tape.trans h.2.2.tape, hb.output.trans h.2.2.output, Nat.le_trans h.2.2.size hb.size, fun i hi hne => (hb.block i hi).trans (h.2.2.block i hi hne)⟩⟩
theorem NS.alloc (h : NS w wr B A n c zs) (o : Obj) : NS w (wr.alloc o) B A n c zs := h.belowN ((Below.refl _ _).alloc h.2.2.size _)
theorem NS.set (h : NS w wr B A n c zs) {b : Nat} (hb : w.heap.size ≤ b) (i : Nat) (u : Value) : NS w (wr.setCell ⟨b, i, none⟩ u) B A n c zs := h.belowN ((Below.refl w.heap.size wr).setCell (p := ⟨b, i, none⟩) hb u)
theorem NS.size (h : NS w wr B A n c zs) : w.heap.size ≤ wr.heap.size := h.2.2.size
theorem NS.own {A2 : Option Addr} {m c1 : Nat} {S : List Int} (h : NS w wr B A n c zs) (ho : Own wr w.heap.size A2 m c1 S) (hg : wr.grownBy w' (some B)) : Own w' w.heap.size A2 m c1 S :=
  ho.grown hg (fun g hg' hE => by
    have h1 := (ho.lt g (by rw [hg']; rfl)).1
    have h2 := h.1.lt
    injection hE with hE
    omega)
end
/-- One of a few numbers is picked. -/
theorem pickI {w4 w5 : World} {B : Nat} (xs : List Int) {t : TypeId} (hg : (w4.alloc (.cells (xs.map (Value.int .i64)).toArray t)).grownBy w5 (some B)) (hB : B < w4.heap.size) {y : Int} (h0 : 0 ≤ y) (h1 : y = 0 ∨ y < (xs.length : Int)) (hl : 0 < xs.length) :
    ∃ v ∈ xs, w5.cell? ⟨w4.heap.size, y.toNat, none⟩ = some (.int .i64 v) := by
  obtain ⟨j, rfl⟩ := Int.eq_ofNat_of_zero_le h0
  have hj : j < xs.length := by omega
  refine ⟨xs[j], List.getElem_mem _, ?_⟩
  rw [Int.toNat_natCast, gcell hg _ _ (by simp) (by omega), cell_of_row _ _ j _ _ (0, 0) (heap_alloc_new _ _)]
  simp [hj]
theorem three_mem {a b c v lo hi : Int} (h : v ∈ [a, b, c]) (h1 : lo ≤ a ∧ a ≤ hi) (h2 : lo ≤ b ∧ b ≤ hi) (h3 : lo ≤ c ∧ c ≤ hi) : lo ≤ v ∧ v ≤ hi := by
  simp at h
  rcases h with rfl | rfl | rfl <;> assumption
theorem NS.ownR {α : Type} {enc : α → List Value} {k : Nat} {e : TypeId} {w wr w' : World} {B : Nat} {A : Option Addr} {n c : Nat} {zs : List Int} {A2 : Option Addr} {m c1 : Nat} {S : List α} (h : NS w wr B A n c zs) (ho : OwnR enc k e wr w.heap.size A2 m c1 S) (hg : wr.grownBy w' (some B)) : OwnR enc k e w' w.heap.size A2 m c1 S :=
  ho.grown hg (fun g hg' hE => by
    have h1 := (ho.1.lt g (by rw [hg']; rfl)).1
    have h2 := h.1.lt
    injection hE with hE
    omega)
theorem NS.then_ {w wr w' : World} {B : Nat} {A : Option Addr} {n c : Nat} {zs : List Int} (h : NS w wr B A n c zs) (k : NS wr w' B A n c zs) : NS w w' B A n c zs := ⟨h.1, k.2.1, h.2.2.trans k.2.2⟩
/-- A small number's one digit. -/
theorem decS_any (i : Int) (w : World) (h0 : 0 ≤ i) (h1 : i < 10) :
    Calls Tryz.prog 173 #[.int .i64 i] w fun e w' => ∃ s : ByteArray, e = .returned (.string s) ∧ s.size = 1 ∧ Below w.heap.size w w' := by
  have hb : Below w.heap.size w (w.alloc (.cells #[.int .u8 (48 + i)] 5)) := (Below.refl _ _).alloc (Nat.le_refl _) _
  have hrow : (w.alloc (.cells #[.int .u8 (48 + i)] 5)).cell? ⟨w.heap.size, 0, none⟩ = some (.int .u8 (48 + i)) := by
    rw [cell_of_row _ _ 0 _ _ (0, 0) (heap_alloc_new _ _)]
    rfl
  have hrun := run_convert_bytes_arg (P := Tryz.prog) (w := w.alloc (.cells #[.int .u8 (48 + i)] 5)) 39 5 Tryz.underlying39 Tryz.underlying5 w.heap.size 0 1 1 [48 + i] rfl (fun j hj => by
    obtain rfl : j = 0 := by omega
    exact hrow) 9 Tryz.underlying9
  go_enter Tryz.func173, Tryz.ntmps173
  go_wp2_with fail
  go_ret
  exact ⟨_, rfl, strOfNums_size _, hb⟩
/-- A call draws a node. -/
def RetNode (w : World) (B : Nat) (A : Option Addr) (n c : Nat) (zs : List Int) (e : Ending) (w' : World) : Prop :=
  ∃ x : Nd, e = .returned (.agg #[.string x.nm, .int .i64 x.lo, .int .i64 x.hi]) ∧ okN x ∧ NS w w' B A n c zs
set_option maxHeartbeats 4000000 in
theorem drawNode_any (B : Nat) (A : Option Addr) (n c : Nat) (zs : List Int) (i : Int) (w : World) (h : Src w B A n c zs) (hn : n ≤ 4096) (h0 : 0 ≤ i) (h1 : i < 10) :
    Calls Tryz.prog 165 #[.pointer (some ⟨B, 0, none⟩), .int .i64 i] w (RetNode w B A n c zs) := by
  have hlt := h.lt
  have hR0 := box_new w #[.string { data := #[] }, .int .i64 0, .int .i64 0] 95
  have hd0 := (NS.start h).alloc (.cells #[.string { data := #[] }, .int .i64 0, .int .i64 0] 95)
  go_enter Tryz.func165, Tryz.ntmps165
  go_wp2_with fail
  generalize w.alloc (.cells #[.string { data := #[] }, .int .i64 0, .int .i64 0] 95) = W0 at *
  refine (next_any _ _ _ _ _ _ _ hd0.2.1 hn (by omega) (by omega)).mono ?_
  rintro e w1 ⟨x, hx0, hx1, rfl, hs1, hg1⟩
  have hd1 := hd0.next hs1 hg1
  have hR1 := hR0.grown hg1 (fun hh => by injection hh with hh; omega)
  clear hd0 hR0 hs1 hg1
  go_wp2_with fail
  refine (decS_any i _ h0 h1).mono ?_
  rintro e w2 ⟨s, rfl, hs, hb2⟩
  have hd2 := hd1.belowN (hb2.mono hd1.size)
  have hR2 := hR1.belowA hb2
  have hs1' : s.size ≤ 1 := Nat.le_of_eq hs
  have hcat : ¬ 9223372036854775807 < ({ data := #[110] } : ByteArray).size + s.size := by
    have : ({ data := #[110] } : ByteArray).size = 1 := rfl
    omega
  have hcat2 : ¬ 9223372036854775807 < 1 + s.size := by omega
  clear hd1 hR1 hb2 hs
  go_wp2_with fail
  refine (next_any _ _ _ _ _ _ _ hd2.2.1 hn (by omega) (by omega)).mono ?_
  rintro e w3 ⟨y, hy0, hy1, rfl, hs3, hg3⟩
  have hd3 := hd2.next hs3 hg3
  have hR3 := hR2.grown hg3 (fun hh => by injection hh with hh; omega)
  have r0 := hR3.cell 0
  have r1 := hR3.cell 1
  have r2 := hR3.cell 2
  have f0 := hR3.free 0
  have f1 := hR3.free 1
  have f2 := hR3.free 2
  have hlt3 := hR3.lt
  have HD := Lib.hid hd3
  clear hd2 hR2 hs3 hg3 hd3 hR3
  go_wp2_with fail
  refine bodyPost_ret (v := .agg #[.string (({ data := #[110] } : ByteArray) ++ s), .int .i64 x, .int .i64 (x + 2000 + y)]) (by simp [results, Tryz.results165, go_sem, r0, r1, r2]) rfl ⟨⟨_, _, _⟩, rfl, ⟨?_, (show I64 x from WalkArith.wf_i64 (by omega)), (show I64 (x + 2000 + y) from WalkArith.wf_i64 (by omega))⟩, ?_⟩
  · show (({ data := #[110] } : ByteArray) ++ s).size ≤ maxLen
    rw [ByteArray.size_append]
    have : ({ data := #[110] } : ByteArray).size = 1 := rfl
    unfold maxLen
    omega
  · exact ((HD.out.set (Nat.le_refl _) _ _).set (Nat.le_refl _) _ _).set (Nat.le_refl _) _ _
/-- A call draws a pipe between two nodes. -/
def RetPipe (w : World) (B : Nat) (A : Option Addr) (n c : Nat) (zs : List Int) (e : Ending) (w' : World) : Prop :=
  ∃ x : Pp, e = .returned (.agg #[.int .i64 x.fr, .int .i64 x.to, .int .i64 x.k, .int .i64 x.v, .int .i64 x.l]) ∧ okP x ∧ NS w w' B A n c zs
theorem pipe_close {w W : World} {B : Nat} {A : Option Addr} {n c : Nat} {zs : List Int} {a b y z t : Int} {u0 u1 u2 u3 u4 : Value} (h : NS w W B A n c zs) (ha : I64 a) (hb : I64 b) (hy0 : 0 ≤ y) (hy1 : y = 0 ∨ y < 9) (hz0 : 0 ≤ z) (hz1 : z = 0 ∨ z < 100) (ht0 : 0 ≤ t) (ht1 : t = 0 ∨ t < 200) :
    RetPipe w B A n c zs (.returned (.agg #[.int .i64 a, .int .i64 b, .int .i64 (1 + y), .int .i64 z, .int .i64 (1 + t)])) (((((W.setCell ⟨w.heap.size, 0, none⟩ u0).setCell ⟨w.heap.size, 1, none⟩ u1).setCell ⟨w.heap.size, 2, none⟩ u2).setCell ⟨w.heap.size, 3, none⟩ u3).setCell ⟨w.heap.size, 4, none⟩ u4) :=
  ⟨⟨a, b, 1 + y, z, 1 + t⟩, rfl, ⟨ha, hb, (show I64 (1 + y) from WalkArith.wf_i64 (by omega)), (show I64 z from WalkArith.wf_i64 (by omega)), (show I64 (1 + t) from WalkArith.wf_i64 (by omega))⟩, ((((h.set (Nat.le_refl _) _ _).set (Nat.le_refl _) _ _).set (Nat.le_refl _) _ _).set (Nat.le_refl _) _ _).set (Nat.le_refl _) _ _⟩
set_option maxHeartbeats 4000000 in
theorem drawPipe_any (B : Nat) (A : Option Addr) (n c : Nat) (zs : List Int) (a b : Int) (w : World) (h : Src w B A n c zs) (hn : n ≤ 4096) (ha : I64 a) (hb : I64 b) :
    Calls Tryz.prog 146 #[.pointer (some ⟨B, 0, none⟩), .int .i64 a, .int .i64 b] w (RetPipe w B A n c zs) := by
  have hlt := h.lt
  have hR0 := box_new w #[.int .i64 0, .int .i64 0, .int .i64 0, .int .i64 0, .int .i64 0] 98
  have hd0 := (NS.start h).alloc (.cells #[.int .i64 0, .int .i64 0, .int .i64 0, .int .i64 0, .int .i64 0] 98)
  go_enter Tryz.func146, Tryz.ntmps146
  go_wp2_with fail
  generalize w.alloc (.cells #[.int .i64 0, .int .i64 0, .int .i64 0, .int .i64 0, .int .i64 0] 98) = W0 at *
  refine (next_any _ _ _ _ _ _ _ hd0.2.1 hn (by omega) (by omega)).mono ?_
  rintro e w1 ⟨x, hx0, hx1, rfl, hs1, hg1⟩
  have hd1 := hd0.next hs1 hg1
  have hR1 := hR0.grown hg1 (fun hh => by injection hh with hh; omega)
  clear hd0 hR0 hs1 hg1
  cases hx : (x == 0)
  all_goals
    clear hx0 hx1
    go_wp2_with fail
    refine (next_any _ _ _ _ _ _ _ hd1.2.1 hn (by omega) (by omega)).mono ?_
    rintro e w2 ⟨y, hy0, hy1, rfl, hs2, hg2⟩
    have hd2 := hd1.next hs2 hg2
    have hR2 := hR1.grown hg2 (fun hh => by injection hh with hh; omega)
    clear hd1 hR1 hs2 hg2
    go_wp2_with fail
    refine (next_any _ _ _ _ _ _ _ hd2.2.1 hn (by omega) (by omega)).mono ?_
    rintro e w3 ⟨z, hz0, hz1, rfl, hs3, hg3⟩
    have hd3 := hd2.next hs3 hg3
    have hR3 := hR2.grown hg3 (fun hh => by injection hh with hh; omega)
    clear hd2 hR2 hs3 hg3
    go_wp2_with fail
    refine (next_any _ _ _ _ _ _ _ hd3.2.1 hn (by omega) (by omega)).mono ?_
    rintro e w4 ⟨t, ht0, ht1, rfl, hs4, hg4⟩
    have hd4 := hd3.next hs4 hg4
    have hR4 := hR3.grown hg4 (fun hh => by injection hh with hh; omega)
    have r0 := hR4.cell 0
    have r1 := hR4.cell 1
    have r2 := hR4.cell 2
    have r3 := hR4.cell 3
    have r4 := hR4.cell 4
    have f0 := hR4.free 0
    have f1 := hR4.free 1
    have f2 := hR4.free 2
    have f3 := hR4.free 3
    have f4 := hR4.free 4
    have hlt4 := hR4.lt
    have HD := Lib.hid hd4
    clear hd3 hR3 hs4 hg4 hd4 hR4
    go_wp2_with fail
  · exact bodyPost_ret (v := .agg #[.int .i64 a, .int .i64 b, .int .i64 (1 + y), .int .i64 z, .int .i64 (1 + t)]) (by simp [results, Tryz.results146, go_sem, r0, r1, r2, r3, r4]) rfl (pipe_close HD.out ha hb hy0 hy1 hz0 hz1 ht0 ht1)
  · exact bodyPost_ret (v := .agg #[.int .i64 b, .int .i64 a, .int .i64 (1 + y), .int .i64 z, .int .i64 (1 + t)]) (by simp [results, Tryz.results146, go_sem, r0, r1, r2, r3, r4]) rfl (pipe_close HD.out hb ha hy0 hy1 hz0 hz1 ht0 ht1)
end Go.Proofs.YtpgegfnhokhlmabGreat
