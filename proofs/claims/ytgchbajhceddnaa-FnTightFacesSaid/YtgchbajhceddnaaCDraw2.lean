/- The draw of a compressor: what it does, by walks over its text. Condition: a code of at most 4096 bytes. -/
import Derived.Test.YtgchbajhceddnaaCDraw
set_option linter.unusedVariables false
set_option maxRecDepth 100000
namespace Go.Proofs.Ytgchbajhceddnaa
open Go.ChangeShapes Go.WideShapes Go.ChangeAt Go.RowKit Go.Joins Go.Deep

theorem gheap {w w' : World} {B b : Nat} {o : Obj} (h : w.grownBy w' (some B)) (hb : w.heap[b]? = some o) (hne : b ≠ B) : w'.heap[b]? = some o :=
  (h.block b (heap_lt' hb) (fun e => hne (by injection e))).trans hb
theorem aheap {w : World} {b : Nat} {o : Obj} (hb : w.heap[b]? = some o) (x : Obj) : (w.alloc x).heap[b]? = some o := (Below.heap_alloc w x b (heap_lt' hb)).trans hb
/-- A call returns a drawn compressor. -/
def RetDC (w : World) (B : Nat) (A : Option Addr) (n c : Nat) (zs : List Int) (e : Ending) (w' : World) : Prop :=
  ∃ (A1 : Option Addr) (n1 c1 : Nat) (fs : List Fc) (fu le : Int), e = .returned (.agg #[.slice A1 n1 c1, .int .i64 fu, .int .i64 le]) ∧ Faces w' A1 n1 fs ∧ n1 ≤ 9 ∧ I64 fu ∧ I64 le ∧ (∀ b o, A1 = some ⟨b, o, none⟩ → w.heap.size ≤ b) ∧ Src w' B A n c zs ∧ w.grownBy w' (some B)
theorem ownR_cut {α : Type} {enc : α → List Value} {k : Nat} {e : TypeId} {w : World} {B : Nat} {A : Option Addr} {n c j : Nat} {xs : List α} (h : OwnR enc k e w B A n c xs) (h0 : 0 < k) (hA : A ≠ none) (hj : j ≤ n) : OwnR enc k e w B A j c (xs.take j) := by
  have hl := h.len h0
  refine ⟨⟨by rw [flat_len (fun x hx => h.2 x (List.mem_of_mem_take hx))]; simp; rw [Nat.min_eq_left (by omega)], .inr ?_⟩, fun x hx => h.2 x (List.mem_of_mem_take hx)⟩
  rcases h.1.2 with ⟨hv, _⟩ | ⟨g, cap, cur, hv, h1, h2, h3, h4, h5, h6⟩
  · have : A = none := by injection hv
    exact absurd this hA
  · have e1 : A = some ⟨g, 0, none⟩ ∧ c = cap := by injection hv with a b c; exact ⟨a, c⟩
    obtain ⟨rfl, rfl⟩ := e1
    refine ⟨g, c, cur, rfl, h1, h2, by omega, h4, h5, ?_⟩
    rw [← flat_take h.2 j (by omega), ← h6, List.take_take, Nat.min_eq_left (Nat.mul_le_mul_right k hj)]
theorem flat_set1 {α : Type} {enc : α → List Value} {k : Nat} {xs : List α} (hk : ∀ x ∈ xs, (enc x).length = k) {i j : Nat} {x x' : α} {v : Value} (hx : xs[i]? = some x) (he : enc x' = (enc x).set j v) (hj : j < k) : (xs.flatMap enc).set (i * k + j) v = (xs.set i x').flatMap enc := by
  induction xs generalizing i with
  | nil => simp at hx
  | cons y ys ih =>
    have hy := hk y List.mem_cons_self
    cases i with
    | zero =>
      simp at hx
      subst hx
      rw [List.flatMap_cons, Nat.zero_mul, Nat.zero_add, List.set_append_left _ _ (by omega), ← he]
      rfl
    | succ i =>
      simp at hx
      rw [List.flatMap_cons, List.set_append_right _ _ (by rw [hy, Nat.succ_mul]; omega), hy, show (i + 1) * k + j - k = i * k + j by rw [Nat.succ_mul]; omega, ih (fun z hz => hk z (List.mem_cons_of_mem _ hz)) hx]
      rfl
/-- One field of a face of the call's own set. -/
theorem OwnR.set1 {w : World} {B g n c i j : Nat} {e : TypeId} {xs : List Fc} {x x' : Fc} {v : Value} (h : OwnR encF 3 e w B (some ⟨g, 0, none⟩) n c xs) (hx : xs[i]? = some x) (he : encF x' = (encF x).set j v) (hj : j < 3) :
    OwnR encF 3 e (w.setCell ⟨g, i * 3 + j, none⟩ v) B (some ⟨g, 0, none⟩) n c (xs.set i x') ∧ w.grownBy (w.setCell ⟨g, i * 3 + j, none⟩ v) (some g) := by
  have h1 := h.1.stored (i * 3 + j) v
  rw [flat_set1 h.2 hx he hj] at h1
  exact ⟨⟨h1.1, fun y _ => rfl⟩, h1.2⟩
theorem lit_pick {w w' : World} {B : Nat} {cs : Array Value} {t : TypeId} {y : Int} (hg : (w.alloc (.cells cs t)).grownBy w' (some B)) (hB : B < w.heap.size) (h0 : 0 ≤ y) (h1 : y < cs.size) (hc : ∀ (j : Nat) (u : Value), cs[j]? = some u → ∃ v, u = .int .i64 v ∧ I64 v) :
    ∃ v, w'.cell? ⟨w.heap.size, y.toNat, none⟩ = some (.int .i64 v) ∧ I64 v := by
  obtain ⟨j, rfl⟩ := Int.eq_ofNat_of_zero_le h0
  have hj : j < cs.size := by omega
  rw [Int.toNat_natCast, gcell hg _ _ (by simp) (by omega), cell_of_row _ _ j _ _ (0, 0) (heap_alloc_new _ _), Array.getElem?_eq_getElem hj]
  obtain ⟨v, hv, hi⟩ := hc j _ (Array.getElem?_eq_getElem hj)
  exact ⟨v, by rw [hv], hi⟩
theorem i64_of {a : Int} (h1 : -1000000000000 ≤ a) (h2 : a ≤ 1000000000000) : I64 a := WalkArith.wf_i64 (by omega)
theorem grown_high {w W : World} {row : Option Nat} (h : w.grownBy W row) {b : Nat} (hb : w.heap.size ≤ b) (i : Nat) (u : Value) : w.grownBy (W.setCell ⟨b, i, none⟩ u) row :=
  ⟨h.os, h.tape, h.output, by simpa [World.setCell] using h.size, fun k hk hne => (Below.heap_setCell W _ _ k (by simp; omega)).trans (h.block k hk hne)⟩
theorem src_high {w W : World} {B : Nat} {A : Option Addr} {n c : Nat} {zs : List Int} (h : Src W B A n c zs) (hA : ∀ b o, A = some ⟨b, o, none⟩ → 0 < n → b < w.heap.size) (hB : B < w.heap.size) {b : Nat} (hb : w.heap.size ≤ b) (i : Nat) (u : Value) : Src (W.setCell ⟨b, i, none⟩ u) B A n c zs := by
  obtain ⟨p, s, h1, h2, h3, h4, h5, h6⟩ := h
  refine ⟨p, s, h1, h2, h3, (Below.heap_setCell W _ _ B (by simp; omega)).trans h4, h5.grown (grown_set W b i u) (fun b' o hA' hn => fun hE => ?_), h6⟩
  injection hE with hE
  have := hA b' o hA' hn
  omega
theorem ownR_high {W : World} {B b g n c : Nat} {e : TypeId} {xs : List Fc} (h : OwnR encF 3 e W B (some ⟨g, 0, none⟩) n c xs) (hne : g ≠ b) (i : Nat) (u : Value) : OwnR encF 3 e (W.setCell ⟨b, i, none⟩ u) B (some ⟨g, 0, none⟩) n c xs :=
  h.grown (grown_set W b i u) (fun g' hg => fun hE => by injection hg with hg; injection hg with hg; injection hE with hE; omega)
theorem dc_close {w W : World} {B N : Nat} {A : Option Addr} {n c g m cap : Nat} {zs : List Int} {e : TypeId} {fs : List Fc} {fu le : Int} {u0 u1 u2 : Value} (hF : OwnR encF 3 e W N (some ⟨g, 0, none⟩) m cap fs) (hok : ∀ f ∈ fs, okF f) (hm : m ≤ 9) (h1 : I64 fu) (h2 : I64 le)
    (hs : Src W B A n c zs) (hA : ∀ b o, A = some ⟨b, o, none⟩ → 0 < n → b < w.heap.size) (hB : B < w.heap.size) (hG : w.grownBy W (some B)) (hg1 : g ≠ B) (hg2' : w.heap.size < g) :
    RetDC w B A n c zs (.returned (.agg #[.slice (some ⟨g, 0, none⟩) m cap, .int .i64 fu, .int .i64 le])) (((W.setCell ⟨w.heap.size, 0, none⟩ u0).setCell ⟨w.heap.size, 1, none⟩ u1).setCell ⟨w.heap.size, 2, none⟩ u2) :=
  have hg2 : g ≠ w.heap.size := by omega
  ⟨_, _, _, fs, fu, le, rfl, ⟨(ownR_high (ownR_high (ownR_high hF hg2 0 u0) hg2 1 u1) hg2 2 u2).recs (by omega), hok⟩, hm, h1, h2, (fun b o hb => by injection hb with hb; injection hb with hb; omega),
    src_high (src_high (src_high hs hA hB (Nat.le_refl _) 0 u0) hA hB (Nat.le_refl _) 1 u1) hA hB (Nat.le_refl _) 2 u2, grown_high (grown_high (grown_high hG (Nat.le_refl _) 0 u0) (Nat.le_refl _) 1 u1) (Nat.le_refl _) 2 u2⟩
theorem src_grown {w W W' : World} {B g : Nat} {A : Option Addr} {n c : Nat} {zs : List Int} (h : Src W B A n c zs) (hg : W.grownBy W' (some g)) (hA : ∀ b o, A = some ⟨b, o, none⟩ → 0 < n → b < w.heap.size) (hB : B < w.heap.size) (hwg : w.heap.size ≤ g) : Src W' B A n c zs := by
  obtain ⟨p, s, h1, h2, h3, h4, h5, h6⟩ := h
  refine ⟨p, s, h1, h2, h3, gheap hg h4 (by omega), h5.grown hg (fun b' o hA' hn => fun hE => ?_), h6⟩
  injection hE with hE
  have := hA b' o hA' hn
  omega
theorem grown_far {w W W' : World} {B g : Nat} (h : w.grownBy W (some B)) (hg : W.grownBy W' (some g)) (hwg : w.heap.size ≤ g) : w.grownBy W' (some B) :=
  ⟨hg.os.trans h.os, hg.tape.trans h.tape, hg.output.trans h.output, Nat.le_trans h.size hg.size, fun k hk hne => (hg.block k (Nat.lt_of_lt_of_le hk h.size) (fun e => by injection e with e; omega)).trans (h.block k hk hne)⟩
/-- One face appended to a slice of faces of the call's own. -/
theorem wpList_pushF {ops : Array Oper} {rest : List Oper} {o : Oper} {a : Act} {Q : Exit → Act → World → Prop} (wr : World) (hgd : o.guard = none) (s x : Operand)
    (ho : o.op = .call { callee := .builtin .append, args := #[s, x], argTypes := #[30, 30] }) (B : Nat) (A : Option Addr) (n c : Nat) (fs : List Fc) (f : Fc)
    (hs : a.eval s = .slice A n c) (hx : a.eval x = .slice (some ⟨wr.heap.size, 0, none⟩) 1 1) (hown : OwnR encF 3 66 wr B A n c fs) (hn : n ≤ 1099511627776) (hB : B ≤ wr.heap.size)
    (h : ∀ g c' w', OwnR encF 3 66 w' B (some ⟨g, 0, none⟩) (n + 1) c' (fs ++ [f]) → wr.grownBy w' (A.map (·.block)) → B ≤ g → wpList Try.prog ops Q rest (a.put o.dst (.slice (some ⟨g, 0, none⟩) (n + 1) c')) w') :
    wpList Try.prog ops Q (o :: rest) a (wr.alloc (.cells #[.int .i64 f.p, .int .i64 f.q, .int .i64 f.r] 66)) := by
  obtain ⟨i0, hi0, hz0, hz1, hz2⟩ := info_parts info_face
  refine wpList_append_own _ hgd s x 30 ho B 66 i0 (.agg #[.int .i64 0, .int .i64 0, .int .i64 0]) 3 24 Try.underlying30 hi0 hz0 hz1 hz2 rfl (by decide) (.slice A n c) n (fs.flatMap encF) hs (hown.alloc _).1 ⟨wr.heap.size, 0, none⟩ 1 1 [.int .i64 f.p, .int .i64 f.q, .int .i64 f.r] hx rfl ?_ ?_ (by unfold maxLen; omega) (by omega) (by simp; omega) ?_
  · exact World.news_of_block (cs := #[.int .i64 f.p, .int .i64 f.q, .int .i64 f.r]) (heap_alloc_new wr _)
  · intro u hu
    simp at hu
    rcases hu with rfl | rfl | rfl <;> rfl
  · intro v' w1 hown' hgrow _
    have hl := hown.len (by omega)
    obtain ⟨g, cap, hv, hb, hlt⟩ := hown'.form (by omega)
    subst hv
    refine h g cap w1 ⟨by simpa [encF] using hown', fun y _ => rfl⟩ ?_ hb
    have hg1 : wr.grownBy (wr.alloc (.cells #[.int .i64 f.p, .int .i64 f.q, .int .i64 f.r] 66)) (A.map (·.block)) := grown_alloc (World.grownBy.refl _ _) _
    exact hg1.trans (by cases A <;> exact hgrow)
def fs5 (a b c d e f g : Int) : List Fc := [⟨0, 1, 1400 + a⟩, ⟨1, 0, 100 + b⟩, ⟨2 + c, 1, 2000 + d⟩, ⟨-e, 1, 1000 + f⟩, ⟨0, -1, -1000 - g⟩]
set_option maxHeartbeats 8000000 in
theorem l14Draw_any (B : Nat) (A : Option Addr) (n c : Nat) (zs : List Int) (w : World) (h : Src w B A n c zs) (hn : n ≤ 4096) :
    Calls Try.prog 66 #[.pointer (some ⟨B, 0, none⟩)] w (RetDC w B A n c zs) := by
  have hlt := h.lt
  have hAb : ∀ b o, A = some ⟨b, o, none⟩ → 0 < n → b < w.heap.size := by
    obtain ⟨p, s, _, _, _, _, h5, _⟩ := h
    intro b o hA hn0
    obtain ⟨b', o', _, hA', hb', _⟩ := h5.at_ hn0
    rw [hA] at hA'
    injection hA' with hA'
    injection hA' with h1
    omega
  have HAb := Lib.hid hAb
  clear hAb
  have hR0 : (w.alloc (.cells #[.slice none 0 0, .int .i64 0, .int .i64 0] 32)).heap[w.heap.size]? = some (.cells #[.slice none 0 0, .int .i64 0, .int .i64 0] 32 (0, 0)) := heap_alloc_new _ _
  go_enter Try.func66, Try.ntmps66
  go_wp2_with fail
  have hg0 : w.grownBy (w.alloc (.cells #[.slice none 0 0, .int .i64 0, .int .i64 0] 32)) (some B) := grown_alloc (World.grownBy.refl _ _) _
  have hs0 := h.alloc (.cells #[.slice none 0 0, .int .i64 0, .int .i64 0] 32)
  refine (next_any _ _ _ _ _ _ _ hs0 hn (by omega) (by omega)).mono ?_
  rintro e w1 ⟨x1, ha1, hb1, rfl, hs1, hg1⟩
  have hR1 := Lib.hid (gheap hg1 hR0 (by omega))
  have hG1 := hg0.trans hg1
  clear hs0 hg0 hg1 hR0
  go_wp2_with fail
  refine (next_any _ _ _ _ _ _ _ hs1 hn (by omega) (by omega)).mono ?_
  rintro e w2 ⟨x2, ha2, hb2, rfl, hs2, hg2⟩
  have hR2 := Lib.hid (gheap hg2 hR1.out (by omega))
  have hG2 := hG1.trans hg2
  have hl2 := hs2.lt
  have hl02 : w.heap.size < w2.heap.size := heap_lt' hR2.out
  clear hs1 hg2 hR1 hG1
  go_wp2_with fail
  have hC2 : (w2.alloc (.cells #[.slice none 0 0, .int .i64 x1, .int .i64 x2] 32)).heap[w2.heap.size]? = some (.cells #[.slice none 0 0, .int .i64 x1, .int .i64 x2] 32 (0, 0)) := heap_alloc_new _ _
  have hR2' := aheap hR2.out (.cells #[.slice none 0 0, .int .i64 x1, .int .i64 x2] 32)
  have hG2' := grown_alloc hG2 (.cells #[.slice none 0 0, .int .i64 x1, .int .i64 x2] 32)
  refine (next_any _ _ _ _ _ _ _ (hs2.alloc _) hn (by omega) (by omega)).mono ?_
  rintro e w3 ⟨x3, ha3, hb3, rfl, hs3, hg3⟩
  have hC3 := Lib.hid (gheap hg3 hC2 (by omega))
  have hR3 := Lib.hid (gheap hg3 hR2' (by omega))
  have hG3 := hG2'.trans hg3
  clear hC2 hR2 hR2' hG2 hG2' hs2 hg3
  go_wp2_with fail
  refine (next_any _ _ _ _ _ _ _ hs3 hn (by omega) (by omega)).mono ?_
  rintro e w4 ⟨x4, ha4, hb4, rfl, hs4, hg4⟩
  have hC4 := Lib.hid (gheap hg4 hC3.out (by omega))
  have hR4 := Lib.hid (gheap hg4 hR3.out (by omega))
  have hG4 := hG3.trans hg4
  clear hC3 hR3 hG3 hs3 hg4
  go_wp2_with fail
  refine (next_any _ _ _ _ _ _ _ hs4 hn (by omega) (by omega)).mono ?_
  rintro e w5 ⟨x5, ha5, hb5, rfl, hs5, hg5⟩
  have hC5 := Lib.hid (gheap hg5 hC4.out (by omega))
  have hR5 := Lib.hid (gheap hg5 hR4.out (by omega))
  have hG5 := hG4.trans hg5
  clear hC4 hR4 hG4 hs4 hg5
  go_wp2_with fail
  refine (next_any _ _ _ _ _ _ _ hs5 hn (by omega) (by omega)).mono ?_
  rintro e w6 ⟨x6, ha6, hb6, rfl, hs6, hg6⟩
  have hC6 := Lib.hid (gheap hg6 hC5.out (by omega))
  have hR6 := Lib.hid (gheap hg6 hR5.out (by omega))
  have hG6 := hG5.trans hg6
  clear hC5 hR5 hG5 hs5 hg6
  go_wp2_with fail
  refine (next_any _ _ _ _ _ _ _ hs6 hn (by omega) (by omega)).mono ?_
  rintro e w7 ⟨x7, ha7, hb7, rfl, hs7, hg7⟩
  have hC7 := Lib.hid (gheap hg7 hC6.out (by omega))
  have hR7 := Lib.hid (gheap hg7 hR6.out (by omega))
  have hG7 := hG6.trans hg7
  clear hC6 hR6 hG6 hs6 hg7
  go_wp2_with fail
  refine (next_any _ _ _ _ _ _ _ hs7 hn (by omega) (by omega)).mono ?_
  rintro e w8 ⟨x8, ha8, hb8, rfl, hs8, hg8⟩
  have hC8 := Lib.hid (gheap hg8 hC7.out (by omega))
  have hR8 := Lib.hid (gheap hg8 hR7.out (by omega))
  have hG8 := hG7.trans hg8
  clear hC7 hR7 hG7 hs7 hg8
  go_wp2_with fail
  refine (next_any _ _ _ _ _ _ _ hs8 hn (by omega) (by omega)).mono ?_
  rintro e w9 ⟨x9, ha9, hb9, rfl, hs9, hg9⟩
  have hC9 := Lib.hid (gheap hg9 hC8.out (by omega))
  have hR9 := Lib.hid (gheap hg9 hR8.out (by omega))
  have hG9 := hG8.trans hg9
  clear hC8 hR8 hG8 hs8 hg9
  have hl9 := hs9.lt
  have hC9l := heap_lt' hC9.out
  have hR9l := heap_lt' hR9.out
  go_wp2_with fail
  have hF9 : OwnR encF 3 66 (w9.alloc (.cells #[.int .i64 0, .int .i64 1, .int .i64 (1400 + x3), .int .i64 1, .int .i64 0, .int .i64 (100 + x4), .int .i64 (2 + x5), .int .i64 1, .int .i64 (2000 + x6), .int .i64 (-x7), .int .i64 1, .int .i64 (1000 + x8), .int .i64 0, .int .i64 (-1), .int .i64 (-1000 - x9)] 66)) w9.heap.size (some ⟨w9.heap.size, 0, none⟩) 5 5 (fs5 x3 x4 x5 x6 x7 x8 x9) := by
    refine ⟨?_, fun x _ => rfl⟩
    exact World.ownsRow_lit (size := 3) w9 #[.int .i64 0, .int .i64 1, .int .i64 (1400 + x3), .int .i64 1, .int .i64 0, .int .i64 (100 + x4), .int .i64 (2 + x5), .int .i64 1, .int .i64 (2000 + x6), .int .i64 (-x7), .int .i64 1, .int .i64 (1000 + x8), .int .i64 0, .int .i64 (-1), .int .i64 (-1000 - x9)] 5 (Nat.le_refl _) (by unfold maxLen; omega) rfl
  have hC9' := aheap hC9.out (.cells #[.int .i64 0, .int .i64 1, .int .i64 (1400 + x3), .int .i64 1, .int .i64 0, .int .i64 (100 + x4), .int .i64 (2 + x5), .int .i64 1, .int .i64 (2000 + x6), .int .i64 (-x7), .int .i64 1, .int .i64 (1000 + x8), .int .i64 0, .int .i64 (-1), .int .i64 (-1000 - x9)] 66)
  have hR9' := aheap hR9.out (.cells #[.int .i64 0, .int .i64 1, .int .i64 (1400 + x3), .int .i64 1, .int .i64 0, .int .i64 (100 + x4), .int .i64 (2 + x5), .int .i64 1, .int .i64 (2000 + x6), .int .i64 (-x7), .int .i64 1, .int .i64 (1000 + x8), .int .i64 0, .int .i64 (-1), .int .i64 (-1000 - x9)] 66)
  have hG9' := grown_alloc hG9 (.cells #[.int .i64 0, .int .i64 1, .int .i64 (1400 + x3), .int .i64 1, .int .i64 0, .int .i64 (100 + x4), .int .i64 (2 + x5), .int .i64 1, .int .i64 (2000 + x6), .int .i64 (-x7), .int .i64 1, .int .i64 (1000 + x8), .int .i64 0, .int .i64 (-1), .int .i64 (-1000 - x9)] 66)
  refine (next_any _ _ _ _ _ _ _ (hs9.alloc _) hn (by omega) (by omega)).mono ?_
  rintro e w10 ⟨x10, ha10, hb10, rfl, hs10, hg10⟩
  have hC10 := Lib.hid (gheap hg10 hC9' (by omega))
  have hR10 := Lib.hid (gheap hg10 hR9' (by omega))
  have hG10 := hG9'.trans hg10
  obtain ⟨j, rfl⟩ := Int.eq_ofNat_of_zero_le ha10
  have hF10 := ownR_cut (j := 1 + j) (hF9.grown hg10 (fun g hg => fun hh => by injection hg with hg; injection hg with hg; injection hh with hh; omega)) (by omega) (by simp) (by omega)
  clear hC9 hR9 hG9 hC9' hR9' hG9' hs9 hg10 hF9
  go_wp2_with fail
  refine (next_any _ _ _ _ _ _ _ hs10 hn (by omega) (by omega)).mono ?_
  rintro e w11 ⟨x11, ha11, hb11, rfl, hs11, hg11⟩
  have hC11 := Lib.hid (gheap hg11 hC10.out (by omega))
  have hR11 := Lib.hid (gheap hg11 hR10.out (by omega))
  have hG11 := hG10.trans hg11
  have hF11 := hF10.grown hg11 (fun g hg => fun hh => by injection hg with hg; injection hg with hg; injection hh with hh; omega)
  clear hC10 hR10 hG10 hs10 hg11 hF10
  have hok : ∀ f ∈ List.take (1 + j) (fs5 x3 x4 x5 x6 x7 x8 x9), okF f := by
    intro f hf
    have hf' := List.mem_of_mem_take hf
    simp only [fs5, List.mem_cons, List.not_mem_nil, or_false] at hf'
    rcases hf' with rfl | rfl | rfl | rfl | rfl <;> exact ⟨i64_of (by simp only; omega) (by simp only; omega), i64_of (by simp only; omega) (by simp only; omega), i64_of (by simp only; omega) (by simp only; omega)⟩
  have hj9 : 1 + j ≤ 5 := by omega
  have hFl := hF11.len (by omega)
  generalize List.take (1 + j) (fs5 x3 x4 x5 x6 x7 x8 x9) = fs at *
  have HFL := Lib.hid hFl
  have HOK := Lib.hid hok
  have hI1 : I64 x1 := i64_of (by omega) (by omega)
  have hI2 : I64 x2 := i64_of (by omega) (by omega)
  have HI1 := Lib.hid hI1
  have HI2 := Lib.hid hI2
  have hj1 : 1 ≤ 1 + j := by omega
  generalize hN : w9.heap.size = N at *
  generalize hM : w2.heap.size = M at *
  have hMw : w.heap.size < M := by omega
  have HN := Lib.hid hN
  have HM := Lib.hid hM
  clear hFl hok hI1 hI2 hN hM ha1 ha2 ha3 ha4 ha5 ha6 ha7 ha8 ha9 ha10 hb1 hb2 hb3 hb4 hb5 hb6 hb7 hb8 hb9 hb10 h
  have hl11 := hs11.lt
  have hC11l := heap_lt' hC11.out
  have hR11l := heap_lt' hR11.out
  have hwN : w.heap.size < N := by omega
  by_cases t0' : x11 = 0
  · have t0 : (x11 == 0) = true := by simp [t0']
    clear t0'
    go_wp2_with fail
    refine (next_any _ _ _ _ _ _ _ (hs11.alloc _) hn (by omega) (by omega)).mono ?_
    rintro e w12 ⟨y, hy0, hy1, rfl, hs12, hg12⟩
    obtain ⟨v, hv, hvi⟩ := lit_pick hg12 hl11 hy0 (by simp; omega) (by
      intro jj u hu
      match jj, hu with
      | 0, hu => simp at hu; exact ⟨_, hu.symm, rfl⟩
      | 1, hu => simp at hu; exact ⟨_, hu.symm, rfl⟩
      | 2, hu => simp at hu; exact ⟨_, hu.symm, rfl⟩)
    have hF12 := (hF11.alloc (.cells #[.int .i64 0, .int .i64 1000, .int .i64 1001] 2)).grown hg12 (fun g hg => fun hh => by injection hg with hg; injection hg with hg; injection hh with hh; omega)
    have hC12 := gheap hg12 (aheap hC11.out _) (by omega)
    have hR12 := gheap hg12 (aheap hR11.out _) (by omega)
    have hG12 := (grown_alloc hG11 _).trans hg12
    have y2 : y < 3 := by omega
    obtain ⟨m0, m1, m2, mf0, mf1, mf2⟩ := heap_cells hC12
    obtain ⟨r0, r1, r2, s0, s1, s2⟩ := heap_cells hR12
    obtain ⟨x, hx, hcs, hfs, _, hgl⟩ := hF12.cells (by omega) (show 0 < 1 + j by omega)
    have c1 := hcs 1 _ rfl
    have f1 := hfs 1
    obtain ⟨hF13, hg13⟩ := hF12.set1 (j := 1) (x' := ⟨x.p, v, x.r⟩) (v := .int .i64 v) hx rfl (by omega)
    rw [Nat.zero_mul, Nat.zero_add] at c1 hF13
    have nMN : M ≠ N := by omega
    have nwN : w.heap.size ≠ N := by omega
    have nMw : M ≠ w.heap.size := by omega
    have HF := Lib.hid hF13
    have HX := Lib.hid hx
    have HG := Lib.hid (grown_high hG12 (b := N) (by omega) 1 (.int .i64 v))
    have HS := Lib.hid (src_high hs12 HAb.out hlt (b := N) (by omega) 1 (.int .i64 v))
    clear hcs hfs hF12 hF13 hg13 hx hC12 hR12 hG12 hG11 hF11 hs12 hs11
    go_wp2_with fail
    refine bodyPost_ret (v := .agg #[.slice (some ⟨N, 0, none⟩) (1 + j) 5, .int .i64 x1, .int .i64 x2]) (by simp [results, Try.results66, go_sem, r0, r1, r2]) rfl ?_
    refine dc_close HF.out ?_ (by omega) HI1.out HI2.out HS.out HAb.out hlt HG.out (by omega) (by omega)
    intro f hf
    rcases List.mem_or_eq_of_mem_set hf with hf | rfl
    · exact HOK.out f hf
    · have hox := HOK.out x (List.mem_of_getElem? HX.out)
      exact ⟨hox.1, hvi, hox.2.2⟩
  have t0 : (x11 == 0) = false := by simp [t0']
  clear t0'
  by_cases t1' : x11 = 1
  · have t1 : (x11 == 1) = true := by simp [t1']
    clear t1'
    go_wp2_with fail
    refine (next_any _ _ _ _ _ _ _ (hs11.alloc _) hn (by omega) (by omega)).mono ?_
    rintro e w12 ⟨y, hy0, hy1, rfl, hs12, hg12⟩
    obtain ⟨v, hv, hvi⟩ := lit_pick hg12 hl11 hy0 (by simp; omega) (by
      intro jj u hu
      match jj, hu with
      | 0, hu => simp at hu; exact ⟨_, hu.symm, rfl⟩
      | 1, hu => simp at hu; exact ⟨_, hu.symm, rfl⟩)
    have hF12 := (hF11.alloc (.cells #[.int .i64 (-100000000), .int .i64 100000001] 2)).grown hg12 (fun g hg => fun hh => by injection hg with hg; injection hg with hg; injection hh with hh; omega)
    have hC12 := gheap hg12 (aheap hC11.out _) (by omega)
    have hR12 := gheap hg12 (aheap hR11.out _) (by omega)
    have hG12 := (grown_alloc hG11 _).trans hg12
    have y2 : y < 2 := by omega
    obtain ⟨m0, m1, m2, mf0, mf1, mf2⟩ := heap_cells hC12
    obtain ⟨r0, r1, r2, s0, s1, s2⟩ := heap_cells hR12
    obtain ⟨x, hx, hcs, hfs, _, hgl⟩ := hF12.cells (by omega) (show 0 < 1 + j by omega)
    have c1 := hcs 2 _ rfl
    have f1 := hfs 2
    obtain ⟨hF13, hg13⟩ := hF12.set1 (j := 2) (x' := ⟨x.p, x.q, v⟩) (v := .int .i64 v) hx rfl (by omega)
    rw [Nat.zero_mul, Nat.zero_add] at c1 hF13
    have nMN : M ≠ N := by omega
    have nwN : w.heap.size ≠ N := by omega
    have nMw : M ≠ w.heap.size := by omega
    have HF := Lib.hid hF13
    have HX := Lib.hid hx
    have HG := Lib.hid (grown_high hG12 (b := N) (by omega) 2 (.int .i64 v))
    have HS := Lib.hid (src_high hs12 HAb.out hlt (b := N) (by omega) 2 (.int .i64 v))
    clear hcs hfs hF12 hF13 hg13 hx hC12 hR12 hG12 hG11 hF11 hs12 hs11
    go_wp2_with fail
    refine bodyPost_ret (v := .agg #[.slice (some ⟨N, 0, none⟩) (1 + j) 5, .int .i64 x1, .int .i64 x2]) (by simp [results, Try.results66, go_sem, r0, r1, r2]) rfl ?_
    refine dc_close HF.out ?_ (by omega) HI1.out HI2.out HS.out HAb.out hlt HG.out (by omega) (by omega)
    intro f hf
    rcases List.mem_or_eq_of_mem_set hf with hf | rfl
    · exact HOK.out f hf
    · have hox := HOK.out x (List.mem_of_getElem? HX.out)
      exact ⟨hox.1, hox.2.1, hvi⟩
  have t1 : (x11 == 1) = false := by simp [t1']
  clear t1'
  by_cases t2' : x11 = 2
  · have t2 : (x11 == 2) = true := by simp [t2']
    clear t2'
    go_wp2_with fail
    go_loopw [4] (fun ff wr => ∃ (g m cap : Nat) (gs : List Fc), ff = .slice (some ⟨g, 0, none⟩) m cap ∧ m ≤ 9 ∧ OwnR encF 3 66 wr N (some ⟨g, 0, none⟩) m cap gs ∧ Hid (∀ f ∈ gs, okF f) ∧ Src wr B A n c zs ∧ w.grownBy wr (some B) ∧ Hid (wr.heap[M]? = some (.cells #[.slice none 0 0, .int .i64 x1, .int .i64 x2] 32 (0, 0))) ∧ Hid (wr.heap[w.heap.size]? = some (.cells #[.slice none 0 0, .int .i64 0, .int .i64 0] 32 (0, 0))) ∧ N ≤ g ∧ N ≤ wr.heap.size) (fun ff _ => match ff with | .slice _ m _ => 9 - m | _ => 0)
    case atStart => exact ⟨N, 1 + j, 5, fs, rfl, by omega, hF11, HOK, hs11, hG11, hC11, hR11, Nat.le_refl _, by have := (hF11.lt N rfl).2; omega⟩
    case round =>
      obtain ⟨g, m, cap, gs, rfl, hm, hF, HO, hs, hG, HC, HR, hNg, hNs⟩ := hrel
      go_wp2_with fail
      refine (next_any _ _ _ _ _ _ _ hs hn (by omega) (by omega)).mono ?_
      rintro e w12 ⟨y, hy0, hy1, rfl, hs12, hg12⟩
      have hF12 := hF.grown hg12 (fun g' hg => fun hh => by injection hg with hg; injection hg with hg; injection hh with hh; omega)
      have hC12 := gheap hg12 HC.out (by omega)
      have hR12 := gheap hg12 HR.out (by omega)
      have hG12 := hG.trans hg12
      have hNs12 : N ≤ w12.heap.size := Nat.le_trans hNs hg12.size
      clear hF hs hG HC HR
      by_cases tl : (m : Int) < 8 + y
      · have hm8 : m ≤ 8 := by omega
        have HC12 := Lib.hid hC12
        have HR12 := Lib.hid hR12
        have HG12 := Lib.hid hG12
        have HS12 := Lib.hid hs12
        clear hC12 hR12 hG12 hs12
        go_wp2_with (at_builtin; refine wpList_pushF w12 rfl _ _ rfl N _ _ _ _ ⟨1, 0, 400⟩ rfl rfl hF12 (by omega) hNs12 ?_; intro g2 c2 w13 hF13 hg13 hNg2)
        go_roundw
        case rel =>
          replace hg13 : w12.grownBy w13 (some g) := hg13
          refine ⟨g2, m + 1, c2, gs ++ [⟨1, 0, 400⟩], rfl, by omega, hF13, ?_, src_grown HS12.out hg13 HAb.out hlt (by omega), grown_far HG12.out hg13 (by omega), gheap hg13 HC12.out (by omega), gheap hg13 HR12.out (by omega), hNg2, Nat.le_trans hNs12 hg13.size⟩
          intro f hf
          rcases List.mem_append.1 hf with hf | hf
          · exact HO.out f hf
          · simp at hf
            subst hf
            exact ⟨rfl, rfl, rfl⟩
        case measure => simp; omega
      · obtain ⟨m0, m1, m2, mf0, mf1, mf2⟩ := heap_cells hC12
        obtain ⟨r0, r1, r2, s0, s1, s2⟩ := heap_cells hR12
        have nMw : M ≠ w.heap.size := by omega
        have HF := Lib.hid hF12
        have HG := Lib.hid hG12
        have HS := Lib.hid hs12
        clear hF12 hG12 hs12 hC12 hR12
        go_wp2_with fail
        refine bodyPost_ret (v := .agg #[.slice (some ⟨g, 0, none⟩) m cap, .int .i64 x1, .int .i64 x2]) (by simp [results, Try.results66, go_sem, r0, r1, r2]) rfl ?_
        exact dc_close HF.out HO.out (by omega) HI1.out HI2.out HS.out HAb.out hlt HG.out (by omega) (by omega)
  have t2 : (x11 == 2) = false := by simp [t2']
  clear t2'
  by_cases t3' : x11 = 3
  · have t3 : (x11 == 3) = true := by simp [t3']
    clear t3'
    go_wp2_with fail
    refine (next_any _ _ _ _ _ _ _ (hs11.alloc _) hn (by omega) (by omega)).mono ?_
    rintro e w12 ⟨y, hy0, hy1, rfl, hs12, hg12⟩
    obtain ⟨v, hv, hvi⟩ := lit_pick hg12 hl11 hy0 (by simp; omega) (by
      intro jj u hu
      match jj, hu with
      | 0, hu => simp at hu; exact ⟨_, hu.symm, rfl⟩
      | 1, hu => simp at hu; exact ⟨_, hu.symm, rfl⟩
      | 2, hu => simp at hu; exact ⟨_, hu.symm, rfl⟩)
    have hF12 := (hF11.alloc (.cells #[.int .i64 (-1), .int .i64 1000, .int .i64 1001] 2)).grown hg12 (fun g hg => fun hh => by injection hg with hg; injection hg with hg; injection hh with hh; omega)
    have hC12 := gheap hg12 (aheap hC11.out _) (by omega)
    have hR12 := gheap hg12 (aheap hR11.out _) (by omega)
    have hG12 := (grown_alloc hG11 _).trans hg12
    have y2 : y < 3 := by omega
    obtain ⟨m0, m1, m2, mf0, mf1, mf2⟩ := heap_cells hC12
    obtain ⟨r0, r1, r2, s0, s1, s2⟩ := heap_cells hR12
    have nMN : M ≠ N := by omega
    have nwN : w.heap.size ≠ N := by omega
    have nMw : M ≠ w.heap.size := by omega
    have HF := Lib.hid (ownR_high hF12 (b := M) (by omega) 1 (.int .i64 v))
    have HG := Lib.hid (grown_high hG12 (b := M) (by omega) 1 (.int .i64 v))
    have HS := Lib.hid (src_high hs12 HAb.out hlt (b := M) (by omega) 1 (.int .i64 v))
    clear hF12 hC12 hR12 hG12 hG11 hF11 hs12 hs11
    go_wp2_with fail
    refine bodyPost_ret (v := .agg #[.slice (some ⟨N, 0, none⟩) (1 + j) 5, .int .i64 v, .int .i64 x2]) (by simp [results, Try.results66, go_sem, r0, r1, r2]) rfl ?_
    exact dc_close HF.out HOK.out (by omega) hvi HI2.out HS.out HAb.out hlt HG.out (by omega) (by omega)
  have t3 : (x11 == 3) = false := by simp [t3']
  clear t3'
  obtain ⟨m0, m1, m2, mf0, mf1, mf2⟩ := heap_cells hC11.out
  obtain ⟨r0, r1, r2, s0, s1, s2⟩ := heap_cells hR11.out
  have nMw : M ≠ w.heap.size := by omega
  have HF := Lib.hid hF11
  have HG := Lib.hid hG11
  have HS := Lib.hid hs11
  clear hF11 hG11 hs11
  go_wp2_with fail
  refine bodyPost_ret (v := .agg #[.slice (some ⟨N, 0, none⟩) (1 + j) 5, .int .i64 x1, .int .i64 x2]) (by simp [results, Try.results66, go_sem, r0, r1, r2]) rfl ?_
  exact dc_close HF.out HOK.out (by omega) HI1.out HI2.out HS.out HAb.out hlt HG.out (by omega) (by omega)
end Go.Proofs.Ytgchbajhceddnaa
