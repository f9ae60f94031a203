/- What l02DrawAny does (a network with perhaps one fault), by a walk over its text. Condition: a source over at most 4096 bytes. -/
import Derived.Test.YtpgegfnhokhlmabGreatNDraw3
set_option linter.unusedVariables false
set_option maxRecDepth 100000
namespace Go.Proofs.YtpgegfnhokhlmabGreat
open Go.ChangeShapes Go.WideShapes Go.ChangeAt Go.RowKit Go.Joins Go.Deep
attribute [local go_sem ↓] Go.wp_at_zero Go.wp_at_succ

theorem pick_new (W : World) (cs : Array Value) (t : TypeId) (y : Int) {v : Value} (hv : cs[y.toNat]? = some v) : (W.alloc (.cells cs t)).cell? ⟨W.heap.size, y.toNat, none⟩ = some v := by
  rw [cell_of_row _ _ y.toNat _ _ (0, 0) (heap_alloc_new _ _)]
  exact hv
theorem pick_str {y : Int} (h0 : 0 ≤ y) (h1 : y = 0 ∨ y < 5) : ∃ v : ByteArray, v.size ≤ maxLen ∧ (#[Value.string { data := #[] }, .string { data := #[110, 48] }, .string { data := #[110, 105, 110, 101, 99, 104, 97, 114, 115] }, .string { data := #[101, 105, 103, 104, 116, 99, 104, 97] }, .string { data := #[78] }] : Array Value)[y.toNat]? = some (.string v) := by
  obtain ⟨j, rfl⟩ := Int.eq_ofNat_of_zero_le h0
  have hj : j < 5 := by omega
  rw [Int.toNat_natCast]
  match j, hj with
  | 0, _ => exact ⟨_, by decide, rfl⟩
  | 1, _ => exact ⟨_, by decide, rfl⟩
  | 2, _ => exact ⟨_, by decide, rfl⟩
  | 3, _ => exact ⟨_, by decide, rfl⟩
  | 4, _ => exact ⟨_, by decide, rfl⟩
theorem pick_int {y : Int} (a b d : Int) (h0 : 0 ≤ y) (h1 : y = 0 ∨ y < 3) (ha : I64 a) (hb : I64 b) (hd : I64 d) : ∃ v : Int, I64 v ∧ (#[Value.int .i64 a, .int .i64 b, .int .i64 d] : Array Value)[y.toNat]? = some (.int .i64 v) := by
  obtain ⟨j, rfl⟩ := Int.eq_ofNat_of_zero_le h0
  have hj : j < 3 := by omega
  rw [Int.toNat_natCast]
  match j, hj with
  | 0, _ => exact ⟨_, ha, rfl⟩
  | 1, _ => exact ⟨_, hb, rfl⟩
  | 2, _ => exact ⟨_, hd, rfl⟩
theorem pick_int4 {y : Int} (a b d e : Int) (h0 : 0 ≤ y) (h1 : y = 0 ∨ y < 4) (ha : I64 a) (hb : I64 b) (hd : I64 d) (he : I64 e) : ∃ v : Int, I64 v ∧ (#[Value.int .i64 a, .int .i64 b, .int .i64 d, .int .i64 e] : Array Value)[y.toNat]? = some (.int .i64 v) := by
  obtain ⟨j, rfl⟩ := Int.eq_ofNat_of_zero_le h0
  have hj : j < 4 := by omega
  rw [Int.toNat_natCast]
  match j, hj with
  | 0, _ => exact ⟨_, ha, rfl⟩
  | 1, _ => exact ⟨_, hb, rfl⟩
  | 2, _ => exact ⟨_, hd, rfl⟩
  | 3, _ => exact ⟨_, he, rfl⟩
theorem set_nm {v : ByteArray} (hv : v.size ≤ maxLen) : ∀ x, okN x → ∃ x', okN x' ∧ encN x' = (encN x).set 0 (.string v) := fun x hx => ⟨⟨v, x.lo, x.hi⟩, ⟨hv, hx.2.1, hx.2.2⟩, rfl⟩
theorem set_hi {v : Int} (hv : I64 v) : ∀ x, okN x → ∃ x', okN x' ∧ encN x' = (encN x).set 2 (.int .i64 v) := fun x hx => ⟨⟨x.nm, x.lo, v⟩, ⟨hx.1, hx.2.1, hv⟩, rfl⟩
theorem set_k {v : Int} (hv : I64 v) : ∀ x, okP x → ∃ x', okP x' ∧ encP x' = (encP x).set 2 (.int .i64 v) := fun x hx => ⟨⟨x.fr, x.to, v, x.v, x.l⟩, ⟨hx.1, hx.2.1, hv, hx.2.2.2.1, hx.2.2.2.2⟩, rfl⟩
theorem set_l {v : Int} (hv : I64 v) : ∀ x, okP x → ∃ x', okP x' ∧ encP x' = (encP x).set 4 (.int .i64 v) := fun x hx => ⟨⟨x.fr, x.to, x.k, x.v, v⟩, ⟨hx.1, hx.2.1, hx.2.2.1, hx.2.2.2.1, hv⟩, rfl⟩
section
variable {w W W' : World} {B : Nat} {A : Option Addr} {n c : Nat} {zs : List Int} {N : Nat} {A1 : Option Addr} {k c1 : Nat} {B1 : Option Addr} {m d1 : Nat}
/-- Where the nodes lie. -/
theorem DA.nodeG (h : DA w W B A n c zs N A1 k c1 B1 m d1) {i : Nat} (hi : i < k) : ∃ g, A1 = some ⟨g, 0, none⟩ ∧ g ≠ B ∧ g ≠ N ∧ g ≠ w.heap.size := by
  obtain ⟨ns, h5⟩ := h.nodes
  obtain ⟨g, rfl, hB, hg⟩ := h5.1.form (by omega)
  have := h.src.1.lt
  exact ⟨g, rfl, by omega, own_box_ne h5.1.1 h.box (by decide) g rfl, by omega⟩
/-- A node's cells. -/
theorem DA.nodeOf {g : Nat} (h : DA w W B A n c zs N (some ⟨g, 0, none⟩) k c1 B1 m d1) {i : Nat} (hi : i < k) : ∃ nm lo hi, g < W.heap.size ∧ I64 lo ∧ W.cell? ⟨g, i * 3, none⟩ = some (.string nm) ∧ W.cell? ⟨g, i * 3 + 1, none⟩ = some (.int .i64 lo) ∧ W.cell? ⟨g, i * 3 + 2, none⟩ = some (.int .i64 hi) ∧ ∀ j, W.frozen? ⟨g, j, none⟩ = false := by
  obtain ⟨ns, h5⟩ := h.nodes
  obtain ⟨x, hx, hc, hf⟩ := h5.1.cells (by omega) hi
  exact ⟨x.nm, x.lo, x.hi, (h5.1.1.lt g rfl).2, (h5.2 x (List.mem_of_getElem? hx)).2.1, hc 0 _ rfl, hc 1 _ rfl, hc 2 _ rfl, hf.1⟩
/-- Where the pipes lie. -/
theorem DA.pipeG (h : DA w W B A n c zs N A1 k c1 B1 m d1) (hi : 0 < m) : ∃ g, B1 = some ⟨g, 0, none⟩ ∧ g ≠ B ∧ g ≠ N ∧ g ≠ w.heap.size := by
  obtain ⟨ps, h6⟩ := h.pipes
  obtain ⟨g, rfl, hB, hg⟩ := h6.1.form (by omega)
  have := h.src.1.lt
  exact ⟨g, rfl, by omega, own_box_ne h6.1.1 h.box (by decide) g rfl, by omega⟩
/-- A pipe's cells. -/
theorem DA.pipeOf {g : Nat} (h : DA w W B A n c zs N A1 k c1 (some ⟨g, 0, none⟩) m d1) (hi : 0 < m) : ∃ x k' l, g < W.heap.size ∧ W.cell? ⟨g, 0, none⟩ = some x ∧ W.cell? ⟨g, 2, none⟩ = some (.int .i64 k') ∧ W.cell? ⟨g, 4, none⟩ = some (.int .i64 l) ∧ ∀ j, W.frozen? ⟨g, j, none⟩ = false := by
  obtain ⟨ps, h6⟩ := h.pipes
  obtain ⟨x, hx, hc, hf⟩ := h6.1.cells (by omega) hi
  have c0 := hc 0 _ rfl
  have c2 := hc 2 _ rfl
  have c4 := hc 4 _ rfl
  simp at c0 c2 c4
  exact ⟨_, x.k, x.l, (h6.1.1.lt g rfl).2, c0, c2, c4, hf.1⟩
end
theorem i64_small {z : Int} (h0 : -100000000000 ≤ z) (h1 : z ≤ 100000000000) : I64 z := WalkArith.wf_i64 (by omega)
theorem i64_wrap (z : Int) : I64 (IntKind.i64.wrap z) := by first | exact wf_wrap .i64 z | exact wrap64_wf z
theorem okP_mk {a b d e f : Int} (h1 : I64 a) (h2 : I64 b) (h3 : I64 d) (h4 : I64 e) (h5 : I64 f) : okP ⟨a, b, d, e, f⟩ := ⟨h1, h2, h3, h4, h5⟩
theorem RetNetD.alloc {w W : World} {B : Nat} {A : Option Addr} {n c : Nat} {zs : List Int} {L K M : Nat} {e : Ending} (h : RetNetD w B A n c zs L K M e W) (o : Obj) : RetNetD w B A n c zs L K M e (W.alloc o) := by
  obtain ⟨A1, c1, B1, d1, ns, ps, he, ho, h1, h2, h3, h4⟩ := h
  exact ⟨A1, c1, B1, d1, ns, ps, he, ho.below ((Below.refl _ _).alloc (Nat.le_refl _) _), h1, h2, h3, h4.alloc _⟩
theorem orT {a : Bool} {r : Prop} (h : r) : a = true ∨ a = false ∧ r := by
  cases a
  · exact .inr ⟨rfl, h⟩
  · exact .inl rfl
-- WALK
set_option maxHeartbeats 8000000 in
theorem drawAny_any (B : Nat) (A : Option Addr) (n c : Nat) (zs : List Int) (w : World) (h : Src w B A n c zs) (hn : n ≤ 4096) :
    Calls Tryz.prog 114 #[.pointer (some ⟨B, 0, none⟩)] w (RetNetD w B A n c zs 0 7 10) := by
  have hlt := h.lt
  have hR0 := box_new w #[.slice none 0 0, .slice none 0 0] 33
  have hd0 := (NS.start h).alloc (.cells #[.slice none 0 0, .slice none 0 0] 33)
  have hs0 : (w.alloc (.cells #[.slice none 0 0, .slice none 0 0] 33)).heap.size = w.heap.size + 1 := by simp
  go_enter Tryz.func114, Tryz.ntmps114
  go_wp2_with fail
  generalize w.alloc (.cells #[.slice none 0 0, .slice none 0 0] 33) = W0 at *
  refine (draw_any _ _ _ _ _ _ hd0.2.1 hn).mono ?_
  rintro e w1 ⟨A1, c1, B1, d1, ns, ps, rfl, ho, hk1, hk7, hm9, hn1⟩
  have hd1 := hd0.then_ hn1
  have hR1 := hR0.grown hn1.2.2 (fun hh => by injection hh with hh; omega)
  have hl1 := hR1.lt
  have hDA : DA w (w1.alloc (.cells #[.slice A1 ns.length c1, .slice B1 ps.length d1] 33)) B A n c zs w1.heap.size A1 ns.length c1 B1 ps.length d1 :=
    ⟨hd1.alloc _, hR1.alloc _, box_new _ _ _, hl1, ⟨ns, by rw [← hs0]; exact ho.nodes.below ((Below.refl _ _).alloc (Nat.le_refl _) _)⟩, ⟨ps, by rw [← hs0]; exact ho.pipes.below ((Below.refl _ _).alloc (Nat.le_refl _) _)⟩⟩
  have ⟨hN, hr, n0, n1, f0, f1, r0, r1, q0, q1⟩ := hDA.cells
  clear hd0 hR0 hn1 hd1 hR1 ho
  go_wp2_with fail
  generalize w1.alloc (.cells #[.slice A1 ns.length c1, .slice B1 ps.length d1] 33) = W1 at *
  generalize w1.heap.size = N at *
  generalize ns.length = K at *
  generalize ps.length = M at *
  clear hN hr n0 n1 f0 f1 r0 r1 q0 q1
  refine (next_any _ _ _ _ _ _ _ hDA.src.2.1 hn (by omega) (by omega)).mono ?_
  rintro e w2 ⟨z, hz0, hz1, rfl, hs2, hg2⟩
  have hD2 := hDA.next hs2 hg2
  obtain ⟨i, rfl⟩ := Int.eq_ofNat_of_zero_le hz0
  have hiK : i < K := by omega
  clear hDA hs2 hg2 hz0 hz1
  go_wp2_with fail
  refine (next_any _ _ _ _ _ _ _ hD2.src.2.1 hn (by omega) (by omega)).mono ?_
  rintro e w3 ⟨t, ht0, ht1, rfl, hs3, hg3⟩
  have hD := hD2.next hs3 hg3
  have ⟨hN, hr, n0, n1, f0, f1, r0, r1, q0, q1⟩ := hD.cells
  have HD := Lib.hid hD
  have hNl := hD.hN
  clear hD2 hs3 hg3 hD ht0 ht1
  rcases (orT (orT (orT (orT (orT (orT (orT trivial)))))) : (t == 0) = true ∨ (t == 0) = false ∧ ((t == 1) = true ∨ (t == 1) = false ∧ ((t == 2) = true ∨ (t == 2) = false ∧ ((t == 3) = true ∨ (t == 3) = false ∧ ((t == 4) = true ∨ (t == 4) = false ∧ ((t == 5) = true ∨ (t == 5) = false ∧ ((t == 6) = true ∨ (t == 6) = false ∧ True)))))) ) with t0 | ⟨t0, t1 | ⟨t1, t2 | ⟨t2, t3 | ⟨t3, t4 | ⟨t4, t5 | ⟨t5, t6 | ⟨t6, _⟩⟩⟩⟩⟩⟩⟩
  · obtain ⟨g, rfl, hgB, hgN, hgw⟩ := HD.out.nodeG hiK
    obtain ⟨nm, lo, hi, hg, hlo, cn, cl, ch, fr⟩ := HD.out.nodeOf hiK
    clear fr
    go_wp2_with fail
    have cA : (w3.drew.alloc (.cells #[.string { data := #[] }, .string { data := #[110, 48] }, .string { data := #[110, 105, 110, 101, 99, 104, 97, 114, 115] }, .string { data := #[101, 105, 103, 104, 116, 99, 104, 97] }, .string { data := #[78] }] 9)).cell? ⟨N, 0, none⟩ = some (.slice (some ⟨g, 0, none⟩) K c1) := (HD.out.drew.alloc (.cells #[.string { data := #[] }, .string { data := #[110, 48] }, .string { data := #[110, 105, 110, 101, 99, 104, 97, 114, 115] }, .string { data := #[101, 105, 103, 104, 116, 99, 104, 97] }, .string { data := #[78] }] 9)).cells.n0
    go_region_with (first | (go_at_call 67; refine (next_any B A n c zs 5 (w3.drew) (HD.out.drew).src.2.1 hn (by omega) (by omega)).mono ?_; rintro e w5 ⟨y, hy0, hy1, rfl, hs5, hg5⟩; obtain ⟨v, hv, hvm⟩ := pick_str hy0 hy1; have hy2 : y < 5 := (by omega); have hD5 := (HD.out.drew).next hs5 hg5; have c5 := hD5.cells.n0; have c5a := (hD5.alloc (.cells #[.string { data := #[] }, .string { data := #[110, 48] }, .string { data := #[110, 105, 110, 101, 99, 104, 97, 114, 115] }, .string { data := #[101, 105, 103, 104, 116, 99, 104, 97] }, .string { data := #[78] }] 9)).cells.n0; have HD5 := Lib.hid hD5; skip; have hpk := pick_new w5 _ 9 y hvm; obtain ⟨nm5, lo5, hi5, hg5, hlo5, cn5, cl5, ch5, fr5⟩ := HD5.out.nodeOf hiK; have fx5 := fr5 (i * 3); obtain ⟨nm6, lo6, hi6, hg6, hlo6, cn6, cl6, ch6, fr6⟩ := (HD5.out.alloc (.cells #[.string { data := #[] }, .string { data := #[110, 48] }, .string { data := #[110, 105, 110, 101, 99, 104, 97, 114, 115] }, .string { data := #[101, 105, 103, 104, 116, 99, 104, 97] }, .string { data := #[78] }] 9)).nodeOf hiK; have fx6 := fr6 (i * 3); have HF1 := Lib.hid (HD5.out.setNode hiK (j := 0) (by omega) (set_nm hv)); have HF2 := Lib.hid ((HD5.out.alloc (.cells #[.string { data := #[] }, .string { data := #[110, 48] }, .string { data := #[110, 105, 110, 101, 99, 104, 97, 114, 115] }, .string { data := #[101, 105, 103, 104, 116, 99, 104, 97] }, .string { data := #[78] }] 9)).setNode hiK (j := 0) (by omega) (set_nm hv)); clear hD5 hs5 hg5 fr5 fr6) | (go_at_call 67; refine (next_any B A n c zs 5 (w3.drew.alloc (.cells #[.string { data := #[] }, .string { data := #[110, 48] }, .string { data := #[110, 105, 110, 101, 99, 104, 97, 114, 115] }, .string { data := #[101, 105, 103, 104, 116, 99, 104, 97] }, .string { data := #[78] }] 9)) (HD.out.drew.alloc (.cells #[.string { data := #[] }, .string { data := #[110, 48] }, .string { data := #[110, 105, 110, 101, 99, 104, 97, 114, 115] }, .string { data := #[101, 105, 103, 104, 116, 99, 104, 97] }, .string { data := #[78] }] 9)).src.2.1 hn (by omega) (by omega)).mono ?_; rintro e w5 ⟨y, hy0, hy1, rfl, hs5, hg5⟩; obtain ⟨v, hv, hvm⟩ := pick_str hy0 hy1; have hy2 : y < 5 := (by omega); have hD5 := (HD.out.drew.alloc (.cells #[.string { data := #[] }, .string { data := #[110, 48] }, .string { data := #[110, 105, 110, 101, 99, 104, 97, 114, 115] }, .string { data := #[101, 105, 103, 104, 116, 99, 104, 97] }, .string { data := #[78] }] 9)).next hs5 hg5; have c5 := hD5.cells.n0; have c5a := (hD5.alloc (.cells #[.string { data := #[] }, .string { data := #[110, 48] }, .string { data := #[110, 105, 110, 101, 99, 104, 97, 114, 115] }, .string { data := #[101, 105, 103, 104, 116, 99, 104, 97] }, .string { data := #[78] }] 9)).cells.n0; have HD5 := Lib.hid hD5; have hq := (gcell hg5 w3.heap.size y.toNat (by simp) (by omega)).trans (pick_new w3.drew _ 9 y hvm); have hpk := pick_new w5 _ 9 y hvm; obtain ⟨nm5, lo5, hi5, hg5, hlo5, cn5, cl5, ch5, fr5⟩ := HD5.out.nodeOf hiK; have fx5 := fr5 (i * 3); obtain ⟨nm6, lo6, hi6, hg6, hlo6, cn6, cl6, ch6, fr6⟩ := (HD5.out.alloc (.cells #[.string { data := #[] }, .string { data := #[110, 48] }, .string { data := #[110, 105, 110, 101, 99, 104, 97, 114, 115] }, .string { data := #[101, 105, 103, 104, 116, 99, 104, 97] }, .string { data := #[78] }] 9)).nodeOf hiK; have fx6 := fr6 (i * 3); have HF1 := Lib.hid (HD5.out.setNode hiK (j := 0) (by omega) (set_nm hv)); have HF2 := Lib.hid ((HD5.out.alloc (.cells #[.string { data := #[] }, .string { data := #[110, 48] }, .string { data := #[110, 105, 110, 101, 99, 104, 97, 114, 115] }, .string { data := #[101, 105, 103, 104, 116, 99, 104, 97] }, .string { data := #[78] }] 9)).setNode hiK (j := 0) (by omega) (set_nm hv)); clear hD5 hs5 hg5 fr5 fr6))
    all_goals
      have ⟨hN7, hr7, n07, n17, f07, f17, r07, r17, q07, q17⟩ := HD5.out.cells
      go_wp2_with fail
      refine bodyPost_ret (v := .agg #[.slice (some ⟨g, 0, none⟩) K c1, .slice (B1) M d1]) (by simp [results, Tryz.results114, go_sem, *]) rfl ?_
      first | exact HF1.out.ret (by omega) (by omega) (by omega) _ _ | exact HF2.out.ret (by omega) (by omega) (by omega) _ _
  · obtain ⟨g, rfl, hgB, hgN, hgw⟩ := HD.out.nodeG hiK
    obtain ⟨nm, lo, hi, hg, hlo, cn, cl, ch, fr⟩ := HD.out.nodeOf hiK
    have HLB := Lib.hid (show I64 (IntKind.i64.wrap (lo - 1)) from i64_wrap _)
    clear fr
    go_wp2_with fail
    have HLO := Lib.hid (show I64 (IntKind.i64.wrap (lo - 1)) from HLB.out)
    have cA : (w3.drew.alloc (.cells #[.int .i64 (IntKind.i64.wrap (lo - 1)), .int .i64 lo, .int .i64 100000000, .int .i64 100000001] 2)).cell? ⟨N, 0, none⟩ = some (.slice (some ⟨g, 0, none⟩) K c1) := (HD.out.drew.alloc (.cells #[.int .i64 (IntKind.i64.wrap (lo - 1)), .int .i64 lo, .int .i64 100000000, .int .i64 100000001] 2)).cells.n0
    have cAl : (w3.drew.alloc (.cells #[.int .i64 (IntKind.i64.wrap (lo - 1)), .int .i64 lo, .int .i64 100000000, .int .i64 100000001] 2)).cell? ⟨g, i * 3 + 1, none⟩ = some (.int .i64 lo) := (World.cell?_alloc_lt _ _ _ hg).trans cl
    refine wp_region_held_drew (S := (fun w' => w'.cell? ⟨N, 0, none⟩ = some (.slice (some ⟨g, 0, none⟩) K c1) ∧ w'.cell? ⟨g, i * 3 + 1, none⟩ = some (.int .i64 lo))) (by kernel_rfl) ⟨n0, cl⟩ (fun hHeld => ?_)
    refine wpAnyH_take (i := 0) (v := ?_) rfl (by kernel_rfl) (by kernel_rfl) (by kernel_rfl) (fun _ _ _ h => h) (Or.inl ⟨by rfl, ?_⟩) (by assumption) ?_
    rotate_left
    · intro w hSw
      try dsimp only at hSw
      go_simp
      try with_reducible rfl
    try simp only [Act.put]
    try simp only [List.setIfInBounds_toArray]
    try simp only [List.set_cons_succ]
    try simp only [List.set_cons_zero]
    refine wpAnyH_take (i := 1) (v := ?_) rfl (by kernel_rfl) (by kernel_rfl) (by kernel_rfl) (fun _ _ _ h => h) (Or.inl ⟨by rfl, ?_⟩) (by assumption) ?_
    rotate_left
    · intro w hSw
      try dsimp only at hSw
      go_simp
      try with_reducible rfl
    try simp only [Act.put]
    try simp only [List.setIfInBounds_toArray]
    try simp only [List.set_cons_succ]
    try simp only [List.set_cons_zero]
    refine wpAnyH_take (i := 2) (v := ?_) rfl (by kernel_rfl) (by kernel_rfl) (by kernel_rfl) (fun _ _ _ h => h) (Or.inl ⟨by rfl, ?_⟩) (by assumption) ?_
    rotate_left
    · intro w hSw
      try dsimp only at hSw
      go_simp
      try with_reducible rfl
    try simp only [Act.put]
    try simp only [List.setIfInBounds_toArray]
    try simp only [List.set_cons_succ]
    try simp only [List.set_cons_zero]
    refine wpAnyH_take (i := 3) (v := ?_) rfl (by kernel_rfl) (by kernel_rfl) (by kernel_rfl) (fun _ _ _ h => h) (Or.inl ⟨by rfl, ?_⟩) (by assumption) ?_
    rotate_left
    · intro w hSw
      try dsimp only at hSw
      go_simp
      try with_reducible rfl
    try simp only [Act.put]
    try simp only [List.setIfInBounds_toArray]
    try simp only [List.set_cons_succ]
    try simp only [List.set_cons_zero]
    refine wpAnyH_take (i := 4) (v := ?_) rfl (by kernel_rfl) (by kernel_rfl) (by kernel_rfl) (fun _ _ _ h => h) (Or.inl ⟨by rfl, ?_⟩) (by assumption) ?_
    rotate_left
    · intro w hSw
      try dsimp only at hSw
      go_simp
      try with_reducible rfl
    try simp only [Act.put]
    try simp only [List.setIfInBounds_toArray]
    try simp only [List.set_cons_succ]
    try simp only [List.set_cons_zero]
    refine wpAnyH_take (i := 5) (v := ?_) rfl (by kernel_rfl) (by kernel_rfl) (by kernel_rfl) (fun _ _ _ h => h) (Or.inl ⟨by rfl, ?_⟩) (by assumption) ?_
    rotate_left
    · intro w hSw
      try dsimp only at hSw
      go_simp
      try with_reducible rfl
    try simp only [Act.put]
    try simp only [List.setIfInBounds_toArray]
    try simp only [List.set_cons_succ]
    try simp only [List.set_cons_zero]
    refine wpAnyH_take (i := 6) (v := ?_) rfl (by kernel_rfl) (by kernel_rfl) (by kernel_rfl) (fun _ _ _ h => h) (Or.inl ⟨by rfl, ?_⟩) (by assumption) ?_
    rotate_left
    · intro w hSw
      try dsimp only at hSw
      go_simp
      try with_reducible rfl
    try simp only [Act.put]
    try simp only [List.setIfInBounds_toArray]
    try simp only [List.set_cons_succ]
    try simp only [List.set_cons_zero]
    refine wpAnyH_take (i := 7) (v := ?_) rfl (by kernel_rfl) (by kernel_rfl) (by kernel_rfl) (fun _ _ _ h => h) (Or.inl ⟨by rfl, ?_⟩) (by assumption) ?_
    rotate_left
    · intro w hSw
      try dsimp only at hSw
      go_simp
      try with_reducible rfl
    try simp only [Act.put]
    try simp only [List.setIfInBounds_toArray]
    try simp only [List.set_cons_succ]
    try simp only [List.set_cons_zero]
    refine wpAnyH_take (i := 8) (v := ?_) rfl (by kernel_rfl) (by kernel_rfl) (by kernel_rfl) (fun _ _ _ h => h) (Or.inl ⟨by rfl, ?_⟩) (by assumption) ?_
    rotate_left
    · intro w hSw
      try dsimp only at hSw
      go_simp
      try with_reducible rfl
    try simp only [Act.put]
    try simp only [List.setIfInBounds_toArray]
    try simp only [List.set_cons_succ]
    try simp only [List.set_cons_zero]
    refine wpAnyH_take (i := 9) (v := ?_) rfl (by kernel_rfl) (by kernel_rfl) (by kernel_rfl) (fun _ _ _ h => h) (Or.inl ⟨by rfl, ?_⟩) (by assumption) ?_
    rotate_left
    · intro w hSw
      try dsimp only at hSw
      go_simp
      try with_reducible rfl
    try simp only [Act.put]
    try simp only [List.setIfInBounds_toArray]
    try simp only [List.set_cons_succ]
    try simp only [List.set_cons_zero]
    refine wpAnyH_take (i := 10) (v := ?_) rfl (by kernel_rfl) (by kernel_rfl) (by kernel_rfl) (fun _ _ _ h => h) (Or.inl ⟨by rfl, ?_⟩) (by assumption) ?_
    rotate_left
    · intro w hSw
      try dsimp only at hSw
      go_simp
      try with_reducible rfl
    try simp only [Act.put]
    try simp only [List.setIfInBounds_toArray]
    try simp only [List.set_cons_succ]
    try simp only [List.set_cons_zero]
    refine wpAnyH_take (i := 11) (v := ?_) rfl (by kernel_rfl) (by kernel_rfl) (by kernel_rfl) (fun _ _ _ h => h) (Or.inl ⟨by rfl, ?_⟩) (by assumption) ?_
    rotate_left
    · intro w hSw
      try dsimp only at hSw
      go_simp
      try with_reducible rfl
    try simp only [Act.put]
    try simp only [List.setIfInBounds_toArray]
    try simp only [List.set_cons_succ]
    try simp only [List.set_cons_zero]
    refine wpAnyH_take (i := 12) (v := ?_) rfl (by kernel_rfl) (by kernel_rfl) (by kernel_rfl) (fun _ _ _ h => h) (Or.inl ⟨by rfl, ?_⟩) (by assumption) ?_
    rotate_left
    · intro w hSw
      try dsimp only at hSw
      go_simp
      try with_reducible rfl
    try simp only [Act.put]
    try simp only [List.setIfInBounds_toArray]
    try simp only [List.set_cons_succ]
    try simp only [List.set_cons_zero]
    refine wpAnyH_take (i := 13) (v := ?_) rfl (by kernel_rfl) (by kernel_rfl) (by kernel_rfl) (fun _ _ _ h => h) (Or.inl ⟨by rfl, ?_⟩) (by assumption) ?_
    rotate_left
    · intro w hSw
      try dsimp only at hSw
      go_simp
      try with_reducible rfl
    try simp only [Act.put]
    try simp only [List.setIfInBounds_toArray]
    try simp only [List.set_cons_succ]
    try simp only [List.set_cons_zero]
    refine wpAnyH_take (i := 14) (v := ?_) rfl (by kernel_rfl) (by kernel_rfl) (by kernel_rfl) (fun _ _ _ h => h) (Or.inl ⟨by rfl, ?_⟩) (by assumption) ?_
    rotate_left
    · intro w hSw
      try dsimp only at hSw
      go_simp
      try with_reducible rfl
    try simp only [Act.put]
    try simp only [List.setIfInBounds_toArray]
    try simp only [List.set_cons_succ]
    try simp only [List.set_cons_zero]
    refine wpAnyH_take (i := 15) (v := ?_) rfl (by kernel_rfl) (by kernel_rfl) (by kernel_rfl) (fun _ _ _ h => h) (Or.inl ⟨by rfl, ?_⟩) (by assumption) ?_
    rotate_left
    · intro w hSw
      try dsimp only at hSw
      go_simp
      try with_reducible rfl
    try simp only [Act.put]
    try simp only [List.setIfInBounds_toArray]
    try simp only [List.set_cons_succ]
    try simp only [List.set_cons_zero]
    refine wpAnyH_take (i := 17) (v := ?_) rfl (by kernel_rfl) (by kernel_rfl) (by kernel_rfl) (fun _ _ _ h => h) (Or.inl ⟨by rfl, ?_⟩) (by assumption) ?_
    rotate_left
    · intro w hSw
      try dsimp only at hSw
      go_simp
      try with_reducible rfl
    try simp only [Act.put]
    try simp only [List.setIfInBounds_toArray]
    try simp only [List.set_cons_succ]
    try simp only [List.set_cons_zero]
    refine wpAnyH_ready (rs := [16, 18]) (by kernel_rfl) (by simp) ?_
    refine AllReadyH.cons rfl (fun K hK => ?_) ?_
    · go_simp
      refine hK.out _ _ ⟨cA, cAl⟩ (fun hHeld => ?_)
      clear hK K
      try simp only [Act.put]
      try simp only [List.setIfInBounds_toArray]
      try simp only [List.set_cons_succ]
      try simp only [List.set_cons_zero]
      refine wpAnyH_ready (rs := [18]) (by kernel_rfl) (by simp) ?_
      refine AllReadyH.cons rfl (fun K hK => ?_) ?_
      · go_simp
        refine (next_any B A n c zs 4 (w3.drew.alloc (.cells #[.int .i64 (IntKind.i64.wrap (lo - 1)), .int .i64 lo, .int .i64 100000000, .int .i64 100000001] 2)) (HD.out.drew.alloc (.cells #[.int .i64 (IntKind.i64.wrap (lo - 1)), .int .i64 lo, .int .i64 100000000, .int .i64 100000001] 2)).src.2.1 hn (by omega) (by omega)).mono ?_
        rintro e w5 ⟨y, hy0, hy1, rfl, hs5, hg5⟩
        obtain ⟨v, hv, hvm⟩ := pick_int4 (IntKind.i64.wrap (lo - 1)) lo 100000000 100000001 hy0 hy1 HLO.out hlo (i64_small (by omega) (by omega)) (i64_small (by omega) (by omega))
        have hy2 : y < 4 := by omega
        have hD5 := (HD.out.drew.alloc (.cells #[.int .i64 (IntKind.i64.wrap (lo - 1)), .int .i64 lo, .int .i64 100000000, .int .i64 100000001] 2)).next hs5 hg5
        have c5 := hD5.cells.n0
        have HD5 := Lib.hid hD5
        have hq := (gcell hg5 w3.heap.size y.toNat (by simp) (by omega)).trans (pick_new w3.drew _ 2 y hvm)
        have hpk := pick_new w5 _ 2 y hvm
        obtain ⟨nm5, lo5, hi5, hg5', hlo5, cn5, cl5, ch5, fr5⟩ := HD5.out.nodeOf hiK
        have fx5 := fr5 (i * 3 + 2)
        have cl5' : w5.cell? ⟨g, i * 3 + 1, none⟩ = some (.int .i64 lo) := (gcell hg5 g (i * 3 + 1) (by simp; omega) hgB).trans cAl
        clear hD5 hs5 hg5 fr5 cl5
        try go_simp
        refine hK.out _ _ ⟨c5, cl5'⟩ (fun hHeld => ?_)
        clear hK K
        try simp only [Act.put]
        try simp only [List.setIfInBounds_toArray]
        try simp only [List.set_cons_succ]
        try simp only [List.set_cons_zero]
        refine wpAnyH_take (i := 19) (v := ?_) rfl (by kernel_rfl) (by kernel_rfl) (by kernel_rfl) (fun _ _ _ h => h) (Or.inl ⟨by rfl, ?_⟩) (by assumption) ?_
        rotate_left
        · intro w hSw
          try dsimp only at hSw
          go_simp
          try with_reducible rfl
        try simp only [Act.put]
        try simp only [List.setIfInBounds_toArray]
        try simp only [List.set_cons_succ]
        try simp only [List.set_cons_zero]
        refine wpAnyH_ready (rs := [20]) (by kernel_rfl) (by simp) ?_
        refine AllReadyH.cons rfl (fun K hK => ?_) ?_
        · go_simp
          refine hK.out _ _ ⟨c5, cl5'⟩ (fun hHeld => ?_)
          clear hK K
          try simp only [Act.put]
          try simp only [List.setIfInBounds_toArray]
          try simp only [List.set_cons_succ]
          try simp only [List.set_cons_zero]
          refine wpAnyH_take (i := 21) (v := ?_) rfl (by kernel_rfl) (by kernel_rfl) (by kernel_rfl) (fun _ _ _ h => h) (Or.inl ⟨by rfl, ?_⟩) (by assumption) ?_
          rotate_left
          · intro w hSw
            try dsimp only at hSw
            go_simp
            try with_reducible rfl
          try simp only [Act.put]
          try simp only [List.setIfInBounds_toArray]
          try simp only [List.set_cons_succ]
          try simp only [List.set_cons_zero]
          refine wpAnyH_take (i := 22) (v := ?_) rfl (by kernel_rfl) (by kernel_rfl) (by kernel_rfl) (fun _ _ _ h => h) (Or.inl ⟨by rfl, ?_⟩) (by assumption) ?_
          rotate_left
          · intro w hSw
            try dsimp only at hSw
            go_simp
            try with_reducible rfl
          try simp only [Act.put]
          try simp only [List.setIfInBounds_toArray]
          try simp only [List.set_cons_succ]
          try simp only [List.set_cons_zero]
          refine wpAnyH_ready (rs := [23]) (by kernel_rfl) (by simp) ?_
          refine AllReadyH.cons rfl (fun K hK => ?_) ?_
          · go_simp
            have HF := Lib.hid (HD5.out.setNode hiK (j := 2) (by omega) (set_hi hv))
            refine hK.out _ _ ⟨HF.out.cells.n0, by go_simp⟩ (fun hHeld => ?_)
            clear hK K
            try simp only [Act.put]
            try simp only [List.setIfInBounds_toArray]
            try simp only [List.set_cons_succ]
            try simp only [List.set_cons_zero]
            refine wpAnyH_done (by kernel_rfl) ?_ _
            have ⟨hN7, hr7, n07, n17, f07, f17, r07, r17, q07, q17⟩ := HD5.out.cells
            go_wp2_with fail
            refine bodyPost_ret (v := .agg #[.slice (some ⟨g, 0, none⟩) K c1, .slice B1 M d1]) (by simp [results, Tryz.results114, go_sem, *]) rfl ?_
            exact HF.out.ret (by omega) (by omega) (by omega) _ _
          exact AllReadyH.nil
        exact AllReadyH.nil
      exact AllReadyH.nil
    refine AllReadyH.cons rfl (fun K hK => ?_) ?_
    · go_simp
      refine (next_any B A n c zs 4 (w3.drew) (HD.out.drew).src.2.1 hn (by omega) (by omega)).mono ?_
      rintro e w5 ⟨y, hy0, hy1, rfl, hs5, hg5⟩
      obtain ⟨v, hv, hvm⟩ := pick_int4 (IntKind.i64.wrap (lo - 1)) lo 100000000 100000001 hy0 hy1 HLO.out hlo (i64_small (by omega) (by omega)) (i64_small (by omega) (by omega))
      have hy2 : y < 4 := by omega
      have hD5 := (HD.out.drew).next hs5 hg5
      have c5 := hD5.cells.n0
      have HD5 := Lib.hid hD5
      have hpk := pick_new w5 _ 2 y hvm
      obtain ⟨nm5, lo5, hi5, hg5', hlo5, cn5, cl5, ch5, fr5⟩ := HD5.out.nodeOf hiK
      have fx5 := fr5 (i * 3 + 2)
      have cl5' : w5.cell? ⟨g, i * 3 + 1, none⟩ = some (.int .i64 lo) := (gcell hg5 g (i * 3 + 1) (by simp; omega) hgB).trans cl
      clear hD5 hs5 hg5 fr5 cl5
      try go_simp
      refine hK.out _ _ ⟨c5, cl5'⟩ (fun hHeld => ?_)
      clear hK K
      try simp only [Act.put]
      try simp only [List.setIfInBounds_toArray]
      try simp only [List.set_cons_succ]
      try simp only [List.set_cons_zero]
      refine wpAnyH_ready (rs := [16]) (by kernel_rfl) (by simp) ?_
      refine AllReadyH.cons rfl (fun K hK => ?_) ?_
      · go_simp
        have cA5 := (HD5.out.alloc (.cells #[.int .i64 (IntKind.i64.wrap (lo - 1)), .int .i64 lo, .int .i64 100000000, .int .i64 100000001] 2)).cells.n0
        have cAl5 : (w5.alloc (.cells #[.int .i64 (IntKind.i64.wrap (lo - 1)), .int .i64 lo, .int .i64 100000000, .int .i64 100000001] 2)).cell? ⟨g, i * 3 + 1, none⟩ = some (.int .i64 lo) := (World.cell?_alloc_lt _ _ _ hg5').trans cl5'
        obtain ⟨nm6, lo6, hi6, hg6, hlo6, cn6, cl6, ch6, fr6⟩ := (HD5.out.alloc (.cells #[.int .i64 (IntKind.i64.wrap (lo - 1)), .int .i64 lo, .int .i64 100000000, .int .i64 100000001] 2)).nodeOf hiK
        have fx6 := fr6 (i * 3 + 2)
        clear fr6 cl6
        refine hK.out _ _ ⟨cA5, cAl5⟩ (fun hHeld => ?_)
        clear hK K
        try simp only [Act.put]
        try simp only [List.setIfInBounds_toArray]
        try simp only [List.set_cons_succ]
        try simp only [List.set_cons_zero]
        refine wpAnyH_take (i := 19) (v := ?_) rfl (by kernel_rfl) (by kernel_rfl) (by kernel_rfl) (fun _ _ _ h => h) (Or.inl ⟨by rfl, ?_⟩) (by assumption) ?_
        rotate_left
        · intro w hSw
          try dsimp only at hSw
          go_simp
          try with_reducible rfl
        try simp only [Act.put]
        try simp only [List.setIfInBounds_toArray]
        try simp only [List.set_cons_succ]
        try simp only [List.set_cons_zero]
        refine wpAnyH_ready (rs := [20]) (by kernel_rfl) (by simp) ?_
        refine AllReadyH.cons rfl (fun K hK => ?_) ?_
        · go_simp
          refine hK.out _ _ ⟨cA5, cAl5⟩ (fun hHeld => ?_)
          clear hK K
          try simp only [Act.put]
          try simp only [List.setIfInBounds_toArray]
          try simp only [List.set_cons_succ]
          try simp only [List.set_cons_zero]
          refine wpAnyH_take (i := 21) (v := ?_) rfl (by kernel_rfl) (by kernel_rfl) (by kernel_rfl) (fun _ _ _ h => h) (Or.inl ⟨by rfl, ?_⟩) (by assumption) ?_
          rotate_left
          · intro w hSw
            try dsimp only at hSw
            go_simp
            try with_reducible rfl
          try simp only [Act.put]
          try simp only [List.setIfInBounds_toArray]
          try simp only [List.set_cons_succ]
          try simp only [List.set_cons_zero]
          refine wpAnyH_take (i := 22) (v := ?_) rfl (by kernel_rfl) (by kernel_rfl) (by kernel_rfl) (fun _ _ _ h => h) (Or.inl ⟨by rfl, ?_⟩) (by assumption) ?_
          rotate_left
          · intro w hSw
            try dsimp only at hSw
            go_simp
            try with_reducible rfl
          try simp only [Act.put]
          try simp only [List.setIfInBounds_toArray]
          try simp only [List.set_cons_succ]
          try simp only [List.set_cons_zero]
          refine wpAnyH_ready (rs := [23]) (by kernel_rfl) (by simp) ?_
          refine AllReadyH.cons rfl (fun K hK => ?_) ?_
          · go_simp
            have HF := Lib.hid (HD5.out.setNode hiK (j := 2) (by omega) (set_hi hv))
            refine hK.out _ _ ⟨(HF.out.alloc _).cells.n0, by go_simp⟩ (fun hHeld => ?_)
            clear hK K
            try simp only [Act.put]
            try simp only [List.setIfInBounds_toArray]
            try simp only [List.set_cons_succ]
            try simp only [List.set_cons_zero]
            refine wpAnyH_done (by kernel_rfl) ?_ _
            have ⟨hN7, hr7, n07, n17, f07, f17, r07, r17, q07, q17⟩ := HD5.out.cells
            go_wp2_with fail
            refine bodyPost_ret (v := .agg #[.slice (some ⟨g, 0, none⟩) K c1, .slice B1 M d1]) (by simp [results, Tryz.results114, go_sem, *]) rfl ?_
            exact (HF.out.ret (by omega) (by omega) (by omega) _ _).alloc _
          exact AllReadyH.nil
        exact AllReadyH.nil
      exact AllReadyH.nil
    exact AllReadyH.nil
  · obtain ⟨ps2, hp⟩ := HD.out.pipes
    have HP := Lib.hid hp
    have hok : okP ⟨(i : Int), (i : Int), 1, 0, 1⟩ := okP_mk (i64_small (by omega) (by omega)) (i64_small (by omega) (by omega)) (i64_small (by omega) (by omega)) (i64_small (by omega) (by omega)) (i64_small (by omega) (by omega))
    have HO := Lib.hid hok
    have hsz : w.heap.size + 1 ≤ w3.heap.size := hr
    clear hp hok
    go_wp2_with (at_builtin; refine wpList_pushR (enc := encP) w3 rfl _ _ rfl Tryz.underlying31 infoP rfl (by omega) (by omega) (w.heap.size + 1) _ _ _ _ ⟨(i : Int), (i : Int), 1, 0, 1⟩ _ rfl w3.heap.size rfl rfl rfl HP.out.1 (encP_len _) (encP_one _) (by omega) hsz ?_; intro g7 c7 w7 ho7 hb7 hg7 _; have hpu := HD.out.push HP.out HO.out ho7 hb7 hg7; have b7 := hpu.2; have hN7 := b7.lt; have n07 := b7.cell 0; have n17 := b7.cell 1; have f07 := b7.free 0; have f17 := b7.free 1; have e7 := HD.out.res.below hb7 (Nat.lt_succ_self _); have hr7 := e7.lt; have r07 := e7.cell 0; have r17 := e7.cell 1; have q07 := e7.free 0; have q17 := e7.free 1; have HF := Lib.hid hpu.1; clear hpu b7 e7 ho7 hb7 hg7)
    refine bodyPost_ret (v := .agg #[.slice A1 K c1, .slice (some ⟨g7, 0, none⟩) (M + 1) c7]) (by simp [results, Tryz.results114, go_sem, *]) rfl ?_
    exact HF.out.ret (by omega) (by omega) (by omega) _ _
  · obtain ⟨ps2, hp⟩ := HD.out.pipes
    have HP := Lib.hid hp
    have hok : okP ⟨(i : Int), (K : Int), 1, 0, 1⟩ := okP_mk (i64_small (by omega) (by omega)) (i64_small (by omega) (by omega)) (i64_small (by omega) (by omega)) (i64_small (by omega) (by omega)) (i64_small (by omega) (by omega))
    have HO := Lib.hid hok
    have hsz : w.heap.size + 1 ≤ w3.heap.size := hr
    clear hp hok
    go_wp2_with (at_builtin; refine wpList_pushR (enc := encP) w3 rfl _ _ rfl Tryz.underlying31 infoP rfl (by omega) (by omega) (w.heap.size + 1) _ _ _ _ ⟨(i : Int), (K : Int), 1, 0, 1⟩ _ rfl w3.heap.size rfl rfl rfl HP.out.1 (encP_len _) (encP_one _) (by omega) hsz ?_; intro g7 c7 w7 ho7 hb7 hg7 _; have hpu := HD.out.push HP.out HO.out ho7 hb7 hg7; have b7 := hpu.2; have hN7 := b7.lt; have n07 := b7.cell 0; have n17 := b7.cell 1; have f07 := b7.free 0; have f17 := b7.free 1; have e7 := HD.out.res.below hb7 (Nat.lt_succ_self _); have hr7 := e7.lt; have r07 := e7.cell 0; have r17 := e7.cell 1; have q07 := e7.free 0; have q17 := e7.free 1; have HF := Lib.hid hpu.1; clear hpu b7 e7 ho7 hb7 hg7)
    refine bodyPost_ret (v := .agg #[.slice A1 K c1, .slice (some ⟨g7, 0, none⟩) (M + 1) c7]) (by simp [results, Tryz.results114, go_sem, *]) rfl ?_
    exact HF.out.ret (by omega) (by omega) (by omega) _ _
  · by_cases hM : 0 < M
    · obtain ⟨g, rfl, hgB, hgN, hgw⟩ := HD.out.pipeG hM
      obtain ⟨pp, pk, pl, hg, c0, c2, c4, fr⟩ := HD.out.pipeOf hM
      clear fr
      go_wp2_with fail
      have cA : (w3.drew.alloc (.cells #[.int .i64 0, .int .i64 1000, .int .i64 1001] 2)).cell? ⟨N, 1, none⟩ = some (.slice (some ⟨g, 0, none⟩) M d1) := (HD.out.drew.alloc (.cells #[.int .i64 0, .int .i64 1000, .int .i64 1001] 2)).cells.n1
      go_region_with (first | (go_at_call 67; refine (next_any B A n c zs 3 (w3.drew) (HD.out.drew).src.2.1 hn (by omega) (by omega)).mono ?_; rintro e w5 ⟨y, hy0, hy1, rfl, hs5, hg5⟩; obtain ⟨v, hv, hvm⟩ := pick_int 0 1000 1001 hy0 hy1 (i64_small (by omega) (by omega)) (i64_small (by omega) (by omega)) (i64_small (by omega) (by omega)); have hy2 : y < 3 := (by omega); have hD5 := (HD.out.drew).next hs5 hg5; have c5 := hD5.cells.n1; have c5a := (hD5.alloc (.cells #[.int .i64 0, .int .i64 1000, .int .i64 1001] 2)).cells.n1; have HD5 := Lib.hid hD5; skip; have hpk := pick_new w5 _ 2 y hvm; obtain ⟨pp5, pk5, pl5, hg5, c05, c25, c45, fr5⟩ := HD5.out.pipeOf hM; have fx5 := fr5 (2); obtain ⟨pp6, pk6, pl6, hg6, c06, c26, c46, fr6⟩ := (HD5.out.alloc (.cells #[.int .i64 0, .int .i64 1000, .int .i64 1001] 2)).pipeOf hM; have fx6 := fr6 (2); have HF1 := Lib.hid (HD5.out.setPipe (i := 0) hM (j := 2) (by omega) (set_k hv)); have HF2 := Lib.hid ((HD5.out.alloc (.cells #[.int .i64 0, .int .i64 1000, .int .i64 1001] 2)).setPipe (i := 0) hM (j := 2) (by omega) (set_k hv)); clear hD5 hs5 hg5 fr5 fr6) | (go_at_call 67; refine (next_any B A n c zs 3 (w3.drew.alloc (.cells #[.int .i64 0, .int .i64 1000, .int .i64 1001] 2)) (HD.out.drew.alloc (.cells #[.int .i64 0, .int .i64 1000, .int .i64 1001] 2)).src.2.1 hn (by omega) (by omega)).mono ?_; rintro e w5 ⟨y, hy0, hy1, rfl, hs5, hg5⟩; obtain ⟨v, hv, hvm⟩ := pick_int 0 1000 1001 hy0 hy1 (i64_small (by omega) (by omega)) (i64_small (by omega) (by omega)) (i64_small (by omega) (by omega)); have hy2 : y < 3 := (by omega); have hD5 := (HD.out.drew.alloc (.cells #[.int .i64 0, .int .i64 1000, .int .i64 1001] 2)).next hs5 hg5; have c5 := hD5.cells.n1; have c5a := (hD5.alloc (.cells #[.int .i64 0, .int .i64 1000, .int .i64 1001] 2)).cells.n1; have HD5 := Lib.hid hD5; have hq := (gcell hg5 w3.heap.size y.toNat (by simp) (by omega)).trans (pick_new w3.drew _ 2 y hvm); have hpk := pick_new w5 _ 2 y hvm; obtain ⟨pp5, pk5, pl5, hg5, c05, c25, c45, fr5⟩ := HD5.out.pipeOf hM; have fx5 := fr5 (2); obtain ⟨pp6, pk6, pl6, hg6, c06, c26, c46, fr6⟩ := (HD5.out.alloc (.cells #[.int .i64 0, .int .i64 1000, .int .i64 1001] 2)).pipeOf hM; have fx6 := fr6 (2); have HF1 := Lib.hid (HD5.out.setPipe (i := 0) hM (j := 2) (by omega) (set_k hv)); have HF2 := Lib.hid ((HD5.out.alloc (.cells #[.int .i64 0, .int .i64 1000, .int .i64 1001] 2)).setPipe (i := 0) hM (j := 2) (by omega) (set_k hv)); clear hD5 hs5 hg5 fr5 fr6))
      all_goals
        have ⟨hN7, hr7, n07, n17, f07, f17, r07, r17, q07, q17⟩ := HD5.out.cells
        go_wp2_with fail
        refine bodyPost_ret (v := .agg #[.slice (A1) K c1, .slice (some ⟨g, 0, none⟩) M d1]) (by simp [results, Tryz.results114, go_sem, *]) rfl ?_
        first | exact HF1.out.ret (by omega) (by omega) (by omega) _ _ | exact HF2.out.ret (by omega) (by omega) (by omega) _ _
    · go_wp2_with fail
      refine bodyPost_ret (v := .agg #[.slice A1 K c1, .slice B1 M d1]) (by simp [results, Tryz.results114, go_sem, *]) rfl ?_
      exact HD.out.ret (by omega) (by omega) (by omega) _ _
  · by_cases hM : 0 < M
    · obtain ⟨g, rfl, hgB, hgN, hgw⟩ := HD.out.pipeG hM
      obtain ⟨pp, pk, pl, hg, c0, c2, c4, fr⟩ := HD.out.pipeOf hM
      clear fr
      go_wp2_with fail
      have cA : (w3.drew.alloc (.cells #[.int .i64 0, .int .i64 30000, .int .i64 30001] 2)).cell? ⟨N, 1, none⟩ = some (.slice (some ⟨g, 0, none⟩) M d1) := (HD.out.drew.alloc (.cells #[.int .i64 0, .int .i64 30000, .int .i64 30001] 2)).cells.n1
      go_region_with (first | (go_at_call 67; refine (next_any B A n c zs 3 (w3.drew) (HD.out.drew).src.2.1 hn (by omega) (by omega)).mono ?_; rintro e w5 ⟨y, hy0, hy1, rfl, hs5, hg5⟩; obtain ⟨v, hv, hvm⟩ := pick_int 0 30000 30001 hy0 hy1 (i64_small (by omega) (by omega)) (i64_small (by omega) (by omega)) (i64_small (by omega) (by omega)); have hy2 : y < 3 := (by omega); have hD5 := (HD.out.drew).next hs5 hg5; have c5 := hD5.cells.n1; have c5a := (hD5.alloc (.cells #[.int .i64 0, .int .i64 30000, .int .i64 30001] 2)).cells.n1; have HD5 := Lib.hid hD5; skip; have hpk := pick_new w5 _ 2 y hvm; obtain ⟨pp5, pk5, pl5, hg5, c05, c25, c45, fr5⟩ := HD5.out.pipeOf hM; have fx5 := fr5 (4); obtain ⟨pp6, pk6, pl6, hg6, c06, c26, c46, fr6⟩ := (HD5.out.alloc (.cells #[.int .i64 0, .int .i64 30000, .int .i64 30001] 2)).pipeOf hM; have fx6 := fr6 (4); have HF1 := Lib.hid (HD5.out.setPipe (i := 0) hM (j := 4) (by omega) (set_l hv)); have HF2 := Lib.hid ((HD5.out.alloc (.cells #[.int .i64 0, .int .i64 30000, .int .i64 30001] 2)).setPipe (i := 0) hM (j := 4) (by omega) (set_l hv)); clear hD5 hs5 hg5 fr5 fr6) | (go_at_call 67; refine (next_any B A n c zs 3 (w3.drew.alloc (.cells #[.int .i64 0, .int .i64 30000, .int .i64 30001] 2)) (HD.out.drew.alloc (.cells #[.int .i64 0, .int .i64 30000, .int .i64 30001] 2)).src.2.1 hn (by omega) (by omega)).mono ?_; rintro e w5 ⟨y, hy0, hy1, rfl, hs5, hg5⟩; obtain ⟨v, hv, hvm⟩ := pick_int 0 30000 30001 hy0 hy1 (i64_small (by omega) (by omega)) (i64_small (by omega) (by omega)) (i64_small (by omega) (by omega)); have hy2 : y < 3 := (by omega); have hD5 := (HD.out.drew.alloc (.cells #[.int .i64 0, .int .i64 30000, .int .i64 30001] 2)).next hs5 hg5; have c5 := hD5.cells.n1; have c5a := (hD5.alloc (.cells #[.int .i64 0, .int .i64 30000, .int .i64 30001] 2)).cells.n1; have HD5 := Lib.hid hD5; have hq := (gcell hg5 w3.heap.size y.toNat (by simp) (by omega)).trans (pick_new w3.drew _ 2 y hvm); have hpk := pick_new w5 _ 2 y hvm; obtain ⟨pp5, pk5, pl5, hg5, c05, c25, c45, fr5⟩ := HD5.out.pipeOf hM; have fx5 := fr5 (4); obtain ⟨pp6, pk6, pl6, hg6, c06, c26, c46, fr6⟩ := (HD5.out.alloc (.cells #[.int .i64 0, .int .i64 30000, .int .i64 30001] 2)).pipeOf hM; have fx6 := fr6 (4); have HF1 := Lib.hid (HD5.out.setPipe (i := 0) hM (j := 4) (by omega) (set_l hv)); have HF2 := Lib.hid ((HD5.out.alloc (.cells #[.int .i64 0, .int .i64 30000, .int .i64 30001] 2)).setPipe (i := 0) hM (j := 4) (by omega) (set_l hv)); clear hD5 hs5 hg5 fr5 fr6))
      all_goals
        have ⟨hN7, hr7, n07, n17, f07, f17, r07, r17, q07, q17⟩ := HD5.out.cells
        go_wp2_with fail
        refine bodyPost_ret (v := .agg #[.slice (A1) K c1, .slice (some ⟨g, 0, none⟩) M d1]) (by simp [results, Tryz.results114, go_sem, *]) rfl ?_
        first | exact HF1.out.ret (by omega) (by omega) (by omega) _ _ | exact HF2.out.ret (by omega) (by omega) (by omega) _ _
    · go_wp2_with fail
      refine bodyPost_ret (v := .agg #[.slice A1 K c1, .slice B1 M d1]) (by simp [results, Tryz.results114, go_sem, *]) rfl ?_
      exact HD.out.ret (by omega) (by omega) (by omega) _ _
  · have HF := Lib.hid HD.out.noNodes
    go_wp2_with fail
    refine bodyPost_ret (v := .agg #[.slice none 0 0, .slice B1 M d1]) (by simp [results, Tryz.results114, go_sem, *]) rfl ?_
    exact HF.out.ret (by omega) (by omega) (by omega) _ _
  · go_wp2_with fail
    refine bodyPost_ret (v := .agg #[.slice A1 K c1, .slice B1 M d1]) (by simp [results, Tryz.results114, go_sem, *]) rfl ?_
    exact HD.out.ret (by omega) (by omega) (by omega) _ _
end Go.Proofs.YtpgegfnhokhlmabGreat
