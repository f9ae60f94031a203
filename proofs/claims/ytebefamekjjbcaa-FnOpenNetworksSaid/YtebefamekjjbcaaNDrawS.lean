/- What DrawIsSettings, DrawSettingsText, DrawSpreadFlows do, by walks over their text. Condition: a source over at most 4096 bytes. -/
import Derived.Test.YtebefamekjjbcaaNDrawC
import Derived.Test.YtebefamekjjbcaaNDrawD
import Derived.Test.YtebefamekjjbcaaOpenN
import Derived.Test.YtebefamekjjbcaaKS
set_option linter.unusedVariables false
set_option maxRecDepth 100000
namespace Go.Proofs.Ytebefamekjjbcaa
open Go.ChangeShapes Go.WideShapes Go.ChangeAt Go.RowKit Go.Joins Go.Deep
attribute [local go_sem ↓] Go.wp_at_zero Go.wp_at_succ

theorem opPs_len (ns : List Nd) (ps : List Pp) (m : Nat) (zs : List Int) : (opPs ns ps m zs).length ≤ m := by
  unfold opPs
  split
  · exact opP_len _ _ _
  · simp
theorem D9.retC {w v W : World} {B : Nat} {A : Option Addr} {n c : Nat} {zs : List Int} {N : Nat} {A1 : Option Addr} {c1 : Nat} {ns : List Nd} {B1 : Option Addr} {d1 : Nat} {ps : List Pp} {A2 : Option Addr} {e2 : Nat} {xs : List Int} {M : Nat} {A3 : Option Addr} {l3 e3 : Nat} {ys : List Int} (h : D9 v W B A n c zs w.heap.size N A1 c1 ns B1 d1 ps A2 e2 xs M A3 l3 e3 ys) (hw : Below w.heap.size w v) (hk : ns.length ≤ 7) (hm : ps.length ≤ 11) (hx : xs.length ≤ 1000) (u0 u1 : Value) :
    RetDN3 w (.returned (.tuple #[.agg #[.slice A1 ns.length c1, .slice B1 ps.length d1], .slice A2 xs.length e2, .slice (some ⟨W.heap.size, 0, none⟩) 1 1])) (((W.setCell ⟨w.heap.size, 0, none⟩ u0).setCell ⟨w.heap.size, 1, none⟩ u1).alloc (.cells #[.int .i64 1] 2)) := by
  have h1 := h.hR
  have h2 := h.hB
  have h3 := h.hN
  have h4 := h.hM
  have h5 := h.src.size
  have hW := hw.grown h.src.2.2 (by omega) (fun k hk => by injection hk with hk; omega)
  have ho : Own (((W.setCell ⟨w.heap.size, 0, none⟩ u0).setCell ⟨w.heap.size, 1, none⟩ u1).alloc (.cells #[.int .i64 1] 2)) w.heap.size (some ⟨W.heap.size, 0, none⟩) 1 1 [1] := by
    have := own_one ((W.setCell ⟨w.heap.size, 0, none⟩ u0).setCell ⟨w.heap.size, 1, none⟩ u1) w.heap.size 1 (by decide) (by simp; omega)
    simpa using this
  exact ⟨A1, c1, B1, d1, ns, ps, A2, e2, xs, some ⟨W.heap.size, 0, none⟩, 1, [1], rfl, (((h.net.low (by simp; omega) u0).low (by simp; omega) u1).mono (by omega)).below ((Below.refl _ _).alloc (Nat.le_refl _) _), (((h.sup.low (a := ⟨w.heap.size, 0, none⟩) (by simp; omega) u0).low (a := ⟨w.heap.size, 1, none⟩) (by simp; omega) u1).mono (by omega)).alloc _, ho, hk, hm, hx, by decide, ((hW.setCell (p := ⟨w.heap.size, 0, none⟩) (Nat.le_refl _) _).setCell (p := ⟨w.heap.size, 1, none⟩) (Nat.le_refl _) _).alloc (by simp; omega) _⟩
set_option maxHeartbeats 8000000 in
theorem drawSpF_any (A : Option Addr) (n c : Nat) (zs : List Int) (w : World) (h : Byts w A n zs) (hn : n ≤ 4096) :
    Calls Try.prog 5 #[.slice A n c] w (RetDN3 w) := by
  have bR := box_new w #[.slice none 0 0, .slice none 0 0] 27
  have hw0 : Below w.heap.size w (w.alloc (.cells #[.slice none 0 0, .slice none 0 0] 27)) := (Below.refl _ _).alloc (Nat.le_refl _) _
  have hs0 : w.heap.size + 1 ≤ (w.alloc (.cells #[.slice none 0 0, .slice none 0 0] 27)).heap.size := by simp
  have hy0 := h.below hw0
  go_enter Try.func5, Try.ntmps5
  go_wp2_with fail
  generalize (w.alloc (.cells #[.slice none 0 0, .slice none 0 0] 27)) = V at *
  refine (from_any _ _ _ _ _ hy0 hn).mono ?_
  rintro e w1 ⟨rfl, hs1, hb1⟩
  have HW1 := Lib.hid (bthen hw0 hb1 hw0.size)
  have bR1 := bR.belowA hb1
  have hv1 := hs1.lt
  generalize V.heap.size = B at *
  clear hy0 hb1 bR hw0
  go_wp2_with fail
  refine (chordD_any _ _ _ _ _ _ hs1 hn).mono ?_
  rintro e w2 ⟨A1, c1, B1, d1, ns, ps, x, rfl, oN, hk, hm, hd2⟩
  have bR2 := bR1.grown hd2.2.2 (fun hh => by injection hh with hh; omega)
  have hz2 := hd2.size
  have hD : D9 w1 (w2.alloc (.cells #[.slice A1 ns.length c1, .slice B1 ps.length d1] 27)) B A n c zs w.heap.size w2.heap.size A1 c1 ns B1 d1 ps none 0 [] (w2.heap.size + 1) none 0 0 [] :=
    ⟨hd2.alloc _, bR2.alloc _, box_new _ _ _, oN.below ((Below.refl _ _).alloc (Nat.le_refl _) _), own_nil _ _, (fun g hg => by cases hg), own_nil _ _, by omega, by omega, hz2, by omega⟩
  clear hd2 bR1 hs1 bR2 oN
  go_upto_region 3 with fail
  generalize (w2.alloc (.cells #[.slice A1 ns.length c1, .slice B1 ps.length d1] 27)) = W2 at *
  generalize w2.heap.size = N at *
  have ⟨hN, hr, n0, n1, r0, r1, q0, q1⟩ := hD.cells
  clear r0 r1 q0 q1 hr
  go_wp2_with fail
  refine (settD_any _ _ _ _ _ _ _ _ _ _ _ _ hD.src.2.1 hn (by omega)).mono ?_
  rintro e w3 ⟨A3, e3, xs, rfl, o3, hl3, hn3⟩
  have hz3 := hn3.size
  have hD3 := (hD.then_ hn3).list1 (M' := w3.heap.size) (by omega) (o3.mono (by have := hD.src.size; omega)) (fun g hg => (o3.lt g hg).2)
  clear hD o3 hn3 n0 n1
  have ⟨hN3, hr3, n03, n13, r03, r13, q03, q13⟩ := hD3.cells
  clear r03 r13 q03 q13
  obtain ⟨K, hK⟩ : ∃ y, codeS ns ps ps.length xs = y := ⟨_, rfl⟩
  have HK := Lib.hid hK
  have HPL := Lib.hid (opPs_len ns ps ps.length xs)
  clear hK
  go_wp2_with fail
  refine (sOpenN_any _ _ _ _ _ _ _ _ ns ps xs _ hD3.net.reads hD3.sup.ints (by omega)).mono ?_
  rw [HK.out]
  rintro e w4 ⟨A4, c4, B4, d4, Z4, f4, rfl, oN4, oZ4, hb4⟩
  obtain ⟨k4, hk4⟩ : ∃ y, (opNs ns ps ps.length xs).length = y := ⟨_, rfl⟩
  obtain ⟨m4, hm4⟩ : ∃ y, (opPs ns ps ps.length xs).length = y := ⟨_, rfl⟩
  have hm4b : m4 ≤ 11 := by rw [← hm4]; have := HPL.out; omega
  have hD4 := (hD3.below hb4).alloc (.cells #[.slice A4 (opNs ns ps ps.length xs).length c4, .slice B4 (opPs ns ps ps.length xs).length d4] 27)
  have bO := box_new w4 #[.slice A4 (opNs ns ps ps.length xs).length c4, .slice B4 (opPs ns ps ps.length xs).length d4] 27
  have hO := hD3.src.1.lt
  have hBO : B < w4.heap.size := by have := hD3.hB; have := hD3.src.size; have := hb4.size; omega
  rw [hk4, hm4] at hD4 bO ⊢
  clear hD3 oN4 oZ4 hb4 n03 n13 hN3 hr3 hk4 hm4 hO
  go_upto_region 5 with fail
  generalize (w4.alloc (.cells #[.slice A4 k4 c4, .slice B4 m4 d4] 27)) = W4 at *
  generalize w4.heap.size = NO at *
  by_cases hK0 : K = 0
  case neg =>
    have t1 : (K != 0) = true := by simpa using hK0
    have ⟨hN4, hr4, n04, n14, r04, r14, q04, q14⟩ := hD4.cells
    have HD4 := Lib.hid hD4
    clear hK0 hD4 bO
    go_wp2_with fail
    refine bodyPost_ret (v := .tuple #[.agg #[.slice A1 ns.length c1, .slice B1 ps.length d1], .slice A3 xs.length e3, .slice (some ⟨W4.heap.size, 0, none⟩) 1 1]) (by simp [results, Try.results5, go_sem, *]) rfl (HD4.out.retC HW1.out hk hm (by omega) _ _)
  case pos =>
  subst hK0
  have HD4 := Lib.hid hD4.drew
  have HBO := Lib.hid bO.drew
  have ⟨hN4, hr4, n04, n14, r04, r14, q04, q14⟩ := hD4.cells
  have ol := bO.lt
  have o0 : W4.cell? ⟨NO, 0, none⟩ = some (.slice A4 k4 c4) := bO.cell 0
  have o1 : W4.cell? ⟨NO, 1, none⟩ = some (.slice B4 m4 d4) := bO.cell 1
  clear hD4 bO
  go_upto_region 7 with fail
  go_region_with (go_at_call 18; refine (flowsD_any _ _ _ _ _ _ _ _ m4 _ _ W4.drew HD4.out.src.2.1 hn (by omega)).mono ?_; rintro e5 w5 ⟨A5, e5', us, rfl, o5, hl5, hn5⟩; have HD5 := Lib.hid ((HD4.out.then_ hn5).list HD4.out.lowW HD4.out.box.lt o5); have ⟨hN5, hr5, n05, n15, r05, r15, q05, q15⟩ := HD5.out.cells; have bO5 := HBO.out.grown hn5.2.2 (fun hh => by injection hh with hh; omega); have ol5 := bO5.lt; have o05 : w5.cell? ⟨NO, 0, none⟩ = some (.slice A4 k4 c4) := bO5.cell 0; have o15 : w5.cell? ⟨NO, 1, none⟩ = some (.slice B4 m4 d4) := bO5.cell 1; clear bO5 hn5 o5)
  all_goals
    try go_wp2_with fail
    refine bodyPost_ret (v := .tuple #[.agg #[.slice A1 ns.length c1, .slice B1 ps.length d1], .slice A3 xs.length e3, .slice A5 us.length e5']) (by simp [results, Try.results5, go_sem, *]) rfl (HD5.out.retB HW1.out hk hm (by omega) (by omega) _ _)
end Go.Proofs.Ytebefamekjjbcaa
