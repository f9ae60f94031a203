/- What l05DrawLoops, l05DrawFlows, l16Draw do, by walks over their text. Condition: a source over at most 4096 bytes. -/
import Derived.Test.YtpgegfnhokhlmabGreatNDraw4
import Derived.Deep.Cut
set_option linter.unusedVariables false
set_option maxRecDepth 100000
namespace Go.Proofs.YtpgegfnhokhlmabGreat
open Go.ChangeShapes Go.WideShapes Go.ChangeAt Go.RowKit Go.Joins Go.Deep
attribute [local go_sem ↓] Go.wp_at_zero Go.wp_at_succ

theorem DN.pushBox {w W W' : World} {B : Nat} {A : Option Addr} {n c : Nat} {zs : List Int} {A1 : Option Addr} {k c1 : Nat} {ns : List Nd} {B1 : Option Addr} {m d1 : Nat} {ps : List Pp} {N : Nat} {cs : Array Value} {o : Obj} (h : DN w W B A n c zs A1 k c1 ns B1 m d1 ps) (hb : Box W N cs 33) (hg : (W.alloc o).grownBy W' (B1.map (·.block))) : Box W' N cs 33 :=
  (hb.alloc o).grown hg (fun hE => own_box_ne (h.pipes.1.alloc o).1 (hb.alloc o) (by decide) N hE rfl)
set_option maxHeartbeats 1600000 in
theorem loops_any (B : Nat) (A : Option Addr) (n c : Nat) (zs : List Int) (w : World) (h : Src w B A n c zs) (hn : n ≤ 4096) :
    Calls Tryz.prog 113 #[.pointer (some ⟨B, 0, none⟩)] w (RetNetD w B A n c zs 1 7 11) := by
  have hlt := h.lt
  have hR0 := box_new w #[.slice none 0 0, .slice none 0 0] 33
  have hd0 := (NS.start h).alloc (.cells #[.slice none 0 0, .slice none 0 0] 33)
  have hs0 : (w.alloc (.cells #[.slice none 0 0, .slice none 0 0] 33)).heap.size = w.heap.size + 1 := by simp
  go_enter Tryz.func113, Tryz.ntmps113
  go_wp2_with fail
  generalize w.alloc (.cells #[.slice none 0 0, .slice none 0 0] 33) = W0 at *
  refine (draw_any _ _ _ _ _ _ hd0.2.1 hn).mono ?_
  rintro e w1 ⟨A1, c1, B1, d1, ns, ps, rfl, ho, hk1, hk7, hm9, hn1⟩
  have hd1 := hd0.then_ hn1
  have hR1 := hR0.grown hn1.2.2 (fun hh => by injection hh with hh; omega)
  have hl1 := hR1.lt
  obtain ⟨K, hK⟩ : ∃ y, ns.length = y := ⟨_, rfl⟩
  obtain ⟨M, hM⟩ : ∃ y, ps.length = y := ⟨_, rfl⟩
  rw [hs0] at ho
  rw [hK, hM] at ho ⊢
  rw [hK] at hk1 hk7
  rw [hM] at hm9
  have hDN : DN w (w1.alloc (.cells #[.slice A1 K c1, .slice B1 M d1] 33)) B A n c zs A1 K c1 ns B1 M d1 ps :=
    ⟨hd1.alloc _, hR1.alloc _, ho.nodes.below ((Below.refl _ _).alloc (Nat.le_refl _) _), ho.pipes.below ((Below.refl _ _).alloc (Nat.le_refl _) _)⟩
  have hbx := box_new w1 #[.slice A1 K c1, .slice B1 M d1] 33
  clear hd0 hR0 hn1 hd1 hR1 ho hK hM hs0
  go_upto_region 2 with fail
  generalize w1.alloc (.cells #[.slice A1 K c1, .slice B1 M d1] 33) = W1 at *
  generalize w1.heap.size = N at *
  have xl := hbx.lt
  have x0 : W1.cell? ⟨N, 0, none⟩ = some (.slice A1 K c1) := hbx.cell 0
  have x1 : W1.cell? ⟨N, 1, none⟩ = some (.slice B1 M d1) := hbx.cell 1
  have hW1 := hDN.lt
  go_upto_region 4 with (at_builtin; refine wpList_catR (enc := encP) (W1.alloc (.cells #[] 98)) rfl _ _ rfl Tryz.underlying31 infoP rfl (by omega) (by omega) W1.heap.size _ _ _ _ _ _ _ ps hDN.pipes.nil_ rfl rfl (ownR_empty _ _ _ W1 W1.heap.size (Nat.le_refl _)) (hDN.pipes.reads.alloc _).1 (fun y _ => encP_len y) (fun y _ => encP_one y) (by omega) (by omega) (by simp) ?_; intro A2 c2 w3 ho3 hb3 hg3 _)
  rw [Nat.zero_add, List.nil_append] at ho3
  have hb3' : Below W1.heap.size W1 w3 := ((Below.refl _ _).alloc (Nat.le_refl _) _).trans hb3
  have hd3 : DN w w3 B A n c zs A1 K c1 ns A2 M c2 ps := ⟨hDN.src.belowN (hb3'.mono (by omega)), hDN.res.belowA hb3', hDN.nodes.below hb3', ⟨ho3.mono hDN.lt, hDN.pipes.2⟩⟩
  have bx3 := hbx.belowA hb3'
  have hcs := Lib.hid (show ∀ W, Box W N #[.slice A1 K c1, .slice B1 M d1] 33 → W.cell? ⟨N, 0, none⟩ = some (.slice A1 K c1) from fun W hB => hB.cell 0)
  clear hDN hbx hb3 hg3 ho3 hb3' x0 x1 xl
  go_wp2_with fail
  refine (next_any _ _ _ _ _ _ _ hd3.src.2.1 hn (by omega) (by omega)).mono ?_
  rintro e w2 ⟨y, hy0, hy1, rfl, hs2, hg2⟩
  have hd2 := hd3.next hs2 hg2
  have bx2 := bx3.grown hg2 (fun hh => by injection hh with hh; omega)
  clear hd3 bx3 hs2 hg2
  go_wp2_with fail
  generalize (#[.slice A1 K c1, .slice B1 M d1] : Array Value) = bc at bx2 hcs
  go_loopw [6, 5] (fun jj pp wr => ∃ (j : Int) (B1 : Option Addr) (m d1 : Nat) (ps : List Pp), 0 ≤ j ∧ j ≤ 2 ∧ jj = .int .i64 j ∧ pp = .slice B1 m d1 ∧ (m : Int) + j ≤ 11 ∧ DN w wr B A n c zs A1 K c1 ns B1 m d1 ps ∧ Box wr N bc 33) (fun jj _ _ => (intOf jj).toNat)
  case atStart => exact ⟨y, _, _, _, _, hy0, by omega, rfl, rfl, by omega, hd2, bx2⟩
  case round =>
    obtain ⟨j, B1, m, d1, ps, hj0, hj2, rfl, rfl, hmj, hd, hbx⟩ := hrel
    clear hd2 bx2
    by_cases hj : 0 < j ∧ 1 < K
    · obtain ⟨hj, hK1⟩ := hj
      go_wp2_with fail
      refine (next_any _ _ _ _ _ _ _ hd.src.2.1 hn (by omega) (by omega)).mono ?_
      rintro e w3 ⟨a, ha0, ha1, rfl, hs3, hg3⟩
      have hd3 := hd.next hs3 hg3
      have bx3 := hbx.grown hg3 (fun hh => by injection hh with hh; omega)
      have ha7 : a ≤ 7 := by omega
      clear hd hs3 hg3 hbx
      go_wp2_with fail
      refine (next_any _ _ _ _ _ _ _ hd3.src.2.1 hn (by omega) (by omega)).mono ?_
      rintro e w4 ⟨z, hz0, hz1, rfl, hs4, hg4⟩
      have hd4 := hd3.next hs4 hg4
      have bx4 := bx3.grown hg4 (fun hh => by injection hh with hh; omega)
      have hz7 : z ≤ 7 := by omega
      have hix := pipe_ix ha0 ha7 hz0 hz7 (show (1 : Int) < (K : Int) by omega) (show (K : Int) ≤ 7 by omega)
      have hne : ((K : Int) == 0) = false := by simp; omega
      clear hd3 hs4 hg4 bx3
      go_wp2_with fail
      generalize (a + 1 + z) % (K : Int) = ix at *
      refine (drawPipe_any _ _ _ _ _ a ix _ hd4.src.2.1 hn (WalkArith.wf_i64 (by omega)) hix).mono ?_
      rintro e w6 ⟨q, rfl, hq, hn6⟩
      have hd6 := hd4.then_ hn6
      have bx6 := bx4.grown hn6.2.2 (fun hh => by injection hh with hh; omega)
      have hl6 := hd6.lt
      clear hd4 hn6 bx4
      go_wp2_with (at_builtin; refine wpList_pushR (enc := encP) w6 rfl _ _ rfl Tryz.underlying31 infoP rfl (by omega) (by omega) (w.heap.size + 1) _ _ _ _ q _ rfl w6.heap.size rfl rfl rfl hd6.pipes.1 (encP_len q) (encP_one q) (by omega) hd6.lt ?_; intro g7 c7 w7 ho7 hb7 hg7 _)
      have hd7 := hd6.pushP hq ho7 hb7 hg7
      have bx7 := hd6.pushBox bx6 hg7
      clear hd6 hl6 ho7 hb7 hg7 bx6
      go_roundw
      case rel => exact ⟨j - 1, _, _, _, _, by omega, by omega, rfl, rfl, by omega, hd7, bx7⟩
      case measure => simp [intOf]; omega
    · have hR := hd.res
      have r0 := hR.cell 0
      have r1 := hR.cell 1
      have f0 := hR.free 0
      have f1 := hR.free 1
      have hl := hR.lt
      have x0 := hcs.out wr hbx
      have xl := hbx.lt
      have HD := Lib.hid hd
      have hj' : ((0 < j) = False) ∨ (0 < j ∧ ¬ (1 : Int) < (K : Int)) := by
        by_cases h1 : 0 < j
        · exact .inr ⟨h1, fun h2 => hj ⟨h1, by omega⟩⟩
        · exact .inl (by simpa using h1)
      clear hR hd hj hbx
      rcases hj' with h1 | ⟨h1, h2⟩
      all_goals
        go_wp2_with fail
        refine bodyPost_ret (v := .agg #[.slice A1 K c1, .slice B1 m d1]) (by simp [results, Tryz.results113, go_sem, r0, r1]) rfl (retNetD_of HD.out (by omega) (by omega) (by omega) _ _)
end Go.Proofs.YtpgegfnhokhlmabGreat
