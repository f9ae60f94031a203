/- What ChordsOf of the reference, l02DrawIndex, l05DrawChord do, by walks over their text. Condition: a source over at most 4096 bytes. -/
import Derived.Test.YtpgegfnhokhlmabNDraw7
import Derived.Test.YtpgegfnhokhlmabKS
import Derived.Test.YtpgegfnhokhlmabScale
import Derived.Deep.DeepCutAuto
set_option linter.unusedVariables false
set_option maxRecDepth 100000
namespace Go.Proofs.Ytpgegfnhokhlmab
open Go.ChangeShapes Go.WideShapes Go.ChangeAt Go.RowKit Go.Joins Go.Deep
attribute [local go_sem ↓] Go.wp_at_zero Go.wp_at_succ

/-- What ChordsOf returns. -/
noncomputable def chL (ns : List Nd) (ps : List Pp) (n : Nat) : List Int := @ite _ (NetOk ns ps) (Classical.propDecidable _) (cN (chd (esOf ps) n)) []
noncomputable def chC (ns : List Nd) (ps : List Pp) : Int := @ite _ (NetOk ns ps) (Classical.propDecidable _) 0 1
theorem ch_ok {ns : List Nd} {ps : List Pp} {n : Nat} (h : NetOk ns ps) : chL ns ps n = cN (chd (esOf ps) n) ∧ chC ns ps = 0 := ⟨if_pos h, if_pos h⟩
theorem ch_no {ns : List Nd} {ps : List Pp} {n : Nat} (h : ¬ NetOk ns ps) : chL ns ps n = [] ∧ chC ns ps = 1 := ⟨if_neg h, if_neg h⟩
set_option maxHeartbeats 4000000 in
theorem sChordsOf_any (A B : Option Addr) (n c m d : Nat) (ns : List Nd) (ps : List Pp) (w : World) (h : IsNet w A n c ns B m d ps) :
    Calls Try.prog 50 #[.agg #[.slice A n c, .slice B m d]] w (RetInts2 w (chL ns ps n) (chC ns ps)) := by
  have hV : Below w.heap.size w (w.alloc (.cells #[.slice A n c, .slice B m d] 27)) := (Below.refl _ _).alloc (Nat.le_refl _) _
  have bx := box_new w #[.slice A n c, .slice B m d] 27
  go_enter Try.func50, Try.ntmps50
  go_upto_region 1 with fail
  generalize (w.alloc (.cells #[.slice A n c, .slice B m d] 27)) = V at *
  have xl := bx.lt
  have x0 : V.cell? ⟨w.heap.size, 0, none⟩ = some (.slice A n c) := bx.cell 0
  have x1 : V.cell? ⟨w.heap.size, 1, none⟩ = some (.slice B m d) := bx.cell 1
  go_wp2_with fail
  refine (sIsNetw_any _ _ _ _ _ _ ns ps _ (h.below hV)).mono ?_
  rintro e1 w1 ⟨b, hb, rfl, hb1⟩
  have hW1 := bthen hV hb1 hV.size
  have bx1 := bx.belowA hb1
  have HB := Lib.hid hb
  clear x0 x1 xl hb1 hb bx
  have xl := bx1.lt
  have x0 : w1.cell? ⟨w.heap.size, 0, none⟩ = some (.slice A n c) := bx1.cell 0
  have x1 : w1.cell? ⟨w.heap.size, 1, none⟩ = some (.slice B m d) := bx1.cell 1
  cases b
  · obtain ⟨k1, k2⟩ := ch_no (n := n) (fun hh => absurd (HB.out.2 hh) (by simp))
    have H1 := Lib.hid k1
    have H2 := Lib.hid k2
    clear k1 k2
    go_wp2_with fail
    go_ret2
    rw [H1.out, H2.out]
    exact retInts2_nil _ hW1
  · have hok := HB.out.1 rfl
    have HOK := Lib.hid hok
    obtain ⟨k1, k2⟩ := ch_ok (n := n) hok
    have H1 := Lib.hid k1
    have H2 := Lib.hid k2
    clear k1 k2 hok HB
    go_wp2_with fail
    refine (sChords_any _ _ _ _ _ _ ns ps _ (h.below hW1) HOK.out).mono ?_
    rintro e2 w2 ⟨A2, c2, rfl, o2, hb2⟩
    have hs1 := hW1.size
    go_wp2_with fail
    go_ret2
    rw [H1.out, H2.out]
    exact ⟨A2, c2, rfl, o2.mono hs1, bthen hW1 hb2 hW1.size⟩
set_option maxHeartbeats 4000000 in
theorem indexD_any (B : Nat) (A : Option Addr) (n c m : Nat) (zs : List Int) (w : World) (h : Src w B A n c zs) (hn : n ≤ 4096) (hm : m ≤ 1000) :
    Calls Try.prog 51 #[.pointer (some ⟨B, 0, none⟩), .int .i64 (m : Int)] w fun e w' => ∃ x, e = .returned (.int .i64 x) ∧ I64 x ∧ NS w w' B A n c zs := by
  have hlt := h.lt
  have hS := NS.start h
  go_enter Try.func51, Try.ntmps51
  go_wp2_with fail
  refine (next_any _ _ _ _ _ _ _ h hn (by omega) (by omega)).mono ?_
  rintro e w1 ⟨x, hx0, hx1, rfl, hs1, hg1⟩
  have hS1 := hS.next hs1 hg1
  clear hS hs1 hg1
  go_wp2_with fail
  refine (next_any _ _ _ _ _ _ _ hS1.2.1 hn (by omega) (by omega)).mono ?_
  rintro e w2 ⟨y, hy0, hy1, rfl, hs2, hg2⟩
  have hS2 := hS1.next hs2 hg2
  clear hS1 hs2 hg2
  obtain ⟨q, hq⟩ : ∃ q, y / 15 = q := ⟨_, rfl⟩
  have hqb : q = 0 ∨ q = 1 := by omega
  have hpb : 0 ≤ q * (m : Int) ∧ q * (m : Int) ≤ 1000 := by rcases hqb with rfl | rfl <;> omega
  have HP := Lib.hid hpb
  obtain ⟨p, hp⟩ : ∃ p, q * (m : Int) = p := ⟨_, rfl⟩
  rw [hp] at hpb
  have s1 : IntKind.i64.wrap (q * (m : Int)) = q * (m : Int) := IntWalk.i64_in _ (by omega)
  have s2 : IntKind.i64.wrap (x + q * (m : Int)) = x + q * (m : Int) := IntWalk.i64_in _ (by omega)
  have hpb2 := HP.out
  clear hp hqb hpb p
  go_upto_region 2 with (first | (go_at_call 48; refine (next_any _ _ _ _ _ _ _ hS2.2.1 hn (by omega) (by omega)).mono ?_; rintro e w3 ⟨z, hz0, hz1, rfl, hs3, hg3⟩; have HS3 := Lib.hid (hS2.next hs3 hg3); have hzq : 0 ≤ z / 23 ∧ z / 23 ≤ 1 := (by omega); have s3 : IntKind.i64.wrap (x + q * (m : Int) - z / 23) = x + q * (m : Int) - z / 23 := IntWalk.i64_in _ (by omega)))
  have HI := Lib.hid (show I64 (x + q * (m : Int) - z / 23) from WalkArith.wf_i64 (by omega))
  go_ret
  exact ⟨_, rfl, HI.out, HS3.out⟩
/-- A call draws a network and a number. -/
def RetNetX (w : World) (B : Nat) (A : Option Addr) (n c : Nat) (zs : List Int) (e : Ending) (w' : World) : Prop :=
  ∃ A1 c1 B1 d1 ns ps x, e = .returned (.tuple #[.agg #[.slice A1 ns.length c1, .slice B1 ps.length d1], .int .i64 x]) ∧ OwnNet w' w.heap.size A1 ns.length c1 ns B1 ps.length d1 ps ∧ ns.length ≤ 7 ∧ ps.length ≤ 11 ∧ NS w w' B A n c zs
theorem D7.retX {w W : World} {B : Nat} {A : Option Addr} {n c : Nat} {zs : List Int} {N : Nat} {A1 : Option Addr} {k c1 : Nat} {ns : List Nd} {B1 : Option Addr} {m d1 : Nat} {ps : List Pp} {A2 : Option Addr} {l e : Nat} {ys : List Int} (h : D7 w W B A n c zs N A1 k c1 ns B1 m d1 ps A2 l e ys) (hk : k ≤ 7) (hm : m ≤ 11) (x : Int) (u0 u1 : Value) :
    RetNetX w B A n c zs (.returned (.tuple #[.agg #[.slice A1 k c1, .slice B1 m d1], .int .i64 x])) ((W.setCell ⟨w.heap.size, 0, none⟩ u0).setCell ⟨w.heap.size, 1, none⟩ u1) := by
  obtain rfl : ns.length = k := h.net.nodes.len
  obtain rfl : ps.length = m := h.net.pipes.len
  exact ⟨A1, c1, B1, d1, ns, ps, x, rfl, ((h.net.low (by simp) u0).low (by simp) u1).mono (Nat.le_succ _), hk, hm, (h.src.set (Nat.le_refl _) _ _).set (Nat.le_refl _) _ _⟩
theorem D7.drew {w W : World} {B : Nat} {A : Option Addr} {n c : Nat} {zs : List Int} {N : Nat} {A1 : Option Addr} {k c1 : Nat} {ns : List Nd} {B1 : Option Addr} {m d1 : Nat} {ps : List Pp} {A2 : Option Addr} {l e : Nat} {ys : List Int} (h : D7 w W B A n c zs N A1 k c1 ns B1 m d1 ps A2 l e ys) : D7 w W.drew B A n c zs N A1 k c1 ns B1 m d1 ps A2 l e ys := h.below (Below.refl _ _).drew
set_option maxHeartbeats 8000000 in
theorem chordD_any (B : Nat) (A : Option Addr) (n c : Nat) (zs : List Int) (w : World) (h : Src w B A n c zs) (hn : n ≤ 4096) :
    Calls Try.prog 31 #[.pointer (some ⟨B, 0, none⟩)] w (RetNetX w B A n c zs) := by
  have hlt := h.lt
  have hR0 := box_new w #[.slice none 0 0, .slice none 0 0] 27
  have hd0 := (NS.start h).alloc (.cells #[.slice none 0 0, .slice none 0 0] 27)
  have hs0 : (w.alloc (.cells #[.slice none 0 0, .slice none 0 0] 27)).heap.size = w.heap.size + 1 := by simp
  go_enter Try.func31, Try.ntmps31
  go_wp2_with fail
  generalize w.alloc (.cells #[.slice none 0 0, .slice none 0 0] 27) = W0 at *
  refine (loops_any _ _ _ _ _ _ hd0.2.1 hn).mono ?_
  rintro e w1 ⟨A1, c1, B1, d1, ns, ps, rfl, ho, hk1, hk7, hm11, hn1⟩
  have hd1 := hd0.then_ hn1
  have hR1 := hR0.grown hn1.2.2 (fun hh => by injection hh with hh; omega)
  have hl1 := hR1.lt
  obtain ⟨k, hK⟩ : ∃ y, ns.length = y := ⟨_, rfl⟩
  obtain ⟨m, hM⟩ : ∃ y, ps.length = y := ⟨_, rfl⟩
  rw [hs0] at ho
  rw [hK, hM] at ho ⊢
  rw [hK] at hk7
  rw [hM] at hm11
  have hD : D7 w (w1.alloc (.cells #[.slice A1 k c1, .slice B1 m d1] 27)) B A n c zs w1.heap.size A1 k c1 ns B1 m d1 ps none 0 0 [] :=
    ⟨hd1.alloc _, hR1.alloc _, box_new w1 _ _, hl1, ho.below ((Below.refl _ _).alloc (Nat.le_refl _) _), own_nil _ _⟩
  clear hd0 hR0 hn1 hd1 hR1 ho hK hM hs0 hk1
  go_wp2_with fail
  generalize w1.alloc (.cells #[.slice A1 k c1, .slice B1 m d1] 27) = W1 at *
  generalize w1.heap.size = N at *
  refine (next_any _ _ _ _ _ _ _ hD.src.2.1 hn (by omega) (by omega)).mono ?_
  rintro e w2 ⟨x, hx0, hx1, rfl, hs2, hg2⟩
  have hD2 := hD.next hs2 hg2
  clear hD hs2 hg2
  go_upto_if 11 with fail
  go_cut [] (fun wx => ∃ (A1 : Option Addr) (k c1 : Nat) (ns : List Nd) (B1 : Option Addr) (m d1 : Nat) (ps : List Pp), D7 w wx B A n c zs N A1 k c1 ns B1 m d1 ps none 0 0 [] ∧ k ≤ 7 ∧ m ≤ 11)
  case first =>
    by_cases hx : x = 0
    case pos =>
      subst hx
      go_wp2_with fail
      refine (drawAny_any _ _ _ _ _ _ hD2.src.2.1 hn).mono ?_
      rintro e w3 ⟨A3, c3, B3, d3, ns3, ps3, rfl, ho, _, hk3, hm3, hn3⟩
      have hD3 := hD2.then_ hn3
      have hNl := hD2.box.lt
      obtain ⟨k3, hK3⟩ : ∃ y, ns3.length = y := ⟨_, rfl⟩
      obtain ⟨m3, hM3⟩ : ∃ y, ps3.length = y := ⟨_, rfl⟩
      rw [hK3, hM3] at ho ⊢
      rw [hK3] at hk3
      rw [hM3] at hm3
      have ⟨hN, hr, n0, n1, f0, f1, r0, r1, q0, q1⟩ := hD3.cells
      have hD4 := hD3.renew_ hNl ho
      clear hD2 hn3 hD3 ho hK3 hM3 hk7 hm11 hNl
      go_wp2_with fail
      go_meet
      case rel => exact ⟨_, _, _, _, _, _, _, _, hD4, hk3, by omega⟩
    case neg =>
      have e0 : (x == 0) = false := by simpa using hx
      go_wp2_with fail
      go_meet
      case rel => exact ⟨_, _, _, _, _, _, _, _, hD2, hk7, hm11⟩
  case rest =>
  clear hD2 hk7 hm11 hx0 hx1
  obtain ⟨A1, k, c1, ns, B1, m, d1, ps, hD, hk7, hm11⟩ := hcut
  have ⟨hN, hr, n0, n1, f0, f1, r0, r1, q0, q1⟩ := hD.cells
  have HD := Lib.hid hD
  obtain ⟨C, hC⟩ : ∃ y, chC ns ps = y := ⟨_, rfl⟩
  obtain ⟨L, hL⟩ : ∃ y, chL ns ps k = y := ⟨_, rfl⟩
  have HC := Lib.hid hC
  have HL := Lib.hid hL
  have hLl : L.length ≤ 40 := by
    rw [← hL]
    by_cases hok : NetOk ns ps
    · rw [(ch_ok hok).1, cN_len]
      have := chd_len (esOf ps) k
      rw [esOf_len] at this
      have := hok.2.2.1
      omega
    · rw [(ch_no hok).1]; simp
  clear f0 f1 r0 r1 q0 q1 hr hD hC hL
  go_wp2_with fail
  refine (sChordsOf_any _ _ _ _ _ _ ns ps _ HD.out.net.reads).mono ?_
  rw [HC.out, HL.out]
  rintro e w3 ⟨A3, c3, rfl, o3, hb3⟩
  have hD3 := (HD.out.below hb3).list (o3.mono HD.out.lt)
  clear HD o3 hb3 n0 n1 hN
  by_cases hL0 : L.length = 0
  case pos =>
    have t0 : ((L.length : Int) == 0) = true := by simp [hL0]
    clear hL0
    go_upto_region 6 with fail
    have HD5 := Lib.hid hD3.drew
    have ⟨hN, hr, n0, n1, f0, f1, r0, r1, q0, q1⟩ := hD3.cells
    clear hD3
    go_region_with (go_at_call 51; refine (indexD_any _ _ _ _ m _ w3.drew HD5.out.src.2.1 hn (by omega)).mono ?_; rintro e6 w6 ⟨x6, rfl, hI6, k6⟩; have HD6 := Lib.hid (HD5.out.then_ k6); have ⟨hN6, hr6, n06, n16, f06, f16, r06, r16, q06, q16⟩ := HD6.out.cells; clear k6)
    all_goals
      try go_wp2_with fail
      refine bodyPost_ret (v := .tuple #[.agg #[.slice A1 k c1, .slice B1 m d1], .int .i64 x6]) (by simp [results, Try.results31, go_sem, *]) rfl (HD6.out.retX hk7 hm11 _ _ _)
  case neg =>
  have t0 : ((L.length : Int) == 0) = false := by rw [beq_eq_false_iff_ne]; omega
  go_wp2_with fail
  refine (next_any _ _ _ _ _ _ _ hD3.src.2.1 hn (by omega) (by omega)).mono ?_
  rintro e4 w4 ⟨x, hx0, hx1, rfl, hs4, hg4⟩
  have hD4 := hD3.next hs4 hg4
  clear hD3 hs4 hg4
  by_cases hx : x = 0
  case pos =>
    subst hx
    go_upto_region 6 with fail
    have HD5 := Lib.hid hD4.drew
    have ⟨hN, hr, n0, n1, f0, f1, r0, r1, q0, q1⟩ := hD4.cells
    clear hD4
    go_region_with (go_at_call 51; refine (indexD_any _ _ _ _ m _ w4.drew HD5.out.src.2.1 hn (by omega)).mono ?_; rintro e6 w6 ⟨x6, rfl, hI6, k6⟩; have HD6 := Lib.hid (HD5.out.then_ k6); have ⟨hN6, hr6, n06, n16, f06, f16, r06, r16, q06, q16⟩ := HD6.out.cells; clear k6)
    all_goals
      try go_wp2_with fail
      refine bodyPost_ret (v := .tuple #[.agg #[.slice A1 k c1, .slice B1 m d1], .int .i64 x6]) (by simp [results, Try.results31, go_sem, *]) rfl (HD6.out.retX hk7 hm11 _ _ _)
  case neg =>
  have t1 : (x == 0) = false := by simpa using hx
  go_upto_region 7 with fail
  obtain ⟨g, rfl⟩ : ∃ g, A3 = some ⟨g, 0, none⟩ := by
    obtain ⟨g, z, hA, _⟩ := hD4.out.at_ (show 0 < L.length by omega)
    exact ⟨g, hA⟩
  have HD5 := Lib.hid hD4.drew
  have ⟨hN, hr, n0, n1, f0, f1, r0, r1, q0, q1⟩ := hD4.cells
  clear hD4
  go_region_with (go_at_call 48; refine (next_any B A n c zs (L.length : Int) w4.drew HD5.out.src.2.1 hn (by omega) (by omega)).mono ?_; rintro e6 w6 ⟨y, hy0, hy1, rfl, hs6, hg6⟩; have HD6 := Lib.hid (HD5.out.next hs6 hg6); have ⟨hN6, hr6, n06, n16, f06, f16, r06, r16, q06, q16⟩ := HD6.out.cells; have hyl : y < (L.length : Int) := (by omega); obtain ⟨g6, z6, hA6, hgB6, hgl6, hz6, hz646, hzc6, hzf6⟩ := HD6.out.out.at_ (show y.toNat < L.length by omega); have hA6' := hA6; injection hA6' with hA6'; injection hA6' with hA6' _ _; subst hA6'; clear hs6 hg6 hA6 hz6)
  all_goals
    try go_wp2_with fail
    refine bodyPost_ret (v := .tuple #[.agg #[.slice A1 k c1, .slice B1 m d1], .int .i64 z6]) (by simp [results, Try.results31, go_sem, *]) rfl (HD6.out.retX hk7 hm11 _ _ _)
end Go.Proofs.Ytpgegfnhokhlmab
