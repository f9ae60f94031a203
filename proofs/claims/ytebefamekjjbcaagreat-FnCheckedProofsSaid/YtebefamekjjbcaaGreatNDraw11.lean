/- What l01Sum, l13Draw, DrawGreatestScale, DrawScaleSupplies do, by walks over their text. Condition: a source over at most 4096 bytes. -/
import Derived.Test.YtebefamekjjbcaaGreatNDraw10
import Derived.Test.YtebefamekjjbcaaGreatFlo
import Derived.Deep.DeepCutAuto
set_option linter.unusedVariables false
set_option maxRecDepth 100000
namespace Go.Proofs.YtebefamekjjbcaaGreat
open Go.ChangeShapes Go.WideShapes Go.ChangeAt Go.RowKit Go.Joins Go.Deep
attribute [local go_sem ↓] Go.wp_at_zero Go.wp_at_succ

theorem take_sumD {zs : List Int} {k : Nat} {z : Int} (h : zs[k]? = some z) : (zs.take (k + 1)).sum = (zs.take k).sum + z := by
  rw [List.take_add_one, h, List.sum_append]
  simp
theorem take_sum_bdD {zs : List Int} (h : ∀ z ∈ zs, -2000000 ≤ z ∧ z ≤ 2000000) : ∀ k : Nat, -(k * 2000000 : Int) ≤ (zs.take k).sum ∧ (zs.take k).sum ≤ k * 2000000 := by
  intro k
  induction k with
  | zero => simp
  | succ k ih =>
    by_cases hk : k < zs.length
    · have h1 := List.getElem?_eq_getElem hk
      rw [take_sumD h1]
      have := h _ (List.getElem_mem hk)
      push_cast
      omega
    · rw [List.take_of_length_le (by omega)]
      rw [List.take_of_length_le (by omega)] at ih
      push_cast
      omega
set_option maxHeartbeats 2000000 in
theorem sSum_any (A : Option Addr) (n c : Nat) (zs : List Int) (w : World) (h : Ints w A n zs) (hn : n ≤ 1000) (hb : ∀ z ∈ zs, -2000000 ≤ z ∧ z ≤ 2000000) :
    Calls Tryz.prog 24 #[.slice A n c] w fun e w' => e = .returned (.int .i64 zs.sum) ∧ w = w' := by
  have hl := Lib.hid h.len
  have HB := Lib.hid hb
  clear hb
  go_enter Tryz.func24, Tryz.ntmps24
  go_wp2_with fail
  go_loop [3, 4] (fun ss ii => ∃ (k : Nat) (s : Int), k ≤ n ∧ ii = .int .i64 (k : Int) ∧ ss = .int .i64 s ∧ Hid ((zs.take k).sum = s)) (fun _ ii => n - (intOf ii).toNat)
  case atStart => exact ⟨0, 0, Nat.zero_le _, rfl, rfl, rfl⟩
  case round =>
    obtain ⟨k, s, hk, rfl, rfl, HS⟩ := hrel
    have hsb := take_sum_bdD HB.out k
    rw [HS.out] at hsb
    by_cases hlt : k < n
    · obtain ⟨b, o, z, rfl, hbl, hz, hz64, hc⟩ := h.at_ hlt
      have hzb := HB.out z (List.mem_of_getElem? hz)
      have HN := Lib.hid (show (zs.take (k + 1)).sum = s + z by rw [take_sumD hz, HS.out])
      have i1 : (k : Int) < (n : Int) := by omega
      clear hz
      go_wp2_with fail
      go_round
      case rel => exact ⟨k + 1, s + z, by omega, by go_num, rfl, HN.out⟩
      case measure => simp [intOf]; omega
    · have i1 : ¬ (k : Int) < (n : Int) := by omega
      have HE := Lib.hid (show zs.sum = s by rw [← HS.out, List.take_of_length_le (by have := hl.out; omega)])
      go_wp2_with fail
      go_ret
      exact ⟨ri HE.out.symm, rfl⟩
section
variable {w W W' : World} {B : Nat} {A : Option Addr} {n c : Nat} {zs : List Int} {N : Nat} {A1 : Option Addr} {k c1 : Nat} {ns : List Nd} {B1 : Option Addr} {m d1 : Nat} {ps : List Pp} {A2 : Option Addr} {l e : Nat} {ys : List Int}
theorem D7.drew (h : D7 w W B A n c zs N A1 k c1 ns B1 m d1 ps A2 l e ys) : D7 w W.drew B A n c zs N A1 k c1 ns B1 m d1 ps A2 l e ys := h.below (Below.refl _ _).drew
/-- One field of a node is set. -/
theorem D7.setNode {g i j : Nat} {v : Value} (h : D7 w W B A n c zs N (some ⟨g, 0, none⟩) k c1 ns B1 m d1 ps A2 l e ys) (hi : i < k) (hj : j < 3) (hv : ∀ x, okN x → ∃ x', okN x' ∧ encN x' = (encN x).set j v) :
    ∃ ns', D7 w (W.setCell ⟨g, i * 3 + j, none⟩ v) B A n c zs N (some ⟨g, 0, none⟩) k c1 ns' B1 m d1 ps A2 l e ys := by
  have h5 := h.net.nodes
  have hN := h.hN
  have hb := (h5.1.1.lt g rfl).1
  have hgN := own_box_ne h5.1.1 h.box (by decide) g rfl
  obtain ⟨x, hx⟩ : ∃ x, ns[i]? = some x := ⟨_, List.getElem?_eq_getElem (show i < ns.length by rw [h5.len]; exact hi)⟩
  obtain ⟨x', hok, he⟩ := hv x (h5.2 x (List.mem_of_getElem? hx))
  refine ⟨ns.set i x', h.src.set (by omega) _ _, h.res.other (by simp; omega) _, h.box.other (by simp; omega) _, hN, ⟨⟨h5.1.set1 hx he hj, fun y hy => ?_⟩, h.net.pipes.grown (grown_set W g _ _) (ap_of h.net.pipes.1.1 h5.1.1 (by decide)).row⟩, h.out.grown (grown_set W g _ _) (ap_of h.out.1 h5.1.1 (by decide)).row⟩
  rcases List.mem_or_eq_of_mem_set hy with hy | rfl
  · exact h5.2 y hy
  · exact hok
/-- One field of a pipe is set. -/
theorem D7.setPipe {g i j : Nat} {v : Value} (h : D7 w W B A n c zs N A1 k c1 ns (some ⟨g, 0, none⟩) m d1 ps A2 l e ys) (hi : i < m) (hj : j < 5) (hv : ∀ x, okP x → ∃ x', okP x' ∧ encP x' = (encP x).set j v) :
    ∃ ps', D7 w (W.setCell ⟨g, i * 5 + j, none⟩ v) B A n c zs N A1 k c1 ns (some ⟨g, 0, none⟩) m d1 ps' A2 l e ys := by
  have h5 := h.net.pipes
  have hN := h.hN
  have hb := (h5.1.1.lt g rfl).1
  have hgN := own_box_ne h5.1.1 h.box (by decide) g rfl
  obtain ⟨x, hx⟩ : ∃ x, ps[i]? = some x := ⟨_, List.getElem?_eq_getElem (show i < ps.length by rw [h5.len]; exact hi)⟩
  obtain ⟨x', hok, he⟩ := hv x (h5.2 x (List.mem_of_getElem? hx))
  refine ⟨ps.set i x', h.src.set (by omega) _ _, h.res.other (by simp; omega) _, h.box.other (by simp; omega) _, hN, ⟨h.net.nodes.grown (grown_set W g _ _) (ap_of h.net.nodes.1.1 h5.1.1 (by decide)).row, ⟨h5.1.set1 hx he hj, fun y hy => ?_⟩⟩, h.out.grown (grown_set W g _ _) (ap_of h.out.1 h5.1.1 (by decide)).row⟩
  rcases List.mem_or_eq_of_mem_set hy with hy | rfl
  · exact h5.2 y hy
  · exact hok
/-- A node's cells. -/
theorem D7.nodeOf {i : Nat} (h : D7 w W B A n c zs N A1 k c1 ns B1 m d1 ps A2 l e ys) (hi : i < k) : ∃ g nm lo hi, A1 = some ⟨g, 0, none⟩ ∧ g < W.heap.size ∧ W.cell? ⟨g, i * 3, none⟩ = some (.string nm) ∧ W.cell? ⟨g, i * 3 + 1, none⟩ = some (.int .i64 lo) ∧ W.cell? ⟨g, i * 3 + 2, none⟩ = some (.int .i64 hi) ∧ ∀ j, W.frozen? ⟨g, j, none⟩ = false := by
  have h5 := h.net.nodes
  obtain ⟨g, rfl, hB, hg⟩ := h5.1.form (by omega)
  obtain ⟨x, hx, hc, hf⟩ := h5.1.cells (by omega) hi
  exact ⟨g, x.nm, x.lo, x.hi, rfl, hg, hc 0 _ rfl, hc 1 _ rfl, hc 2 _ rfl, hf.1⟩
/-- A pipe's cells. -/
theorem D7.pipeOf {i : Nat} (h : D7 w W B A n c zs N A1 k c1 ns B1 m d1 ps A2 l e ys) (hi : i < m) : ∃ g li, B1 = some ⟨g, 0, none⟩ ∧ g < W.heap.size ∧ W.cell? ⟨g, i * 5 + 4, none⟩ = some (.int .i64 li) ∧ ∀ j, W.frozen? ⟨g, j, none⟩ = false := by
  have h5 := h.net.pipes
  obtain ⟨g, rfl, hB, hg⟩ := h5.1.form (by omega)
  obtain ⟨x, hx, hc, hf⟩ := h5.1.cells (by omega) hi
  exact ⟨g, x.l, rfl, hg, hc 4 _ rfl, hf.1⟩
theorem D7.nodeNe {g : Nat} (h : D7 w W B A n c zs N (some ⟨g, 0, none⟩) k c1 ns B1 m d1 ps A2 l e ys) : g ≠ B ∧ g ≠ N ∧ g ≠ w.heap.size := by
  have h5 := h.net.nodes
  have h1 := (h5.1.1.lt g rfl).1
  have := h.src.1.lt
  exact ⟨by omega, own_box_ne h5.1.1 h.box (by decide) g rfl, by omega⟩
theorem D7.pipeNe {g : Nat} (h : D7 w W B A n c zs N A1 k c1 ns (some ⟨g, 0, none⟩) m d1 ps A2 l e ys) : g ≠ B ∧ g ≠ N ∧ g ≠ w.heap.size := by
  have h5 := h.net.pipes
  have h1 := (h5.1.1.lt g rfl).1
  have := h.src.1.lt
  exact ⟨by omega, own_box_ne h5.1.1 h.box (by decide) g rfl, by omega⟩
end
theorem set_lo {v : Int} (hv : I64 v) : ∀ x, okN x → ∃ x', okN x' ∧ encN x' = (encN x).set 1 (.int .i64 v) := fun x hx => ⟨⟨x.nm, v, x.hi⟩, ⟨hx.1, hv, hx.2.2⟩, rfl⟩
theorem D7.nodeAt {w W : World} {B : Nat} {A : Option Addr} {n c : Nat} {zs : List Int} {N : Nat} {g k c1 : Nat} {ns : List Nd} {B1 : Option Addr} {m d1 : Nat} {ps : List Pp} {A2 : Option Addr} {l e : Nat} {ys : List Int} {i : Nat} (h : D7 w W B A n c zs N (some ⟨g, 0, none⟩) k c1 ns B1 m d1 ps A2 l e ys) (hi : i < k) : ∃ nm lo hi, g < W.heap.size ∧ W.cell? ⟨g, i * 3, none⟩ = some (.string nm) ∧ W.cell? ⟨g, i * 3 + 1, none⟩ = some (.int .i64 lo) ∧ W.cell? ⟨g, i * 3 + 2, none⟩ = some (.int .i64 hi) ∧ ∀ j, W.frozen? ⟨g, j, none⟩ = false := by
  obtain ⟨g', nm, lo, hi', hA, h1, h2, h3, h4, h5⟩ := h.nodeOf hi
  injection hA with hA
  injection hA with hA _ _
  subst hA
  exact ⟨nm, lo, hi', h1, h2, h3, h4, h5⟩
theorem D7.pipeAt {w W : World} {B : Nat} {A : Option Addr} {n c : Nat} {zs : List Int} {N : Nat} {A1 : Option Addr} {g k c1 : Nat} {ns : List Nd} {m d1 : Nat} {ps : List Pp} {A2 : Option Addr} {l e : Nat} {ys : List Int} {i : Nat} (h : D7 w W B A n c zs N A1 k c1 ns (some ⟨g, 0, none⟩) m d1 ps A2 l e ys) (hi : i < m) : ∃ li, g < W.heap.size ∧ W.cell? ⟨g, i * 5 + 4, none⟩ = some (.int .i64 li) ∧ ∀ j, W.frozen? ⟨g, j, none⟩ = false := by
  obtain ⟨g', li, hA, h1, h2, h3⟩ := h.pipeOf hi
  injection hA with hA
  injection hA with hA _ _
  subst hA
  exact ⟨li, h1, h2, h3⟩
set_option maxHeartbeats 8000000 in
theorem draw13_any (B : Nat) (A : Option Addr) (n c : Nat) (zs : List Int) (w : World) (h : Src w B A n c zs) (hn : n ≤ 4096) :
    Calls Tryz.prog 21 #[.pointer (some ⟨B, 0, none⟩)] w (RetNL w B A n c zs) := by
  have hlt := h.lt
  have hR0 := box_new w #[.slice none 0 0, .slice none 0 0] 27
  have hd0 := (NS.start h).alloc (.cells #[.slice none 0 0, .slice none 0 0] 27)
  have hs0 : (w.alloc (.cells #[.slice none 0 0, .slice none 0 0] 27)).heap.size = w.heap.size + 1 := by simp
  go_enter Tryz.func21, Tryz.ntmps21
  go_wp2_with fail
  generalize w.alloc (.cells #[.slice none 0 0, .slice none 0 0] 27) = W0 at *
  refine (draw6_any _ _ _ _ _ _ hd0.2.1 hn).mono ?_
  rintro e w1 ⟨A1, c1, B1, d1, ns, ps, A2, e2, xs, rfl, oN, oY, hSm, hk7, hm11, hl8, hd2⟩
  have hd1 := hd0.then_ hd2
  have hR1 := hR0.grown hd2.2.2 (fun hh => by injection hh with hh; omega)
  have hl1 := hR1.lt
  have HSM := Lib.hid hSm
  obtain ⟨k, hK⟩ : ∃ y, ns.length = y := ⟨_, rfl⟩
  obtain ⟨m, hM⟩ : ∃ y, ps.length = y := ⟨_, rfl⟩
  obtain ⟨l, hL⟩ : ∃ y, xs.length = y := ⟨_, rfl⟩
  rw [hs0] at oN oY
  rw [hK, hM] at oN
  rw [hL] at oY hl8
  rw [hK] at hk7
  rw [hM] at hm11
  rw [hK, hM, hL]
  have hD : D7 w (w1.alloc (.cells #[.slice A1 k c1, .slice B1 m d1] 27)) B A n c zs w1.heap.size A1 k c1 ns B1 m d1 ps A2 l e2 xs :=
    ⟨hd1.alloc _, hR1.alloc _, box_new w1 _ _, hl1, oN.below ((Below.refl _ _).alloc (Nat.le_refl _) _), oY.alloc _⟩
  clear hd0 hR0 hd2 hd1 hR1 oN oY hK hM hL hs0 hSm
  go_wp2_with fail
  generalize w1.alloc (.cells #[.slice A1 k c1, .slice B1 m d1] 27) = W1 at *
  generalize w1.heap.size = N at *
  refine (next_any _ _ _ _ _ _ _ hD.src.2.1 hn (by omega) (by omega)).mono ?_
  rintro e w2 ⟨x, hx0, hx1, rfl, hs2, hg2⟩
  have hD2 := hD.next hs2 hg2
  clear hD hs2 hg2
  by_cases hx : x = 0
  case pos =>
    subst hx
    have ⟨hN, hr, n0, n1, f0, f1, r0, r1, q0, q1⟩ := hD2.cells
    have HD9 := Lib.hid hD2
    clear hD2 f0 f1
    go_wp2_with fail
    refine bodyPost_ret (v := .tuple #[.agg #[.slice A1 k c1, .slice B1 m d1], .slice A2 l e2]) (by simp [results, Tryz.results21, go_sem, *]) rfl (HD9.out.ret HSM.out hk7 hm11 hl8 _ _)
  case neg =>
  have e0 : (x == 0) = false := by simpa using hx
  clear hx
  go_wp2_with fail
  go_loopw [6] (fun ii wr => ∃ (j : Nat) (ns : List Nd), j ≤ k ∧ ii = .int .i64 (j : Int) ∧ D7 w wr B A n c zs N A1 k c1 ns B1 m d1 ps A2 l e2 xs) (fun ii _ => k - (intOf ii).toNat)
  case atStart => exact ⟨0, _, Nat.zero_le _, rfl, hD2⟩
  case round =>
    obtain ⟨j, ns, hj, rfl, hD⟩ := hrel
    clear hD2
    by_cases hlt2 : j < k
    case pos =>
      have i0 : (0 : Int) ≤ (j : Int) := by omega
      have i1 : (j : Int) < (k : Int) := by omega
      obtain ⟨g, nm, lo, hi, rfl, hgl, cn, cl, ch, fr⟩ := hD.nodeOf hlt2
      have ⟨hN, hr, n0, n1, f0, f1, r0, r1, q0, q1⟩ := hD.cells
      have HDd := Lib.hid hD.drew
      clear hD f0 f1 r0 r1 q0 q1 hr n1 cn cl ch fr
      go_upto_region 7 with fail
      go_cut [] (fun wx => ∃ ns', D7 w wx B A n c zs N (some ⟨g, 0, none⟩) k c1 ns' B1 m d1 ps A2 l e2 xs)
      case first =>
        go_region_with (go_at_call 31; refine (next_any B A n c zs 900 wr.drew HDd.out.src.2.1 hn (by omega) (by omega)).mono ?_; rintro e5 w5 ⟨y, hy0, hy1, rfl, hs5, hg5⟩; have HD5 := Lib.hid (HDd.out.next hs5 hg5); obtain ⟨nm5, lo5, hi5, hgl5, cn5, cl5, ch5, fr5⟩ := HD5.out.nodeAt hlt2; have ⟨hN5, hr5, n05, n15, _, _, _, _, _, _⟩ := HD5.out.cells; clear hs5 hg5)
        all_goals
          try go_wp2_with fail
          go_meet
          exact HD5.out.setNode hlt2 (by decide) (set_lo (WalkArith.wf_i64 (by omega)))
      case rest =>
      obtain ⟨ns2, hD⟩ := hcut
      clear n0 hgl HDd hN
      obtain ⟨nm, lo, hi, hgl, cn, cl, ch, fr⟩ := hD.nodeAt hlt2
      have ⟨hN, hr, n0, n1, f0, f1, r0, r1, q0, q1⟩ := hD.cells
      have HDd := Lib.hid hD.drew
      clear hD f0 f1 r0 r1 q0 q1 hr n1 cn cl ch fr
      go_upto_region 8 with fail
      go_region_with (go_at_call 31; refine (next_any B A n c zs 90000 wc.drew HDd.out.src.2.1 hn (by omega) (by omega)).mono ?_; rintro e5 w5 ⟨y, hy0, hy1, rfl, hs5, hg5⟩; have HD5 := Lib.hid (HDd.out.next hs5 hg5); obtain ⟨nm5, lo5, hi5, hgl5, cn5, cl5, ch5, fr5⟩ := HD5.out.nodeAt hlt2; have ⟨hN5, hr5, n05, n15, _, _, _, _, _, _⟩ := HD5.out.cells; clear hs5 hg5)
      all_goals
        try go_wp2_with fail
        go_roundw
        case rel =>
          obtain ⟨ns3, hD9⟩ := HD5.out.setNode hlt2 (by decide) (set_hi (v := 60000 + y) (WalkArith.wf_i64 (by omega)))
          exact ⟨j + 1, _, by omega, by go_num, hD9⟩
        case measure => simp [intOf]; omega
    case neg =>
    have i1 : ¬ (j : Int) < (k : Int) := by omega
    have ⟨hN, hr, n0, n1, f0, f1, r0, r1, q0, q1⟩ := hD.cells
    clear f0 f1 r0 r1 q0 q1 hr n1 hlt2
    go_wp2_with fail
    clear n0 hN
    go_loopw [7] (fun ii wr => ∃ (j : Nat) (ps : List Pp), j ≤ m ∧ ii = .int .i64 (j : Int) ∧ D7 w wr B A n c zs N A1 k c1 ns B1 m d1 ps A2 l e2 xs) (fun ii _ => m - (intOf ii).toNat)
    case atStart => exact ⟨0, _, Nat.zero_le _, rfl, hD⟩
    case round =>
      clear i1 hD hj
      obtain ⟨j, ps, hj, rfl, hD⟩ := hrel
      by_cases hlt2 : j < m
      case pos =>
        have i0 : (0 : Int) ≤ (j : Int) := by omega
        have i1 : (j : Int) < (m : Int) := by omega
        obtain ⟨g, li, rfl, hgl, cl, fr⟩ := hD.pipeOf hlt2
        have ⟨hN, hr, n0, n1, f0, f1, r0, r1, q0, q1⟩ := hD.cells
        have HDd := Lib.hid hD.drew
        clear hD f0 f1 r0 r1 q0 q1 hr n0 cl fr
        go_upto_region 12 with fail
        go_region_with (go_at_call 31; refine (next_any B A n c zs 200 wr.drew HDd.out.src.2.1 hn (by omega) (by omega)).mono ?_; rintro e5 w5 ⟨y, hy0, hy1, rfl, hs5, hg5⟩; have HD5 := Lib.hid (HDd.out.next hs5 hg5); obtain ⟨li5, hgl5, cl5, fr5⟩ := HD5.out.pipeAt hlt2; have ⟨hN5, hr5, n05, n15, _, _, _, _, _, _⟩ := HD5.out.cells; clear hs5 hg5)
        all_goals
          try go_wp2_with fail
          go_roundw
          case rel =>
            obtain ⟨ps3, hD9⟩ := HD5.out.setPipe hlt2 (by decide) (set_l (v := 40 + y) (WalkArith.wf_i64 (by omega)))
            exact ⟨j + 1, _, by omega, by go_num, hD9⟩
          case measure => simp [intOf]; omega
      case neg =>
      have i1 : ¬ (j : Int) < (m : Int) := by omega
      have ⟨hN, hr, n0, n1, f0, f1, r0, r1, q0, q1⟩ := hD.cells
      have HD9 := Lib.hid hD
      clear hD f0 f1
      go_wp2_with fail
      refine bodyPost_ret (v := .tuple #[.agg #[.slice A1 k c1, .slice B1 m d1], .slice A2 l e2]) (by simp [results, Tryz.results21, go_sem, *]) rfl (HD9.out.ret HSM.out hk7 hm11 hl8 _ _)
end Go.Proofs.YtebefamekjjbcaaGreat
