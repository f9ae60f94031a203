/- What l02Draw does, by a walk over its text. Condition: a source over at most 4096 bytes. -/
import Derived.Test.YtpgegfnhokhlmabGreatNDraw
import Derived.Test.YtpgegfnhokhlmabGreatKA
import Derived.Test.YtpgegfnhokhlmabGreatOpen
set_option linter.unusedVariables false
set_option maxRecDepth 100000
namespace Go.Proofs.YtpgegfnhokhlmabGreat
open Go.ChangeShapes Go.WideShapes Go.ChangeAt Go.RowKit Go.Joins Go.Deep
attribute [local go_sem ↓] Go.wp_at_zero Go.wp_at_succ

theorem ownN_push {x : Nd} {xs : List Nd} (h : ∀ y ∈ xs, okN y) (hx : okN x) : ∀ y ∈ xs ++ [x], okN y := by
  intro y hy
  rcases List.mem_append.1 hy with hy | hy
  · exact h y hy
  · rw [List.mem_singleton.1 hy]; exact hx
theorem ownP_push {x : Pp} {xs : List Pp} (h : ∀ y ∈ xs, okP y) (hx : okP x) : ∀ y ∈ xs ++ [x], okP y := by
  intro y hy
  rcases List.mem_append.1 hy with hy | hy
  · exact h y hy
  · rw [List.mem_singleton.1 hy]; exact hx
/-- What stands while a network is drawn: the source, the result's cells, the nodes, the pipes. -/
structure DN (w W : World) (B : Nat) (A : Option Addr) (n c : Nat) (zs : List Int) (A1 : Option Addr) (k c1 : Nat) (ns : List Nd) (B1 : Option Addr) (m d1 : Nat) (ps : List Pp) : Prop where
  src : NS w W B A n c zs
  res : Box W w.heap.size #[.slice none 0 0, .slice none 0 0] 33
  nodes : OwnN W (w.heap.size + 1) A1 k c1 ns
  pipes : OwnP W (w.heap.size + 1) B1 m d1 ps
section
variable {w W W' : World} {B : Nat} {A : Option Addr} {n c : Nat} {zs : List Int} {A1 : Option Addr} {k c1 : Nat} {ns : List Nd} {B1 : Option Addr} {m d1 : Nat} {ps : List Pp}
theorem DN.lt (h : DN w W B A n c zs A1 k c1 ns B1 m d1 ps) : w.heap.size + 1 ≤ W.heap.size := h.res.lt
theorem DN.next (h : DN w W B A n c zs A1 k c1 ns B1 m d1 ps) (hs : Src W' B A n c zs) (hg : W.grownBy W' (some B)) : DN w W' B A n c zs A1 k c1 ns B1 m d1 ps := by
  have hB := h.src.1.lt
  refine ⟨h.src.next hs hg, h.res.grown hg (fun hh => by injection hh with hh; omega), h.nodes.grown hg (fun g hg' hE => ?_), h.pipes.grown hg (fun g hg' hE => ?_)⟩
  · have h1 := (h.nodes.1.1.lt g (by rw [hg']; rfl)).1
    injection hE with hE
    omega
  · have h1 := (h.pipes.1.1.lt g (by rw [hg']; rfl)).1
    injection hE with hE
    omega
theorem DN.then_ (h : DN w W B A n c zs A1 k c1 ns B1 m d1 ps) (k2 : NS W W' B A n c zs) : DN w W' B A n c zs A1 k c1 ns B1 m d1 ps := h.next k2.2.1 k2.2.2
theorem DN.below (h : DN w W B A n c zs A1 k c1 ns B1 m d1 ps) (hb : Below W.heap.size W W') : DN w W' B A n c zs A1 k c1 ns B1 m d1 ps :=
  ⟨h.src.belowN (hb.mono (Nat.le_trans (Nat.le_succ _) h.lt)), h.res.belowA hb, h.nodes.below hb, h.pipes.below hb⟩
theorem DN.alloc (h : DN w W B A n c zs A1 k c1 ns B1 m d1 ps) (o : Obj) : DN w (W.alloc o) B A n c zs A1 k c1 ns B1 m d1 ps := h.below ((Below.refl _ _).alloc (Nat.le_refl _) _)
theorem DN.pushN {x : Nd} {o : Obj} {g c2 : Nat} (h : DN w W B A n c zs A1 k c1 ns B1 m d1 ps) (hx : okN x) (ho : OwnR encN 3 95 W' (w.heap.size + 1) (some ⟨g, 0, none⟩) (k + 1) c2 (ns ++ [x])) (hb : Below (w.heap.size + 1) W W') (hg : (W.alloc o).grownBy W' (A1.map (·.block))) :
    DN w W' B A n c zs (some ⟨g, 0, none⟩) (k + 1) c2 (ns ++ [x]) B1 m d1 ps :=
  have ha := h.alloc o
  ⟨h.src.belowN (hb.mono (Nat.le_succ _)), h.res.below hb (Nat.lt_succ_self _), ⟨ho, ownN_push h.nodes.2 hx⟩, ha.pipes.grown hg (ap_of ha.pipes.1.1 ha.nodes.1.1 (by decide)).row⟩
theorem DN.pushP {x : Pp} {o : Obj} {g c2 : Nat} (h : DN w W B A n c zs A1 k c1 ns B1 m d1 ps) (hx : okP x) (ho : OwnR encP 5 98 W' (w.heap.size + 1) (some ⟨g, 0, none⟩) (m + 1) c2 (ps ++ [x])) (hb : Below (w.heap.size + 1) W W') (hg : (W.alloc o).grownBy W' (B1.map (·.block))) :
    DN w W' B A n c zs A1 k c1 ns (some ⟨g, 0, none⟩) (m + 1) c2 (ps ++ [x]) :=
  have ha := h.alloc o
  ⟨h.src.belowN (hb.mono (Nat.le_succ _)), h.res.below hb (Nat.lt_succ_self _), ha.nodes.grown hg (ap_of ha.nodes.1.1 ha.pipes.1.1 (by decide)).row, ⟨ho, ownP_push h.pipes.2 hx⟩⟩
end
/-- A call draws a network. -/
def RetNetD (w : World) (B : Nat) (A : Option Addr) (n c : Nat) (zs : List Int) (L K M : Nat) (e : Ending) (w' : World) : Prop :=
  ∃ A1 c1 B1 d1 ns ps, e = .returned (.agg #[.slice A1 ns.length c1, .slice B1 ps.length d1]) ∧ OwnNet w' w.heap.size A1 ns.length c1 ns B1 ps.length d1 ps ∧ L ≤ ns.length ∧ ns.length ≤ K ∧ ps.length ≤ M ∧ NS w w' B A n c zs
theorem retNetD_of {w W : World} {B : Nat} {A : Option Addr} {n c : Nat} {zs : List Int} {A1 : Option Addr} {k c1 : Nat} {ns : List Nd} {B1 : Option Addr} {m d1 : Nat} {ps : List Pp} {L K M : Nat} (h : DN w W B A n c zs A1 k c1 ns B1 m d1 ps) (hL : L ≤ k) (hk : k ≤ K) (hm : m ≤ M) (u0 u1 : Value) :
    RetNetD w B A n c zs L K M (.returned (.agg #[.slice A1 k c1, .slice B1 m d1])) ((W.setCell ⟨w.heap.size, 0, none⟩ u0).setCell ⟨w.heap.size, 1, none⟩ u1) := by
  obtain rfl : ns.length = k := h.nodes.len
  obtain rfl : ps.length = m := h.pipes.len
  exact ⟨A1, c1, B1, d1, ns, ps, rfl, ⟨((h.nodes.low (by simp) u0).low (by simp) u1).mono (Nat.le_succ _), ((h.pipes.low (by simp) u0).low (by simp) u1).mono (Nat.le_succ _)⟩, hL, hk, hm, (h.src.set (Nat.le_refl _) _ _).set (Nat.le_refl _) _ _⟩
theorem pipe_ix {a y C : Int} (h0 : 0 ≤ a) (h1 : a ≤ 7) (h2 : 0 ≤ y) (h3 : y ≤ 7) (h4 : 1 < C) (h5 : C ≤ 7) : I64 ((a + 1 + y) % C) := by
  have h6 := Int.emod_nonneg (a + 1 + y) (show C ≠ 0 by omega)
  have h7 := Int.emod_lt_of_pos (a + 1 + y) (show 0 < C by omega)
  exact WalkArith.wf_i64 (by omega)
set_option maxHeartbeats 1600000 in
theorem draw_any (B : Nat) (A : Option Addr) (n c : Nat) (zs : List Int) (w : World) (h : Src w B A n c zs) (hn : n ≤ 4096) :
    Calls Tryz.prog 145 #[.pointer (some ⟨B, 0, none⟩)] w (RetNetD w B A n c zs 1 7 9) := by
  have hlt := h.lt
  have hR0 := box_new w #[.slice none 0 0, .slice none 0 0] 33
  have hd0 := (NS.start h).alloc (.cells #[.slice none 0 0, .slice none 0 0] 33)
  go_enter Tryz.func145, Tryz.ntmps145
  go_wp2_with fail
  generalize w.alloc (.cells #[.slice none 0 0, .slice none 0 0] 33) = W0 at *
  refine (next_any _ _ _ _ _ _ _ hd0.2.1 hn (by omega) (by omega)).mono ?_
  rintro e w1 ⟨x, hx0, hx1, rfl, hs1, hg1⟩
  have hd1 := hd0.next hs1 hg1
  have hR1 := hR0.grown hg1 (fun hh => by injection hh with hh; omega)
  have hl1 := hR1.lt
  obtain ⟨C, hC⟩ : ∃ C : Int, 1 + x = C := ⟨_, rfl⟩
  have hC7 : 1 ≤ C ∧ C ≤ 7 := by omega
  have HD1 : DN w ((w1.alloc (.cells #[] 95)).alloc (.cells #[] 98)) B A n c zs (some ⟨w1.heap.size, 0, none⟩) 0 0 [] (some ⟨w1.heap.size + 1, 0, none⟩) 0 0 [] := by
    refine ⟨(hd1.alloc _).alloc _, (hR1.alloc _).alloc _, ⟨(ownR_empty _ _ _ w1 _ (by omega)).alloc _, fun _ hx => absurd hx List.not_mem_nil⟩, ⟨?_, fun _ hx => absurd hx List.not_mem_nil⟩⟩
    have := ownR_empty encP 5 98 (w1.alloc (.cells #[] 95)) (w.heap.size + 1) (by simp; omega)
    simpa using this
  clear hd0 hR0 hs1 hg1 hd1 hR1
  go_wp2_with fail
  clear hC hx0 hx1
  go_loopw [6, 4, 5] (fun ii nn pp wr => ∃ (k : Nat) (A1 : Option Addr) (c1 : Nat) (ns : List Nd) (B1 : Option Addr) (m d1 : Nat) (ps : List Pp), (k : Int) ≤ C ∧ ii = .int .i64 k ∧ nn = .slice A1 k c1 ∧ pp = .slice B1 m d1 ∧ m ≤ k ∧ DN w wr B A n c zs A1 k c1 ns B1 m d1 ps) (fun ii _ _ _ => (C - intOf ii).toNat)
  case atStart => exact ⟨0, _, _, _, _, _, _, _, by omega, rfl, rfl, rfl, Nat.le_refl _, HD1⟩
  case round =>
    obtain ⟨k, A1, c1, ns, B1, m, d1, ps, hk, rfl, rfl, rfl, hmk, hd⟩ := hrel
    clear HD1
    by_cases hlt2 : (k : Int) < C
    · go_wp2_with fail
      refine (drawNode_any _ _ _ _ _ _ _ hd.src.2.1 hn (by omega) (by omega)).mono ?_
      rintro e w2 ⟨x, rfl, hx, hn2⟩
      have hd2 := hd.then_ hn2
      have hl2 := hd2.lt
      clear hd hn2
      by_cases hk0 : 0 < k
      · go_wp2_with (at_builtin; refine wpList_pushR (enc := encN) w2 rfl _ _ rfl Tryz.underlying30 infoN rfl (by omega) (by omega) (w.heap.size + 1) _ _ _ _ x _ rfl w2.heap.size rfl rfl rfl hd2.nodes.1 (encN_len x) (encN_one x) (by omega) hd2.lt ?_; intro g3 c3 w3 ho3 hb3 hg3 _)
        have hd3 := hd2.pushN hx ho3 hb3 hg3
        clear hd2 hl2 ho3 hb3 hg3
        refine (next_any _ _ _ _ _ _ _ hd3.src.2.1 hn (by omega) (by omega)).mono ?_
        rintro e w4 ⟨y, hy0, hy1, rfl, hs4, hg4⟩
        have hd4 := hd3.next hs4 hg4
        clear hd3 hs4 hg4
        by_cases hy : 0 < y
        · go_wp2_with fail
          refine (next_any _ _ _ _ _ _ _ hd4.src.2.1 hn (by omega) (by omega)).mono ?_
          rintro e w5 ⟨z, hz0, hz1, rfl, hs5, hg5⟩
          have hd5 := hd4.next hs5 hg5
          clear hd4 hs5 hg5
          go_wp2_with fail
          refine (drawPipe_any _ _ _ _ _ _ _ _ hd5.src.2.1 hn (WalkArith.wf_i64 (by omega)) (WalkArith.wf_i64 (by omega))).mono ?_
          rintro e w6 ⟨q, rfl, hq, hn6⟩
          have hd6 := hd5.then_ hn6
          have hl6 := hd6.lt
          clear hd5 hn6
          go_wp2_with (at_builtin; refine wpList_pushR (enc := encP) w6 rfl _ _ rfl Tryz.underlying31 infoP rfl (by omega) (by omega) (w.heap.size + 1) _ _ _ _ q _ rfl w6.heap.size rfl rfl rfl hd6.pipes.1 (encP_len q) (encP_one q) (by omega) hd6.lt ?_; intro g7 c7 w7 ho7 hb7 hg7 _)
          have hd7 := hd6.pushP hq ho7 hb7 hg7
          clear hd6 hl6 ho7 hb7 hg7
          go_roundw
          case rel => exact ⟨k + 1, _, _, _, _, _, _, _, by omega, by go_num, rfl, rfl, by omega, hd7⟩
          case measure => simp [intOf]; omega
        · go_wp2_with fail
          go_roundw
          case rel => exact ⟨k + 1, _, _, _, _, _, _, _, by omega, by go_num, rfl, rfl, by omega, hd4⟩
          case measure => simp [intOf]; omega
      · go_wp2_with (at_builtin; refine wpList_pushR (enc := encN) w2 rfl _ _ rfl Tryz.underlying30 infoN rfl (by omega) (by omega) (w.heap.size + 1) _ _ _ _ x _ rfl w2.heap.size rfl rfl rfl hd2.nodes.1 (encN_len x) (encN_one x) (by omega) hd2.lt ?_; intro g3 c3 w3 ho3 hb3 hg3 _)
        have hd3 := hd2.pushN hx ho3 hb3 hg3
        clear hd2 hl2 ho3 hb3 hg3
        go_roundw
        case rel => exact ⟨k + 1, _, _, _, _, _, _, _, by omega, by go_num, rfl, rfl, by omega, hd3⟩
        case measure => simp [intOf]; omega
    · have hk7 : k ≤ 7 := by omega
      have hk1 : 1 ≤ k := by omega
      go_wp2_with fail
      clear hlt2
      refine (next_any _ _ _ _ _ _ _ hd.src.2.1 hn (by omega) (by omega)).mono ?_
      rintro e w2 ⟨y, hy0, hy1, rfl, hs2, hg2⟩
      have hd2 := hd.next hs2 hg2
      clear hd hs2 hg2
      go_wp2_with fail
      go_loopw [7, 5] (fun jj pp wr => ∃ (j : Int) (B1 : Option Addr) (m d1 : Nat) (ps : List Pp), 0 ≤ j ∧ j ≤ 2 ∧ jj = .int .i64 j ∧ pp = .slice B1 m d1 ∧ (m : Int) + j ≤ 9 ∧ DN w wr B A n c zs A1 k c1 ns B1 m d1 ps) (fun jj _ _ => (intOf jj).toNat)
      case atStart => exact ⟨y, _, _, _, _, hy0, by omega, rfl, rfl, by omega, hd2⟩
      case round =>
        obtain ⟨j, B1, m, d1, ps, hj0, hj2, rfl, rfl, hmj, hd⟩ := hrel
        clear hd2
        by_cases hj : 0 < j
        · by_cases hC1 : 1 < C
          · go_wp2_with fail
            refine (next_any _ _ _ _ _ _ _ hd.src.2.1 hn (by omega) (by omega)).mono ?_
            rintro e w3 ⟨a, ha0, ha1, rfl, hs3, hg3⟩
            have hd3 := hd.next hs3 hg3
            have ha7 : a ≤ 7 := by omega
            clear hd hs3 hg3
            go_wp2_with fail
            refine (next_any _ _ _ _ _ _ _ hd3.src.2.1 hn (by omega) (by omega)).mono ?_
            rintro e w4 ⟨z, hz0, hz1, rfl, hs4, hg4⟩
            have hd4 := hd3.next hs4 hg4
            have hz7 : z ≤ 7 := by omega
            have hix := pipe_ix ha0 ha7 hz0 hz7 hC1 hC7.2
            have hne : (C == 0) = false := by simp; omega
            clear hd3 hs4 hg4
            go_wp2_with fail
            generalize (a + 1 + z) % C = ix at *
            refine (drawPipe_any _ _ _ _ _ a ix _ hd4.src.2.1 hn (WalkArith.wf_i64 (by omega)) hix).mono ?_
            rintro e w6 ⟨q, rfl, hq, hn6⟩
            have hd6 := hd4.then_ hn6
            have hl6 := hd6.lt
            clear hd4 hn6
            go_wp2_with (at_builtin; refine wpList_pushR (enc := encP) w6 rfl _ _ rfl Tryz.underlying31 infoP rfl (by omega) (by omega) (w.heap.size + 1) _ _ _ _ q _ rfl w6.heap.size rfl rfl rfl hd6.pipes.1 (encP_len q) (encP_one q) (by omega) hd6.lt ?_; intro g7 c7 w7 ho7 hb7 hg7 _)
            have hd7 := hd6.pushP hq ho7 hb7 hg7
            clear hd6 hl6 ho7 hb7 hg7
            go_roundw
            case rel => exact ⟨j - 1, _, _, _, _, by omega, by omega, rfl, rfl, by omega, hd7⟩
            case measure => simp [intOf]; omega
          · have hR := hd.res
            have r0 := hR.cell 0
            have r1 := hR.cell 1
            have f0 := hR.free 0
            have f1 := hR.free 1
            have hl := hR.lt
            have HD := Lib.hid hd
            clear hR hd
            go_wp2_with fail
            refine bodyPost_ret (v := .agg #[.slice A1 k c1, .slice B1 m d1]) (by simp [results, Tryz.results145, go_sem, r0, r1]) rfl (retNetD_of HD.out (by omega) (by omega) (by omega) _ _)
        · have hR := hd.res
          have r0 := hR.cell 0
          have r1 := hR.cell 1
          have f0 := hR.free 0
          have f1 := hR.free 1
          have hl := hR.lt
          have HD := Lib.hid hd
          clear hR hd
          go_wp2_with fail
          refine bodyPost_ret (v := .agg #[.slice A1 k c1, .slice B1 m d1]) (by simp [results, Tryz.results145, go_sem, r0, r1]) rfl (retNetD_of HD.out (by omega) (by omega) (by omega) _ _)
end Go.Proofs.YtpgegfnhokhlmabGreat
