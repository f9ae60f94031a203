/- What l05DrawFlows, l16Draw do, by walks over their text. Condition: a source over at most 4096 bytes; at most 1000 pipes. -/
import Derived.Test.YtpgegfnhokhlmabGreatNDraw5
set_option linter.unusedVariables false
set_option maxRecDepth 100000
namespace Go.Proofs.YtpgegfnhokhlmabGreat
open Go.ChangeShapes Go.WideShapes Go.ChangeAt Go.RowKit Go.Joins Go.Deep
attribute [local go_sem ↓] Go.wp_at_zero Go.wp_at_succ

/-- What stands while a list of numbers is drawn for a network: the source, the network's cells, the numbers. -/
structure DI (w W : World) (B : Nat) (A : Option Addr) (n c : Nat) (zs : List Int) (cs : Array Value) (A2 : Option Addr) (l e : Nat) (ys : List Int) : Prop where
  src : NS w W B A n c zs
  box : Box W w.heap.size cs 33
  out : Own W (w.heap.size + 1) A2 l e ys
section
variable {w W W' : World} {B : Nat} {A : Option Addr} {n c : Nat} {zs : List Int} {cs : Array Value} {A2 : Option Addr} {l e : Nat} {ys : List Int}
theorem DI.lt (h : DI w W B A n c zs cs A2 l e ys) : w.heap.size + 1 ≤ W.heap.size := h.box.lt
theorem DI.next (h : DI w W B A n c zs cs A2 l e ys) (hs : Src W' B A n c zs) (hg : W.grownBy W' (some B)) : DI w W' B A n c zs cs A2 l e ys := by
  have hB := h.src.1.lt
  refine ⟨h.src.next hs hg, h.box.grown hg (fun hh => by injection hh with hh; omega), h.out.grown hg (fun g hg' hE => ?_)⟩
  have h1 := (h.out.lt g (by rw [hg']; rfl)).1
  injection hE with hE
  omega
theorem DI.below (h : DI w W B A n c zs cs A2 l e ys) (hb : Below W.heap.size W W') : DI w W' B A n c zs cs A2 l e ys :=
  ⟨h.src.belowN (hb.mono (Nat.le_trans (Nat.le_succ _) h.lt)), h.box.belowA hb, h.out.below hb⟩
theorem DI.alloc (h : DI w W B A n c zs cs A2 l e ys) (o : Obj) : DI w (W.alloc o) B A n c zs cs A2 l e ys := h.below ((Below.refl _ _).alloc (Nat.le_refl _) _)
theorem DI.push {g e' : Nat} {zz : List Int} (h : DI w W B A n c zs cs A2 l e ys) (ho : Own W' (w.heap.size + 1) (some ⟨g, 0, none⟩) (l + 1) e' zz) (hb : Below (w.heap.size + 1) W W') : DI w W' B A n c zs cs (some ⟨g, 0, none⟩) (l + 1) e' zz :=
  ⟨h.src.belowN (hb.mono (Nat.le_succ _)), h.box.below hb (Nat.lt_succ_self _), ho⟩
theorem DI.set {g k : Nat} {z : Int} (h : DI w W B A n c zs cs (some ⟨g, 0, none⟩) l e ys) (hk : k < l) (hz : I64 z) : DI w (W.setCell ⟨g, k, none⟩ (.int .i64 z)) B A n c zs cs (some ⟨g, 0, none⟩) l e (ys.set k z) := by
  have h1 := (h.out.lt g rfl).1
  exact ⟨h.src.set (by omega) _ _, h.box.other (by simp; omega) _, h.out.set_ k hz⟩
end
/-- A call draws a list of numbers. -/
def RetID (w : World) (B : Nat) (A : Option Addr) (n c : Nat) (zs : List Int) (L : Nat) (e : Ending) (w' : World) : Prop :=
  ∃ A2 c2 ys, e = .returned (.slice A2 ys.length c2) ∧ Own w' w.heap.size A2 ys.length c2 ys ∧ ys.length ≤ L ∧ NS w w' B A n c zs
theorem retID_of {w W : World} {B : Nat} {A : Option Addr} {n c : Nat} {zs : List Int} {cs : Array Value} {A2 : Option Addr} {l e L : Nat} {ys : List Int} (h : DI w W B A n c zs cs A2 l e ys) (hL : l ≤ L) : RetID w B A n c zs L (.returned (.slice A2 l e)) W := by
  obtain rfl : ys.length = l := h.out.len
  exact ⟨A2, e, ys, rfl, h.out.mono (Nat.le_succ _), hL, h.src⟩
theorem pickA {w5 w4 : World} {B : Nat} (xs : List Int) {t : TypeId} (hg : (w4.alloc (.cells (xs.map (Value.int .i64)).toArray t)).grownBy w5 (some B)) (hB : B < w4.heap.size) {y : Int} (h0 : 0 ≤ y) (h1 : y = 0 ∨ y < (xs.length : Int)) (hl : 0 < xs.length) :
    ∃ v ∈ xs, w5.cell? ⟨w4.heap.size, y.toNat, none⟩ = some (.int .i64 v) ∧ w4.heap.size < w5.heap.size := by
  obtain ⟨v, hv, hc⟩ := pickI xs hg hB h0 h1 hl
  exact ⟨v, hv, hc, by have := hg.size; simp at this; omega⟩
set_option maxHeartbeats 1600000 in
theorem flowsD_any (B : Nat) (A A1 B1 : Option Addr) (n c k c1 m d1 : Nat) (zs : List Int) (w : World) (h : Src w B A n c zs) (hn : n ≤ 4096) (hm : m ≤ 1000) :
    Calls Tryz.prog 68 #[.pointer (some ⟨B, 0, none⟩), .agg #[.slice A1 k c1, .slice B1 m d1]] w (RetID w B A n c zs (m + 1)) := by
  have hlt := h.lt
  have hd0 : DI w ((w.alloc (.cells #[.slice A1 k c1, .slice B1 m d1] 33)).alloc (.cells #[] 2)) B A n c zs #[.slice A1 k c1, .slice B1 m d1] (some ⟨w.heap.size + 1, 0, none⟩) 0 0 [] := by
    refine ⟨((NS.start h).alloc _).alloc _, (box_new w _ _).alloc _, ?_⟩
    have := own_empty (w.alloc (.cells #[.slice A1 k c1, .slice B1 m d1] 33)) (w.heap.size + 1) (by simp)
    simpa using this
  have HX := Lib.hid (show ∀ W, Box W w.heap.size #[.slice A1 k c1, .slice B1 m d1] 33 → w.heap.size < W.heap.size ∧ W.cell? ⟨w.heap.size, 1, none⟩ = some (.slice B1 m d1) from fun W hB => ⟨hB.lt, hB.cell 1⟩)
  go_enter Tryz.func68, Tryz.ntmps68
  go_wp2_with fail
  generalize (w.alloc (.cells #[.slice A1 k c1, .slice B1 m d1] 33)).alloc (.cells #[] 2) = W0 at *
  generalize (#[.slice A1 k c1, .slice B1 m d1] : Array Value) = bc at hd0 HX
  go_loopw [5, 6] (fun oo ii wr => ∃ (j : Nat) (A2 : Option Addr) (e : Nat) (ys : List Int), j ≤ m ∧ ii = .int .i64 (j : Int) ∧ oo = .slice A2 j e ∧ DI w wr B A n c zs bc A2 j e ys) (fun _ ii _ => m - (intOf ii).toNat)
  case atStart => exact ⟨0, _, _, _, Nat.zero_le _, rfl, rfl, hd0⟩
  case round =>
    obtain ⟨j, A2, e, ys, hj, rfl, rfl, hd⟩ := hrel
    clear hd0
    obtain ⟨x0, x1⟩ := HX.out _ hd.box
    by_cases hlt2 : j < m
    · have i1 : (j : Int) < (m : Int) := by omega
      go_wp2_with fail
      clear x0 x1
      refine (next_any _ _ _ _ _ _ _ hd.src.2.1 hn (by omega) (by omega)).mono ?_
      rintro e2 w3 ⟨x, hx0, hx1, rfl, hs3, hg3⟩
      have hd3 := hd.next hs3 hg3
      have hz : I64 (x - 30) := WalkArith.wf_i64 (by omega)
      clear hd hs3 hg3
      go_wp2_with (at_builtin; refine wpList_push w3 rfl _ _ rfl (w.heap.size + 1) _ _ _ _ (x - 30) rfl rfl hd3.out hz (by omega) hd3.lt ?_; intro g7 c7 w7 ho7 hb7 hg7 _)
      have hd7 := hd3.push ho7 hb7
      clear hd3 ho7 hb7 hg7
      go_roundw
      case rel => exact ⟨j + 1, _, _, _, by omega, by go_num, rfl, hd7⟩
      case measure => simp [intOf]; omega
    · have i1 : ¬ (j : Int) < (m : Int) := by omega
      go_wp2_with fail
      clear x0 x1
      refine (next_any _ _ _ _ _ _ _ hd.src.2.1 hn (by omega) (by omega)).mono ?_
      rintro e2 w3 ⟨x, hx0, hx1, rfl, hs3, hg3⟩
      have hd3 := hd.next hs3 hg3
      clear hd hs3 hg3
      by_cases hc0 : x = 0
      · subst hc0
        go_wp2_with (at_builtin; refine wpList_push w3 rfl _ _ rfl (w.heap.size + 1) _ _ _ _ (0) rfl rfl hd3.out (WalkArith.wf_i64 (by omega)) (by omega) hd3.lt ?_; intro g7 c7 w7 ho7 hb7 hg7 _)
        have hd7 := hd3.push ho7 hb7
        go_ret
        exact retID_of hd7 (by omega)
      · have hc0' : (x == 0) = false := by simpa using hc0
        by_cases hc1 : x = 1
        · subst hc1
          by_cases hl0 : 0 < j
          · obtain ⟨g, z9, rfl, hgB, hgl, q1, q2, q3, q4⟩ := hd3.out.at_ hl0
            have i2 : (0 : Int) < (j : Int) := by omega
            clear q1 q2 q3
            go_wp2_with fail
            refine (next_any _ _ _ _ _ _ _ (hd3.alloc _).src.2.1 hn (by omega) (by omega)).mono ?_
            rintro e4 w4 ⟨y, hy0, hy1, rfl, hs4, hg4⟩
            have hd4 := (hd3.alloc _).next hs4 hg4
            obtain ⟨v, hv, hpc, hpl⟩ := pickA [30000, 30001, -30000] hg4 (by have := hd3.lt; omega) hy0 (by simpa using hy1) (by decide)
            have hvb : -30000 ≤ v ∧ v ≤ 30001 := by simp at hv; omega
            have hz : I64 v := WalkArith.wf_i64 (by omega)
            have hyl : y < 3 := by omega
            obtain ⟨g', z9', hA', hgB', hgl', q1, q2, q3, q4'⟩ := hd4.out.at_ hl0
            injection hA' with hA'
            injection hA' with hA' _ _
            subst hA'
            have hd5 := hd4.set (k := 0) hl0 hz
            clear hd3 hs4 hg4 hv hvb hd4 q1 q2 q4
            go_wp2_with fail
            go_ret
            exact retID_of hd5 (by omega)
          · have i2 : ¬ (0 : Int) < (j : Int) := by omega
            go_wp2_with fail
            go_ret
            exact retID_of hd3 (by omega)
        · have hc1' : (x == 1) = false := by simpa using hc1
          go_wp2_with fail
          go_ret
          exact retID_of hd3 (by omega)
set_option maxHeartbeats 1600000 in
theorem settD_any (B : Nat) (A A1 B1 : Option Addr) (n c k c1 m d1 : Nat) (zs : List Int) (w : World) (h : Src w B A n c zs) (hn : n ≤ 4096) (hm : m ≤ 1000) :
    Calls Tryz.prog 78 #[.pointer (some ⟨B, 0, none⟩), .agg #[.slice A1 k c1, .slice B1 m d1]] w (RetID w B A n c zs (m + 1)) := by
  have hlt := h.lt
  have hd0 : DI w ((w.alloc (.cells #[.slice A1 k c1, .slice B1 m d1] 33)).alloc (.cells #[] 2)) B A n c zs #[.slice A1 k c1, .slice B1 m d1] (some ⟨w.heap.size + 1, 0, none⟩) 0 0 [] := by
    refine ⟨((NS.start h).alloc _).alloc _, (box_new w _ _).alloc _, ?_⟩
    have := own_empty (w.alloc (.cells #[.slice A1 k c1, .slice B1 m d1] 33)) (w.heap.size + 1) (by simp)
    simpa using this
  have HX := Lib.hid (show ∀ W, Box W w.heap.size #[.slice A1 k c1, .slice B1 m d1] 33 → w.heap.size < W.heap.size ∧ W.cell? ⟨w.heap.size, 1, none⟩ = some (.slice B1 m d1) from fun W hB => ⟨hB.lt, hB.cell 1⟩)
  go_enter Tryz.func78, Tryz.ntmps78
  go_wp2_with fail
  generalize (w.alloc (.cells #[.slice A1 k c1, .slice B1 m d1] 33)).alloc (.cells #[] 2) = W0 at *
  generalize (#[.slice A1 k c1, .slice B1 m d1] : Array Value) = bc at hd0 HX
  go_loopw [5, 6] (fun oo ii wr => ∃ (j : Nat) (A2 : Option Addr) (e : Nat) (ys : List Int), j ≤ m ∧ ii = .int .i64 (j : Int) ∧ oo = .slice A2 j e ∧ DI w wr B A n c zs bc A2 j e ys) (fun _ ii _ => m - (intOf ii).toNat)
  case atStart => exact ⟨0, _, _, _, Nat.zero_le _, rfl, rfl, hd0⟩
  case round =>
    obtain ⟨j, A2, e, ys, hj, rfl, rfl, hd⟩ := hrel
    clear hd0
    obtain ⟨x0, x1⟩ := HX.out _ hd.box
    by_cases hlt2 : j < m
    · have i1 : (j : Int) < (m : Int) := by omega
      go_wp2_with fail
      clear x0 x1
      refine (next_any _ _ _ _ _ _ _ (hd.alloc _).src.2.1 hn (by omega) (by omega)).mono ?_
      rintro e2 w3 ⟨x, hx0, hx1, rfl, hs3, hg3⟩
      have hd3 := (hd.alloc _).next hs3 hg3
      obtain ⟨v, hv, hpc, hpl⟩ := pickA [1, 1, 1, 2, 0] hg3 (by have := hd.lt; omega) hx0 (by simpa using hx1) (by decide)
      have hvb : -1 ≤ v ∧ v ≤ 30001 := by simp at hv; omega
      have hz : I64 v := WalkArith.wf_i64 (by omega)
      have hxl : x < 5 := by omega
      clear hd hs3 hg3 hv hvb
      go_wp2_with (at_builtin; refine wpList_push w3 rfl _ _ rfl (w.heap.size + 1) _ _ _ _ (v) rfl rfl hd3.out hz (by omega) hd3.lt ?_; intro g7 c7 w7 ho7 hb7 hg7 _)
      have hd7 := hd3.push ho7 hb7
      clear hd3 ho7 hb7 hg7
      go_roundw
      case rel => exact ⟨j + 1, _, _, _, by omega, by go_num, rfl, hd7⟩
      case measure => simp [intOf]; omega
    · have i1 : ¬ (j : Int) < (m : Int) := by omega
      go_wp2_with fail
      clear x0 x1
      refine (next_any _ _ _ _ _ _ _ hd.src.2.1 hn (by omega) (by omega)).mono ?_
      rintro e2 w3 ⟨x, hx0, hx1, rfl, hs3, hg3⟩
      have hd3 := hd.next hs3 hg3
      clear hd hs3 hg3
      by_cases hc0 : x = 0
      · subst hc0
        go_wp2_with (at_builtin; refine wpList_push w3 rfl _ _ rfl (w.heap.size + 1) _ _ _ _ (1) rfl rfl hd3.out (WalkArith.wf_i64 (by omega)) (by omega) hd3.lt ?_; intro g7 c7 w7 ho7 hb7 hg7 _)
        have hd7 := hd3.push ho7 hb7
        go_ret
        exact retID_of hd7 (by omega)
      · have hc0' : (x == 0) = false := by simpa using hc0
        by_cases hc1 : x = 1
        · subst hc1
          by_cases hl0 : 0 < j
          · obtain ⟨g, z9, rfl, hgB, hgl, q1, q2, q3, q4⟩ := hd3.out.at_ hl0
            have i2 : (0 : Int) < (j : Int) := by omega
            clear q1 q2 q3
            go_wp2_with fail
            refine (next_any _ _ _ _ _ _ _ (hd3.alloc _).src.2.1 hn (by omega) (by omega)).mono ?_
            rintro e4 w4 ⟨y, hy0, hy1, rfl, hs4, hg4⟩
            have hd4 := (hd3.alloc _).next hs4 hg4
            obtain ⟨v, hv, hpc, hpl⟩ := pickA [-1, 3] hg4 (by have := hd3.lt; omega) hy0 (by simpa using hy1) (by decide)
            have hvb : -30000 ≤ v ∧ v ≤ 30001 := by simp at hv; omega
            have hz : I64 v := WalkArith.wf_i64 (by omega)
            have hyl : y < 2 := by omega
            obtain ⟨g', z9', hA', hgB', hgl', q1, q2, q3, q4'⟩ := hd4.out.at_ hl0
            injection hA' with hA'
            injection hA' with hA' _ _
            subst hA'
            have hd5 := hd4.set (k := 0) hl0 hz
            clear hd3 hs4 hg4 hv hvb hd4 q1 q2 q4
            go_wp2_with fail
            go_ret
            exact retID_of hd5 (by omega)
          · have i2 : ¬ (0 : Int) < (j : Int) := by omega
            go_wp2_with fail
            go_ret
            exact retID_of hd3 (by omega)
        · have hc1' : (x == 1) = false := by simpa using hc1
          go_wp2_with fail
          go_ret
          exact retID_of hd3 (by omega)
end Go.Proofs.YtpgegfnhokhlmabGreat
