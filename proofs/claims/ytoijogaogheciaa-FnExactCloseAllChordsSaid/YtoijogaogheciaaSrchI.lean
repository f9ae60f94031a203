/- What searchFrom does, by a walk over its text. Condition: a valid network. -/
import Derived.Test.YtoijogaogheciaaSrch
import Derived.RegionTactic
import Derived.BigRegion
import Derived.Deep.DeepCutAuto
set_option linter.unusedVariables false
set_option maxRecDepth 100000
namespace Go.Proofs.Ytoijogaogheciaa
open Go.ChangeShapes Go.WideShapes Go.ChangeAt Go.RowKit Go.Joins Go.Deep

theorem own_zeros_at (w : World) (n B g : Nat) (hn : n ≤ 1048576) (hg : g = w.heap.size) (hB : B ≤ g) : Own (w.alloc (.cells (madeCells #[.int .i64 0] n) 2)) B (some ⟨g, 0, none⟩) n n (List.replicate n 0) := by
  subst hg
  exact (own_zeros w n hn).mono hB
theorem own_one_at (w : World) (B g : Nat) (v : Nat) (hv : v < 1000) (hg : g = w.heap.size) (hB : B ≤ g) : Own (w.alloc (.cells #[.int .i64 (v : Int)] 2)) B (some ⟨g, 0, none⟩) 1 1 [(v : Int)] := by
  subst hg
  exact own_one w B v hv hB
theorem setCell_comm (w : World) {a b : Addr} (u v : Value) (h : a.block ≠ b.block) : (w.setCell a u).setCell b v = (w.setCell b v).setCell a u := by
  unfold World.setCell
  congr 1
  apply Array.ext
  · simp
  · intro i h1 h2
    simp only [Array.getElem_modify]
    by_cases e1 : a.block = i
    · have e2 : ¬ b.block = i := fun hh => h (e1.trans hh.symm)
      simp [e1, e2]
    · by_cases e2 : b.block = i <;> simp [e1, e2]
/-- The first state of a search in memory: its parts lie in blocks of their own. -/
structure S0 (W : World) (G n s g a b e : Nat) : Prop where
  box : Box W g #[.slice (some ⟨a, 0, none⟩) 1 1, .slice (some ⟨b, 0, none⟩) n n, .slice (some ⟨e, 0, none⟩) n n] 116
  ord : Own W (G + 2) (some ⟨a, 0, none⟩) 1 1 [(s : Int)]
  dst : Own W (G + 2) (some ⟨b, 0, none⟩) n n (List.replicate n 0)
  ent : Own W (G + 2) (some ⟨e, 0, none⟩) n n (List.replicate n 0)
  ab : a ≠ b
  be : b ≠ e
  ae : a ≠ e
  ga : g ≠ a
  gb : g ≠ b
  ge : g ≠ e
  gl : G + 2 ≤ g
theorem s0_of {V W : World} {G n s g a b e : Nat} (hb : Box W g #[.slice (some ⟨a, 0, none⟩) 1 1, .slice (some ⟨b, 0, none⟩) n n, .slice (some ⟨e, 0, none⟩) n n] 116) (h1 : Own W (G + 2) (some ⟨a, 0, none⟩) 1 1 [(s : Int)]) (h2 : Own W (G + 2) (some ⟨b, 0, none⟩) n n (List.replicate n 0)) (h3 : Own W (G + 2) (some ⟨e, 0, none⟩) n n (List.replicate n 0))
    (h4 : (a ≠ b ∧ b ≠ e ∧ a ≠ e) ∧ g ≠ a ∧ g ≠ b ∧ g ≠ e ∧ G + 2 ≤ g) (h5 : Below V.heap.size V W) : ∃ g' a b e : Nat, Value.pointer (some ⟨g, 0, none⟩) = .pointer (some ⟨g', 0, none⟩) ∧ S0 W G n s g' a b e ∧ Below V.heap.size V W :=
  ⟨g, a, b, e, rfl, ⟨hb, h1, h2, h3, h4.1.1, h4.1.2.1, h4.1.2.2, h4.2.1, h4.2.2.1, h4.2.2.2.1, h4.2.2.2.2⟩, h5⟩
/-- Distances: negative exactly where the search has not been. -/
def DS (n : Nat) (ord : List Nat) (ds : List Int) : Prop := ∀ v, v < n → ∃ z, ds[v]? = some z ∧ (z < 0 ↔ v ∉ ord) ∧ -1 ≤ z ∧ z ≤ ord.length
theorem ds_start {n s : Nat} (hs : s < n) : DS n [s] ((List.replicate n (-1)).set s 0) := by
  intro v hv
  by_cases e : s = v
  · subst e
    exact ⟨0, by rw [List.getElem?_set_self (by simpa using hv)], by simp, by omega, by simp⟩
  · refine ⟨-1, by rw [List.getElem?_set_ne e]; simp [hv], ?_, by omega, by simp⟩
    have e' : ¬ v = s := fun h => e h.symm
    simp [e']
theorem ds_step {n v o : Nat} {ord : List Nat} {ds : List Int} {x : Int} (h : DS n ord ds) (hl : ds.length = n) (hx : ds[v]? = some x) (hv : v ∈ ord) (hvn : v < n) (ho : o ∉ ord) (hon : o < n) : DS n (ord ++ [o]) (ds.set o (x + 1)) := by
  obtain ⟨z, hz, h1, h2, h3⟩ := h v hvn
  obtain rfl : x = z := Option.some.inj (hx.symm.trans hz)
  have hx0 : 0 ≤ x := by
    rcases Int.lt_or_le x 0 with hh | hh
    · exact absurd hv (h1.1 hh)
    · exact hh
  intro y hy
  by_cases e : o = y
  · subst e
    exact ⟨x + 1, by rw [List.getElem?_set_self (by omega)], ⟨fun hh => by omega, fun hh => absurd (List.mem_append_right _ List.mem_cons_self) hh⟩, by omega, by rw [List.length_append]; simp; omega⟩
  · obtain ⟨z, hz, g1, g2, g3⟩ := h y hy
    have e' : ¬ y = o := fun h => e h.symm
    refine ⟨z, by rw [List.getElem?_set_ne e]; exact hz, ?_, g2, by rw [List.length_append]; simp; omega⟩
    rw [g1]
    simp [e']
/-- The state of the program's search in memory. -/
structure SI (w : World) (G n g b e : Nat) (A : Option Addr) (m c : Nat) (st : St) : Prop where
  box : Box w g #[.slice A m c, .slice (some ⟨b, 0, none⟩) n n, .slice (some ⟨e, 0, none⟩) n n] 116
  ord : Own w (G + 2) A m c (cN st.ord)
  dst : ∃ ds, Own w (G + 2) (some ⟨b, 0, none⟩) n n ds ∧ DS n st.ord ds
  ent : Own w (G + 2) (some ⟨e, 0, none⟩) n n (encE st.ent)
  Ab : A.map (·.block) ≠ some b
  Ae : A.map (·.block) ≠ some e
  Ag : A.map (·.block) ≠ some g
theorem SI.below {w w' : World} {G n g b e : Nat} {A : Option Addr} {m c : Nat} {st : St} (h : SI w G n g b e A m c st) (hb : Below w.heap.size w w') : SI w' G n g b e A m c st := by
  obtain ⟨ds, h1, h2⟩ := h.dst
  exact ⟨h.box.belowA hb, h.ord.below hb, ⟨ds, h1.below hb, h2⟩, h.ent.below hb, h.Ab, h.Ae, h.Ag⟩
theorem grown_set (w : World) (g o : Nat) (u : Value) : w.grownBy (w.setCell ⟨g, o, none⟩ u) (some g) :=
  ⟨rfl, rfl, rfl, by simp [World.setCell], fun k _ hk => Below.heap_setCell w ⟨g, o, none⟩ u k (fun e => hk (by rw [e]))⟩
theorem Own.lo_ {w : World} {B : Nat} {A : Option Addr} {n c : Nat} {zs : List Int} (h : Own w B A n c zs) {a : Addr} (ha : a.block < B) (u : Value) : Own (w.setCell a u) B A n c zs := ⟨ownsRow_setCell_below h.1 ha u, h.2⟩
theorem SI.cells {w : World} {G n g b e : Nat} {A : Option Addr} {m c : Nat} {st : St} (h : SI w G n g b e A m c st) {o v : Nat} (ho : o < n) (hv : v < n) :
    ∃ zo zv ze : Int, (zo < 0 ↔ o ∉ st.ord) ∧ (-1 ≤ zv ∧ zv ≤ st.ord.length) ∧ w.cell? ⟨g, 0, none⟩ = some (.slice A m c) ∧ w.cell? ⟨g, 1, none⟩ = some (.slice (some ⟨b, 0, none⟩) n n) ∧ w.cell? ⟨g, 2, none⟩ = some (.slice (some ⟨e, 0, none⟩) n n) ∧
      w.cell? ⟨b, o, none⟩ = some (.int .i64 zo) ∧ w.frozen? ⟨b, o, none⟩ = false ∧ w.cell? ⟨b, v, none⟩ = some (.int .i64 zv) ∧ w.cell? ⟨e, o, none⟩ = some (.int .i64 ze) ∧ w.frozen? ⟨e, o, none⟩ = false ∧ w.frozen? ⟨g, 0, none⟩ = false ∧ g < w.heap.size ∧ b < w.heap.size ∧ e < w.heap.size := by
  obtain ⟨ds, hd, hds⟩ := h.dst
  obtain ⟨zo, hzo, hzi, _, _⟩ := hds _ ho
  obtain ⟨zv, hzv, _, hz1, hz2⟩ := hds _ hv
  obtain ⟨_, zo', hA1, _, hl1, hzo', _, hc1, hf1⟩ := hd.at_ ho
  obtain rfl : zo' = zo := Option.some.inj (hzo'.symm.trans hzo)
  obtain ⟨_, zv', hA2, _, _, hzv', _, hc2, _⟩ := hd.at_ hv
  obtain rfl : zv' = zv := Option.some.inj (hzv'.symm.trans hzv)
  obtain ⟨_, ze, hA3, _, hl3, _, _, hc3, hf3⟩ := h.ent.at_ ho
  injection hA1 with hA1; injection hA1 with hA1
  injection hA2 with hA2; injection hA2 with hA2
  injection hA3 with hA3; injection hA3 with hA3
  subst hA1 hA2 hA3
  exact ⟨_, _, _, hzi, ⟨hz1, hz2⟩, h.box.cell 0, h.box.cell 1, h.box.cell 2, hc1, hf1, hc2, hc3, hf3, h.box.free 0, h.box.lt, hl1, hl3⟩
/-- The two stores of a new node: its distance, its entry. -/
theorem SI.stores {w : World} {G n g b e : Nat} {A : Option Addr} {m c : Nat} {st : St} (h : SI w G n g b e A m c st) {o v p : Nat} {zv : Int} (hn : n ≤ 24) (ho : o < n) (hv : v < n) (hvo : v ∈ st.ord) (hoo : o ∉ st.ord) (hp : p < 1000) (hm : m ≤ n) (hcv : w.cell? ⟨b, v, none⟩ = some (.int .i64 zv)) (hgl : G + 2 ≤ g) (hge : g ≠ e) (hgb : g ≠ b) (hbe : b ≠ e) :
    Box ((w.setCell ⟨b, o, none⟩ (.int .i64 (zv + 1))).setCell ⟨e, o, none⟩ (.int .i64 (p : Int))) g #[.slice A m c, .slice (some ⟨b, 0, none⟩) n n, .slice (some ⟨e, 0, none⟩) n n] 116 ∧
    Own ((w.setCell ⟨b, o, none⟩ (.int .i64 (zv + 1))).setCell ⟨e, o, none⟩ (.int .i64 (p : Int))) (G + 2) A m c (cN st.ord) ∧
    (∃ ds, Own ((w.setCell ⟨b, o, none⟩ (.int .i64 (zv + 1))).setCell ⟨e, o, none⟩ (.int .i64 (p : Int))) (G + 2) (some ⟨b, 0, none⟩) n n ds ∧ DS n (st.ord ++ [o]) ds) ∧
    Own ((w.setCell ⟨b, o, none⟩ (.int .i64 (zv + 1))).setCell ⟨e, o, none⟩ (.int .i64 (p : Int))) (G + 2) (some ⟨e, 0, none⟩) n n (encE (st.ent.set o (some p))) ∧ (G + 2 ≤ b ∧ G + 2 ≤ e) := by
  obtain ⟨ds, hd, hds⟩ := h.dst
  obtain ⟨_, zv', hA2, hb2, _, hzv', _, hc2, _⟩ := hd.at_ hv
  obtain rfl := (by injection hA2 with hA2; injection hA2 : b = _)
  obtain rfl : zv = zv' := by rw [hcv] at hc2; injection hc2 with hc2; injection hc2
  obtain ⟨zv2, hz2, _, hlo, hhi⟩ := hds _ hv
  obtain rfl : zv2 = zv := Option.some.inj (hz2.symm.trans hzv')
  have hol : st.ord.length = m := by have := h.ord.len; rwa [cN_len] at this
  obtain ⟨_, _, hA3, he2, _⟩ := h.ent.at_ ho
  obtain rfl := (by injection hA3 with hA3; injection hA3 : e = _)
  obtain ⟨hD2, hgr1⟩ := hd.set2 o (z := zv2 + 1) (WalkArith.wf_i64 (by omega))
  have hE1 := h.ent.grown hgr1 (fun x hx hh => by injection hx with hx; injection hx with hx; injection hh with hh; omega)
  have hO1 := h.ord.grown hgr1 (fun x hx hh => h.Ab (by rw [hx]; exact hh.symm ▸ rfl))
  have hB1 := h.box.grown hgr1 (fun hh => by injection hh with hh; omega)
  obtain ⟨hE2, hgr2⟩ := hE1.set2 o (z := (p : Int)) (WalkArith.wf_i64 (by omega))
  have hD3 := hD2.grown hgr2 (fun x hx hh => by injection hx with hx; injection hx with hx; injection hh with hh; omega)
  have hO2 := hO1.grown hgr2 (fun x hx hh => h.Ae (by rw [hx]; exact hh.symm ▸ rfl))
  have hB2 := hB1.grown hgr2 (fun hh => by injection hh with hh; omega)
  refine ⟨hB2, hO2, ⟨_, hD3, ds_step hds hd.len hzv' hvo hv hoo ho⟩, ?_, hb2, he2⟩
  rw [encE_set]
  exact hE2
/-- A call returns the search's struct: order, distances, entries. -/
def RetS (w : World) (st : St) (e : Ending) (w' : World) : Prop :=
  ∃ A c b e' ds, e = .returned (.agg #[.slice A st.ord.length c, .slice (some ⟨b, 0, none⟩) st.ent.length st.ent.length, .slice (some ⟨e', 0, none⟩) st.ent.length st.ent.length]) ∧ Own w' w.heap.size A st.ord.length c (cN st.ord) ∧ Own w' w.heap.size (some ⟨b, 0, none⟩) st.ent.length st.ent.length ds ∧ DS st.ent.length st.ord ds ∧ Own w' w.heap.size (some ⟨e', 0, none⟩) st.ent.length st.ent.length (encE st.ent) ∧ Below w.heap.size w w'
set_option maxHeartbeats 8000000 in
theorem search_any (A B : Option Addr) (n c m d : Nat) (s : Nat) (ns : List Nd) (ps : List Pp) (w : World) (h : IsNet w A n c ns B m d ps) (hok : NetOk ns ps) (hs : s < n) :
    Calls Try.prog 117 #[.agg #[.slice A n c, .slice B m d], .int .i64 s] w (RetS w (bfs (esOf ps) n s)) := by
  have hln : ns.length = n := h.nodes.len
  have hm : ps.length = m := h.pipes.len
  have hn24 : n ≤ 24 := by have := hok.2.1; omega
  have hm40 : m ≤ 40 := by have := hok.2.2.1; omega
  have hg : Good (esOf ps) n := by rw [← hln]; exact net_good hok
  have HG := Lib.hid hg
  have HM := Lib.hid hm
  have HOK := Lib.hid hok
  clear hln hm hok hg
  have hmk := fun W => run_make_row' (P := Try.prog) 22 2 (.int .i64 0) 8 Try.underlying22 info_i64 rfl .i64 .i64 n (by omega) (by omega) W
  go_enter Try.func117, Try.ntmps117
  go_upto_region 1 with fail
  have bx := (box_new w #[.slice A n c, .slice B m d] 45).alloc (.cells #[.slice none 0 0, .slice none 0 0, .slice none 0 0] 116)
  have by1 := box_at (w.alloc (.cells #[.slice A n c, .slice B m d] 45)) #[.slice none 0 0, .slice none 0 0, .slice none 0 0] 116 (g := w.heap.size + 1) (by simp)
  have hV : Below w.heap.size w ((w.alloc (.cells #[.slice A n c, .slice B m d] 45)).alloc (.cells #[.slice none 0 0, .slice none 0 0, .slice none 0 0] 116)) := ((Below.refl _ _).alloc (Nat.le_refl _) _).alloc (by simp) _
  have hsz : ((w.alloc (.cells #[.slice A n c, .slice B m d] 45)).alloc (.cells #[.slice none 0 0, .slice none 0 0, .slice none 0 0] 116)).heap.size = w.heap.size + 2 := by simp
  generalize ((w.alloc (.cells #[.slice A n c, .slice B m d] 45)).alloc (.cells #[.slice none 0 0, .slice none 0 0, .slice none 0 0] 116)) = V at *
  have x0 : V.cell? ⟨w.heap.size, 0, none⟩ = some (.slice A n c) := bx.cell 0
  have xl := bx.lt
  have hsz' : V.heap.size = w.heap.size + 2 := hsz
  go_cut [5] (fun s5 wx => ∃ g a b e : Nat, s5 = .pointer (some ⟨g, 0, none⟩) ∧ S0 wx w.heap.size n s g a b e ∧ Below V.heap.size V wx)
  case first =>
    go_region
    all_goals (go_wp2_with fail; go_meet)
    all_goals
      apply s0_of
      · refine Box.drew ?_
        repeat (first | (refine box_at _ _ _ ?_ <;> (simp [hsz']; done)) | refine Box.alloc ?_ _)
      · refine Own.drew ?_
        repeat (first | (refine own_one_at _ _ _ _ ?_ ?_ ?_ <;> (first | omega | (simp [hsz']; done))) | refine Own.alloc ?_ _)
      · refine Own.drew ?_
        repeat (first | (refine own_zeros_at _ _ _ _ ?_ ?_ ?_ <;> (first | omega | (simp [hsz']; done))) | refine Own.alloc ?_ _)
      · refine Own.drew ?_
        repeat (first | (refine own_zeros_at _ _ _ _ ?_ ?_ ?_ <;> (first | omega | (simp [hsz']; done))) | refine Own.alloc ?_ _)
      · omega
      · refine Below.drew ?_
        repeat (first | exact Below.refl _ _ | refine Below.alloc ?_ (by simp <;> omega) _)
  case rest =>
    obtain ⟨g, a, b, e, rfl, hS0, hbc⟩ := hcut
    obtain ⟨hbx, hO, hD, hE, hab, hbe, hae, hga, hgb, hge, hgl⟩ := hS0
    have bxc := bx.belowA hbc
    have byc := by1.belowA hbc
    have x0 : wc.cell? ⟨w.heap.size, 0, none⟩ = some (.slice A n c) := bxc.cell 0
    have x1 : wc.cell? ⟨w.heap.size, 1, none⟩ = some (.slice B m d) := bxc.cell 1
    have xl := bxc.lt
    have hVc : Below w.heap.size w wc := bthen hV hbc hV.size
    have hgl2 := hbx.lt
    clear hsz hmk bx by1 hbc
    go_wp2_with fail
    go_loopw [26] (fun ii wr => ∃ k : Nat, k ≤ n ∧ ii = .int .i64 k ∧ Box wr g #[.slice (some ⟨a, 0, none⟩) 1 1, .slice (some ⟨b, 0, none⟩) n n, .slice (some ⟨e, 0, none⟩) n n] 116 ∧ Own wr (w.heap.size + 2) (some ⟨a, 0, none⟩) 1 1 [(s : Int)] ∧ Own wr (w.heap.size + 2) (some ⟨b, 0, none⟩) n n (List.replicate k (-1) ++ List.replicate (n - k) 0) ∧ Own wr (w.heap.size + 2) (some ⟨e, 0, none⟩) n n (List.replicate k (-1) ++ List.replicate (n - k) 0) ∧ Below (w.heap.size + 2) wc wr) (fun ii _ => n - (intOf ii).toNat)
    case atStart => exact ⟨0, Nat.zero_le _, rfl, hbx, hO, by simpa using hD, by simpa using hE, Below.refl _ _⟩
    case round =>
      obtain ⟨k, hk, rfl, hbx, hO, hD, hE, hb⟩ := hrel
      have hgl3 := hbx.lt
      have y1 : wr.cell? ⟨g, 1, none⟩ = some (.slice (some ⟨b, 0, none⟩) n n) := hbx.cell 1
      have y2 : wr.cell? ⟨g, 2, none⟩ = some (.slice (some ⟨e, 0, none⟩) n n) := hbx.cell 2
      by_cases hlt : k < n
      · obtain ⟨_, _, hA1, hb2, hbl, _, _, hcb, hfb⟩ := hD.at_ hlt
        obtain rfl := (by injection hA1 with hA1; injection hA1 : b = _)
        obtain ⟨_, _, hA2, he2, hel, _, _, hce, hfe⟩ := hE.at_ hlt
        obtain rfl := (by injection hA2 with hA2; injection hA2 : e = _)
        obtain ⟨hD2, hgr1⟩ := hD.set2 k (z := -1) (WalkArith.wf_i64 (by omega))
        have hE1 := hE.grown hgr1 (fun x hx hh => by injection hx with hx; injection hx with hx; injection hh with hh; omega)
        have hO1 := hO.grown hgr1 (fun x hx hh => by injection hx with hx; injection hx with hx; injection hh with hh; omega)
        have hB1 := hbx.grown hgr1 (fun hh => by injection hh with hh; omega)
        obtain ⟨hE2, hgr2⟩ := hE1.set2 k (z := -1) (WalkArith.wf_i64 (by omega))
        have hD3 := hD2.grown hgr2 (fun x hx hh => by injection hx with hx; injection hx with hx; injection hh with hh; omega)
        have hO2 := hO1.grown hgr2 (fun x hx hh => by injection hx with hx; injection hx with hx; injection hh with hh; omega)
        have hB2 := hB1.grown hgr2 (fun hh => by injection hh with hh; omega)
        have HF := Lib.hid (fill_step (x := (-1 : Int)) (y := 0) hlt)
        have hb3 := (hb.setCell (p := ⟨b, k, none⟩) hb2 (.int .i64 (-1))).setCell (p := ⟨e, k, none⟩) he2 (.int .i64 (-1))
        have hcm : ∀ x : World, (x.setCell ⟨b, k, none⟩ (.int .i64 (-1))).setCell ⟨e, k, none⟩ (.int .i64 (-1)) = (x.setCell ⟨e, k, none⟩ (.int .i64 (-1))).setCell ⟨b, k, none⟩ (.int .i64 (-1)) := fun x => setCell_comm x _ _ hbe
        have HCM := Lib.hid hcm
        have i1 : (k : Int) < (n : Int) := by omega
        have i2 : (0 : Int) ≤ (k : Int) := by omega
        clear hA1 hA2 hD hE hO hbx hD2 hE1 hO1 hB1 hgr1 hgr2 hb hcm
        go_wp2_with fail
        go_region
        all_goals
          try rw [← HCM.out]
          go_wp2_with fail
          go_roundw
          case rel => exact ⟨k + 1, by omega, by go_num, hB2.drew, hO2.drew, by rw [← HF.out]; exact hD3.drew, by rw [← HF.out]; exact hE2.drew, hb3.drew⟩
          case measure => simp [intOf]; omega
      · obtain rfl : k = n := by omega
        obtain ⟨_, _, hA1, hb2, hbl, _, _, hcb, hfb⟩ := hD.at_ hs
        obtain rfl := (by injection hA1 with hA1; injection hA1 : b = _)
        obtain ⟨hD2, hgr1⟩ := hD.set2 s (z := 0) (WalkArith.wf_i64 (by omega))
        have hE1 := hE.grown hgr1 (fun x hx hh => by injection hx with hx; injection hx with hx; injection hh with hh; omega)
        have hO1 := hO.grown hgr1 (fun x hx hh => by injection hx with hx; injection hx with hx; injection hh with hh; omega)
        have hB1 := hbx.grown hgr1 (fun hh => by injection hh with hh; omega)
        have hb3 := hb.setCell (p := ⟨b, s, none⟩) hb2 (.int .i64 0)
        have hSI : SI (wr.setCell ⟨b, s, none⟩ (.int .i64 0)) w.heap.size k g b e (some ⟨a, 0, none⟩) 1 1 (bfsTo (esOf ps) k s 0) := by
          refine ⟨hB1, hO1, ⟨_, hD2, ?_⟩, ?_, ?_, ?_, ?_⟩
          · have e1 : List.replicate k (-1 : Int) ++ List.replicate (k - k) 0 = List.replicate k (-1) := by simp
            rw [e1]
            exact ds_start hs
          · have e1 : encE (bfsTo (esOf ps) k s 0).ent = List.replicate k (-1) ++ List.replicate (k - k) 0 := by
              show encE (List.replicate k none) = _
              rw [encE_none]; simp
            rw [e1]
            exact hE1
          · intro hh; injection hh with hh; exact hab hh
          · intro hh; injection hh with hh; exact hae hh
          · intro hh; injection hh with hh; exact hga hh.symm
        have i1 : (s : Int) < (k : Int) := by omega
        have i2 : (0 : Int) ≤ (s : Int) := by omega
        clear hA1 hD hE hO hbx hD2 hE1 hO1 hB1 hgr1 hb
        go_wp2_with fail
        generalize (wr.setCell ⟨b, s, none⟩ (.int .i64 0)) = W5 at *
        clear y1 y2 hcb hfb hbl hgl3
        go_loopw [7] (fun ii wr => ∃ (q : Nat) (A9 : Option Addr) (m9 c9 : Nat), ii = .int .i64 q ∧ q ≤ m9 ∧ SI wr w.heap.size k g b e A9 m9 c9 (bfsTo (esOf ps) k s q) ∧ Below (w.heap.size + 2) wc wr) (fun ii _ => k - (intOf ii).toNat)
        case atStart => exact ⟨0, _, 1, 1, rfl, by omega, hSI, hb3⟩
        case round =>
          obtain ⟨q, A9, m9, c9, rfl, hq, hSM, hb⟩ := hrel
          have hlo : (bfsTo (esOf ps) k s q).ord.length = m9 := by have := hSM.ord.len; rwa [cN_len] at this
          have HI := Lib.hid (bfsTo_inv HG.out hs q).1
          have hmk : m9 ≤ k := by rw [← hlo]; exact nodup_len HI.out.nd HI.out.lt
          have HLO := Lib.hid hlo
          clear hlo
          have hgl3 := hSM.box.lt
          have y0 : wr.cell? ⟨g, 0, none⟩ = some (.slice A9 m9 c9) := hSM.box.cell 0
          by_cases hlt : q < m9
          · obtain ⟨g9, z9, rfl, hCg, hg9, hz9, hz64, hc9, _⟩ := hSM.ord.at_ hlt
            obtain ⟨v, hv, rfl⟩ := cN_get hz9
            have hvk : v < k := HI.out.lt v (List.mem_of_getElem? hv)
            have HV := Lib.hid hv
            have b1 := bxc.below hb (by omega)
            have xl := b1.lt
            have x0 : wr.cell? ⟨w.heap.size, 0, none⟩ = some (.slice A k c) := b1.cell 0
            have x1 : wr.cell? ⟨w.heap.size, 1, none⟩ = some (.slice B m d) := b1.cell 1
            have kN : Kept (IsNet wr A k c ns B m d ps) := ⟨h.below (hVc.trans (hb.mono (by omega)))⟩
            have kS : Kept (SI wr w.heap.size k g b e (some ⟨g9, 0, none⟩) m9 c9 (bfsTo (esOf ps) k s q)) := ⟨hSM⟩
            have kB : Kept (Below (w.heap.size + 2) wc wr) := ⟨hb⟩
            have hsb := hb.size
            obtain ⟨wo, rfl⟩ : ∃ wo : World, wo = wr := ⟨_, rfl⟩
            clear hv hz9 hSM hb b1
            go_wp2_with (go_at_call 129; refine (pipesAt_any _ _ _ _ _ _ v ns ps _ kN.out HOK.out).mono ?_; rintro e4 wa ⟨A4, c4, rfl, o4, hba⟩)
            have hSMa := kS.out.below hba
            have hba2 := bthen kB.out hba (by omega)
            have hsa := hba.size
            have hloc : (inc (esOf ps) v).length ≤ 40 := by
              have h1 : (inc (esOf ps) v).length ≤ (esOf ps).length := Nat.le_trans (List.length_filter_le _ _) (by simp)
              rw [esOf_len, HM.out] at h1
              omega
            generalize hn4 : (cN (inc (esOf ps) v)).length = n4 at *
            have HN4 := Lib.hid (show (inc (esOf ps) v).length = n4 by rw [← hn4, cN_len])
            have hn4' : n4 ≤ 40 := by have := HN4.out; omega
            have hbl4 : b < wo.heap.size := by
              obtain ⟨ds, hd, _⟩ := kS.out.dst
              exact (hd.lt b rfl).2
            have hel4 : e < wo.heap.size := (kS.out.ent.lt e rfl).2
            clear hn4 kB kN hba xl x0 x1 hc9 hloc y0
            go_loopw [58] (fun ii wr => ∃ (i : Nat) (A9 : Option Addr) (m9 c9 : Nat), ii = .int .i64 i ∧ i ≤ n4 ∧ SI wr w.heap.size k g b e A9 m9 c9 (vst (esOf ps) v (bfsTo (esOf ps) k s q) i) ∧ Own wr wo.heap.size A4 n4 c4 (cN (inc (esOf ps) v)) ∧ Hid (∀ g, A4.map (·.block) = some g → A9.map (·.block) ≠ some g) ∧ wo.heap.size ≤ wr.heap.size ∧ Below (w.heap.size + 2) wc wr) (fun ii _ => n4 - (intOf ii).toNat)
            case atStart => exact ⟨0, _, m9, c9, rfl, Nat.zero_le _, hSMa, o4, (fun g hg hh => by
              have h1 := (o4.lt g hg).1
              have h2 : g9 = g := by injection hh
              omega), hsa, hba2⟩
            case round =>
              obtain ⟨i, A9, m9, c9, rfl, hi, hSM, hO4, HAP, hwo, hb⟩ := hrel
              obtain ⟨hI, hvk2, hlen⟩ := vst_inv HG.out HI.out HV.out i
              have hm9 : (vst (esOf ps) v (bfsTo (esOf ps) k s q) i).ord.length = m9 := by have := hSM.ord.len; rwa [cN_len] at this
              have hq9 : q < m9 := by rw [← hm9]; exact (List.getElem?_eq_some_iff.1 hvk2).1
              have hm9k : m9 ≤ k := by omega
              have hgl5 := hSM.box.lt
              by_cases hlt3 : i < n4
              · obtain ⟨g4, z4, rfl, hg4l, hg4, hz4, hz464, hc4, _⟩ := hO4.at_ hlt3
                obtain ⟨p, hp, rfl⟩ := cN_get hz4
                have hpin : p ∈ inc (esOf ps) v := List.mem_of_getElem? hp
                have hok2 : oth (esOf ps) p v < k := oth_lt HG.out (inc_mem.1 hpin).1
                have hpm : p < m := by have := (inc_mem.1 hpin).1; rw [esOf_len, HM.out] at this; exact this
                have HS := Lib.hid (vst_succ (st := bfsTo (esOf ps) k s q) hp)
                have b1 := bxc.below hb (by omega)
                have xl := b1.lt
                have x1 : wr.cell? ⟨w.heap.size, 1, none⟩ = some (.slice B m d) := b1.cell 1
                obtain ⟨bp, op, pp, rfl, hpbl, hpp, hpk, q0, q1, q2, q3, q4⟩ := (h.below (hVc.trans (hb.mono (by omega)))).pipes.at_ hpm
                obtain ⟨e1, e2, _⟩ := pipe_ok HOK.out hpp
                rw [e1] at q0
                rw [e2] at q1
                have hvd : v ∈ (vst (esOf ps) v (bfsTo (esOf ps) k s q) i).ord := List.mem_of_getElem? hvk2
                have i0 : (0 : Int) ≤ (p : Int) := by omega
                have i1 : (p : Int) < (m : Int) := by omega
                have i2 : (0 : Int) ≤ (i : Int) := by omega
                have i3 : (i : Int) < (n4 : Int) := by omega
                have i4 : (0 : Int) ≤ (oth (esOf ps) p v : Int) := by omega
                have i5 : (oth (esOf ps) p v : Int) < (k : Int) := by omega
                have i6 : (0 : Int) ≤ (v : Int) := by omega
                have i7 : (v : Int) < (k : Int) := by omega
                clear hpp e1 e2 hp hz4 hpin
                by_cases hin : oth (esOf ps) p v ∈ (vst (esOf ps) v (bfsTo (esOf ps) k s q) i).ord
                · have HS2 := Lib.hid (HS.out.trans (visit_old hin))
                  have kS : Kept (SI wr w.heap.size k g b e A9 m9 c9 (vst (esOf ps) v (bfsTo (esOf ps) k s q) i)) := ⟨hSM⟩
                  have kB : Kept (Below (w.heap.size + 2) wc wr) := ⟨hb⟩
                  have k4 : Kept (Own wr wo.heap.size (some ⟨g4, 0, none⟩) n4 c4 (cN (inc (esOf ps) v))) := ⟨hO4⟩
                  obtain ⟨ds, hd, hds⟩ := hSM.dst
                  obtain ⟨zd, hzd, hzi, _, _⟩ := hds _ hok2
                  have hzn : ¬ zd < 0 := fun hh => (hzi.1 hh) hin
                  obtain ⟨_, zd', hAd, _, hdl, hzd', _, hcd, _⟩ := hd.at_ hok2
                  obtain rfl : zd' = zd := Option.some.inj (hzd'.symm.trans hzd)
                  obtain rfl := (by injection hAd with hAd; injection hAd : b = _)
                  have y1 : wr.cell? ⟨g, 1, none⟩ = some (.slice (some ⟨b, 0, none⟩) k k) := hSM.box.cell 1
                  have zt : decide (zd' < 0) = false := by simpa using hzn
                  clear hin hzi hzd hzd' hAd hds hSM hO4 hb b1 hvd hzn
                  go_wp2_with (go_at_call 130; refine (otherEnd_any p v (esOf ps) _ _ _ _).mono ?_; rintro e5 wb ⟨rfl, hbb⟩; have y1b := (hbb.cell (p := ⟨g, 1, none⟩) (by simp; omega)).trans y1; have hcdb := (hbb.cell (p := ⟨b, oth (esOf ps) p v, none⟩) (by simp; omega)).trans hcd)
                  go_roundw
                  case rel => exact ⟨i + 1, A9, m9, c9, by go_num, by omega, by rw [HS2.out]; exact kS.out.below hbb, k4.out.below hbb, HAP, by have := hbb.size; omega, bthen kB.out hbb (by omega)⟩
                  case measure => simp [intOf]; omega
                · obtain ⟨hvo, hve⟩ := visit_new hin
                  have HO := Lib.hid (show (vst (esOf ps) v (bfsTo (esOf ps) k s q) (i + 1)).ord = (vst (esOf ps) v (bfsTo (esOf ps) k s q) i).ord ++ [oth (esOf ps) p v] by rw [HS.out]; exact hvo)
                  have HE := Lib.hid (show (vst (esOf ps) v (bfsTo (esOf ps) k s q) (i + 1)).ent = (vst (esOf ps) v (bfsTo (esOf ps) k s q) i).ent.set (oth (esOf ps) p v) (some p) by rw [HS.out]; exact hve)
                  have kS : Kept (SI wr w.heap.size k g b e A9 m9 c9 (vst (esOf ps) v (bfsTo (esOf ps) k s q) i)) := ⟨hSM⟩
                  have kB : Kept (Below (w.heap.size + 2) wc wr) := ⟨hb⟩
                  have k4 : Kept (Own wr wo.heap.size (some ⟨g4, 0, none⟩) n4 c4 (cN (inc (esOf ps) v))) := ⟨hO4⟩
                  have HIN := Lib.hid hin
                  have HVD := Lib.hid hvd
                  have HM9 := Lib.hid hm9
                  have HVK := Lib.hid hvk2
                  have HII := Lib.hid hI
                  clear hSM hO4 hb b1 hvd hin hvo hve hm9 hvk2 hI
                  go_upto_region 16 with (go_at_call 130; refine (otherEnd_any p v (esOf ps) _ _ _ _).mono ?_; rintro e5 wb ⟨rfl, hbb⟩)
                  have hSb := kS.out.below hbb
                  have hO4b := k4.out.below hbb
                  have hBb := bthen kB.out hbb (by omega)
                  have hsb2 := hbb.size
                  obtain ⟨zo, zv, ze, hzo, hzv, y0, y1, y2, hco, hfo, hcv, hce, hfe, hfg, hgw, hbw, hew⟩ := hSb.cells hok2 hvk
                  have hzo' := hzo.2 HIN.out
                  have hzn : zv ≤ 24 := by omega
                  obtain ⟨hB6, hO6, ⟨ds6, hD6, hds6⟩, hE6, hGb, hGe⟩ := hSb.stores (p := p) hn24 hok2 hvk HVD.out HIN.out (by omega) hm9k hcv hgl hge hgb hbe
                  have t1 : decide (zo < 0) = true := by simpa using hzo'
                  have hb6 := (hBb.setCell (p := ⟨b, oth (esOf ps) p v, none⟩) hGb (.int .i64 (zv + 1))).setCell (p := ⟨e, oth (esOf ps) p v, none⟩) hGe (.int .i64 (p : Int))
                  have hg46 : Own ((wb.setCell ⟨b, oth (esOf ps) p v, none⟩ (.int .i64 (zv + 1))).setCell ⟨e, oth (esOf ps) p v, none⟩ (.int .i64 (p : Int))) wo.heap.size (some ⟨g4, 0, none⟩) n4 c4 (cN (inc (esOf ps) v)) := (hO4b.lo_ (a := ⟨b, oth (esOf ps) p v, none⟩) hbl4 _).lo_ (a := ⟨e, oth (esOf ps) p v, none⟩) hel4 _
                  have hs6 : ((wb.setCell ⟨b, oth (esOf ps) p v, none⟩ (.int .i64 (zv + 1))).setCell ⟨e, oth (esOf ps) p v, none⟩ (.int .i64 (p : Int))).heap.size = wb.heap.size := by simp [World.setCell]
                  have HCM := Lib.hid (fun x : World => setCell_comm x (a := ⟨b, oth (esOf ps) p v, none⟩) (b := ⟨e, oth (esOf ps) p v, none⟩) (.int .i64 (zv + 1)) (.int .i64 (p : Int)) hbe)
                  have kW : Kept (Box wb g #[.slice A9 m9 c9, .slice (some ⟨b, 0, none⟩) k k, .slice (some ⟨e, 0, none⟩) k k] 116) := ⟨hSb.box⟩
                  have kAg : Kept (A9.map (·.block) ≠ some g) := ⟨hSb.Ag⟩
                  have kAb : Kept (A9.map (·.block) ≠ some b) := ⟨hSb.Ab⟩
                  have kAe : Kept (A9.map (·.block) ≠ some e) := ⟨hSb.Ae⟩
                  have hew' := hew
                  clear hbb hSb hO4b hBb hzo
                  go_wp2_with fail
                  go_region
                  all_goals
                    try rw [← HCM.out]
                    obtain ⟨W6, hW6⟩ : ∃ W6, W6 = ((wb.setCell ⟨b, oth (esOf ps) p v, none⟩ (.int .i64 (zv + 1))).setCell ⟨e, oth (esOf ps) p v, none⟩ (.int .i64 (p : Int))).drew := ⟨_, rfl⟩
                    have hB7 := hB6.drew
                    have hO7 := hO6.drew
                    have hD7 := hD6.drew
                    have hE7 := hE6.drew
                    have hg47 := hg46.drew
                    have hb7 := hb6.drew
                    have hs7 : wb.heap.size ≤ W6.heap.size := by rw [hW6]; exact Nat.le_of_eq hs6.symm
                    rw [← hW6] at hB7 hO7 hD7 hE7 hg47 hb7
                    rw [← hW6]
                    clear hB6 hO6 hD6 hE6 hg46 hb6 hs6
                    have y06 : W6.cell? ⟨g, 0, none⟩ = some (.slice A9 m9 c9) := hB7.cell 0
                    have hgl6 := hB7.lt
                    have hf6 := hB7.free 0
                    clear hW6 hco hfo hcv hce hfe hfg y0 y1 y2
                    go_wp2_with (at_builtin; refine wpList_pushA W6 rfl _ _ rfl (w.heap.size + 2) _ _ _ _ (oth (esOf ps) p v : Int) W6.heap.size rfl rfl rfl hO7 (WalkArith.wf_i64 (by omega)) (by omega) (by omega) ?_; intro gn cn wn hon hbn hgn hCn hat; have hBn := hB7.grown hgn kAg.out; have yn0 : wn.cell? ⟨g, 0, none⟩ = some (.slice A9 m9 c9) := hBn.cell 0; have fn0 := hBn.free 0; have ln := hBn.lt)
                    have hszn := hgn.size
                    have hgn_g : gn ≠ g := by
                      rcases hat with hat | hat
                      · intro hh; exact kAg.out (by rw [hat, hh])
                      · omega
                    have hgn_b : gn ≠ b := by
                      rcases hat with hat | hat
                      · intro hh; exact kAb.out (by rw [hat, hh])
                      · omega
                    have hgn_e : gn ≠ e := by
                      rcases hat with hat | hat
                      · intro hh; exact kAe.out (by rw [hat, hh])
                      · omega
                    have hgs := grown_set wn g 0 (.slice (some ⟨gn, 0, none⟩) (m9 + 1) cn)
                    have hszs : (wn.setCell ⟨g, 0, none⟩ (.slice (some ⟨gn, 0, none⟩) (m9 + 1) cn)).heap.size = wn.heap.size := by simp [World.setCell]
                    go_roundw
                    case rel =>
                      refine ⟨i + 1, some ⟨gn, 0, none⟩, m9 + 1, cn, by go_num, by omega, ⟨?_, ?_, ⟨ds6, ?_, ?_⟩, ?_, ?_, ?_, ?_⟩, ?_, ?_, by omega, ?_⟩
                      · exact hBn.set 0 _
                      · rw [HO.out]
                        unfold cN
                        rw [List.map_append]
                        exact hon.grown hgs (fun x hx hh => by injection hx with hx; injection hx with hx; injection hh with hh; omega)
                      · exact (hD7.grown hgn (fun x hx hh => kAb.out (by rw [hh]; injection hx with hx; injection hx with hx; rw [← hx]))).grown hgs (fun x hx hh => by injection hx with hx; injection hx with hx; injection hh with hh; omega)
                      · rw [HO.out]; exact hds6
                      · rw [HE.out]
                        exact (hE7.grown hgn (fun x hx hh => kAe.out (by rw [hh]; injection hx with hx; injection hx with hx; rw [← hx]))).grown hgs (fun x hx hh => by injection hx with hx; injection hx with hx; injection hh with hh; omega)
                      · intro hh; injection hh with hh; exact hgn_b hh
                      · intro hh; injection hh with hh; exact hgn_e hh
                      · intro hh; injection hh with hh; exact hgn_g hh
                      · exact (hg47.grown hgn (fun x hx => HAP.out x (by rw [hx]; rfl))).grown hgs (fun x hx hh => by injection hx with hx; injection hx with hx; injection hh with hh; omega)
                      · intro x hx hh
                        have h1 : g4 = x := by injection hx
                        have h2 : gn = x := by injection hh
                        rcases hat with hat | hat
                        · exact HAP.out x hx (by rw [hat, h2])
                        · omega
                      · exact (hb7.trans (hbn.mono (by omega))).setCell (by simp; omega) _
                    case measure => simp [intOf]; omega
              · obtain rfl : i = n4 := by omega
                have HF := Lib.hid (vst_full (es := esOf ps) (st := bfsTo (esOf ps) k s q) HV.out (Nat.le_of_eq HN4.out))
                have hqq : q + 1 ≤ m9 := by omega
                clear hvk2 hm9 hI
                go_wp2_with fail
                go_roundw
                case rel => exact ⟨q + 1, A9, m9, c9, by go_num, hqq, by rw [show bfsTo (esOf ps) k s (q + 1) = stepB (esOf ps) (bfsTo (esOf ps) k s q) q from rfl, ← HF.out]; exact hSM, hb⟩
                case measure => simp [intOf]; omega
          · obtain rfl : q = m9 := by omega
            have HEND := Lib.hid (bfsTo_end HG.out hs (Nat.le_of_eq HLO.out))
            have HEL := Lib.hid HI.out.len
            have y1 : wr.cell? ⟨g, 1, none⟩ = some (.slice (some ⟨b, 0, none⟩) k k) := hSM.box.cell 1
            have y2 : wr.cell? ⟨g, 2, none⟩ = some (.slice (some ⟨e, 0, none⟩) k k) := hSM.box.cell 2
            have by2 := byc.below hb (by omega)
            have z0 : wr.cell? ⟨w.heap.size + 1, 0, none⟩ = some (.slice none 0 0) := by2.cell 0
            have z1 : wr.cell? ⟨w.heap.size + 1, 1, none⟩ = some (.slice none 0 0) := by2.cell 1
            have z2 : wr.cell? ⟨w.heap.size + 1, 2, none⟩ = some (.slice none 0 0) := by2.cell 2
            have zl := by2.lt
            have f0 := by2.free 0
            have f1 := by2.free 1
            have f2 := by2.free 2
            have hgz : g ≠ w.heap.size + 1 := by omega
            go_wp2_with fail
            refine bodyPost_ret (v := .agg #[.slice A9 q c9, .slice (some ⟨b, 0, none⟩) k k, .slice (some ⟨e, 0, none⟩) k k]) (by simp [results, Try.results117, go_sem, z0, z1, z2]) rfl ?_
            have hb9 := ((((Below.refl w.heap.size wr).setCell (p := ⟨w.heap.size + 1, 0, none⟩) (by simp) (.slice A9 q c9)).setCell (p := ⟨w.heap.size + 1, 1, none⟩) (by simp) (.slice (some ⟨b, 0, none⟩) k k)).setCell (p := ⟨w.heap.size + 1, 2, none⟩) (by simp) (.slice (some ⟨e, 0, none⟩) k k))
            have hO := ((hSM.ord.lo_ (a := ⟨w.heap.size + 1, 0, none⟩) (by simp) (.slice A9 q c9)).lo_ (a := ⟨w.heap.size + 1, 1, none⟩) (by simp) (.slice (some ⟨b, 0, none⟩) k k)).lo_ (a := ⟨w.heap.size + 1, 2, none⟩) (by simp) (.slice (some ⟨e, 0, none⟩) k k)
            have hE := ((hSM.ent.lo_ (a := ⟨w.heap.size + 1, 0, none⟩) (by simp) (.slice A9 q c9)).lo_ (a := ⟨w.heap.size + 1, 1, none⟩) (by simp) (.slice (some ⟨b, 0, none⟩) k k)).lo_ (a := ⟨w.heap.size + 1, 2, none⟩) (by simp) (.slice (some ⟨e, 0, none⟩) k k)
            obtain ⟨ds, hD0, hDS⟩ := hSM.dst
            have hD := ((hD0.lo_ (a := ⟨w.heap.size + 1, 0, none⟩) (by simp) (.slice A9 q c9)).lo_ (a := ⟨w.heap.size + 1, 1, none⟩) (by simp) (.slice (some ⟨b, 0, none⟩) k k)).lo_ (a := ⟨w.heap.size + 1, 2, none⟩) (by simp) (.slice (some ⟨e, 0, none⟩) k k)
            rw [HEND.out] at hO hE hDS
            have e1 : (bfs (esOf ps) k s).ent.length = k := by rw [← HEND.out]; exact HEL.out
            have e2 : (bfs (esOf ps) k s).ord.length = q := by rw [← HEND.out]; exact HLO.out
            exact ⟨_, _, _, _, ds, by rw [e1, e2], by rw [e2]; exact hO.mono (by omega), by rw [e1]; exact hD.mono (by omega), by rw [e1]; exact hDS, by rw [e1]; exact hE.mono (by omega), hVc.trans ((hb.mono (by omega)).trans hb9)⟩
end Go.Proofs.Ytoijogaogheciaa
