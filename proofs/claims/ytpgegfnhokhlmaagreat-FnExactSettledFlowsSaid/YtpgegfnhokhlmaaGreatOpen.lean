/- What slices.Clone, openNetwork, l16Open do, by walks over their text. Conditions: lengths of at most 1048576. -/
import Derived.Test.YtpgegfnhokhlmaaGreatKA
import Derived.Test.YtpgegfnhokhlmaaGreatSwitch
import Derived.Test.YtpgegfnhokhlmaaGreatScale
set_option linter.unusedVariables false
set_option maxRecDepth 100000
namespace Go.Proofs.YtpgegfnhokhlmaaGreat
open Go.ChangeShapes Go.WideShapes Go.ChangeAt Go.RowKit Go.Joins Go.Deep

theorem encN_len (x : Nd) : (encN x).length = 3 := rfl
theorem encP_len (x : Pp) : (encP x).length = 5 := rfl
theorem encN_one (x : Nd) : ∀ u ∈ encN x, u.oneCell' = true := by intro u hu; simp [encN] at hu; rcases hu with rfl | rfl | rfl <;> rfl
theorem encP_one (x : Pp) : ∀ u ∈ encP x, u.oneCell' = true := by intro u hu; simp [encP] at hu; rcases hu with rfl | rfl | rfl | rfl | rfl <;> rfl
set_option maxHeartbeats 1000000 in
theorem cloneN_any (A : Addr) (n c : Nat) (xs : List Nd) (w : World) (h : Nodes w (some A) n xs) (hn : n ≤ 1048576) :
    Calls Tryz.prog 157 #[.slice (some A) n c] w fun e w' => ∃ A' c', e = .returned (.slice A' n c') ∧ OwnN w' w.heap.size A' n c' xs ∧ Below w.heap.size w w' := by
  have hnn := fun W => Lib.run_eql_slice_nil (P := Tryz.prog) W 30 92 (some A) n c 0 0 Tryz.underlying30
  go_enter Tryz.func157, Tryz.ntmps157
  go_wp2_with (at_builtin; refine wpList_catR (enc := encN) (w.alloc (.cells #[] 92)) rfl _ _ rfl Tryz.underlying30 infoN rfl (by omega) (by omega) w.heap.size _ _ _ _ _ _ _ xs (fun h => by cases h) rfl rfl (ownR_empty _ _ _ w w.heap.size (Nat.le_refl _)) (h.alloc _).1 (fun y _ => encN_len y) (fun y _ => encN_one y) (by omega) (by omega) (by simp) ?_; intro A2 c2 w3 hown3 hb3 _ _)
  go_ret
  exact ⟨A2, c2, by simp, ⟨by simpa using hown3, h.2⟩, (((Below.refl _ _).alloc (Nat.le_refl _) _).trans hb3)⟩
/-- The pipes that are not closed, the first k; their indices. -/
def opP (ps : List Pp) (zs : List Int) (k : Nat) : List Pp := ((ps.zip zs).take k).filterMap fun x => if x.2 = 0 then none else some x.1
def opI (zs : List Int) (k : Nat) : List Int := ((List.range k).filter fun i => zs.getD i 0 != 0).map fun i : Nat => (i : Int)
theorem opP_step {ps : List Pp} {zs : List Int} {k : Nat} {p : Pp} {z : Int} (hp : ps[k]? = some p) (hz : zs[k]? = some z) : opP ps zs (k + 1) = if z = 0 then opP ps zs k else opP ps zs k ++ [p] := by
  have e : (ps.zip zs)[k]? = some (p, z) := by rw [List.getElem?_zip_eq_some]; exact ⟨hp, hz⟩
  unfold opP
  rw [List.take_add_one, e, List.filterMap_append]
  by_cases h : z = 0 <;> simp [h]
theorem opI_step {zs : List Int} {k : Nat} {z : Int} (hz : zs[k]? = some z) : opI zs (k + 1) = if z = 0 then opI zs k else opI zs k ++ [(k : Int)] := by
  unfold opI
  rw [List.range_succ, List.filter_append, List.map_append]
  have e : zs.getD k 0 = z := by simp [List.getD, hz]
  by_cases h : z = 0 <;> simp [h, hz]
theorem opI_len (zs : List Int) (k : Nat) : (opI zs k).length ≤ k := by
  unfold opI
  rw [List.length_map]
  exact Nat.le_trans (List.length_filter_le _ _) (by simp)
theorem opP_len (ps : List Pp) (zs : List Int) (k : Nat) : (opP ps zs k).length ≤ k := by
  unfold opP
  exact Nat.le_trans (List.length_filterMap_le _ _) (by simp; omega)
/-- A call returns a network and a list of its own. -/
def RetNI (w : World) (ns : List Nd) (ps : List Pp) (zs : List Int) (e : Ending) (w' : World) : Prop :=
  ∃ A c B d Z f, e = .returned (.tuple #[.agg #[.slice A ns.length c, .slice B ps.length d], .slice Z zs.length f]) ∧ OwnNet w' w.heap.size A ns.length c ns B ps.length d ps ∧ Own w' w.heap.size Z zs.length f zs ∧ Below w.heap.size w w'
theorem retNI_of {w w' : World} {C D n m l : Nat} {A B Z : Option Addr} {c d f : Nat} {ns : List Nd} {ps : List Pp} {zs : List Int} (hn : ns.length = n) (hm : ps.length = m) (hl : zs.length = l) (h1 : OwnN w' C A n c ns) (h2 : OwnP w' D B m d ps) (h3 : Own w' D Z l f zs)
    (h4 : (w.heap.size ≤ C ∧ w.heap.size ≤ D) ∧ Below w.heap.size w w') : RetNI w ns ps zs (.returned (.tuple #[.agg #[.slice A n c, .slice B m d], .slice Z l f])) w' := by
  subst hn hm hl
  exact ⟨A, c, B, d, Z, f, rfl, ⟨h1.mono h4.1.1, h2.mono h4.1.2⟩, h3.mono h4.1.2, h4.2⟩
theorem OwnP.okP {w : World} {B : Nat} {A : Option Addr} {n c : Nat} {xs : List Pp} (h : OwnP w B A n c xs) : ∀ x ∈ xs, okP x := h.2
theorem Own.low {w : World} {B : Nat} {A : Option Addr} {n c : Nat} {zs : List Int} (h : Own w B A n c zs) {a : Addr} (ha : a.block < B) (u : Value) : Own (w.setCell a u) B A n c zs := ⟨ownsRow_setCell_below h.1 ha u, h.2⟩
/-- Rows of different types lie in different blocks. -/
theorem rows_apart {w : World} {B B' : Nat} {e e' : TypeId} {k k' n n' : Nat} {v v' : Value} {xs ys : List Value} (h : w.ownsRow B e k v n xs) (h' : w.ownsRow B' e' k' v' n' ys) (hne : e ≠ e') : ∀ g, v.ownBlock = some g → v'.ownBlock ≠ some g := by
  intro g hg hg'
  rcases h.2 with ⟨rfl, _⟩ | ⟨g1, cap, cur, rfl, _, hb, _⟩
  · cases hg
  · rcases h'.2 with ⟨rfl, _⟩ | ⟨g2, cap', cur', rfl, _, hb', _⟩
    · cases hg'
    · simp [Value.ownBlock] at hg hg'
      subst hg hg'
      rw [hb] at hb'
      injection hb' with hb'
      injection hb' with _ hb'
      exact hne hb'
theorem own_pipes_apart {w : World} {B B' : Nat} {A A' : Option Addr} {n c n' c' : Nat} {zs : List Int} {xs : List Pp} (h : Own w B A n c zs) (h' : OwnR encP 5 95 w B' A' n' c' xs) :
    (∀ g, A = some ⟨g, 0, none⟩ → A'.map (·.block) ≠ some g) ∧ (∀ g, A' = some ⟨g, 0, none⟩ → A.map (·.block) ≠ some g) := by
  have h1 := rows_apart h.1 h'.1 (by decide)
  refine ⟨fun g hg hh => h1 g (by subst hg; rfl) ?_, fun g hg hh => h1 g ?_ (by subst hg; rfl)⟩
  · cases A' with
    | none => cases hh
    | some a => exact hh
  · cases A with
    | none => cases hh
    | some a => exact hh
set_option maxHeartbeats 2000000 in
theorem openNet_any (A : Addr) (B C : Option Addr) (n c m d e : Nat) (ns : List Nd) (ps : List Pp) (zs : List Int) (w : World) (h : IsNet w (some A) n c ns B m d ps) (hz : Ints w C m zs) (hn : n ≤ 24) (hm : m ≤ 40) :
    Calls Tryz.prog 104 #[.agg #[.slice (some A) n c, .slice B m d], .slice C m e] w (RetNI w ns (opP ps zs m) (opI zs m)) := by
  have hln := Lib.hid h.nodes.len
  go_enter Tryz.func104, Tryz.ntmps104
  go_wp2_with fail
  refine (cloneN_any _ _ _ ns _ ((h.nodes.alloc _).alloc _) (by omega)).mono ?_
  rintro e w1 ⟨A1, c1, rfl, ho1, hb1⟩
  obtain ⟨hc, hf⟩ := bcell hb1
  have hz1 : w.heap.size + 1 < w1.heap.size := by have := hb1.size; simp at this; omega
  have hz0 : w.heap.size < w1.heap.size := by omega
  have x1 : w1.cell? ⟨w.heap.size, 1, none⟩ = some (.slice B m d) := by rw [hc _ _ (by simp <;> omega)]; simp
  have y0 : w1.cell? ⟨w.heap.size + 1, 0, none⟩ = some (.slice none 0 0) := by rw [hc _ _ (by simp <;> omega)]; simp
  have y1 : w1.cell? ⟨w.heap.size + 1, 1, none⟩ = some (.slice none 0 0) := by rw [hc _ _ (by simp <;> omega)]; simp
  have f0 : w1.frozen? ⟨w.heap.size + 1, 0, none⟩ = false := by rw [hf _ _ (by simp <;> omega)]; simp
  have f1 : w1.frozen? ⟨w.heap.size + 1, 1, none⟩ = false := by rw [hf _ _ (by simp <;> omega)]; simp
  have hB1 : Below w.heap.size w w1 := bthen (((Below.refl _ _).alloc (Nat.le_refl _) _).alloc (by simp) _) hb1 (by simp; omega)
  have hP1 := h.pipes.below hB1
  have hZ1 := hz.below hB1
  have ho1' : OwnN w1 (w.heap.size + 2) A1 n c1 ns := by simpa using ho1
  clear hc hf hb1 ho1
  go_wp2_with fail
  have hbx := box_new w1 #[.slice A1 n c1, .slice none 0 0] 33
  go_loopw [7, 17] (fun ss ii wr => ∃ (k : Nat) (A2 : Option Addr) (m2 c2 : Nat) (A3 : Option Addr) (m3 c3 : Nat), k ≤ m ∧ ii = .int .i64 k ∧ ss = .slice A3 m3 c3 ∧ m2 ≤ k ∧ m3 ≤ k ∧ Box wr w1.heap.size #[.slice A1 n c1, .slice A2 m2 c2] 33 ∧
    OwnR encP 5 95 wr (w1.heap.size + 1) A2 m2 c2 (opP ps zs k) ∧ Own wr (w1.heap.size + 1) A3 m3 c3 (opI zs k) ∧ Below w1.heap.size w1 wr) (fun _ ii _ => m - (intOf ii).toNat)
  case atStart => exact ⟨0, none, 0, 0, none, 0, 0, Nat.zero_le _, rfl, rfl, Nat.le_refl _, Nat.le_refl _, hbx, ownR_nil _ _ _ _ _, own_nil _ _, (Below.refl _ _).alloc (Nat.le_refl _) _⟩
  case round =>
    obtain ⟨k, A2, m2, c2, A3, m3, c3, hk, rfl, rfl, hm2, hm3, hbx, hoP, hoI, hb⟩ := hrel
    have hgl := hbx.lt
    by_cases hlt : k < m
    · obtain ⟨b, o, p, rfl, hbl, hp, hpk, q0, q1, q2, q3, q4⟩ := (hP1.below hb).at_ hlt
      obtain ⟨b', o', z, rfl, hbl', hzk, hz64, hcz⟩ := (hZ1.below hb).at_ hlt
      have HP := Lib.hid (opP_step hp hzk)
      have HI := Lib.hid (opI_step hzk)
      clear hp hzk
      by_cases hz0 : z = 0
      · have hne : (z != 0) = false := by simp [hz0]
        have HP' := Lib.hid (show opP ps zs (k + 1) = opP ps zs k by rw [HP.out, if_pos hz0])
        have HI' := Lib.hid (show opI zs (k + 1) = opI zs k by rw [HI.out, if_pos hz0])
        clear hz0 HP HI
        go_wp2_with fail
        go_roundw
        case rel => exact ⟨k + 1, A2, m2, c2, A3, m3, c3, by omega, by go_num, rfl, by omega, by omega, hbx.alloc _, by rw [HP'.out]; exact hoP.alloc _, by rw [HI'.out]; exact hoI.alloc _, hb.alloc hb.size _⟩
        case measure => simp [intOf]; omega
      · have hne : (z != 0) = true := by simp [hz0]
        have HP' := Lib.hid (show opP ps zs (k + 1) = opP ps zs k ++ [p] by rw [HP.out, if_neg hz0])
        have HI' := Lib.hid (show opI zs (k + 1) = opI zs k ++ [(k : Int)] by rw [HI.out, if_neg hz0])
        have c1' : wr.cell? ⟨w1.heap.size, 1, none⟩ = some (.slice A2 m2 c2) := hbx.cell 1
        have f1' : wr.frozen? ⟨w1.heap.size, 1, none⟩ = false := hbx.free 1
        have hap := (own_pipes_apart hoI hoP).1
        clear hz0 HP HI
        go_wp2_with (first
          | (at_builtin; refine wpList_pushR (enc := encP) (wr.alloc (.cells #[.int .i64 p.fr, .int .i64 p.to, .int .i64 p.k, .int .i64 p.v, .int .i64 p.l] 95)) rfl _ _ rfl Tryz.underlying31 infoP rfl (by omega) (by omega) (w1.heap.size + 1) _ _ _ _ p _ rfl (wr.heap.size + 1) (by simp) rfl rfl (hoP.alloc _) (encP_len p) (encP_one p) (by omega) (by simp; omega) ?_; intro g3 d3 w3 ho3 hb3 hg3 hB3
             have hbx3 := ((hbx.alloc _).alloc _).grown hg3 (box_row hoP.1 (by omega)) 
             have hgl3 := hbx3.lt
             have f3 := hbx3.free 1
             have d3c := hbx3.cell 1
             have hoI3 := (((hoI.alloc _).alloc _).grown hg3 hap).low (a := ⟨w1.heap.size, 1, none⟩) (by simp) (.slice (some ⟨g3, 0, none⟩) (m2 + 1) d3)
             have hs3 : (w3.setCell ⟨w1.heap.size, 1, none⟩ (.slice (some ⟨g3, 0, none⟩) (m2 + 1) d3)).heap.size = w3.heap.size := by simp [World.setCell])
          | (at_builtin; refine wpList_pushH (w3.setCell ⟨w1.heap.size, 1, none⟩ (.slice (some ⟨g3, 0, none⟩) (m2 + 1) d3)) rfl _ _ rfl (w1.heap.size + 1) _ _ _ _ (k : Int) w3.heap.size hs3 rfl rfl hoI3 (WalkArith.wf_i64 (by omega)) (by omega) (by omega) ?_; intro g4 d4 w4 ho4 hb4 hg4 hB4))
        have hbx4 : Box (w3.setCell ⟨w1.heap.size, 1, none⟩ (.slice (some ⟨g3, 0, none⟩) (m2 + 1) d3)) w1.heap.size #[.slice A1 n c1, .slice (some ⟨g3, 0, none⟩) (m2 + 1) d3] 33 := hbx3.set 1 _
        have ho3' : OwnR encP 5 95 (w3.setCell ⟨w1.heap.size, 1, none⟩ (.slice (some ⟨g3, 0, none⟩) (m2 + 1) d3)) (w1.heap.size + 1) (some ⟨g3, 0, none⟩) (m2 + 1) d3 (opP ps zs k ++ [p]) := ⟨ownsRow_setCell_below ho3.1 (by simp) _, ho3.2⟩
        have hap4 := (own_pipes_apart hoI3 ho3').2
        have hbl3 : Below w1.heap.size w1 (w3.setCell ⟨w1.heap.size, 1, none⟩ (.slice (some ⟨g3, 0, none⟩) (m2 + 1) d3)) := ((hb.alloc hb.size _).trans (hb3.mono (by omega))).setCell (by simp) _
        go_roundw
        case rel => exact ⟨k + 1, _, _, _, _, _, _, by omega, by go_num, rfl, by omega, by omega, (hbx4.alloc _).grown hg4 (box_row hoI3.1 (by omega)), by rw [HP'.out]; exact (ho3'.alloc _).grown hg4 hap4, by rw [HI'.out]; exact ho4, hbl3.trans (hb4.mono (by omega))⟩
        case measure => simp [intOf]; omega
    · obtain rfl : k = m := by omega
      have c0' : wr.cell? ⟨w1.heap.size, 0, none⟩ = some (.slice A1 n c1) := hbx.cell 0
      have c1' : wr.cell? ⟨w1.heap.size, 1, none⟩ = some (.slice A2 m2 c2) := hbx.cell 1
      have z0 : wr.cell? ⟨w.heap.size + 1, 0, none⟩ = some (.slice none 0 0) := (hb.cell (p := ⟨w.heap.size + 1, 0, none⟩) hz1).trans y0
      have z1 : wr.cell? ⟨w.heap.size + 1, 1, none⟩ = some (.slice none 0 0) := (hb.cell (p := ⟨w.heap.size + 1, 1, none⟩) hz1).trans y1
      have g0 : wr.frozen? ⟨w.heap.size + 1, 0, none⟩ = false := (hb.frozen (p := ⟨w.heap.size + 1, 0, none⟩) hz1).trans f0
      have g1 : wr.frozen? ⟨w.heap.size + 1, 1, none⟩ = false := (hb.frozen (p := ⟨w.heap.size + 1, 1, none⟩) hz1).trans f1
      have hzr : w.heap.size + 1 < wr.heap.size := by omega
      have HLP := Lib.hid (hoP.len (by omega))
      have HLI := Lib.hid hoI.len
      have hoN := ho1'.below hb
      have HOK := Lib.hid (show ∀ x ∈ opP ps zs k, okP x from fun x hx => by
        unfold opP at hx
        obtain ⟨y, hy, hy2⟩ := List.mem_filterMap.1 hx
        have hm1 := List.mem_of_mem_take hy
        by_cases h0 : y.2 = 0
        · simp [h0] at hy2
        · simp [h0] at hy2
          subst hy2
          exact h.pipes.2 _ (List.of_mem_zip hm1).1)
      go_wp2_with fail
      refine bodyPost_ret (v := .tuple #[.agg #[.slice A1 n c1, .slice A2 m2 c2], .slice A3 m3 c3]) (by simp [results, Tryz.results104, go_sem, z0, z1]) rfl (retNI_of (C := w.heap.size + 2) (D := w1.heap.size + 1) hln.out HLP.out HLI.out ?_ ?_ ?_ ?_)
      · iterate 2 refine OwnN.low ?_ (by simp) _
        exact hoN.mono (by omega)
      · refine ⟨?_, HOK.out⟩
        exact ⟨ownsRow_setCell_below (ownsRow_setCell_below hoP.1 (by simp; omega) _) (by simp; omega) _, hoP.2⟩
      · iterate 2 refine Own.low ?_ (by simp; omega) _
        exact hoI
      · refine ⟨by omega, ?_⟩
        iterate 2 refine Below.setCell ?_ (by simp <;> omega) _
        exact bthen hB1 hb hB1.size
set_option maxHeartbeats 2000000 in
theorem sOpen_any (A : Addr) (B C : Option Addr) (n c m d e : Nat) (ns : List Nd) (ps : List Pp) (zs : List Int) (w : World) (h : IsNet w (some A) n c ns B m d ps) (hz : Ints w C m zs) (hn : n ≤ 24) (hm : m ≤ 40) :
    Calls Tryz.prog 100 #[.agg #[.slice (some A) n c, .slice B m d], .slice C m e] w (RetNI w ns (opP ps zs m) (opI zs m)) := by
  have hln := Lib.hid h.nodes.len
  have bx1 := (box_new w #[.slice (some A) n c, .slice B m d] 33).alloc (.cells #[.slice none 0 0, .slice none 0 0] 33)
  have bx2 := box_at (w.alloc (.cells #[.slice (some A) n c, .slice B m d] 33)) #[.slice none 0 0, .slice none 0 0] 33 (g := w.heap.size + 1) (by simp)
  have hV : Below w.heap.size w ((w.alloc (.cells #[.slice (some A) n c, .slice B m d] 33)).alloc (.cells #[.slice none 0 0, .slice none 0 0] 33)) := ((Below.refl _ _).alloc (Nat.le_refl _) _).alloc (by simp) _
  have hsz : ((w.alloc (.cells #[.slice (some A) n c, .slice B m d] 33)).alloc (.cells #[.slice none 0 0, .slice none 0 0] 33)).heap.size = w.heap.size + 2 := by simp
  go_enter Tryz.func100, Tryz.ntmps100
  go_wp2_with fail
  generalize hVV : ((w.alloc (.cells #[.slice (some A) n c, .slice B m d] 33)).alloc (.cells #[.slice none 0 0, .slice none 0 0] 33)) = V at *
  clear hVV
  have hsz' := Lib.hid hsz
  rw [show w.heap.size + 1 + 1 = V.heap.size from hsz.symm]
  clear hsz
  have oP0 := ownR_empty encP 5 95 V V.heap.size (Nat.le_refl _)
  have oI0 := own_empty (V.alloc (.cells #[] 95)) V.heap.size (by simp)
  go_loopw [6, 7, 8] (fun pp ss ii wr => ∃ (k : Nat) (A2 : Option Addr) (m2 c2 : Nat) (A3 : Option Addr) (m3 c3 : Nat), k ≤ m ∧ ii = .int .i64 k ∧ pp = .slice A2 m2 c2 ∧ ss = .slice A3 m3 c3 ∧ m2 ≤ k ∧ m3 ≤ k ∧
    OwnR encP 5 95 wr V.heap.size A2 m2 c2 (opP ps zs k) ∧ Own wr V.heap.size A3 m3 c3 (opI zs k) ∧ Below V.heap.size V wr) (fun _ _ ii _ => m - (intOf ii).toNat)
  case atStart => exact ⟨0, _, 0, 0, _, 0, 0, Nat.zero_le _, rfl, rfl, by simp, Nat.le_refl _, Nat.le_refl _, oP0.alloc _, oI0, ((Below.refl _ _).alloc (Nat.le_refl _) _).alloc (by simp) _⟩
  case round =>
    obtain ⟨k, A2, m2, c2, A3, m3, c3, hk, rfl, rfl, rfl, hm2, hm3, hoP, hoI, hb⟩ := hrel
    have hbV := bthen hV hb hV.size
    have b1 := bx1.belowA hb
    by_cases hlt : k < m
    · obtain ⟨b, o, p, rfl, hbl, hp, hpk, q0, q1, q2, q3, q4⟩ := (h.pipes.below hbV).at_ hlt
      obtain ⟨b', o', z, rfl, hbl', hzk, hz64, hcz⟩ := (hz.below hbV).at_ hlt
      have HP := Lib.hid (opP_step hp hzk)
      have HI := Lib.hid (opI_step hzk)
      clear hp hzk
      by_cases hz0 : z = 0
      · have hne : (z != 0) = false := by simp [hz0]
        have HP' := Lib.hid (show opP ps zs (k + 1) = opP ps zs k by rw [HP.out, if_pos hz0])
        have HI' := Lib.hid (show opI zs (k + 1) = opI zs k by rw [HI.out, if_pos hz0])
        clear hz0 HP HI
        go_wp2_with fail
        go_roundw
        case rel => exact ⟨k + 1, A2, m2, c2, A3, m3, c3, by omega, by go_num, rfl, rfl, by omega, by omega, by rw [HP'.out]; exact hoP, by rw [HI'.out]; exact hoI, hb⟩
        case measure => simp [intOf]; omega
      · have hne : (z != 0) = true := by simp [hz0]
        have HP' := Lib.hid (show opP ps zs (k + 1) = opP ps zs k ++ [p] by rw [HP.out, if_neg hz0])
        have HI' := Lib.hid (show opI zs (k + 1) = opI zs k ++ [(k : Int)] by rw [HI.out, if_neg hz0])
        have c1' : wr.cell? ⟨w.heap.size, 1, none⟩ = some (.slice (some ⟨b, o, none⟩) m d) := b1.cell 1
        have hwl := b1.lt
        have hap := (own_pipes_apart hoI hoP).1
        clear hz0 HP HI
        go_wp2_with (first
          | (at_builtin; refine wpList_pushR (enc := encP) wr rfl _ _ rfl Tryz.underlying31 infoP rfl (by omega) (by omega) V.heap.size _ _ _ _ p _ rfl wr.heap.size rfl rfl rfl hoP (encP_len p) (encP_one p) (by omega) hb.size ?_; intro g3 d3 w3 ho3 hb3 hg3 hB3
             have hoI3 := ((hoI.alloc _).grown hg3 hap)
             have hb3' := hb.trans hb3)
          | (at_builtin; refine wpList_push w3 rfl _ _ rfl V.heap.size _ _ _ _ (k : Int) rfl rfl hoI3 (WalkArith.wf_i64 (by omega)) (by omega) hb3'.size ?_; intro g4 d4 w4 ho4 hb4 hg4 hB4))
        have hap4 := (own_pipes_apart hoI3 ho3).2
        go_roundw
        case rel => exact ⟨k + 1, _, _, _, _, _, _, by omega, by go_num, rfl, rfl, by omega, by omega, by rw [HP'.out]; exact (ho3.alloc _).grown hg4 hap4, by rw [HI'.out]; exact ho4, hb3'.trans hb4⟩
        case measure => simp [intOf]; omega
    · obtain rfl : k = m := by omega
      have c0' : wr.cell? ⟨w.heap.size, 0, none⟩ = some (.slice (some A) n c) := b1.cell 0
      have b2 := bx2.belowA hb
      have hwl := b1.lt
      have hwl2 := b2.lt
      have HLP := Lib.hid (hoP.len (by omega))
      have HLI := Lib.hid hoI.len
      have HOK := Lib.hid (show ∀ x ∈ opP ps zs k, okP x from fun x hx => by
        unfold opP at hx
        obtain ⟨y, hy, hy2⟩ := List.mem_filterMap.1 hx
        have hm1 := List.mem_of_mem_take hy
        by_cases h0 : y.2 = 0
        · simp [h0] at hy2
        · simp [h0] at hy2
          subst hy2
          exact h.pipes.2 _ (List.of_mem_zip hm1).1)
      have hsr : V.heap.size ≤ wr.heap.size := hb.size
      go_wp2_with (at_builtin; refine wpList_catR (enc := encN) (wr.alloc (.cells #[] 92)) rfl _ _ rfl Tryz.underlying30 infoN rfl (by omega) (by omega) wr.heap.size _ _ _ _ _ _ _ ns (fun h => by cases h) rfl rfl (ownR_empty _ _ _ wr wr.heap.size (Nat.le_refl _)) ((h.nodes.below hbV).alloc _).1 (fun y _ => encN_len y) (fun y _ => encN_one y) (by omega) (by omega) (by simp) ?_; intro A5 c5 w5 hown5 hb5 _ _; have hb5' : Below wr.heap.size wr w5 := ((Below.refl _ _).alloc (Nat.le_refl _) _).trans hb5; have b3 := b2.belowA hb5'; have z0 : w5.cell? ⟨w.heap.size + 1, 0, none⟩ = some (.slice none 0 0) := b3.cell 0; have z1 : w5.cell? ⟨w.heap.size + 1, 1, none⟩ = some (.slice none 0 0) := b3.cell 1; have g0 := b3.free 0; have g1 := b3.free 1; have hlb := b3.lt)
      have hown5' : OwnN w5 wr.heap.size A5 n c5 ns := ⟨by simpa using hown5, h.nodes.2⟩
      have hsz2 := hsz'.out
      refine bodyPost_ret (v := .tuple #[.agg #[.slice A5 n c5, .slice A2 m2 c2], .slice A3 m3 c3]) (by simp [results, Tryz.results100, go_sem, z0, z1]) rfl (retNI_of (C := wr.heap.size) (D := V.heap.size) hln.out HLP.out HLI.out ?_ ?_ ?_ ?_)
      · iterate 2 refine OwnN.low ?_ (by simp; omega) _
        exact hown5'
      · have hoP5 := hoP.below hb5'
        exact ⟨⟨ownsRow_setCell_below (ownsRow_setCell_below hoP5.1 (by simp; omega) _) (by simp; omega) _, hoP5.2⟩, HOK.out⟩
      · iterate 2 refine Own.low ?_ (by simp; omega) _
        exact hoI.below hb5'
      · refine ⟨by omega, ?_⟩
        iterate 2 refine Below.setCell ?_ (by simp <;> omega) _
        exact bthen hbV hb5' hbV.size
end Go.Proofs.YtpgegfnhokhlmaaGreat
