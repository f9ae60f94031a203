/- What l04Search does, by a walk over its text. Condition: a valid network. -/
import Derived.Test.YtoijogaogheciaaNetG
import Derived.Test.YtoijogaogheciaaPushA
set_option linter.unusedVariables false
set_option maxRecDepth 100000
namespace Go.Proofs.Ytoijogaogheciaa
open Go.ChangeShapes Go.WideShapes Go.ChangeAt Go.RowKit Go.Joins Go.Deep
attribute [local go_sem ↓] Go.wp_at_zero Go.wp_at_succ

/-- Entries as they lie in memory. -/
def encO : Option Nat → Int
  | none => -1
  | some i => (i : Int)
def encE (l : List (Option Nat)) : List Int := l.map encO
def seenL (n : Nat) (ord : List Nat) : List Bool := (List.range n).map fun v => decide (v ∈ ord)
def encBl (b : Bool) : List Value := [.bool b]
theorem encE_len (l : List (Option Nat)) : (encE l).length = l.length := by simp [encE]
theorem encE_set (l : List (Option Nat)) (o i : Nat) : encE (l.set o (some i)) = (encE l).set o (i : Int) := by
  unfold encE
  rw [List.map_set]
  rfl
theorem encE_none (n : Nat) : encE (List.replicate n none) = List.replicate n (-1) := by simp [encE, encO]
theorem seenL_len (n : Nat) (ord : List Nat) : (seenL n ord).length = n := by simp [seenL]
theorem seenL_at {n v : Nat} (ord : List Nat) (hv : v < n) : (seenL n ord)[v]? = some (decide (v ∈ ord)) := by simp [seenL, hv]
theorem seenL_add (n : Nat) (ord : List Nat) (o : Nat) : seenL n (ord ++ [o]) = (seenL n ord).set o true := by
  apply List.ext_getElem?
  intro i
  by_cases hi : i < n
  · rw [seenL_at _ hi]
    by_cases e : o = i
    · subst e
      rw [List.getElem?_set_self (by rw [seenL_len]; exact hi)]
      simp
    · rw [List.getElem?_set_ne e, seenL_at _ hi]
      have e' : ¬ i = o := fun h => e h.symm
      simp [e']
  · rw [List.getElem?_eq_none (by rw [seenL_len]; omega), List.getElem?_eq_none (by rw [List.length_set, seenL_len]; omega)]
/-- The search from a node, in the middle of its pipes. -/
def vst (es : Es) (v : Nat) (st : St) (i : Nat) : St := ((inc es v).take i).foldl (visit es v) st
theorem vst_zero (es : Es) (v : Nat) (st : St) : vst es v st 0 = st := rfl
theorem vst_succ {es : Es} {v : Nat} {st : St} {i p : Nat} (h : (inc es v)[i]? = some p) : vst es v st (i + 1) = visit es v (vst es v st i) p := by
  unfold vst
  rw [List.take_add_one, h, List.foldl_append]
  rfl
theorem vst_inv {es : Es} {n s v k : Nat} {st : St} (hg : Good es n) (h : Inv es n s st) (hk : st.ord[k]? = some v) (i : Nat) : Inv es n s (vst es v st i) ∧ (vst es v st i).ord[k]? = some v ∧ (vst es v st i).ord.length ≤ n := by
  obtain ⟨h1, h2, _⟩ := fold_inv hg ((inc es v).take i) st h hk (fun j hj => List.mem_of_mem_take hj)
  exact ⟨h1, pre_at h2 hk, nodup_len h1.nd h1.lt⟩
theorem vst_full {es : Es} {v : Nat} {st : St} {k i : Nat} (hk : st.ord[k]? = some v) (hi : (inc es v).length ≤ i) : vst es v st i = stepB es st k := by
  unfold vst stepB
  rw [hk, List.take_of_length_le hi]
theorem visit_old {es : Es} {v p : Nat} {st : St} (h : oth es p v ∈ st.ord) : visit es v st p = st := if_pos h
theorem visit_new {es : Es} {v p : Nat} {st : St} (h : oth es p v ∉ st.ord) : (visit es v st p).ord = st.ord ++ [oth es p v] ∧ (visit es v st p).ent = st.ent.set (oth es p v) (some p) := by
  unfold visit
  rw [if_neg h]
  exact ⟨rfl, rfl⟩
theorem info_bool : (Try.prog.info? 4).map (fun i => (i.zero, i.size, i.bytes)) = some (some (.bool false), 1, 1) := by kernel_rfl
/-- A row of bools of the call's own. -/
def OwnL (w : World) (B g n c : Nat) (bs : List Bool) : Prop := OwnR encBl 1 4 w B (some ⟨g, 0, none⟩) n c bs
section
variable {w w' : World} {B g n c : Nat} {bs : List Bool}
theorem OwnL.at_ (h : OwnL w B g n c bs) {i : Nat} (hi : i < n) : ∃ b, bs[i]? = some b ∧ w.cell? ⟨g, i, none⟩ = some (.bool b) ∧ w.frozen? ⟨g, i, none⟩ = false ∧ g < w.heap.size := by
  obtain ⟨b, hb, hc, hf, _, hl⟩ := OwnR.cells h (by omega) hi
  have h0 := hc 0 _ rfl
  rw [Nat.mul_one, Nat.add_zero] at h0
  exact ⟨b, hb, h0, hf i, hl⟩
theorem OwnL.set_ (h : OwnL w B g n c bs) {i : Nat} (hi : i < n) (b : Bool) : OwnL (w.setCell ⟨g, i, none⟩ (.bool b)) B g n c (bs.set i b) ∧ w.grownBy (w.setCell ⟨g, i, none⟩ (.bool b)) (some g) := by
  have h1 := OwnR.put h (by omega) hi (x := b) rfl
  rw [Nat.mul_one] at h1
  exact h1
theorem OwnL.below (h : OwnL w B g n c bs) (hb : Below w.heap.size w w') : OwnL w' B g n c bs := OwnR.below h hb
theorem OwnL.alloc (h : OwnL w B g n c bs) (o : Obj) : OwnL (w.alloc o) B g n c bs := OwnR.alloc h o
theorem OwnL.grown {row : Option Nat} (h : OwnL w B g n c bs) (hg : w.grownBy w' row) (hne : row ≠ some g) : OwnL w' B g n c bs := OwnR.grown h hg (fun x hx => by injection hx with hx; injection hx with hx; rw [← hx]; exact hne)
end
theorem Own.set2 {w : World} {B g n c : Nat} {zs : List Int} (h : Own w B (some ⟨g, 0, none⟩) n c zs) (k : Nat) {z : Int} (hz : I64 z) : Own (w.setCell ⟨g, k, none⟩ (.int .i64 z)) B (some ⟨g, 0, none⟩) n c (zs.set k z) ∧ w.grownBy (w.setCell ⟨g, k, none⟩ (.int .i64 z)) (some g) := ⟨h.set_ k hz, (h.1.stored k (.int .i64 z)).2⟩
theorem Own.ne {w : World} {B : Nat} {A : Option Addr} {n c g : Nat} {zs : List Int} (h : Own w B A n c zs) (hg : g < B) : A.map (·.block) ≠ some g := box_row h.1 hg
theorem Own.grown2 {w w' : World} {B : Nat} {A : Option Addr} {n c g : Nat} {zs : List Int} (h : Own w B A n c zs) (hgr : w.grownBy w' (some g)) (hg : g < B) : Own w' B A n c zs := h.grown hgr (fun x hx hh => by
  have h1 := (h.lt x (by rw [hx]; rfl)).1
  injection hh with hh
  omega)
/-- What a search leaves: the entries and the order, in memory of its own. -/
def RetSrch (w : World) (st : St) (e : Ending) (w' : World) : Prop :=
  ∃ A c B d, e = .returned (.tuple #[.slice A st.ent.length c, .slice B st.ord.length d]) ∧ Own w' w.heap.size A st.ent.length c (encE st.ent) ∧ Own w' w.heap.size B st.ord.length d (cN st.ord) ∧ Below w.heap.size w w'
theorem own_one (w : World) (B : Nat) (v : Nat) (hv : v < 1000) (hB : B ≤ w.heap.size) : Own (w.alloc (.cells #[.int .i64 (v : Int)] 2)) B (some ⟨w.heap.size, 0, none⟩) 1 1 [(v : Int)] :=
  ⟨World.ownsRow_lit (size := 1) w #[.int .i64 (v : Int)] 1 hB (by unfold maxLen; omega) rfl, fun z hz => by rw [List.mem_singleton.1 hz]; exact WalkArith.wf_i64 (by omega)⟩
theorem fill_step {x y : Int} {n k : Nat} (hk : k < n) : (List.replicate k x ++ List.replicate (n - k) y).set k x = List.replicate (k + 1) x ++ List.replicate (n - (k + 1)) y := by
  rw [List.set_append_right _ _ (by simp)]
  have e : n - k = (n - (k + 1)) + 1 := by omega
  rw [e, List.replicate_succ, List.length_replicate, Nat.sub_self, List.replicate_succ', List.append_assoc]
  rfl
/-- The state of the reference's search in memory: entries in block g1, marks in block g2, the order behind them. -/
structure SM (w : World) (L C g1 g2 n : Nat) (A : Option Addr) (m c : Nat) (st : St) : Prop where
  ent : Own w L (some ⟨g1, 0, none⟩) n n (encE st.ent)
  seen : OwnL w L g2 n n (seenL n st.ord)
  ord : Own w C A m c (cN st.ord)
  g12 : g1 < g2
  gC : g2 < C
theorem SM.below {w w' : World} {L C g1 g2 n : Nat} {A : Option Addr} {m c : Nat} {st : St} (h : SM w L C g1 g2 n A m c st) (hb : Below w.heap.size w w') : SM w' L C g1 g2 n A m c st := ⟨h.ent.below hb, h.seen.below hb, h.ord.below hb, h.g12, h.gC⟩
set_option maxHeartbeats 4000000 in
theorem sSearch_any (A B : Option Addr) (n c m d : Nat) (s : Nat) (ns : List Nd) (ps : List Pp) (w : World) (h : IsNet w A n c ns B m d ps) (hok : NetOk ns ps) (hs : s < n) :
    Calls Try.prog 128 #[.agg #[.slice A n c, .slice B m d], .int .i64 s] w (RetSrch w (bfs (esOf ps) n s)) := by
  have hln : ns.length = n := h.nodes.len
  have hm : ps.length = m := h.pipes.len
  have hn24 : n ≤ 24 := by have := hok.2.1; omega
  have hm40 : m ≤ 40 := by have := hok.2.2.1; omega
  have hg : Good (esOf ps) n := by rw [← hln]; exact net_good hok
  have HG := Lib.hid hg
  have HM := Lib.hid hm
  have HOK := Lib.hid hok
  clear hln hm hok hg
  have hmk := fun W => run_make_row' (P := Try.prog) 22 2 (.int .i64 0) 8 Try.underlying22 info_i64 rfl .i64 .i64 n (by omega) (by omega) W
  have hmk2 := fun W => run_mk (P := Try.prog) 125 4 (.bool false) 1 1 Try.underlying125 info_bool n (by omega) (by omega) W
  have bx := box_new w #[.slice A n c, .slice B m d] 45
  have hV : Below w.heap.size w (w.alloc (.cells #[.slice A n c, .slice B m d] 45)) := (Below.refl _ _).alloc (Nat.le_refl _) _
  have hsz : (w.alloc (.cells #[.slice A n c, .slice B m d] 45)).heap.size = w.heap.size + 1 := by simp
  go_enter Try.func128, Try.ntmps128
  go_wp2_with fail
  have oE0 := own_zeros (w.alloc (.cells #[.slice A n c, .slice B m d] 45)) n (by omega)
  rw [hsz] at oE0
  have oS0 : OwnL (((w.alloc (.cells #[.slice A n c, .slice B m d] 45)).alloc (.cells (madeCells #[.int .i64 0] n) 2)).alloc (.cells (madeCells #[.bool false] n) 4)) (w.heap.size + 1) (w.heap.size + 1 + 1) n n (List.replicate n false) := by
    have h1 := own_made (enc := encBl) (k := 1) (e := 4) (z := #[.bool false]) (B := w.heap.size + 1) false rfl (by omega) rfl ((w.alloc (.cells #[.slice A n c, .slice B m d] 45)).alloc (.cells (madeCells #[.int .i64 0] n) 2)) n (by unfold maxLen; omega) (by simp)
    rw [Nat.mul_one] at h1
    have e : ((w.alloc (.cells #[.slice A n c, .slice B m d] 45)).alloc (.cells (madeCells #[.int .i64 0] n) 2)).heap.size = w.heap.size + 1 + 1 := by simp
    rw [e] at h1
    exact h1
  have oE1 := oE0.alloc (.cells (madeCells #[.bool false] n) 4)
  have bx1 := (bx.alloc (.cells (madeCells #[.int .i64 0] n) 2)).alloc (.cells (madeCells #[.bool false] n) 4)
  have hV3 : Below w.heap.size w (((w.alloc (.cells #[.slice A n c, .slice B m d] 45)).alloc (.cells (madeCells #[.int .i64 0] n) 2)).alloc (.cells (madeCells #[.bool false] n) 4)) := (hV.alloc (by simp) _).alloc (by simp; omega) _
  have hs3 : w.heap.size + 3 = (((w.alloc (.cells #[.slice A n c, .slice B m d] 45)).alloc (.cells (madeCells #[.int .i64 0] n) 2)).alloc (.cells (madeCells #[.bool false] n) 4)).heap.size := by simp
  clear oE0 bx hV hsz hmk hmk2
  generalize (((w.alloc (.cells #[.slice A n c, .slice B m d] 45)).alloc (.cells (madeCells #[.int .i64 0] n) 2)).alloc (.cells (madeCells #[.bool false] n) 4)) = W at *
  have hWs : w.heap.size + 3 ≤ W.heap.size := by omega
  clear hs3
  go_loopw [8] (fun ii wr => ∃ k : Nat, k ≤ n ∧ ii = .int .i64 k ∧ Own wr (w.heap.size + 1) (some ⟨w.heap.size + 1, 0, none⟩) n n (List.replicate k (-1) ++ List.replicate (n - k) 0) ∧ OwnL wr (w.heap.size + 1) (w.heap.size + 1 + 1) n n (List.replicate n false) ∧ Below (w.heap.size + 1) W wr) (fun ii _ => n - (intOf ii).toNat)
  case atStart => exact ⟨0, Nat.zero_le _, rfl, by simpa using oE1, oS0, Below.refl _ _⟩
  case round =>
    obtain ⟨k, hk, rfl, hE, hS, hb⟩ := hrel
    by_cases hlt : k < n
    · obtain ⟨g, z, hA, hBg, hgl, _, _, hcg, hfg⟩ := hE.at_ hlt
      obtain rfl : g = w.heap.size + 1 := by injection hA with hA; injection hA with hA; exact hA.symm
      obtain ⟨hE2, hgr⟩ := hE.set2 k (z := -1) (WalkArith.wf_i64 (by omega))
      have hS2 := hS.grown hgr (by simp)
      have HE := Lib.hid (fill_step (x := (-1 : Int)) (y := 0) hlt)
      have hb2 := hb.setCell (p := ⟨w.heap.size + 1, k, none⟩) (Nat.le_refl _) (.int .i64 (-1))
      clear hE hS hA hgr
      go_wp2_with fail
      go_roundw
      case rel => exact ⟨k + 1, by omega, by go_num, by rw [← HE.out]; exact hE2, hS2, hb2⟩
      case measure => simp [intOf]; omega
    · obtain rfl : k = n := by omega
      obtain ⟨bo, hbo, hcs, hfs, hgs⟩ := hS.at_ hs
      obtain ⟨hS2, hgr⟩ := hS.set_ hs true
      have hE2 := hE.grown hgr (fun g hg hh => by injection hg with hg; injection hg with hg; injection hh with hh; omega)
      have hsz2 : (wr.setCell ⟨w.heap.size + 1 + 1, s, none⟩ (.bool true)).heap.size = wr.heap.size := by simp [World.setCell]
      have hb2 := hb.setCell (p := ⟨w.heap.size + 1 + 1, s, none⟩) (by simp) (.bool true)
      have oO := own_one (wr.setCell ⟨w.heap.size + 1 + 1, s, none⟩ (.bool true)) wr.heap.size s (by omega) (by omega)
      rw [hsz2] at oO
      have hSM : SM ((wr.setCell ⟨w.heap.size + 1 + 1, s, none⟩ (.bool true)).alloc (.cells #[.int .i64 (s : Int)] 2)) (w.heap.size + 1) wr.heap.size (w.heap.size + 1) (w.heap.size + 1 + 1) k (some ⟨wr.heap.size, 0, none⟩) 1 1 (bfsTo (esOf ps) k s 0) := by
        refine ⟨?_, ?_, oO, by omega, by have := hb.size; omega⟩
        · have e : encE (bfsTo (esOf ps) k s 0).ent = List.replicate k (-1) ++ List.replicate (k - k) 0 := by
            show encE (List.replicate k none) = _
            rw [encE_none]; simp
          rw [e]
          exact hE2.alloc _
        · have e : seenL k (bfsTo (esOf ps) k s 0).ord = (List.replicate k false).set s true := by
            show seenL k ([] ++ [s]) = _
            rw [seenL_add]
            congr 1
            apply List.ext_getElem?
            intro i
            by_cases hi : i < k <;> simp [seenL, hi]
          rw [e]
          exact hS2.alloc _
      have hb3 := hb2.alloc (by rw [hsz2]; have := hb.size; omega) (.cells #[.int .i64 (s : Int)] 2)
      have hCW : w.heap.size + 3 ≤ wr.heap.size := by have := hb.size; omega
      clear hE hS hE2 hS2 oO hgr hbo hb hb2
      go_wp2_with fail
      generalize ((wr.setCell ⟨w.heap.size + 1 + 1, s, none⟩ (.bool true)).alloc (.cells #[.int .i64 (s : Int)] 2)) = W5 at *
      clear hcs hfs hgs hsz2
      generalize wr.heap.size = C at *
      go_loopw [9, 10] (fun ss ii wr => ∃ (q : Nat) (A9 : Option Addr) (m9 c9 : Nat), ii = .int .i64 q ∧ ss = .slice A9 m9 c9 ∧ q ≤ m9 ∧ SM wr (w.heap.size + 1) C (w.heap.size + 1) (w.heap.size + 1 + 1) k A9 m9 c9 (bfsTo (esOf ps) k s q) ∧ C ≤ wr.heap.size ∧ Below (w.heap.size + 1) W wr) (fun _ ii _ => k - (intOf ii).toNat)
      case atStart => exact ⟨0, _, 1, 1, rfl, rfl, by omega, hSM, by have := (hSM.ord.lt C rfl).2; omega, hb3⟩
      case round =>
        obtain ⟨q, A9, m9, c9, rfl, rfl, hq, hSM, hC, hb⟩ := hrel
        have hlo : (bfsTo (esOf ps) k s q).ord.length = m9 := by have := hSM.ord.len; rwa [cN_len] at this
        have HI := Lib.hid (bfsTo_inv HG.out hs q).1
        have hmk : m9 ≤ k := by rw [← hlo]; exact nodup_len HI.out.nd HI.out.lt
        have HLO := Lib.hid hlo
        clear hlo
        by_cases hlt : q < m9
        · obtain ⟨g9, z9, rfl, hCg, hg9, hz9, hz64, hc9, _⟩ := hSM.ord.at_ hlt
          obtain ⟨v, hv, rfl⟩ := cN_get hz9
          have hvk : v < k := HI.out.lt v (List.mem_of_getElem? hv)
          have HV := Lib.hid hv
          have b1 := bx1.below hb (by omega)
          have xl := b1.lt
          have x0 : wr.cell? ⟨w.heap.size, 0, none⟩ = some (.slice A k c) := b1.cell 0
          have x1 : wr.cell? ⟨w.heap.size, 1, none⟩ = some (.slice B m d) := b1.cell 1
          have kN : Kept (IsNet wr A k c ns B m d ps) := ⟨h.below (hV3.trans (hb.mono (by omega)))⟩
          have kS : Kept (SM wr (w.heap.size + 1) C (w.heap.size + 1) (w.heap.size + 1 + 1) k (some ⟨g9, 0, none⟩) m9 c9 (bfsTo (esOf ps) k s q)) := ⟨hSM⟩
          have kB : Kept (Below (w.heap.size + 1) W wr) := ⟨hb⟩
          have kU : Kept (Below wr.heap.size wr wr.drew) := ⟨(Below.refl _ _).drew⟩
          have i0 : (0 : Int) ≤ (q : Int) := by omega
          have i1 : (q : Int) < (m9 : Int) := by omega
          obtain ⟨wo, rfl⟩ : ∃ wo : World, wo = wr := ⟨_, rfl⟩
          have kS0 := Lib.hid hSM
          clear hv hz9 hSM hb b1
          go_wp2_with fail
          go_region_held3 (fun w' => w.heap.size < w'.heap.size ∧ g9 < w'.heap.size ∧ w'.cell? ⟨w.heap.size, 0, none⟩ = some (.slice A k c) ∧ w'.cell? ⟨w.heap.size, 1, none⟩ = some (.slice B m d) ∧ w'.cell? ⟨g9, q, none⟩ = some (.int .i64 (v : Int)) ∧ Kept (Below wo.heap.size wo w'))
            (first | (go_split_ands; refine ⟨by have := hba.size; omega, by have := hba.size; omega, ?_, ?_, ?_, ⟨bthen (Kept.out ‹Kept (Below wo.heap.size _ _)›) hba (Kept.out ‹Kept (Below wo.heap.size _ _)›).size⟩⟩ <;> (rw [hba.cell (by simp; omega)]; assumption)) | go_keep)
            (first | (go_at_call 136; go_split_ands; refine (sAt_any _ _ _ _ _ _ v ns ps _ (kN.out.below (Kept.out ‹Kept (Below wo.heap.size _ _)›)) HOK.out).mono ?_; rintro e wa ⟨A4, c4, rfl, o4, hba⟩; have k4 : Kept (Own wa wo.heap.size A4 (cN (inc (esOf ps) v)).length c4 (cN (inc (esOf ps) v))) := ⟨o4.mono (Kept.out ‹Kept (Below wo.heap.size _ _)›).size⟩))
          rename_i hh
          obtain ⟨_, _, _, _, _, ⟨hbA⟩⟩ := hh
          have hSMa := kS.out.below hbA
          have hba2 := bthen kB.out hbA (by omega)
          have o4 := k4.out
          have hsa := hbA.size
          have hloc : (inc (esOf ps) v).length ≤ 40 := by
            have h1 : (inc (esOf ps) v).length ≤ (esOf ps).length := Nat.le_trans (List.length_filter_le _ _) (by simp)
            rw [esOf_len, HM.out] at h1
            omega
          generalize hn4 : (cN (inc (esOf ps) v)).length = n4 at *
          have HN4 := Lib.hid (show (inc (esOf ps) v).length = n4 by rw [← hn4, cN_len])
          have hn4' : n4 ≤ 40 := by have := HN4.out; omega
          clear hn4 k4 kS kB kU kN hbA hba xl x0 x1 hc9 hg9 hloc
          go_wp2_with fail
          go_loopw [9, 12] (fun ss ii wr => ∃ (i : Nat) (A9 : Option Addr) (m9 c9 : Nat), ii = .int .i64 i ∧ ss = .slice A9 m9 c9 ∧ i ≤ n4 ∧ SM wr (w.heap.size + 1) C (w.heap.size + 1) (w.heap.size + 1 + 1) k A9 m9 c9 (vst (esOf ps) v (bfsTo (esOf ps) k s q) i) ∧ Own wr wo.heap.size A4 n4 c4 (cN (inc (esOf ps) v)) ∧ Hid (∀ g, A4.map (·.block) = some g → A9.map (·.block) ≠ some g) ∧ wo.heap.size ≤ wr.heap.size ∧ Below (w.heap.size + 1) W wr) (fun _ ii _ => n4 - (intOf ii).toNat)
          case atStart => exact ⟨0, _, m9, c9, rfl, rfl, Nat.zero_le _, hSMa, o4, (fun g hg hh => by
            have h1 := (o4.lt g hg).1
            have h2 : g9 = g := by injection hh
            have h3 := (kS0.out.ord.lt g9 rfl).2
            omega), hsa, hba2⟩
          case round =>
            obtain ⟨i, A9, m9, c9, rfl, rfl, hi, hSM, hO4, HAP, hwo, hb⟩ := hrel
            obtain ⟨hI, hvk2, hlen⟩ := vst_inv HG.out HI.out HV.out i
            have hm9 : (vst (esOf ps) v (bfsTo (esOf ps) k s q) i).ord.length = m9 := by have := hSM.ord.len; rwa [cN_len] at this
            have hq9 : q < m9 := by rw [← hm9]; exact (List.getElem?_eq_some_iff.1 hvk2).1
            have hm9k : m9 ≤ k := by omega
            by_cases hlt3 : i < n4
            · obtain ⟨g4, z4, rfl, hg4l, hg4, hz4, hz464, hc4, _⟩ := hO4.at_ hlt3
              obtain ⟨p, hp, rfl⟩ := cN_get hz4
              obtain ⟨g9, z9, rfl, hCg9, hg9, hz9, _, hc9, _⟩ := hSM.ord.at_ hq9
              obtain ⟨v', hv', rfl⟩ := cN_get hz9
              obtain rfl : v' = v := Option.some.inj (hv'.symm.trans hvk2)
              have hpin : p ∈ inc (esOf ps) v' := List.mem_of_getElem? hp
              have hok2 : oth (esOf ps) p v' < k := oth_lt HG.out (inc_mem.1 hpin).1
              have hpm : p < m := by have := (inc_mem.1 hpin).1; rw [esOf_len, HM.out] at this; exact this
              have HS := Lib.hid (vst_succ (st := bfsTo (esOf ps) k s q) hp)
              have HP := Lib.hid hpin
              have b1 := bx1.below hb (by omega)
              have xl := b1.lt
              have x0 : wr.cell? ⟨w.heap.size, 0, none⟩ = some (.slice A k c) := b1.cell 0
              have x1 : wr.cell? ⟨w.heap.size, 1, none⟩ = some (.slice B m d) := b1.cell 1
              have kN : Kept (IsNet wr A k c ns B m d ps) := ⟨h.below (hV3.trans (hb.mono (by omega)))⟩
              have kS : Kept (SM wr (w.heap.size + 1) C (w.heap.size + 1) (w.heap.size + 1 + 1) k (some ⟨g9, 0, none⟩) m9 c9 (vst (esOf ps) v' (bfsTo (esOf ps) k s q) i)) := ⟨hSM⟩
              have k4 : Kept (Own wr wo.heap.size (some ⟨g4, 0, none⟩) n4 c4 (cN (inc (esOf ps) v'))) := ⟨hO4⟩
              have kB : Kept (Below (w.heap.size + 1) W wr) := ⟨hb⟩
              have kU : Kept (Below wr.heap.size wr wr.drew) := ⟨(Below.refl _ _).drew⟩
              have HMM := Lib.hid hm9
              have HI3 := Lib.hid hI
              have i0 : (0 : Int) ≤ (q : Int) := by omega
              have i1 : (q : Int) < (m9 : Int) := by omega
              have i2 : (0 : Int) ≤ (i : Int) := by omega
              have i3 : (i : Int) < (n4 : Int) := by omega
              clear hv' hz9 hz4 hp hSM hO4 hb b1 hI hvk2 hm9 hpin
              obtain ⟨wi, rfl⟩ : ∃ wi : World, wi = wr := ⟨_, rfl⟩
              go_wp2_with fail
              go_region_held3 (fun w' => w.heap.size < w'.heap.size ∧ g9 < w'.heap.size ∧ g4 < w'.heap.size ∧ w'.cell? ⟨w.heap.size, 0, none⟩ = some (.slice A k c) ∧ w'.cell? ⟨w.heap.size, 1, none⟩ = some (.slice B m d) ∧ w'.cell? ⟨g9, q, none⟩ = some (.int .i64 (v' : Int)) ∧ w'.cell? ⟨g4, i, none⟩ = some (.int .i64 (p : Int)) ∧ Kept (Below wi.heap.size wi w'))
                (first | (go_split_ands; refine ⟨by have := hbb.size; omega, by have := hbb.size; omega, by have := hbb.size; omega, ?_, ?_, ?_, ?_, ⟨bthen (Kept.out ‹Kept (Below wi.heap.size _ _)›) hbb (Kept.out ‹Kept (Below wi.heap.size _ _)›).size⟩⟩ <;> (rw [hbb.cell (by simp; omega)]; assumption)) | go_keep)
                (first | (go_at_call 137; go_split_ands; refine (sOther_any _ _ _ _ _ _ p v' ns ps _ (kN.out.below (Kept.out ‹Kept (Below wi.heap.size _ _)›)) HOK.out HP.out).mono ?_; rintro e wb ⟨rfl, hbb⟩))
              rename_i hh
              obtain ⟨_, _, _, _, _, _, hc4b, ⟨hbB⟩⟩ := hh
              have hSM := kS.out.below hbB
              have hO4 := k4.out.below hbB
              have hb := bthen kB.out hbB (by omega)
              have hsb := hbB.size
              clear kS k4 kB kU kN hbB hbb xl x0 x1 hc9 hc4
              obtain ⟨bo, hbo, hcs, hfs, hgs⟩ := hSM.seen.at_ hok2
              rw [seenL_at _ hok2] at hbo
              by_cases hin : oth (esOf ps) p v' ∈ (vst (esOf ps) v' (bfsTo (esOf ps) k s q) i).ord
              · obtain rfl : bo = true := by rw [decide_eq_true hin] at hbo; exact (Option.some.inj hbo).symm
                have HS2 := Lib.hid (HS.out.trans (visit_old hin))
                clear hbo hin
                go_wp2_with fail
                go_roundw
                case rel => exact ⟨i + 1, _, m9, c9, by go_num, rfl, by omega, by rw [HS2.out]; exact hSM, hO4, HAP, by omega, hb⟩
                case measure => simp [intOf]; omega
              · obtain rfl : bo = false := by rw [decide_eq_false hin] at hbo; exact (Option.some.inj hbo).symm
                obtain ⟨hvo, hve⟩ := visit_new hin
                have HO := Lib.hid (show (vst (esOf ps) v' (bfsTo (esOf ps) k s q) (i + 1)).ord = (vst (esOf ps) v' (bfsTo (esOf ps) k s q) i).ord ++ [oth (esOf ps) p v'] by rw [HS.out]; exact hvo)
                have HE := Lib.hid (show (vst (esOf ps) v' (bfsTo (esOf ps) k s q) (i + 1)).ent = (vst (esOf ps) v' (bfsTo (esOf ps) k s q) i).ent.set (oth (esOf ps) p v') (some p) by rw [HS.out]; exact hve)
                have hC2 := hSM.gC
                obtain ⟨hS2, hgr1⟩ := hSM.seen.set_ hok2 true
                have hE1 := hSM.ent.grown hgr1 (fun g hg hh => by injection hg with hg; injection hg with hg; injection hh with hh; omega)
                have hOr1 := hSM.ord.grown2 hgr1 hC2
                have hO41 := hO4.grown2 hgr1 (by omega)
                have hc4c := hgr1.cell hc4b (fun hh => by injection hh with hh; simp at hh; omega)
                obtain ⟨ge, ze, hAe, _, hgel, _, _, hce, hfe⟩ := hE1.at_ hok2
                obtain rfl : ge = w.heap.size + 1 := by injection hAe with hAe; injection hAe with hAe; exact hAe.symm
                obtain ⟨hE2, hgr2⟩ := hE1.set2 (oth (esOf ps) p v') (z := (p : Int)) (WalkArith.wf_i64 (by omega))
                have hS3 := hS2.grown hgr2 (fun hh => by injection hh with hh; omega)
                have hOr2 := hOr1.grown2 hgr2 (by omega)
                have hO42 := hO41.grown2 hgr2 (by omega)
                have hb2 := (hb.setCell (p := ⟨w.heap.size + 1 + 1, oth (esOf ps) p v', none⟩) (by simp) (.bool true)).setCell (p := ⟨w.heap.size + 1, oth (esOf ps) p v', none⟩) (Nat.le_refl _) (.int .i64 (p : Int))
                have hgl2 : g4 < wb.heap.size := (hO4.lt g4 rfl).2
                have hgs1 : w.heap.size + 1 < (wb.setCell ⟨w.heap.size + 1 + 1, oth (esOf ps) p v', none⟩ (.bool true)).heap.size := hgel
                have hszd : ((wb.setCell ⟨w.heap.size + 1 + 1, oth (esOf ps) p v', none⟩ (.bool true)).setCell ⟨w.heap.size + 1, oth (esOf ps) p v', none⟩ (.int .i64 (p : Int))).heap.size = wb.heap.size := by simp [World.setCell]
                clear hbo hin hvo hve hSM hO4 hS2 hE1 hOr1 hO41 hgr1 hgr2 hAe hb
                go_wp2_with (at_builtin; refine wpList_pushA ((wb.setCell ⟨w.heap.size + 1 + 1, oth (esOf ps) p v', none⟩ (.bool true)).setCell ⟨w.heap.size + 1, oth (esOf ps) p v', none⟩ (.int .i64 (p : Int))) rfl _ _ rfl C _ _ _ _ (oth (esOf ps) p v' : Int) wb.heap.size hszd rfl rfl hOr2 (WalkArith.wf_i64 (by omega)) (by omega) (by omega) ?_; intro gn cn wn hon hbn hgn hCn hat)
                have hgl3 := hgn.size
                go_roundw
                case rel =>
                  refine ⟨i + 1, _, m9 + 1, cn, by go_num, rfl, by omega, ⟨?_, ?_, ?_, by omega, by omega⟩, ?_, ?_, by omega, ?_⟩
                  · rw [HE.out, encE_set]
                    exact hE2.grown hgn (fun g hg => by injection hg with hg; injection hg with hg; rw [← hg]; exact hOr2.ne (by omega))
                  · rw [HO.out, seenL_add]
                    exact hS3.grown hgn (hOr2.ne (by omega))
                  · rw [HO.out]
                    unfold cN
                    rw [List.map_append]
                    exact hon
                  · exact hO42.grown hgn (fun g hg => HAP.out g (by rw [hg]; rfl))
                  · intro g hg hh
                    have h1 : g4 = g := by injection hg
                    have h2 : gn = g := by injection hh
                    rcases hat with hat | hat
                    · exact HAP.out g hg (by rw [hat, h2])
                    · omega
                  · exact hb2.trans (hbn.mono (by omega))
                case measure => simp [intOf]; omega
            · obtain rfl : i = n4 := by omega
              have HF := Lib.hid (vst_full (es := esOf ps) (st := bfsTo (esOf ps) k s q) HV.out (Nat.le_of_eq HN4.out))
              have hqq : q + 1 ≤ m9 := by omega
              clear hvk2 hm9 hI
              go_wp2_with fail
              go_roundw
              case rel => exact ⟨q + 1, A9, m9, c9, by go_num, rfl, hqq, by rw [show bfsTo (esOf ps) k s (q + 1) = stepB (esOf ps) (bfsTo (esOf ps) k s q) q from rfl, ← HF.out]; exact hSM, by omega, hb⟩
              case measure => simp [intOf]; omega
        · obtain rfl : q = m9 := by omega
          have HEND := Lib.hid (bfsTo_end HG.out hs (Nat.le_of_eq HLO.out))
          have hel : (bfsTo (esOf ps) k s q).ent.length = k := HI.out.len
          have HEL := Lib.hid hel
          clear hel
          go_wp2_with fail
          go_ret2
          have hE := hSM.ent
          have hO := hSM.ord
          rw [HEND.out] at hE hO
          have e1 : (bfs (esOf ps) k s).ent.length = k := by rw [← HEND.out]; exact HEL.out
          have e2 : (bfs (esOf ps) k s).ord.length = q := by rw [← HEND.out]; exact HLO.out
          exact ⟨_, _, _, _, by rw [e1, e2]; rfl, by rw [e1]; exact hE.mono (by omega), by rw [e2]; exact hO.mono (by omega), hV3.trans (hb.mono (by omega))⟩
end Go.Proofs.Ytoijogaogheciaa
