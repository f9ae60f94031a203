/- What l05Tree and l04Path do, by walks over their text. Conditions: a valid network; nodes of it, one reached from the other. What l05Cycle does, by a walk over its text. Conditions: a valid network, a chord of it. What l05Add does, by a walk over its text. Conditions: as many numbers in the cycle; bounded numbers; at most 2^20 of them. What energyOf, energyChange, l10Energy, l10Lower do, by walks over their text. Conditions: a valid network; flows in range; a cycle's numbers. A list of cycles in memory: a slice of slices of int64 that the call itself made. No condition. What l05Basis does, by a walk over its text. Condition: a valid network. What l11Pass does, by a walk over its text. Conditions: a valid network, flows in range, cycles of it, a step of 1 to 2^15, at most 5000 moves so far. What l11Relax does, by a walk over its text. Conditions: a valid network, flows in range, a step of at most 2^15. What relax does, by a walk over its text. Conditions: a valid network, flows in range, a step of at most 2^15. -/
import Derived.Test.YtpgegfnhokhlmaaGreatKS
import Derived.StillTailTactics
import Derived.Deep.RegionHeldLaw
import Derived.Test.YtpgegfnhokhlmaaGreatKG
import Derived.Test.YtpgegfnhokhlmaaGreatKF
import Derived.Test.YtpgegfnhokhlmaaGreatKA
set_option linter.unusedVariables false
set_option maxRecDepth 100000
namespace Go.Proofs.YtpgegfnhokhlmaaGreat
open Go.ChangeShapes Go.WideShapes Go.ChangeAt Go.RowKit Go.Joins Go.Deep
attribute [local go_sem ↓] Go.wp_at_zero Go.wp_at_succ

theorem Own.low1 {w : World} {B : Nat} {A : Option Addr} {n c : Nat} {zs : List Int} (h : Own w B A n c zs) {a : Addr} (ha : a.block < B) (u : Value) : Own (w.setCell a u) B A n c zs := ⟨ownsRow_setCell_below h.1 ha u, h.2⟩
/-- Where a node stands in a search. -/
def posOf (es : Es) (n a v : Nat) : Nat := (bfs es n a).ord.idxOf v
theorem posOf_at {es : Es} {n a v q : Nat} (hn : (bfs es n a).ord.Nodup) (h : (bfs es n a).ord[q]? = some v) : posOf es n a v = q := by
  unfold posOf
  obtain ⟨h1, h2⟩ := List.getElem?_eq_some_iff.1 h
  rw [← h2]
  exact List.Nodup.idxOf_getElem hn q h1
theorem posOf_has {es : Es} {n a v : Nat} (h : v ∈ (bfs es n a).ord) : (bfs es n a).ord[posOf es n a v]? = some v := by
  unfold posOf
  rw [List.getElem?_eq_getElem (List.idxOf_lt_length_of_mem h), List.getElem_idxOf]
set_option maxHeartbeats 4000000 in
theorem sPath_any (A B : Option Addr) (n c m d a b : Nat) (ns : List Nd) (ps : List Pp) (w : World) (h : IsNet w A n c ns B m d ps) (hok : NetOk ns ps) (ha : a < n) (hr : Rch (esOf ps) a b) :
    Calls Tryz.prog 119 #[.agg #[.slice A n c, .slice B m d], .int .i64 a, .int .i64 b] w fun e w' => ∃ A' c' l, e = .returned (.slice A' l.length c') ∧ Own w' w.heap.size A' l.length c' (cN l) ∧ IsPath (esOf ps) a l b ∧ l.Nodup ∧ (∀ i ∈ l, i < m) ∧ l.length ≤ n ∧ Below w.heap.size w w' := by
  have hln : ns.length = n := h.nodes.len
  have hm : ps.length = m := h.pipes.len
  have hn24 : n ≤ 24 := by have := hok.2.1; omega
  have hm40 : m ≤ 40 := by have := hok.2.2.1; omega
  have hg : Good (esOf ps) n := by rw [← hln]; exact net_good hok
  have HG := Lib.hid hg
  have HM := Lib.hid hm
  have HOK := Lib.hid hok
  have HD := Lib.hid (bfs_done hg ha)
  have hbO : b ∈ (bfs (esOf ps) n a).ord := (done_rch hg HD.out b).2 hr
  have hOL : (bfs (esOf ps) n a).ord.length ≤ n := nodup_len HD.out.inv.nd HD.out.inv.lt
  clear hln hok hg hm hr
  have bx := box_new w #[.slice A n c, .slice B m d] 33
  have hV : Below w.heap.size w (w.alloc (.cells #[.slice A n c, .slice B m d] 33)) := (Below.refl _ _).alloc (Nat.le_refl _) _
  have hsV : w.heap.size < (w.alloc (.cells #[.slice A n c, .slice B m d] 33)).heap.size := by simp
  go_enter Tryz.func119, Tryz.ntmps119
  go_upto_region 1 with fail
  generalize (w.alloc (.cells #[.slice A n c, .slice B m d] 33)) = V at *
  have xl := bx.lt
  have x0 : V.cell? ⟨w.heap.size, 0, none⟩ = some (.slice A n c) := bx.cell 0
  have x1 : V.cell? ⟨w.heap.size, 1, none⟩ = some (.slice B m d) := bx.cell 1
  go_upto_region 2 with (go_at_call 133; refine (sSearch_any _ _ _ _ _ _ a ns ps _ (h.below hV) HOK.out ha).mono ?_; rintro e1 w1 ⟨A5, c5, A6, c6, rfl, o5, _, hb1⟩)
  rw [HD.out.inv.len] at o5 ⊢
  have hW1 := bthen hV hb1 hV.size
  have bx1 := bx.belowA hb1
  have hs1 := hb1.size
  clear x0 x1 xl bx hb1
  go_wp2_with fail
  go_loopw [9, 10] (fun ss ii wr => ∃ (x : Nat) (l : List Nat) (A9 : Option Addr) (c9 : Nat), ii = .int .i64 x ∧ ss = .slice A9 l.length c9 ∧ x ∈ (bfs (esOf ps) n a).ord ∧ Back (esOf ps) (bfs (esOf ps) n a) x l b ∧ l.length + posOf (esOf ps) n a x + 1 ≤ n ∧ Own wr w1.heap.size A9 l.length c9 (cN l) ∧ (A9 = none → c9 = 0) ∧ Below w1.heap.size w1 wr) (fun _ ii _ => posOf (esOf ps) n a (intOf ii).toNat)
  case atStart =>
    have hp := (List.getElem?_eq_some_iff.1 (posOf_has hbO)).1
    exact ⟨b, [], some ⟨w1.heap.size, 0, none⟩, 0, rfl, rfl, hbO, ⟨rfl, List.nodup_nil, fun i hi => absurd hi List.not_mem_nil⟩, by simp; omega, own_empty _ _ (Nat.le_refl _), (fun e => by cases e), (Below.refl _ _).alloc (Nat.le_refl _) _⟩
  case round =>
    obtain ⟨x, l, A9, c9, rfl, rfl, hxO, hBk, hll, hO, hnil, hb⟩ := hrel
    have hxn : x < n := HD.out.inv.lt x hxO
    by_cases hxa : x = a
    · have t1 : ((x : Int) != (a : Int)) = false := by simp [hxa]
      have HPL := Lib.hid (show ∀ i ∈ l, i < m by
        intro i hi
        obtain ⟨y, q, px, e1, _⟩ := hBk.ents i hi
        have := (inc_mem.1 (HD.out.inv.ent1 y i e1).1).1
        rwa [esOf_len, HM.out] at this)
      have HP := Lib.hid (hxa ▸ hBk.path)
      have HN := Lib.hid hBk.nd
      clear hBk hxa
      go_wp2_with fail
      go_ret
      exact ⟨A9, c9, l, rfl, hO.mono (by omega), HP.out, HN.out, HPL.out, by omega, hW1.trans (hb.mono (by omega))⟩
    · obtain ⟨i, hi⟩ := HD.out.inv.ent2 x hxO hxa
      obtain ⟨hinc, p, q, hp, hq, hpq⟩ := HD.out.inv.ent1 x i hi
      have HB2 := Lib.hid (back_step HG.out HD.out.inv hBk hi)
      have hq2 := posOf_at HD.out.inv.nd hq
      have hp2 := posOf_at HD.out.inv.nd hp
      have hpO := List.mem_of_getElem? hp
      have t1 : ((x : Int) != (a : Int)) = true := by simp; omega
      have him : i < m := by have := (inc_mem.1 hinc).1; rw [esOf_len, HM.out] at this; exact this
      have ho5 := o5.below hb
      obtain ⟨b5, of5, rfl, hb5l, hc5⟩ := ho5.ints.atD hxn
      rw [show (encE (bfs (esOf ps) n a).ent).getD x 0 = (i : Int) by rw [List.getD_eq_getElem?_getD, encE_at hi]; rfl] at hc5
      have HIN := Lib.hid hinc
      have j3 : (0 : Int) ≤ (x : Int) := by omega
      have j4 : (x : Int) < (n : Int) := by omega
      have hs := hb.size
      have oone := own_one wr w1.heap.size i (by omega) hs
      have hO1 := hO.alloc (.cells #[.int .i64 (i : Int)] 2)
      have hb1 : Below w1.heap.size wr (wr.alloc (.cells #[.int .i64 (i : Int)] 2)) := (Below.refl _ _).alloc hs _
      have HMS := Lib.hid hp2
      have HMT := Lib.hid hq2
      have HPO := Lib.hid hpO
      have HENT := Lib.hid (show (encE (bfs (esOf ps) n a).ent).getD x 0 = (i : Int) by rw [List.getD_eq_getElem?_getD, encE_at hi]; rfl)
      clear hBk hp hq hi hinc hp2 hq2 hpO hxa
      have hll2 : l.length ≤ 24 := by omega
      go_upto_region 6 with (at_builtin; refine wpList_catI (wr.alloc (.cells #[.int .i64 (i : Int)] 2)) rfl _ _ rfl w1.heap.size _ _ _ [(i : Int)] _ _ _ _ hnil rfl rfl oone hO1.ints (by omega) (by omega) (by simp; omega) ?_; intro A3 c3 w3 oZ hb3)
      have hnil3 : A3 = none → c3 = 0 := oZ.nilc
      have hB3 := (hb.trans hb1).trans hb3
      have ho7 := o5.below hB3
      have bx3 := (bx1.belowA hB3)
      have hbW := hW1.trans (hB3.mono (by omega))
      have yl := bx3.lt
      have y0 : w3.cell? ⟨w.heap.size, 0, none⟩ = some (.slice A n c) := bx3.cell 0
      have y1 : w3.cell? ⟨w.heap.size, 1, none⟩ = some (.slice B m d) := bx3.cell 1
      obtain ⟨_, _, hA7, hb7l, hc7⟩ := ho7.ints.atD hxn
      injection hA7 with hA7
      injection hA7 with hA7 hA8
      subst hA7 hA8
      rw [HENT.out] at hc7
      have kB : Kept (Below w.heap.size w w3) := ⟨hbW⟩
      have kU : Kept (Below w3.heap.size w3 w3.drew) := ⟨(Below.refl _ _).drew⟩
      have hN3 := h.below hbW
      have kN : Kept (IsNet w3 A n c ns B m d ps) := ⟨hN3⟩
      have kZ : Kept (Own w3 w1.heap.size A3 (1 + l.length) c3 ([(i : Int)] ++ cN l)) := ⟨oZ⟩
      have kH : Kept (Below w1.heap.size w1 w3) := ⟨hB3⟩
      obtain ⟨wi, rfl⟩ : ∃ wi : World, wi = w3 := ⟨_, rfl⟩
      clear hO1 hb1 hb3 ho7 oone hN3 hbW hB3 oZ hO hb hc5 ho5 bx3
      go_region_held3 (fun w' => w.heap.size < w'.heap.size ∧ b5 < w'.heap.size ∧ w'.cell? ⟨w.heap.size, 0, none⟩ = some (.slice A n c) ∧ w'.cell? ⟨w.heap.size, 1, none⟩ = some (.slice B m d) ∧ w'.cell? ⟨b5, of5 + x, none⟩ = some (.int .i64 (i : Int)) ∧ Kept (Below wi.heap.size wi w'))
        (first | (go_split_ands; refine ⟨by have := hbb.size; omega, by have := hbb.size; omega, ?_, ?_, ?_, ⟨bthen (Kept.out ‹Kept (Below wi.heap.size _ _)›) hbb (Kept.out ‹Kept (Below wi.heap.size _ _)›).size⟩⟩ <;> (rw [hbb.cell (by simp; omega)]; assumption)) | go_keep)
        (first | (go_at_call 120; go_split_ands; refine (sOther_any _ _ _ _ _ _ i x ns ps _ (kN.out.below (Kept.out ‹Kept (Below wi.heap.size _ _)›)) HOK.out HIN.out).mono ?_; rintro e wb ⟨rfl, hbb⟩))
      rename_i hh
      obtain ⟨_, _, _, _, _, ⟨hbB⟩⟩ := hh
      have hBE := bthen kH.out hbB kH.out.size
      have oE := kZ.out.below hbB
      have HLN := Lib.hid (show (i :: l).length = 1 + l.length by simp; omega)
      have HCN := Lib.hid (show cN (i :: l) = [(i : Int)] ++ cN l by rfl)
      clear kB kU kN kZ kH hbB hbb
      go_wp2_with fail
      go_roundw
      case rel =>
        refine ⟨oth (esOf ps) i x, i :: l, A3, c3, by go_num, by rw [HLN.out], HPO.out, HB2.out, ?_, by rw [HLN.out, HCN.out]; exact oE, hnil3, hBE⟩
        have h1 := HMS.out
        have h2 := HMT.out
        simp only [List.length_cons]
        omega
      case measure =>
        have h1 := HMS.out
        have h2 := HMT.out
        simp [intOf]
        omega
theorem encP_one1 (p : Pp) : ∀ u ∈ encP p, u.oneCell' = true := by
  intro u hu
  simp [encP] at hu
  rcases hu with rfl | rfl | rfl | rfl | rfl <;> rfl
/-- The pipes of a network by their numbers. -/
def trP (ps : List Pp) (l : List Nat) : List Pp := l.filterMap fun i => ps[i]?
theorem trP_step {ps : List Pp} {l : List Nat} {j i : Nat} {p : Pp} (h : l[j]? = some i) (hp : ps[i]? = some p) : trP ps (l.take (j + 1)) = trP ps (l.take j) ++ [p] := by
  unfold trP
  rw [List.take_add_one, h, List.filterMap_append]
  simp [hp]
theorem trP_len {ps : List Pp} : ∀ {l : List Nat}, (∀ i ∈ l, i < ps.length) → (trP ps l).length = l.length
  | [], _ => rfl
  | i :: l, h => by
    have hi := h i List.mem_cons_self
    have ih := trP_len (ps := ps) (l := l) (fun j hj => h j (List.mem_cons_of_mem _ hj))
    unfold trP at *
    rw [List.filterMap_cons, List.getElem?_eq_getElem hi]
    simp [ih]
theorem trP_es {ps : List Pp} : ∀ {l : List Nat}, (∀ i ∈ l, i < ps.length) → esOf (trP ps l) = l.map fun i => (esOf ps).getD i (0, 0)
  | [], _ => rfl
  | i :: l, h => by
    have hi := h i List.mem_cons_self
    have ih := trP_es (ps := ps) (l := l) (fun j hj => h j (List.mem_cons_of_mem _ hj))
    unfold trP esOf at *
    rw [List.filterMap_cons, List.getElem?_eq_getElem hi]
    simp only [List.map_cons]
    rw [ih]
    congr 1
    simp [List.getD, hi]
theorem trP_mem {ps : List Pp} {l : List Nat} {p : Pp} (h : p ∈ trP ps l) : p ∈ ps := by
  unfold trP at h
  obtain ⟨i, _, hi⟩ := List.mem_filterMap.1 h
  exact List.mem_of_getElem? hi
theorem trP_ok {ns : List Nd} {ps : List Pp} {l : List Nat} (h : NetOk ns ps) (hl : ∀ i ∈ l, i < ps.length) (hn : l.length ≤ ps.length) : NetOk ns (trP ps l) :=
  ⟨h.1, h.2.1, by rw [trP_len hl]; exact Nat.le_trans hn h.2.2.1, h.2.2.2.1, fun p hp => h.2.2.2.2 p (trP_mem hp)⟩
theorem fst_lt' {ps : List Pp} {n : Nat} : ∀ i ∈ fst (esOf ps) n, i < ps.length := by
  intro i hi
  have h1 := (List.mem_filter.1 hi).1
  rw [List.mem_range, esOf_len] at h1
  exact h1
theorem fst_len' {ps : List Pp} {n : Nat} : (fst (esOf ps) n).length ≤ ps.length := by
  have h1 := fst_len (esOf ps) n
  rwa [esOf_len] at h1
theorem tree_es (ps : List Pp) (n : Nat) : esOf (trP ps (fst (esOf ps) n)) = tes (esOf ps) n := trP_es fst_lt'
set_option maxHeartbeats 4000000 in
theorem sTree_any (A B : Option Addr) (n c m d : Nat) (ns : List Nd) (ps : List Pp) (w : World) (h : IsNet w A n c ns B m d ps) (hok : NetOk ns ps) :
    Calls Tryz.prog 118 #[.agg #[.slice A n c, .slice B m d]] w fun e w' => ∃ B' d' A5 c5, e = .returned (.tuple #[.agg #[.slice A n c, .slice B' (fst (esOf ps) n).length d'], .slice A5 (fst (esOf ps) n).length c5]) ∧
      IsNet w' A n c ns B' (fst (esOf ps) n).length d' (trP ps (fst (esOf ps) n)) ∧ Own w' w.heap.size A5 (fst (esOf ps) n).length c5 (cN (fst (esOf ps) n)) ∧ OwnP w' w.heap.size B' (fst (esOf ps) n).length d' (trP ps (fst (esOf ps) n)) ∧ Below w.heap.size w w' := by
  have hln : ns.length = n := h.nodes.len
  have hm : ps.length = m := h.pipes.len
  have hn24 : n ≤ 24 := by have := hok.2.1; omega
  have hm40 : m ≤ 40 := by have := hok.2.2.1; omega
  have HOKP := Lib.hid (fun x (hx : x ∈ ps) => h.pipes.2 x hx)
  have HM := Lib.hid hm
  have HOK := Lib.hid hok
  clear hln hok hm
  have hw0 : ∀ cs t, Below w.heap.size w (w.alloc (.cells cs t)) := fun cs t => (Below.refl _ _).alloc (Nat.le_refl _) _
  have bx1 := (box_new w #[.slice A n c, .slice B m d] 33).alloc (.cells #[.slice none 0 0, .slice none 0 0] 33)
  have bx2 := box_at (w.alloc (.cells #[.slice A n c, .slice B m d] 33)) #[.slice none 0 0, .slice none 0 0] 33 (g := w.heap.size + 1) (by simp)
  have hV : Below w.heap.size w ((w.alloc (.cells #[.slice A n c, .slice B m d] 33)).alloc (.cells #[.slice none 0 0, .slice none 0 0] 33)) := ((Below.refl _ _).alloc (Nat.le_refl _) _).alloc (by simp) _
  have hsz : w.heap.size + 2 ≤ ((w.alloc (.cells #[.slice A n c, .slice B m d] 33)).alloc (.cells #[.slice none 0 0, .slice none 0 0] 33)).heap.size := by simp
  go_enter Tryz.func118, Tryz.ntmps118
  go_upto_region 1 with fail
  generalize ((w.alloc (.cells #[.slice A n c, .slice B m d] 33)).alloc (.cells #[.slice none 0 0, .slice none 0 0] 33)) = V at *
  clear hw0
  have xl := bx1.lt
  have x0 : V.cell? ⟨w.heap.size, 0, none⟩ = some (.slice A n c) := bx1.cell 0
  have x1 : V.cell? ⟨w.heap.size, 1, none⟩ = some (.slice B m d) := bx1.cell 1
  go_upto_region 2 with (go_at_call 160; refine (sForest_any _ _ _ _ _ _ ns ps _ (h.below hV) HOK.out).mono ?_; rintro e1 w1 ⟨A5, c5, rfl, o5, hb1⟩)
  have HFL := Lib.hid (show ∀ i ∈ fst (esOf ps) n, i < m by intro i hi; have := fst_lt' i hi; rw [HM.out] at this; exact this)
  have hFLE := fst_len' (ps := ps) (n := n)
  rw [HM.out] at hFLE
  have HTL := Lib.hid (trP_len (ps := ps) (l := fst (esOf ps) n) fst_lt')
  rw [cN_len] at o5 ⊢
  generalize hL : (fst (esOf ps) n).length = L at *
  have HL := Lib.hid hL
  have hW1 := bthen hV hb1 hV.size
  have b1 := bx1.belowA hb1
  have b2 := bx2.belowA hb1
  have hs1 := hb1.size
  clear x0 x1 xl bx1 bx2 hb1 hL
  go_wp2_with fail
  go_loopw [5, 6] (fun pp ii wr => ∃ (k : Nat) (A2 : Option Addr) (c2 : Nat), k ≤ L ∧ ii = .int .i64 k ∧ pp = .slice A2 k c2 ∧ OwnR encP 5 95 wr w1.heap.size A2 k c2 (trP ps ((fst (esOf ps) n).take k)) ∧ Below w1.heap.size w1 wr) (fun _ ii _ => L - (intOf ii).toNat)
  case atStart => exact ⟨0, _, 0, Nat.zero_le _, rfl, rfl, ownR_empty encP 5 95 w1 w1.heap.size (Nat.le_refl _), (Below.refl _ _).alloc (Nat.le_refl _) _⟩
  case round =>
    obtain ⟨k, A2, c2, hk, rfl, rfl, hoP, hb⟩ := hrel
    have bx := b1.belowA hb
    have xl := bx.lt
    have x0 : wr.cell? ⟨w.heap.size, 0, none⟩ = some (.slice A n c) := bx.cell 0
    have x1 : wr.cell? ⟨w.heap.size, 1, none⟩ = some (.slice B m d) := bx.cell 1
    have hbW := hW1.trans (hb.mono (by omega))
    by_cases hlt : k < L
    · obtain ⟨b5, f5, z5, rfl, hb5l, hz5, _, hc5⟩ := (o5.below hb).ints.at_ hlt
      obtain ⟨i, hi, rfl⟩ := cN_get hz5
      have him := HFL.out i (List.mem_of_getElem? hi)
      obtain ⟨bp, op, p, rfl, hpw, hpp, hpk, q0, q1, q2, q3, q4⟩ := (h.pipes.below hbW).at_ him
      have HST := Lib.hid (trP_step hi hpp)
      have j0 : (0 : Int) ≤ (k : Int) := by omega
      have j1 : (k : Int) < (L : Int) := by omega
      have j2 : (0 : Int) ≤ (i : Int) := by omega
      have j3 : (i : Int) < (m : Int) := by omega
      have hsr := hb.size
      have hb5w : b5 < w1.heap.size := by
        obtain ⟨g, hA, _, hg⟩ := o5.form (by omega)
        injection hA with hA
        injection hA with hA
        omega
      have hbpw : bp < wr.heap.size := hpw
      have hbpV : bp < w.heap.size := by
        obtain ⟨_, _, hE, hlt', _⟩ := h.pipes.1.2 (by omega)
        injection hE with hE
        injection hE with hE
        omega
      have hA2 : A2.map (·.block) ≠ some w.heap.size ∧ A2.map (·.block) ≠ some b5 ∧ A2.map (·.block) ≠ some bp := ⟨fun e => by have := (hoP.lt _ e).1; omega, fun e => by have := (hoP.lt _ e).1; omega, fun e => by have := (hoP.lt _ e).1; omega⟩
      have hA3 : (Value.slice A2 k c2).ownBlock = A2.map (·.block) := by cases A2 <;> rfl
      obtain ⟨i9, hi0, hz0, hz1, hz2⟩ := info_parts infoP
      have kO : Kept (OwnR encP 5 95 wr w1.heap.size A2 k c2 (trP ps ((fst (esOf ps) n).take k))) := ⟨hoP⟩
      have kB : Kept (Below w1.heap.size w1 wr) := ⟨hb⟩
      have kA := Lib.hid hA2
      have kA3 := Lib.hid hA3
      have hxs : w1.heap.size ≤ wr.heap.size := hsr
      have HAL := Lib.hid (fun (o : Obj) (q : Addr) (hq : q.block < wr.heap.size) => show ((wr.alloc o).drew).cell? q = wr.cell? q from ((Below.refl wr.heap.size wr).alloc (Nat.le_refl _) o).cell hq)
      have hxn : w.heap.size < w1.heap.size := by omega
      clear hz5 hi hpp hoP hb bx hbW hA2 hA3
      go_upto_region 6 with fail
      go_region_held_law (fun w' => w'.cell? ⟨w.heap.size, 1, none⟩ = some (.slice (some ⟨bp, op, none⟩) m d) ∧ w'.cell? ⟨b5, f5 + k, none⟩ = some (.int .i64 (i : Int)) ∧ w'.cell? ⟨bp, op + i * 5, none⟩ = some (.int .i64 p.fr) ∧ w'.cell? ⟨bp, op + i * 5 + 1, none⟩ = some (.int .i64 p.to) ∧ w'.cell? ⟨bp, op + i * 5 + 2, none⟩ = some (.int .i64 p.k) ∧ w'.cell? ⟨bp, op + i * 5 + 3, none⟩ = some (.int .i64 p.v) ∧ w'.cell? ⟨bp, op + i * 5 + 4, none⟩ = some (.int .i64 p.l) ∧ w.heap.size < w'.heap.size)
        (first
          | (go_split_ands; refine ⟨?_, ?_, ?_, ?_, ?_, ?_, ?_, ?_⟩ <;> first | (rw [HAL.out _ _ (by simp; omega)]; assumption) | (simp; omega))
          | (go_split_ands
             have hsg := hgrow.size
             refine ⟨?_, ?_, ?_, ?_, ?_, ?_, ?_, by simp at hsg; omega⟩
             · (rw [hgrow.cell_far _ (by simp; omega) (by rw [kA3.out]; exact fun e => kA.out.1 e.symm)]; assumption)
             · (rw [hgrow.cell_far _ (by simp; omega) (by rw [kA3.out]; exact fun e => kA.out.2.1 e.symm)]; assumption)
             all_goals (rw [hgrow.cell_far _ (by simp; omega) (by rw [kA3.out]; exact fun e => kA.out.2.2 e.symm)]; assumption))
          | go_keep)
        ((refine step_append_lies _ (by rfl) _ _ _ (by rfl) w1.heap.size 95 i9 _ 5 40 Tryz.underlying31 hi0 hz0 hz1 hz2 rfl (by omega) (.slice A2 k c2) k ((trP ps ((fst (esOf ps) n).take k)).flatMap encP) (by rfl) ((kO.out.alloc _).qt ⟨1, rfl⟩).1
            ⟨wr.heap.size, 0, none⟩ 1 1 (encP p) (by rfl) (by rfl) (World.news_of_block (cs := #[.int .i64 p.fr, .int .i64 p.to, .int .i64 p.k, .int .i64 p.v, .int .i64 p.l]) (t := 95) (fr := (0, 0)) (heap_alloc_new wr _)) (encP_one1 p)
            (by omega) (by unfold maxLen; omega) (by omega) (by simp; omega) (wr.heap.size + 1) (by simp) ?_; intro gn cn wn hon hgrow hat hlt2))
      have hbn : Below w1.heap.size w1 wn := (((kB.out.alloc hxs (.cells #[.int .i64 p.fr, .int .i64 p.to, .int .i64 p.k, .int .i64 p.v, .int .i64 p.l] 95)).drew).grown hgrow (by simp; omega) (fun q hq => (kO.out.lt q (by rw [← kA3.out]; exact hq)).1))
      have ho3 : OwnR encP 5 95 wn w1.heap.size (some ⟨gn, 0, none⟩) (k + 1) cn (trP ps ((fst (esOf ps) n).take k) ++ [p]) := ⟨by simpa using hon, fun y hy => by
        rcases List.mem_append.1 hy with hy | hy
        · exact kO.out.2 y hy
        · simp at hy; subst hy; rfl⟩
      clear hgrow hat hlt2 hon
      go_wp2_with fail
      go_roundw
      case rel => exact ⟨k + 1, _, _, by omega, by go_num, rfl, by rw [HST.out]; exact ho3, hbn⟩
      case measure => simp [intOf]; omega
    · obtain rfl : k = L := by omega
      have by2 := b2.belowA hb
      have z0 : wr.cell? ⟨w.heap.size + 1, 0, none⟩ = some (.slice none 0 0) := by2.cell 0
      have z1 : wr.cell? ⟨w.heap.size + 1, 1, none⟩ = some (.slice none 0 0) := by2.cell 1
      have g0 := by2.free 0
      have g1 := by2.free 1
      have hlb := by2.lt
      have HTK := Lib.hid (show (fst (esOf ps) n).take k = fst (esOf ps) n from List.take_of_length_le (by rw [HL.out]; exact Nat.le_refl _))
      have o5b := o5.below hb
      go_wp2_with fail
      refine bodyPost_ret (v := .tuple #[.agg #[.slice A n c, .slice A2 k c2], .slice A5 k c5]) (by simp [results, Tryz.results118, go_sem, z0, z1]) rfl ?_
      have hbE : ∀ u0 u1, Below w.heap.size w ((wr.setCell ⟨w.heap.size + 1, 0, none⟩ u0).setCell ⟨w.heap.size + 1, 1, none⟩ u1) := fun u0 u1 => (hbW.setCell (p := ⟨w.heap.size + 1, 0, none⟩) (by simp) _).setCell (p := ⟨w.heap.size + 1, 1, none⟩) (by simp) _
      have hoE : ∀ u0 u1, OwnP ((wr.setCell ⟨w.heap.size + 1, 0, none⟩ u0).setCell ⟨w.heap.size + 1, 1, none⟩ u1) w1.heap.size A2 k c2 (trP ps (fst (esOf ps) n)) := fun u0 u1 => by
        rw [← HTK.out]
        exact ⟨⟨ownsRow_setCell_below (ownsRow_setCell_below hoP.1 (by simp; omega) _) (by simp; omega) _, hoP.2⟩, fun x hx => HOKP.out x (trP_mem hx)⟩
      refine ⟨A2, c2, A5, c5, by rw [HL.out], ?_, ?_, ?_, hbE _ _⟩
      · rw [HL.out]
        exact ⟨(h.below (hbE _ _)).nodes, h.capA, (hoE _ _).reads, (hoE (.bool true) (.bool true)).cap, h.nilA, (hoE (.bool true) (.bool true)).nil_⟩
      · rw [HL.out]
        refine Own.mono (B := V.heap.size) ?_ (by omega)
        iterate 2 refine Own.low1 ?_ (by simp; omega) _
        exact o5b
      · rw [HL.out]
        exact ⟨(hoE _ _).1.mono (by omega), (hoE (.bool true) (.bool true)).2⟩
end Go.Proofs.YtpgegfnhokhlmaaGreat
set_option linter.unusedVariables false
set_option maxRecDepth 100000
namespace Go.Proofs.YtpgegfnhokhlmaaGreat
open Go.ChangeShapes Go.WideShapes Go.ChangeAt Go.RowKit Go.Joins Go.Deep
attribute [local go_sem ↓] Go.wp_at_zero Go.wp_at_succ

/-- A path in the forest, as pipes of the network. -/
def lmap (es : Es) (n : Nat) (l : List Nat) : List Nat := l.map fun j => (fst es n).getD j 0
theorem cyl_step {es : Es} {n a b j q : Nat} {l : List Nat} {zs : List Int} (hg : Good es n) (hp : IsPath es a (lmap es n l) b) (hq : l[j]? = some q) (hlt : q < (fst es n).length) :
    ∃ i : Nat, (fst es n)[q]? = some i ∧ i < es.length ∧ i ∈ inc es (pstTo es a zs (lmap es n l) j).1 ∧ q ∈ inc (tes es n) (pstTo es a zs (lmap es n l) j).1 ∧ efr (tes es n) q = efr es i ∧ oth (tes es n) q (pstTo es a zs (lmap es n l) j).1 = oth es i (pstTo es a zs (lmap es n l) j).1 ∧
      pstTo es a zs (lmap es n l) (j + 1) = (oth es i (pstTo es a zs (lmap es n l) j).1, (pstTo es a zs (lmap es n l) j).2.set i (if efr es i = (pstTo es a zs (lmap es n l) j).1 then 1 else -1)) ∧ (pstTo es a zs (lmap es n l) j).1 < n := by
  have hi := List.getElem?_eq_getElem hlt
  have hlm : (lmap es n l)[j]? = some (fst es n)[q] := by
    unfold lmap
    rw [List.getElem?_map, hq]
    simp [List.getD, hi]
  have hin := ppath (zs := zs) _ _ _ _ _ hp hlm
  have hil := (inc_mem.1 hin).1
  have hgi := hg _ hil
  refine ⟨_, hi, hil, hin, (tes_inc hg hi).2 hin, (tes_at hi).1, tes_oth hi _, pstTo_succ hlm, ?_⟩
  rcases (inc_mem.1 hin).2 with e | e
  · rw [← e]; exact hgi.1
  · rw [← e]; exact hgi.2.1
set_option maxHeartbeats 8000000 in
theorem sCycle_any (A B : Option Addr) (n c m d ci : Nat) (ns : List Nd) (ps : List Pp) (w : World) (h : IsNet w A n c ns B m d ps) (hok : NetOk ns ps) (hc : ci < m) (hct : ¬ Tree (esOf ps) n ci) :
    Calls Tryz.prog 59 #[.agg #[.slice A n c, .slice B m d], .int .i64 ci] w (RetInts w (cyc (esOf ps) n ci)) := by
  have hln : ns.length = n := h.nodes.len
  have hm : ps.length = m := h.pipes.len
  have hn24 : n ≤ 24 := by have := hok.2.1; omega
  have hm40 : m ≤ 40 := by have := hok.2.2.1; omega
  have hg : Good (esOf ps) n := by rw [← hln]; exact net_good hok
  have HG := Lib.hid hg
  have HM := Lib.hid hm
  have HOK := Lib.hid hok
  have HCT := Lib.hid hct
  have HCE := Lib.hid (show ci < (esOf ps).length by rw [esOf_len, hm]; exact hc)
  have HTE := Lib.hid (tree_es ps n)
  have HTOK := Lib.hid (trP_ok (l := fst (esOf ps) n) hok fst_lt' fst_len')
  clear hln hok hg hm hct
  have hmk := fun W => run_make_row' (P := Tryz.prog) 26 2 (.int .i64 0) 8 Tryz.underlying26 info_i64 rfl .i64 .i64 m (by omega) (by omega) W
  have bx := (box_new w #[.slice A n c, .slice B m d] 33).alloc (.cells (madeCells #[.int .i64 0] m) 2)
  have hV : Below w.heap.size w (w.alloc (.cells #[.slice A n c, .slice B m d] 33)) := (Below.refl _ _).alloc (Nat.le_refl _) _
  have hsz : (w.alloc (.cells #[.slice A n c, .slice B m d] 33)).heap.size = w.heap.size + 1 := by simp
  have oC := own_zeros (w.alloc (.cells #[.slice A n c, .slice B m d] 33)) m (by omega)
  rw [hsz] at oC
  have hW : Below w.heap.size w ((w.alloc (.cells #[.slice A n c, .slice B m d] 33)).alloc (.cells (madeCells #[.int .i64 0] m) 2)) := hV.alloc (by simp) _
  have hsW : w.heap.size + 2 ≤ ((w.alloc (.cells #[.slice A n c, .slice B m d] 33)).alloc (.cells (madeCells #[.int .i64 0] m) 2)).heap.size := by simp
  clear hV hsz
  obtain ⟨bp, op, p, rfl, hpw, hpp, hpk, q0, q1, q2, q3, q4⟩ := h.pipes.at_ hc
  obtain ⟨e1, e2, l1, l2, l3, _⟩ := pipe_ok HOK.out hpp
  rw [h.nodes.len] at l1 l2
  rw [e1] at q0
  rw [e2] at q1
  clear hpp e1 e2
  have j0 : (0 : Int) ≤ (ci : Int) := by omega
  have j1 : (ci : Int) < (m : Int) := by omega
  go_enter Tryz.func59, Tryz.ntmps59
  go_upto_region 2 with fail
  generalize ((w.alloc (.cells #[.slice A n c, .slice (some ⟨bp, op, none⟩) m d] 33)).alloc (.cells (madeCells #[.int .i64 0] m) 2)) = W at *
  clear hmk
  obtain ⟨hc1, hf1, _, hgl⟩ := oC.atD hc
  obtain ⟨oC1, hgr1⟩ := oC.set1 ci (z := 1) (WalkArith.wf_i64 (by omega))
  have bx1 := bx.grown hgr1 (fun hh => by injection hh with hh; omega)
  have hW1 := hW.setCell (p := ⟨w.heap.size + 1, ci, none⟩) (by simp) (.int .i64 1)
  have hs1 := hgr1.size
  clear hgr1 oC bx
  go_upto_region 3 with fail
  generalize (W.setCell ⟨w.heap.size + 1, ci, none⟩ (.int .i64 1)) = W1 at *
  clear hc1 hf1 hgl hW
  have xl := bx1.lt
  have x0 : W1.cell? ⟨w.heap.size, 0, none⟩ = some (.slice A n c) := bx1.cell 0
  have x1 : W1.cell? ⟨w.heap.size, 1, none⟩ = some (.slice (some ⟨bp, op, none⟩) m d) := bx1.cell 1
  go_upto_region 4 with (go_at_call 118; refine (sTree_any _ _ _ _ _ _ ns ps _ (h.below hW1) HOK.out).mono ?_; rintro e3 w3 ⟨B', d', A5, c5, rfl, hT, o5, oP, hb3⟩)
  have HFL := Lib.hid (show (fst (esOf ps) n).length ≤ 40 by have := fst_len' (ps := ps) (n := n); rw [HM.out] at this; omega)
  have HFT := Lib.hid (show ∀ i ∈ fst (esOf ps) n, i < m by intro i hi; have := fst_lt' i hi; rw [HM.out] at this; exact this)
  generalize hL : (fst (esOf ps) n).length = L at *
  have HL := Lib.hid hL
  have hL40 : L ≤ 40 := HFL.out
  have hW3 := (bthen hW1 hb3 hW1.size).alloc (by have := hW1.size; have := hb3.size; omega) (.cells #[.slice A n c, .slice B' L d'] 33)
  have bx3 := (bx1.belowA hb3).alloc (.cells #[.slice A n c, .slice B' L d'] 33)
  have bT3 := box_new w3 #[.slice A n c, .slice B' L d'] 33
  have oO3 := (oC1.below hb3).alloc (.cells #[.slice A n c, .slice B' L d'] 33)
  have hT3 := hT.alloc (.cells #[.slice A n c, .slice B' L d'] 33)
  have o53 := o5.alloc (.cells #[.slice A n c, .slice B' L d'] 33)
  have oP3 := oP.below ((Below.refl _ _).alloc (Nat.le_refl _) (.cells #[.slice A n c, .slice B' L d'] 33))
  have hs3 := hb3.size
  have hsA : w3.heap.size < (w3.alloc (.cells #[.slice A n c, .slice B' L d'] 33)).heap.size := by simp
  generalize (w3.alloc (.cells #[.slice A n c, .slice B' L d'] 33)) = W3 at *
  clear hL hT o5 oP oC1 bx1 hb3 x0 x1 xl
  have xl := bx3.lt
  have x0 : W3.cell? ⟨w.heap.size, 0, none⟩ = some (.slice A n c) := bx3.cell 0
  have x1 : W3.cell? ⟨w.heap.size, 1, none⟩ = some (.slice (some ⟨bp, op, none⟩) m d) := bx3.cell 1
  have d0 := (hW3.cell (p := ⟨bp, op + ci * 5, none⟩) hpw).trans q0
  have d1 := (hW3.cell (p := ⟨bp, op + ci * 5 + 1, none⟩) hpw).trans q1
  have hpl : bp < W3.heap.size := Nat.lt_of_lt_of_le hpw hW3.size
  have hRch : Rch (tes (esOf ps) n) (eto (esOf ps) ci) (efr (esOf ps) ci) := by
    refine (tes_rch HG.out l2).2 ?_
    have hin : ci ∈ inc (esOf ps) (eto (esOf ps) ci) := inc_mem.2 ⟨HCE.out, .inr rfl⟩
    have := (Rch.refl (es := esOf ps) (eto (esOf ps) ci)).step hin
    unfold oth at this
    rwa [if_neg l3] at this
  rw [← HTE.out] at hRch
  have HRCH := Lib.hid hRch
  have y0 : W3.cell? ⟨w3.heap.size, 0, none⟩ = some (.slice A n c) := bT3.cell 0
  have y1 : W3.cell? ⟨w3.heap.size, 1, none⟩ = some (.slice B' L d') := bT3.cell 1
  have kT : Kept (IsNet W3 A n c ns B' L d' (trP ps (fst (esOf ps) n))) := ⟨hT3⟩
  have kB : Kept (Below W3.heap.size W3 W3.drew) := ⟨(Below.refl _ _).drew⟩
  have kO : Kept (Own W3 (w.heap.size + 1) (some ⟨w.heap.size + 1, 0, none⟩) m m ((List.replicate m 0).set ci 1)) := ⟨oO3⟩
  have k5 : Kept (Own W3 W1.heap.size A5 L c5 (cN (fst (esOf ps) n))) := ⟨o53⟩
  have kP : Kept (OwnP W3 W1.heap.size B' L d' (trP ps (fst (esOf ps) n))) := ⟨oP3⟩
  clear hRch hT3 oO3 o53 oP3 hW1
  go_upto_region 5 with fail
  obtain ⟨wi, rfl⟩ : ∃ wi : World, wi = W3 := ⟨_, rfl⟩
  go_region_held3 (fun w' => w.heap.size < w'.heap.size ∧ w3.heap.size < w'.heap.size ∧ bp < w'.heap.size ∧ w'.cell? ⟨w.heap.size, 0, none⟩ = some (.slice A n c) ∧ w'.cell? ⟨w.heap.size, 1, none⟩ = some (.slice (some ⟨bp, op, none⟩) m d) ∧ w'.cell? ⟨w3.heap.size, 0, none⟩ = some (.slice A n c) ∧ w'.cell? ⟨w3.heap.size, 1, none⟩ = some (.slice B' L d') ∧ w'.cell? ⟨bp, op + ci * 5, none⟩ = some (.int .i64 (efr (esOf ps) ci : Int)) ∧ Kept (Below wi.heap.size wi w'))
    (first | (go_split_ands; refine ⟨by have := hbb.size; omega, by have := hbb.size; omega, by have := hbb.size; omega, ?_, ?_, ?_, ?_, ?_, ⟨bthen (Kept.out ‹Kept (Below wi.heap.size _ _)›) hbb (Kept.out ‹Kept (Below wi.heap.size _ _)›).size⟩⟩ <;> (rw [hbb.cell (by simp; omega)]; assumption)) | go_keep)
    (first | (go_at_call 119; go_split_ands; refine (sPath_any _ _ _ _ _ _ (eto (esOf ps) ci) (efr (esOf ps) ci) ns (trP ps (fst (esOf ps) n)) _ (kT.out.below (Kept.out ‹Kept (Below wi.heap.size _ _)›)) HTOK.out l2 HRCH.out).mono ?_; rintro e wb ⟨A9, c9, l, rfl, o9, hp9, hn9, hl9, hll9, hbb⟩; have k9 : Kept (Own wb wi.heap.size A9 l.length c9 (cN l)) := ⟨o9.mono (Kept.out ‹Kept (Below wi.heap.size _ _)›).size⟩; have kp9 : Kept (IsPath (esOf (trP ps (fst (esOf ps) n))) (eto (esOf ps) ci) l (efr (esOf ps) ci) ∧ l.Nodup ∧ ∀ i ∈ l, i < L) := ⟨hp9, hn9, hl9⟩; clear o9 hp9 hn9 hl9))
  rename_i hh
  obtain ⟨_, _, _, _, _, _, _, _, ⟨hbB⟩⟩ := hh
  have hWb := bthen hW3 hbB hW3.size
  have HPATH := Lib.hid (show IsPath (esOf ps) (eto (esOf ps) ci) (lmap (esOf ps) n l) (efr (esOf ps) ci) by
    have := kp9.out.1
    rw [HTE.out] at this
    exact path_map HG.out _ _ _ this)
  have HLB := Lib.hid (show ∀ q ∈ l, q < L from kp9.out.2.2)
  have HND := Lib.hid (show (lmap (esOf ps) n l).Nodup by
    refine List.pairwise_map.2 (List.Pairwise.imp_of_mem ?_ kp9.out.2.1)
    intro a b ha hb' hne hab
    apply hne
    have h1 := HLB.out a ha
    have h2 := HLB.out b hb'
    rw [← HL.out] at h1 h2
    simp only [List.getD, List.getElem?_eq_getElem h1, List.getElem?_eq_getElem h2, Option.getD_some] at hab
    exact (List.getElem_inj (fst_nodup (esOf ps) n)).1 hab)
  have HTR := Lib.hid (show ∀ i ∈ lmap (esOf ps) n l, Tree (esOf ps) n i by
    intro i hi
    obtain ⟨j, hj, rfl⟩ := List.mem_map.1 hi
    have h1 := HLB.out j hj
    rw [← HL.out] at h1
    simp only [List.getD, List.getElem?_eq_getElem h1, Option.getD_some]
    exact (fst_mem HG.out).1 (List.getElem_mem h1))
  have oO := kO.out.below hbB
  have o5 := k5.out.below hbB
  have o9 := k9.out
  have oP := kP.out.below hbB
  have hN9 := h.below hWb
  have hcp := kT.out.capB
  have hnl := kT.out.nilB
  have bT := bT3.belowA hbB
  have hs9 := hbB.size
  have hl24 : l.length ≤ 24 := by omega
  clear kT kB kO k5 k9 kp9 kP hbB hbb bT3 bx3 x0 x1 xl d0 d1 y0 y1 hpl hW3 l1 l2 l3 q0 q1 q2 q3 q4 HRCH HTE
  obtain ⟨Z, hZ⟩ : ∃ y, (List.replicate m (0 : Int)).set ci 1 = y := ⟨_, rfl⟩
  rw [hZ] at oO
  have HZ := Lib.hid hZ
  clear hZ
  go_wp2_with fail
  go_loopw [8, 10] (fun aa ii wr => ∃ (j : Nat), j ≤ l.length ∧ aa = .int .i64 ((pstTo (esOf ps) (eto (esOf ps) ci) Z (lmap (esOf ps) n l) j).1 : Nat) ∧ ii = .int .i64 j ∧ Own wr (w.heap.size + 1) (some ⟨w.heap.size + 1, 0, none⟩) m m (pstTo (esOf ps) (eto (esOf ps) ci) Z (lmap (esOf ps) n l) j).2 ∧ Own wr W1.heap.size A5 L c5 (cN (fst (esOf ps) n)) ∧ Own wr wi.heap.size A9 l.length c9 (cN l) ∧ OwnP wr W1.heap.size B' L d' (trP ps (fst (esOf ps) n)) ∧ Box wr w3.heap.size #[.slice A n c, .slice B' L d'] 33 ∧ Below w.heap.size w wr ∧ wb.heap.size ≤ wr.heap.size) (fun _ ii _ => l.length - (intOf ii).toNat)
  case atStart => exact ⟨0, Nat.zero_le _, rfl, rfl, oO, o5, o9, oP, bT, hWb, Nat.le_refl _⟩
  case round =>
    clear oO o5 o9 oP bT hWb
    obtain ⟨j, hj, rfl, rfl, oO, o5, o9, oP, bT, hWr, hsr⟩ := hrel
    by_cases hlt : j < l.length
    · obtain ⟨g9, rfl, hB9, hg9⟩ := o9.form (by omega)
      obtain ⟨q, hq⟩ : ∃ q, l[j]? = some q := ⟨_, List.getElem?_eq_getElem hlt⟩
      have hqL := HLB.out q (List.mem_of_getElem? hq)
      obtain ⟨i, hi, hil, hin, hin2, he1, he2, hst, hcn⟩ := cyl_step (zs := Z) HG.out HPATH.out hq (by rw [HL.out]; exact hqL)
      rw [esOf_len, HM.out] at hil
      obtain ⟨g5, rfl, hB5, hg5⟩ := o5.form (by omega)
      have c9' := (o9.atD hlt).1
      have HCJ := Lib.hid (show (cN l).getD j 0 = (q : Int) by rw [List.getD_eq_getElem?_getD, cN_at hq]; rfl)
      rw [HCJ.out] at c9'
      have c5' := (o5.atD hqL).1
      rw [show (cN (fst (esOf ps) n)).getD q 0 = (i : Int) by rw [List.getD_eq_getElem?_getD, cN_at hi]; rfl] at c5'
      obtain ⟨bp', op', x, rfl, hpw', hpp', _, r0, _, _, _, _⟩ := oP.reads.at_ hqL
      obtain ⟨e1, _⟩ := pipe_ok HTOK.out hpp'
      rw [show efr (esOf (trP ps (fst (esOf ps) n))) q = efr (esOf ps) i by rw [tree_es]; exact he1] at e1
      rw [e1] at r0
      have HIN2 := Lib.hid (show q ∈ inc (esOf (trP ps (fst (esOf ps) n))) (pstTo (esOf ps) (eto (esOf ps) ci) Z (lmap (esOf ps) n l) j).1 by rw [tree_es]; exact hin2)
      have HE2 := Lib.hid (show oth (esOf (trP ps (fst (esOf ps) n))) q (pstTo (esOf ps) (eto (esOf ps) ci) Z (lmap (esOf ps) n l) j).1 = oth (esOf ps) i (pstTo (esOf ps) (eto (esOf ps) ci) Z (lmap (esOf ps) n l) j).1 by rw [tree_es]; exact he2)
      have HS1 := Lib.hid (show (pstTo (esOf ps) (eto (esOf ps) ci) Z (lmap (esOf ps) n l) (j + 1)).1 = oth (esOf ps) i (pstTo (esOf ps) (eto (esOf ps) ci) Z (lmap (esOf ps) n l) j).1 from congrArg Prod.fst hst)
      have HS2 := Lib.hid (show (pstTo (esOf ps) (eto (esOf ps) ci) Z (lmap (esOf ps) n l) (j + 1)).2 = (pstTo (esOf ps) (eto (esOf ps) ci) Z (lmap (esOf ps) n l) j).2.set i (if efr (esOf ps) i = (pstTo (esOf ps) (eto (esOf ps) ci) Z (lmap (esOf ps) n l) j).1 then 1 else -1) from congrArg Prod.snd hst)
      obtain ⟨cur, hcur⟩ : ∃ y, (pstTo (esOf ps) (eto (esOf ps) ci) Z (lmap (esOf ps) n l) j).1 = y := ⟨_, rfl⟩
      obtain ⟨zs, hzs⟩ : ∃ y, (pstTo (esOf ps) (eto (esOf ps) ci) Z (lmap (esOf ps) n l) j).2 = y := ⟨_, rfl⟩
      rw [hcur] at HS1 HS2 HIN2 HE2 hcn ⊢
      rw [hzs] at HS2 oO
      have cO := oO.atD hil
      have cO1 := cO.1
      have cO2 := cO.2.1
      have xlO := cO.2.2.2
      have hW9 := bT.lt
      have y0 : wr.cell? ⟨w3.heap.size, 0, none⟩ = some (.slice A n c) := bT.cell 0
      have y1 : wr.cell? ⟨w3.heap.size, 1, none⟩ = some (.slice (some ⟨bp', op', none⟩) L d') := bT.cell 1
      obtain ⟨fri, hfri⟩ : ∃ y, efr (esOf ps) i = y := ⟨_, rfl⟩
      rw [hfri] at r0 HS2
      have hts : ((((fri : Nat) : Int) != ((cur : Nat) : Int)) = false ∧ (if fri = cur then (1 : Int) else -1) = 1) ∨ ((((fri : Nat) : Int) != ((cur : Nat) : Int)) = true ∧ (if fri = cur then (1 : Int) else -1) = -1) := by
        by_cases e : fri = cur
        · left; simp [e]
        · right
          refine ⟨?_, if_neg e⟩
          simp
          omega
      have i0 : (0 : Int) ≤ (j : Int) := by omega
      have i1 : (j : Int) < (l.length : Int) := by omega
      have i2 : (0 : Int) ≤ (q : Int) := by omega
      have i3 : (q : Int) < (L : Int) := by omega
      have i4 : (0 : Int) ≤ (i : Int) := by omega
      have i5 : (i : Int) < (m : Int) := by omega
      clear hq hi hin hin2 he1 he2 hst hpp' e1 hcur hzs hfri cO
      rcases hts with ⟨t1, hsg⟩ | ⟨t1, hsg⟩
      all_goals
        rw [hsg] at HS2
        go_upto_region 10 with fail
        go_quiet (fail)
        obtain ⟨wr1, hw1⟩ : ∃ y, wr.drewN nq = y := ⟨_, rfl⟩
        have hq1 : Qt wr wr1 := ⟨nq, hw1.symm⟩
        have oO1 := oO.qt hq1
        have o51 := o5.qt hq1
        have o91 := o9.qt hq1
        have oP1 : OwnP wr1 W1.heap.size (some ⟨bp', op', none⟩) L d' (trP ps (fst (esOf ps) n)) := ⟨oP.1.qt hq1, oP.2⟩
        have bT1 := bT.qt hq1
        have hWr1 := hWr.trans (hq1.below _)
        rw [hw1]
        obtain ⟨oO2, hgr⟩ := oO1.set1 i (z := (if fri = cur then (1 : Int) else -1)) (WalkArith.wf_i64 (by split <;> omega))
        rw [hsg] at oO2 hgr
        have hsq := (hq1.below wr.heap.size).size
        have z9 := (hq1.cell ⟨g9, j, none⟩).trans c9'
        have z5 := (hq1.cell ⟨g5, q, none⟩).trans c5'
        have zO1 := (oO1.atD hil).1
        have zO2 := (oO1.atD hil).2.1
        have zO3 := (oO1.atD hil).2.2.2
        have hg91 : g9 < wr1.heap.size := by omega
        have hg51 : g5 < wr1.heap.size := by omega
        have o92 := o91.grown hgr (by intro g hg hh; simp at hg hh; omega)
        have o52 := o51.grown hgr (by intro g hg hh; simp at hg hh; omega)
        have oP2 := oP1.grown hgr (by intro g hg hh; simp at hg hh; have := (oP.1.lt bp' rfl).1; omega)
        have bT2 := bT1.grown hgr (by intro hh; simp at hh; omega)
        have hs2 := hgr.size
        clear c9' c5' y0 y1 r0 cO1 cO2 xlO hW9 oO o5 o9 oP bT hWr oO1 o51 o91 oP1 bT1 hgr hw1 hq1 hg9 hg5
        go_upto_region 13 with fail
        have hW2 := hWr1.setCell (p := ⟨w.heap.size + 1, i, none⟩) (by simp) (.int .i64 (if fri = cur then (1 : Int) else -1))
        rw [hsg] at hW2
        generalize hwx : wr1.setCell ⟨w.heap.size + 1, i, none⟩ _ = W2 at *
        have hN2 : IsNet W2 A n c ns (some ⟨bp', op', none⟩) L d' (trP ps (fst (esOf ps) n)) := ⟨(h.below hW2).nodes, h.capA, oP2.reads, hcp, h.nilA, hnl⟩
        have hBL := bT2.lt
        have y0 : W2.cell? ⟨w3.heap.size, 0, none⟩ = some (.slice A n c) := bT2.cell 0
        have y1 : W2.cell? ⟨w3.heap.size, 1, none⟩ = some (.slice (some ⟨bp', op', none⟩) L d') := bT2.cell 1
        have y9 := (o92.atD hlt).1
        rw [HCJ.out] at y9
        have hg92 : g9 < W2.heap.size := by omega
        have kN : Kept (IsNet W2 A n c ns (some ⟨bp', op', none⟩) L d' (trP ps (fst (esOf ps) n))) := ⟨hN2⟩
        have k9 : Kept (Own W2 wi.heap.size (some ⟨g9, 0, none⟩) l.length c9 (cN l)) := ⟨o92⟩
        have k5 : Kept (Own W2 W1.heap.size (some ⟨g5, 0, none⟩) L c5 (cN (fst (esOf ps) n))) := ⟨o52⟩
        have kP : Kept (OwnP W2 W1.heap.size (some ⟨bp', op', none⟩) L d' (trP ps (fst (esOf ps) n))) := ⟨oP2⟩
        have kT : Kept (Box W2 w3.heap.size #[.slice A n c, .slice (some ⟨bp', op', none⟩) L d'] 33) := ⟨bT2⟩
        have kO := Lib.hid oO2
        have kW : Kept (Below w.heap.size w W2) := ⟨hW2⟩
        have kU : Kept (Below W2.heap.size W2 W2.drew) := ⟨(Below.refl _ _).drew⟩
        clear hwx oO2 o92 o52 oP2 bT2 hN2 hW2 hWr1 z9 z5 zO1 zO2 zO3 hg91 hg51
        obtain ⟨wj, rfl⟩ : ∃ y : World, y = W2 := ⟨_, rfl⟩
        go_region_held3 (fun w' => w3.heap.size < w'.heap.size ∧ g9 < w'.heap.size ∧ w'.cell? ⟨w3.heap.size, 0, none⟩ = some (.slice A n c) ∧ w'.cell? ⟨w3.heap.size, 1, none⟩ = some (.slice (some ⟨bp', op', none⟩) L d') ∧ w'.cell? ⟨g9, j, none⟩ = some (.int .i64 (q : Int)) ∧ Kept (Below wj.heap.size wj w'))
          (first | (go_split_ands; refine ⟨by have := hbb.size; omega, by have := hbb.size; omega, ?_, ?_, ?_, ⟨bthen (Kept.out ‹Kept (Below wj.heap.size _ _)›) hbb (Kept.out ‹Kept (Below wj.heap.size _ _)›).size⟩⟩ <;> (rw [hbb.cell (by simp; omega)]; assumption)) | go_keep)
          (first | (go_at_call 120; go_split_ands; refine (sOther_any _ _ _ _ _ _ q cur ns (trP ps (fst (esOf ps) n)) _ (kN.out.below (Kept.out ‹Kept (Below wj.heap.size _ _)›)) HTOK.out HIN2.out).mono ?_; rintro e wb2 ⟨rfl, hbb⟩))
        rename_i hh
        obtain ⟨_, _, _, _, _, ⟨hbB⟩⟩ := hh
        have oOe := kO.out.below hbB
        have o9e := k9.out.below hbB
        have o5e := k5.out.below hbB
        have oPe := kP.out.below hbB
        have bTe := kT.out.belowA hbB
        have hWe := bthen kW.out hbB kW.out.size
        have hse := hbB.size
        clear kN k9 k5 kP kT kO kW kU hbB hbb
        go_wp2_with fail
        go_roundw
        case rel => exact ⟨j + 1, by omega, by rw [HE2.out, HS1.out], by go_num, by rw [HS2.out]; exact oOe, o5e, o9e, oPe, bTe, hWe, by omega⟩
        case measure => simp [intOf]; omega
    · obtain rfl : j = l.length := by omega
      have HCY := Lib.hid (pst_cyc HG.out HCE.out HCT.out HPATH.out HND.out HTR.out)
      have HLL := Lib.hid (show (lmap (esOf ps) n l).length = l.length by simp [lmap])
      have HOO := Lib.hid (show (pstTo (esOf ps) (eto (esOf ps) ci) Z (lmap (esOf ps) n l) l.length).2 = cyc (esOf ps) n ci by rw [← HCY.out, HLL.out, ← HZ.out, esOf_len, HM.out])
      rw [HOO.out] at oO
      have HLC := Lib.hid oO.len
      go_wp2_with fail
      go_ret
      exact retInts_of HLC.out (oO.mono (by omega)) hWr
end Go.Proofs.YtpgegfnhokhlmaaGreat
set_option linter.unusedVariables false
set_option maxRecDepth 100000
namespace Go.Proofs.YtpgegfnhokhlmaaGreat
open Go.ChangeShapes Go.WideShapes Go.ChangeAt Go.RowKit Go.Joins Go.Deep
attribute [local go_sem ↓] Go.wp_at_zero Go.wp_at_succ

def addTo (fs cs : List Int) (a : Int) (k : Nat) : List Int := (List.range k).map fun i => fs.getD i 0 + a * cs.getD i 0
theorem addTo_step (fs cs : List Int) (a : Int) (k : Nat) : addTo fs cs a (k + 1) = addTo fs cs a k ++ [fs.getD k 0 + a * cs.getD k 0] := by
  unfold addTo
  rw [List.range_succ, List.map_append]
  rfl
set_option maxHeartbeats 4000000 in
theorem sAdd_any (A B : Option Addr) (l c e : Nat) (a : Int) (fs cs : List Int) (w : World) (hf : Ints w A l fs) (hc : Ints w B l cs) (hl : l ≤ 1048576) (hb : ∀ i, i < l → (-1000000 ≤ fs.getD i 0 ∧ fs.getD i 0 ≤ 1000000) ∧ -1000000 ≤ a * cs.getD i 0 ∧ a * cs.getD i 0 ≤ 1000000) :
    Calls Tryz.prog 60 #[.slice A l c, .slice B l e, .int .i64 a] w (RetInts w (addL fs cs a)) := by
  have HLF := Lib.hid hf.len
  have HB := Lib.hid hb
  clear hb
  go_enter Tryz.func60, Tryz.ntmps60
  go_wp2_with fail
  go_loopw [7, 8] (fun ss ii wr => ∃ (k : Nat) (A2 : Option Addr) (m2 c2 : Nat), k ≤ l ∧ ii = .int .i64 k ∧ ss = .slice A2 m2 c2 ∧ m2 ≤ k ∧ Own wr w.heap.size A2 m2 c2 (addTo fs cs a k) ∧ Below w.heap.size w wr) (fun _ ii _ => l - (intOf ii).toNat)
  case atStart => exact ⟨0, _, 0, 0, Nat.zero_le _, rfl, rfl, Nat.le_refl _, own_empty _ _ (Nat.le_refl _), (Below.refl _ _).alloc (Nat.le_refl _) _⟩
  case round =>
    obtain ⟨k, A2, m2, c2, hk, rfl, rfl, hm2, hO, hb⟩ := hrel
    by_cases hlt : k < l
    · obtain ⟨bf, of, rfl, hfw, cf0⟩ := hf.atD hlt
      obtain ⟨bc, oc, rfl, hcw, cc0⟩ := hc.atD hlt
      have cf := (hb.cell (p := ⟨bf, of + k, none⟩) hfw).trans cf0
      have cc := (hb.cell (p := ⟨bc, oc + k, none⟩) hcw).trans cc0
      obtain ⟨⟨b1, b2⟩, b3, b4⟩ := HB.out k hlt
      have HST := Lib.hid (addTo_step fs cs a k)
      obtain ⟨f, hf1⟩ : ∃ f, fs.getD k 0 = f := ⟨_, rfl⟩
      obtain ⟨z, hz1⟩ : ∃ z, cs.getD k 0 = z := ⟨_, rfl⟩
      rw [hf1] at cf b1 b2
      rw [hz1] at cc b3 b4
      have HF1 := Lib.hid hf1
      have HZ1 := Lib.hid hz1
      have s1 : IntKind.i64.wrap (a * z) = a * z := IntWalk.i64_in _ (by omega)
      have s2 : IntKind.i64.wrap (f + a * z) = f + a * z := IntWalk.i64_in _ (by omega)
      have i0 : (0 : Int) ≤ (k : Int) := by omega
      have i1 : (k : Int) < (l : Int) := by omega
      have hs := hb.size
      have hfl : bf < wr.heap.size := by omega
      have hcl : bc < wr.heap.size := by omega
      clear cf0 cc0 hf1 hz1
      have hA2 : A2.map (·.block) ≠ some bf ∧ A2.map (·.block) ≠ some bc := ⟨fun e => by have := (hO.lt _ e).1; omega, fun e => by have := (hO.lt _ e).1; omega⟩
      have hA3 : (Value.slice A2 m2 c2).ownBlock = A2.map (·.block) := by cases A2 <;> rfl
      obtain ⟨i0, hi0, hz0, hz1', hz2⟩ := info_parts info_i64
      have kO : Kept (Own wr w.heap.size A2 m2 c2 (addTo fs cs a k)) := ⟨hO⟩
      have kB : Kept (Below w.heap.size w wr) := ⟨hb⟩
      have kA := Lib.hid hA2
      have kA3 := Lib.hid hA3
      have hsw := hs
      clear hO hb hA2 hA3
      go_upto_region 5 with fail
      go_region_held_law (fun w' => w'.cell? ⟨bf, of + k, none⟩ = some (.int .i64 f) ∧ w'.cell? ⟨bc, oc + k, none⟩ = some (.int .i64 z))
        (first
          | go_keep
          | (go_split_ands
             refine ⟨?_, ?_⟩
             · (rw [hgrow.cell_far _ (by simp; omega) (by rw [kA3.out]; exact fun e => kA.out.1 e.symm)]; assumption)
             · (rw [hgrow.cell_far _ (by simp; omega) (by rw [kA3.out]; exact fun e => kA.out.2 e.symm)]; assumption)))
        ((refine step_append_lies _ (by rfl) _ _ _ (by rfl) w.heap.size 2 i0 _ 1 8 Tryz.underlying26 hi0 hz0 hz1' hz2 rfl (by omega) (.slice A2 m2 c2) m2 ((addTo fs cs a k).map (Value.int .i64)) (by rfl) ((kO.out.alloc _).drew).1
            ⟨wr.heap.size, 0, none⟩ 1 1 [.int .i64 (f + a * z)] (by rfl) (by rfl) (World.news_of_block (cs := #[.int .i64 (f + a * z)]) (t := 2) (fr := (0, 0)) (heap_alloc_new wr _)) (by simp [Value.oneCell'])
            (by omega) (by unfold maxLen; omega) (by omega) (by simp; omega) (wr.heap.size + 1) (by simp) ?_; intro gn cn wn hon hgrow hat hlt2))
      have hbn : Below w.heap.size w wn := (((kB.out.alloc hsw (.cells #[.int .i64 (f + a * z)] 2)).drew).grown hgrow (by simp; omega) (fun q hq => (kO.out.lt q (by rw [← kA3.out]; exact hq)).1))
      have hon2 : Own wn w.heap.size (some ⟨gn, 0, none⟩) (m2 + 1) cn (addTo fs cs a k ++ [f + a * z]) := ⟨by simpa using hon, fun y hy => by
        rcases List.mem_append.1 hy with hy | hy
        · exact kO.out.2 y hy
        · simp at hy; subst hy; exact WalkArith.wf_i64 (by omega)⟩
      clear hgrow hat hlt2 hon
      go_wp2_with fail
      go_roundw
      case rel => exact ⟨k + 1, some ⟨gn, 0, none⟩, m2 + 1, cn, by omega, by go_num, rfl, by omega, by rw [HST.out, HF1.out, HZ1.out]; exact hon2, hbn⟩
      case measure => simp [intOf]; omega
    · obtain rfl : k = l := by omega
      have HE := Lib.hid (show addL fs cs a = addTo fs cs a k by unfold addL addTo; rw [HLF.out])
      go_wp2_with fail
      go_ret
      rw [← HE.out] at hO
      exact retInts_of hO.len hO hb
end Go.Proofs.YtpgegfnhokhlmaaGreat
set_option linter.unusedVariables false
set_option maxRecDepth 100000
namespace Go.Proofs.YtpgegfnhokhlmaaGreat
open Go.ChangeShapes Go.WideShapes Go.ChangeAt Go.RowKit Go.Joins Go.Deep
attribute [local go_sem ↓] Go.wp_at_zero Go.wp_at_succ

theorem rib {a c : Int} {b d : Bool} (h : a = c) (k : b = d) : Ending.returned (.tuple #[.int .i64 a, .bool b]) = .returned (.tuple #[.int .i64 c, .bool d]) := by rw [h, k]
/-- The resistances of the pipes. -/
def ksL (ps : List Pp) : List Int := ps.map fun p => p.k
theorem ksL_at {ps : List Pp} {i : Nat} {p : Pp} (h : ps[i]? = some p) : (ksL ps).getD i 0 = p.k := by simp [ksL, List.getD, h]
theorem ksL_bd {ns : List Nd} {ps : List Pp} (h : NetOk ns ps) {i : Nat} (hi : i < ps.length) : 1 ≤ (ksL ps).getD i 0 ∧ (ksL ps).getD i 0 ≤ 1000 := by
  have hp : ps[i]? = some ps[i] := List.getElem?_eq_getElem hi
  rw [ksL_at hp]
  exact (pipe_ok h hp).2.2.2.2.2.1
/-- A cycle's numbers. -/
def CyV (m : Nat) (cs : List Int) : Prop := ∀ i, i < m → cs.getD i 0 = 0 ∨ cs.getD i 0 = 1 ∨ cs.getD i 0 = -1
theorem inR_len {fs cs : List Int} {a : Int} {i : Nat} (h : inR (addL fs cs a) = true) (hi : i < fs.length) : -30000 ≤ fs.getD i 0 + a * cs.getD i 0 ∧ fs.getD i 0 + a * cs.getD i 0 ≤ 30000 := by
  have := inR_at h (i := i) (by rw [addL_len]; exact hi)
  rwa [addL_at hi] at this
set_option maxHeartbeats 1000000 in
theorem energyOf_any (a b k v l f : Int) (w : World) (hk : 1 ≤ k ∧ k ≤ 1000) (hf : -30000 ≤ f ∧ f ≤ 30000) :
    Calls Tryz.prog 162 #[.agg #[.int .i64 a, .int .i64 b, .int .i64 k, .int .i64 v, .int .i64 l], .int .i64 f] w fun e w' => e = .returned (.int .i64 (en k f)) ∧ Below w.heap.size w w' := by
  obtain ⟨⟨p1, p2⟩, ⟨p3, p4⟩, ⟨p5, p6⟩, _⟩ := en_parts (k := k) (f := f) (by omega) hk.2 hf
  have p7 := en_bd (k := k) (f := f) (by omega) hk.2 hf
  rw [← en_prog] at p7
  have s1 : IntKind.i64.wrap (k * ab f) = k * ab f := IntWalk.i64_in _ (by omega)
  have s2 : IntKind.i64.wrap (k * ab f * f) = k * ab f * f := IntWalk.i64_in _ (by omega)
  have s3 : IntKind.i64.wrap (k * ab f * f * f) = k * ab f * f * f := IntWalk.i64_in _ (by omega)
  have bx := box_new w #[.int .i64 a, .int .i64 b, .int .i64 k, .int .i64 v, .int .i64 l] 95
  have hV : Below w.heap.size w (w.alloc (.cells #[.int .i64 a, .int .i64 b, .int .i64 k, .int .i64 v, .int .i64 l] 95)) := (Below.refl _ _).alloc (Nat.le_refl _) _
  have f1 := hf.1
  have f2 := hf.2
  clear hk hf p1 p2 p3 p4 p5 p6 p7
  go_enter Tryz.func162, Tryz.ntmps162
  go_wp2_with fail
  generalize (w.alloc (.cells #[.int .i64 a, .int .i64 b, .int .i64 k, .int .i64 v, .int .i64 l] 95)) = V at *
  have x2 : V.cell? ⟨w.heap.size, 2, none⟩ = some (.int .i64 k) := bx.cell 2
  have xl := bx.lt
  clear bx
  go_quiet ((go_at_call 92; exact Calls.quiet_of_same (absOf_any _ _ (by omega) (by omega))))
  go_wp2_with fail
  go_ret
  exact ⟨ri (en_prog k f), below_drewN hV _⟩
set_option maxHeartbeats 8000000 in
theorem change_any (A B C D : Option Addr) (n c m d e1 e2 : Nat) (a : Int) (fs cs : List Int) (ns : List Nd) (ps : List Pp) (w : World) (h : IsNet w A n c ns B m d ps) (hok : NetOk ns ps) (hf : Ints w C m fs) (hfr : inR fs = true) (hc : Ints w D m cs) (hcv : CyV m cs) (ha : -1000000 ≤ a ∧ a ≤ 1000000) :
    Calls Tryz.prog 126 #[.agg #[.slice A n c, .slice B m d], .slice C m e1, .slice D m e2, .int .i64 a] w fun e w' => e = .returned (.tuple #[.int .i64 (chg (ksL ps) fs cs a), .bool (inR (addL fs cs a))]) ∧ Below w.heap.size w w' := by
  have hm : ps.length = m := h.pipes.len
  have hm40 : m ≤ 40 := by have := hok.2.2.1; omega
  have hfl := hf.len
  have HK := Lib.hid (show ∀ i, i < fs.length → 0 ≤ (ksL ps).getD i 0 ∧ (ksL ps).getD i 0 ≤ 1000 by
    intro i hi
    have := ksL_bd hok (i := i) (by omega)
    omega)
  have HF := Lib.hid (show ∀ i, i < fs.length → -30000 ≤ fs.getD i 0 ∧ fs.getD i 0 ≤ 30000 from fun i hi => inR_at hfr hi)
  have HCV := Lib.hid hcv
  have HOK := Lib.hid hok
  have HFL := Lib.hid hfl
  have a1 := ha.1
  have a2 := ha.2
  have bx := box_new w #[.slice A n c, .slice B m d] 33
  have hV : Below w.heap.size w (w.alloc (.cells #[.slice A n c, .slice B m d] 33)) := (Below.refl _ _).alloc (Nat.le_refl _) _
  clear hcv hok hfl hm hfr ha
  go_enter Tryz.func126, Tryz.ntmps126
  go_wp2_with fail
  generalize (w.alloc (.cells #[.slice A n c, .slice B m d] 33)) = V at *
  go_loopw [10, 16] (fun cc ii wr => ∃ (k : Nat), k ≤ m ∧ cc = .int .i64 (chTo (ksL ps) fs cs a k) ∧ ii = .int .i64 k ∧ Hid (okFs fs cs a k = true) ∧ Below V.heap.size V wr) (fun _ ii _ => m - (intOf ii).toNat)
  case atStart => exact ⟨0, Nat.zero_le _, rfl, rfl, Lib.hid rfl, Below.refl _ _⟩
  case round =>
    obtain ⟨k, hk, rfl, rfl, HP, hb⟩ := hrel
    by_cases hlt : k < m
    · have hB := hV.trans (hb.mono hV.size)
      obtain ⟨bf, of, rfl, hfw, cf0⟩ := hf.atD hlt
      obtain ⟨bc, oc, rfl, hcw, cc0⟩ := hc.atD hlt
      obtain ⟨bp, op, p, rfl, hpw, hpp, _, q0, q1, q2, q3, q4⟩ := h.pipes.at_ hlt
      have hpk := (pipe_ok HOK.out hpp).2.2.2.2.2.1
      have hfk := HF.out k (by rw [HFL.out]; exact hlt)
      have hcz := HCV.out k hlt
      have HKP := Lib.hid (ksL_at hpp)
      have cf := (hB.cell (p := ⟨bf, of + k, none⟩) hfw).trans cf0
      have cc := (hB.cell (p := ⟨bc, oc + k, none⟩) hcw).trans cc0
      have hs := hB.size
      have hfl : bf < wr.heap.size := by omega
      have hcl : bc < wr.heap.size := by omega
      have hpl : bp < wr.heap.size := by omega
      have i0 : (0 : Int) ≤ (k : Int) := by omega
      have i1 : (k : Int) < (m : Int) := by omega
      have hbd := chTo_bd HK.out HF.out k (by rw [HFL.out]; omega) HP.out
      have HOS := Lib.hid (okFs_step fs cs a k)
      have HST := Lib.hid (show chTo (ksL ps) fs cs a (k + 1) = chTo (ksL ps) fs cs a k + (en ((ksL ps).getD k 0) (fs.getD k 0 + cs.getD k 0 * a) - en ((ksL ps).getD k 0) (fs.getD k 0)) from rfl)
      have HNO := Lib.hid (fun h => okFs_no (fs := fs) (cs := cs) (a := a) (k := k) (by rw [HFL.out]; exact hlt) h)
      rw [HKP.out] at HST
      obtain ⟨C0, hC0⟩ : ∃ y, chTo (ksL ps) fs cs a k = y := ⟨_, rfl⟩
      rw [hC0] at hbd HST ⊢
      have HC0 := Lib.hid hC0
      clear hC0
      obtain ⟨f, hf1⟩ : ∃ y, fs.getD k 0 = y := ⟨_, rfl⟩
      obtain ⟨z, hz1⟩ : ∃ y, cs.getD k 0 = y := ⟨_, rfl⟩
      rw [hf1] at cf hfk HST HOS HNO
      rw [hz1] at cc hcz HST HOS HNO
      clear cf0 cc0 hpp hf1 hz1
      by_cases hz : z = 0
      · have t1 : (z == (0 : Int)) = true := by simp [hz]
        have HZ := Lib.hid hz
        clear hz hcz
        go_wp2_with fail
        go_roundw
        case rel =>
          refine ⟨k + 1, by omega, ?_, by go_num, Lib.hid ?_, hb⟩
          · rw [HST.out, HZ.out, Int.zero_mul, Int.add_zero, Int.sub_self, Int.add_zero]
          · rw [HOS.out, HP.out, HZ.out, Int.zero_mul, Int.add_zero]
            simp
            exact hfk
        case measure => simp [intOf]; omega
      · have t1 : (z == (0 : Int)) = false := by simp [hz]
        have hza : z * a = a ∨ z * a = -a := by
          rcases hcz with e | e | e
          · exact absurd e hz
          · left; rw [e, Int.one_mul]
          · right; rw [e, Int.neg_mul, Int.one_mul]
        have s0 : IntKind.i64.wrap (z * a) = z * a := IntWalk.i64_in _ (by omega)
        have s1 : IntKind.i64.wrap (f + z * a) = f + z * a := IntWalk.i64_in _ (by omega)
        obtain ⟨x, hx⟩ : ∃ y, f + z * a = y := ⟨_, rfl⟩
        have s1' : IntKind.i64.wrap (f + z * a) = x := s1.trans hx
        rw [hx] at HST HOS HNO
        clear s1 hz hcz hza hx
        cases hin : inB x (-30000) 30000
        · have HNR := Lib.hid (HNO.out ((inB_no _ _ _).1 hin))
          have HCN := Lib.hid (chg_no (ks := ksL ps) HNR.out)
          go_wp2_with (go_at_call 154; refine (within_any _ _ _ _).mono ?_; rintro e w' ⟨rfl, rfl⟩)
          go_ret2
          exact ⟨rib HCN.out.symm HNR.out.symm, hB⟩
        · have hxr := (inB_iff _ _ _).1 hin
          have b1 := en_bd (k := p.k) (f := x) (by omega) hpk.2 hxr
          have b2 := en_bd (k := p.k) (f := f) (by omega) hpk.2 hfk
          have s2 : IntKind.i64.wrap (en p.k x - en p.k f) = en p.k x - en p.k f := IntWalk.i64_in _ (by omega)
          have s3 : IntKind.i64.wrap (C0 + (en p.k x - en p.k f)) = C0 + (en p.k x - en p.k f) := IntWalk.i64_in _ (by omega)
          have HPK := Lib.hid hpk
          have HXR := Lib.hid hxr
          have fk1 := hfk.1
          have fk2 := hfk.2
          have fx1 := hxr.1
          have fx2 := hxr.2
          obtain ⟨E1, hE1⟩ : ∃ y, en p.k x = y := ⟨_, rfl⟩
          obtain ⟨E2, hE2⟩ : ∃ y, en p.k f = y := ⟨_, rfl⟩
          rw [hE1, hE2] at s2 s3 HST
          have HE1 := Lib.hid hE1
          have HE2 := Lib.hid hE2
          clear b1 b2 hpk hfk hxr hbd hE1 hE2
          have bw := bx.below hb (bx.lt)
          have xl := bw.lt
          have x0 : wr.cell? ⟨w.heap.size, 0, none⟩ = some (.slice A n c) := bw.cell 0
          have x1 : wr.cell? ⟨w.heap.size, 1, none⟩ = some (.slice (some ⟨bp, op, none⟩) m d) := bw.cell 1
          have r0 := (hB.cell (p := ⟨bp, op + k * 5, none⟩) hpw).trans q0
          have r1 := (hB.cell (p := ⟨bp, op + k * 5 + 1, none⟩) hpw).trans q1
          have r2 := (hB.cell (p := ⟨bp, op + k * 5 + 2, none⟩) hpw).trans q2
          have r3 := (hB.cell (p := ⟨bp, op + k * 5 + 3, none⟩) hpw).trans q3
          have r4 := (hB.cell (p := ⟨bp, op + k * 5 + 4, none⟩) hpw).trans q4
          have kU : Kept (Below wr.heap.size wr wr.drew) := ⟨(Below.refl _ _).drew⟩
          obtain ⟨pf, hpf⟩ : ∃ y, p.fr = y := ⟨_, rfl⟩
          obtain ⟨pt, hpt⟩ : ∃ y, p.to = y := ⟨_, rfl⟩
          obtain ⟨pk, hpk⟩ : ∃ y, p.k = y := ⟨_, rfl⟩
          obtain ⟨pv, hpv⟩ : ∃ y, p.v = y := ⟨_, rfl⟩
          obtain ⟨pl, hpl'⟩ : ∃ y, p.l = y := ⟨_, rfl⟩
          rw [hpf] at r0
          rw [hpt] at r1
          rw [hpk] at r2 HPK HE1 HE2
          rw [hpv] at r3
          rw [hpl'] at r4
          clear hpf hpt hpk hpv hpl' bw q0 q1 q2 q3 q4
          have kh : Kept (Below V.heap.size V wr) := ⟨hb⟩
          have kB : Kept (Below w.heap.size w wr) := ⟨hB⟩
          obtain ⟨wi, rfl⟩ : ∃ wi : World, wi = wr := ⟨_, rfl⟩
          clear hb hB
          go_upto_region 9 with (go_at_call 154; refine (within_any _ _ _ _).mono ?_; rintro e w' ⟨rfl, rfl⟩)
          go_region_held3 (fun w' => w.heap.size < w'.heap.size ∧ bp < w'.heap.size ∧ bf < w'.heap.size ∧ w'.cell? ⟨w.heap.size, 0, none⟩ = some (.slice A n c) ∧ w'.cell? ⟨w.heap.size, 1, none⟩ = some (.slice (some ⟨bp, op, none⟩) m d) ∧ w'.cell? ⟨bp, op + k * 5, none⟩ = some (.int .i64 pf) ∧ w'.cell? ⟨bp, op + k * 5 + 1, none⟩ = some (.int .i64 pt) ∧ w'.cell? ⟨bp, op + k * 5 + 2, none⟩ = some (.int .i64 pk) ∧ w'.cell? ⟨bp, op + k * 5 + 3, none⟩ = some (.int .i64 pv) ∧ w'.cell? ⟨bp, op + k * 5 + 4, none⟩ = some (.int .i64 pl) ∧ w'.cell? ⟨bf, of + k, none⟩ = some (.int .i64 f) ∧ Kept (Below wi.heap.size wi w'))
            (first | (go_split_ands; refine ⟨by have := hbb.size; omega, by have := hbb.size; omega, by have := hbb.size; omega, ?_, ?_, ?_, ?_, ?_, ?_, ?_, ?_, ⟨bthen (Kept.out ‹Kept (Below wi.heap.size _ _)›) hbb (Kept.out ‹Kept (Below wi.heap.size _ _)›).size⟩⟩ <;> (rw [hbb.cell (by simp; omega)]; assumption)) | go_keep)
            (first | (go_at_call 162; go_split_ands; refine (energyOf_any _ _ _ _ _ _ _ HPK.out ⟨by omega, by omega⟩).mono ?_; (first | rw [HE1.out] | rw [HE2.out]); rintro e5 wb ⟨rfl, hbb⟩))
          rename_i hh
          obtain ⟨_, _, _, _, _, _, _, _, _, _, _, ⟨hbB⟩⟩ := hh
          have hbN := bthen kh.out hbB kh.out.size
          clear kh kB kU
          go_wp2_with fail
          go_roundw
          case rel => exact ⟨k + 1, by omega, by rw [HST.out], by go_num, Lib.hid (by rw [HOS.out, HP.out]; simpa using HXR.out), hbN⟩
          case measure => simp [intOf]; omega
    · obtain rfl : k = m := by omega
      have HR := Lib.hid (show inR (addL fs cs a) = true by
        rw [← okFs_all, HFL.out]
        exact HP.out)
      have HC := Lib.hid (show chTo (ksL ps) fs cs a k = chg (ksL ps) fs cs a by rw [chg_ok HR.out, HFL.out])
      go_wp2_with fail
      go_ret2
      exact ⟨rib HC.out HR.out.symm, hV.trans (hb.mono hV.size)⟩
theorem allB_inR (zs : List Int) : allB zs (-30000) 30000 = inR zs := rfl
theorem flB_inR {m : Nat} {zs : List Int} (h : zs.length = m) : flB m zs = inR zs := by
  unfold flB
  rw [decide_eq_true h, Bool.true_and, allB_inR]
set_option maxHeartbeats 4000000 in
theorem sEnergy_any (A B C : Option Addr) (n c m d e1 : Nat) (fs : List Int) (ns : List Nd) (ps : List Pp) (w : World) (h : IsNet w A n c ns B m d ps) (hok : NetOk ns ps) (hf : Ints w C m fs) (hfr : inR fs = true) :
    Calls Tryz.prog 122 #[.agg #[.slice A n c, .slice B m d], .slice C m e1] w fun e w' => e = .returned (.int .i64 (enL (ksL ps) fs)) ∧ Below w.heap.size w w' := by
  have hm : ps.length = m := h.pipes.len
  have hm40 : m ≤ 40 := by have := hok.2.2.1; omega
  have hfl := hf.len
  have HK := Lib.hid (show ∀ i, i < fs.length → 0 ≤ (ksL ps).getD i 0 ∧ (ksL ps).getD i 0 ≤ 1000 by
    intro i hi
    have := ksL_bd hok (i := i) (by omega)
    omega)
  have HF := Lib.hid (show ∀ i, i < fs.length → -30000 ≤ fs.getD i 0 ∧ fs.getD i 0 ≤ 30000 from fun i hi => inR_at hfr hi)
  have HOK := Lib.hid hok
  have HFL := Lib.hid hfl
  have bx := box_new w #[.slice A n c, .slice B m d] 33
  have hV : Below w.heap.size w (w.alloc (.cells #[.slice A n c, .slice B m d] 33)) := (Below.refl _ _).alloc (Nat.le_refl _) _
  clear hok hfl hm hfr
  go_enter Tryz.func122, Tryz.ntmps122
  go_wp2_with fail
  generalize (w.alloc (.cells #[.slice A n c, .slice B m d] 33)) = V at *
  go_loop [5, 6] (fun cc ii => ∃ (k : Nat), k ≤ m ∧ cc = .int .i64 (enTo (ksL ps) fs k) ∧ ii = .int .i64 k) (fun _ ii => m - (intOf ii).toNat)
  case atStart => exact ⟨0, Nat.zero_le _, rfl, rfl⟩
  case round =>
    obtain ⟨k, hk, rfl, rfl⟩ := hrel
    by_cases hlt : k < m
    · obtain ⟨bf, of, rfl, hfw, cf0⟩ := hf.atD hlt
      obtain ⟨bp, op, p, rfl, hpw, hpp, _, _, _, q2, _, _⟩ := h.pipes.at_ hlt
      have hpk := (pipe_ok HOK.out hpp).2.2.2.2.2.1
      have hfk := HF.out k (by rw [HFL.out]; exact hlt)
      have HKP := Lib.hid (ksL_at hpp)
      have cf := (hV.cell (p := ⟨bf, of + k, none⟩) hfw).trans cf0
      have r2 := (hV.cell (p := ⟨bp, op + k * 5 + 2, none⟩) hpw).trans q2
      have hs := hV.size
      have hfl : bf < V.heap.size := by omega
      have hpl : bp < V.heap.size := by omega
      have i0 : (0 : Int) ≤ (k : Int) := by omega
      have i1 : (k : Int) < (m : Int) := by omega
      have xl := bx.lt
      have x0 : V.cell? ⟨w.heap.size, 0, none⟩ = some (.slice A n c) := bx.cell 0
      have x1 : V.cell? ⟨w.heap.size, 1, none⟩ = some (.slice (some ⟨bp, op, none⟩) m d) := bx.cell 1
      have hbd := enTo_bd HK.out HF.out k (by rw [HFL.out]; omega)
      have HST := Lib.hid (show enTo (ksL ps) fs (k + 1) = enTo (ksL ps) fs k + en ((ksL ps).getD k 0) (fs.getD k 0) from rfl)
      rw [HKP.out] at HST
      obtain ⟨C0, hC0⟩ : ∃ y, enTo (ksL ps) fs k = y := ⟨_, rfl⟩
      rw [hC0] at hbd HST ⊢
      clear hC0
      obtain ⟨f, hf1⟩ : ∃ y, fs.getD k 0 = y := ⟨_, rfl⟩
      rw [hf1] at cf hfk HST
      obtain ⟨⟨p1, p2⟩, ⟨p3, p4⟩, _, ⟨p5, p6⟩⟩ := en_parts (k := p.k) (f := f) (by omega) hpk.2 hfk
      have p7 := en_bd (k := p.k) (f := f) (by omega) hpk.2 hfk
      have HES := Lib.hid (en_spec p.k f)
      rw [← en_spec] at p7
      have s1 : IntKind.i64.wrap (p.k * ab f) = p.k * ab f := IntWalk.i64_in _ (by omega)
      have s2 : IntKind.i64.wrap (p.k * ab f * ab f) = p.k * ab f * ab f := IntWalk.i64_in _ (by omega)
      have s3 : IntKind.i64.wrap (p.k * ab f * ab f * ab f) = p.k * ab f * ab f * ab f := IntWalk.i64_in _ (by omega)
      have s4 : IntKind.i64.wrap (C0 + p.k * ab f * ab f * ab f) = C0 + p.k * ab f * ab f * ab f := IntWalk.i64_in _ (by omega)
      have f1 := hfk.1
      have f2 := hfk.2
      clear cf0 hpp hf1 q2 hfk hpk p1 p2 p3 p4 p5 p6 p7 hbd
      go_wp2_with (go_at_call 123; refine (sAbs_any _ _ (by omega) (by omega)).mono ?_; rintro e w' ⟨rfl, rfl⟩)
      go_round
      case rel => exact ⟨k + 1, by omega, by rw [HST.out, HES.out], by go_num⟩
      case measure => simp [intOf]; omega
    · obtain rfl : k = m := by omega
      have HC := Lib.hid (show enTo (ksL ps) fs k = enL (ksL ps) fs by unfold enTo enL; rw [HFL.out])
      go_wp2_with fail
      go_ret
      exact ⟨ri HC.out, hV⟩
set_option maxHeartbeats 8000000 in
theorem sLower_any (A B C D : Option Addr) (n c m d e1 e2 : Nat) (a : Int) (fs cs : List Int) (ns : List Nd) (ps : List Pp) (w : World) (h : IsNet w A n c ns B m d ps) (hok : NetOk ns ps) (hf : Ints w C m fs) (hfr : inR fs = true) (hc : Ints w D m cs) (hcv : CyV m cs) (ha : -900000 ≤ a ∧ a ≤ 900000) :
    Calls Tryz.prog 158 #[.agg #[.slice A n c, .slice B m d], .slice C m e1, .slice D m e2, .int .i64 a] w fun e w' => e = .returned (.bool (lower (ksL ps) fs cs a)) ∧ Below w.heap.size w w' := by
  have hm40 : m ≤ 40 := by have := hok.2.2.1; have := h.pipes.len; omega
  have hfl := hf.len
  have HBD := Lib.hid (show ∀ i, i < m → (-1000000 ≤ fs.getD i 0 ∧ fs.getD i 0 ≤ 1000000) ∧ -1000000 ≤ a * cs.getD i 0 ∧ a * cs.getD i 0 ≤ 1000000 by
    intro i hi
    have h1 := inR_at hfr (i := i) (by omega)
    refine ⟨by omega, ?_⟩
    rcases hcv i hi with e | e | e <;> rw [e] <;> omega)
  have HOK := Lib.hid hok
  have HFR := Lib.hid hfr
  have HAL := Lib.hid (show (addL fs cs a).length = m by rw [addL_len]; exact hfl)
  have HLW := Lib.hid (show lower (ksL ps) fs cs a = (inR (addL fs cs a) && decide (enL (ksL ps) (addL fs cs a) < enL (ksL ps) fs)) from rfl)
  have bx := box_new w #[.slice A n c, .slice B m d] 33
  have hV : Below w.heap.size w (w.alloc (.cells #[.slice A n c, .slice B m d] 33)) := (Below.refl _ _).alloc (Nat.le_refl _) _
  clear hcv hok hfl hfr ha
  go_enter Tryz.func158, Tryz.ntmps158
  go_upto_region 1 with fail
  generalize (w.alloc (.cells #[.slice A n c, .slice B m d] 33)) = V at *
  go_upto_region 2 with (go_at_call 60; refine (sAdd_any _ _ _ _ _ _ fs cs _ (hf.below hV) (hc.below hV) (by omega) HBD.out).mono ?_; rintro e1 w1 ⟨A1, c1, rfl, o1, hb1⟩)
  rw [HAL.out] at o1 ⊢
  have hB1 := bthen hV hb1 hV.size
  have bw := bx.belowA hb1
  have xl := bw.lt
  have x0 : w1.cell? ⟨w.heap.size, 0, none⟩ = some (.slice A n c) := bw.cell 0
  have x1 : w1.cell? ⟨w.heap.size, 1, none⟩ = some (.slice B m d) := bw.cell 1
  have kN : Kept (IsNet w1 A n c ns B m d ps) := ⟨h.below hB1⟩
  have kF : Kept (Ints w1 C m fs) := ⟨hf.below hB1⟩
  have kO : Kept (Ints w1 A1 m (addL fs cs a)) := ⟨o1.ints⟩
  have kB : Kept (Below w.heap.size w w1) := ⟨hB1⟩
  have kU : Kept (Below w1.heap.size w1 w1.drew) := ⟨(Below.refl _ _).drew⟩
  have hm20 : m ≤ 1048576 := by omega
  clear bx bw hV hB1 hb1 o1 h hf hc
  obtain ⟨wi, rfl⟩ : ∃ wi : World, wi = w1 := ⟨_, rfl⟩
  have HFB := Lib.hid (flB_inR HAL.out)
  cases hE : flB m (addL fs cs a)
  · have HE := Lib.hid hE
    have HG := Lib.hid (show lower (ksL ps) fs cs a = false by rw [HLW.out, ← HFB.out, hE]; rfl)
    clear hE
    refine wp_region_held_drew (S := (fun w' => w.heap.size < w'.heap.size ∧ w'.cell? ⟨w.heap.size, 0, none⟩ = some (.slice A n c) ∧ w'.cell? ⟨w.heap.size, 1, none⟩ = some (.slice B m d) ∧ Kept (Below wi.heap.size wi w'))) (by kernel_rfl) ?_ (fun hHeld => ?_)
    · go_keep
    refine wpAnyH_take (i := 0) (oi := ⟨some 14, _, _, _, _, _⟩) (v := .agg #[.slice A n c, .slice B m d]) rfl (by kernel_rfl) (by kernel_rfl) (by kernel_rfl) (fun _ _ _ h => h) (Or.inl ⟨by rfl, by intro w hSw; (try dsimp only at hSw); go_simp⟩) (by assumption) ?_
    simp only [Act.put, List.setIfInBounds_toArray, List.set_cons_zero, List.set_cons_succ]
    refine wpAnyH_take (i := 1) (oi := ⟨some 15, _, _, _, _, _⟩) (v := .slice A1 m c1) rfl (by kernel_rfl) (by kernel_rfl) (by kernel_rfl) (fun _ _ _ h => h) (Or.inl ⟨by rfl, by intro w hSw; (try dsimp only at hSw); go_simp⟩) (by assumption) ?_
    simp only [Act.put, List.setIfInBounds_toArray, List.set_cons_zero, List.set_cons_succ]
    refine wpAnyH_ready (rs := [2]) (by kernel_rfl) (by simp) ?_
    refine AllReadyH.cons rfl (fun K hK => ?_) AllReadyH.nil
    go_simp
    refine (sFlow_any _ _ _ _ _ _ _ _ _ (addL fs cs a) _ (kO.out.below (Kept.out ‹Kept (Below wi.heap.size _ _)›)) hm20).mono ?_
    rw [HE.out]
    rintro e5 wb ⟨rfl, hbb⟩
    go_wp2_with fail
    refine hK.out _ _ ?_ (fun hHeld2 => ?_)
    · (go_split_ands; refine ⟨by have := hbb.size; omega, ?_, ?_, ⟨bthen (Kept.out ‹Kept (Below wi.heap.size _ _)›) hbb (Kept.out ‹Kept (Below wi.heap.size _ _)›).size⟩⟩ <;> (rw [hbb.cell (by simp; omega)]; assumption))
    clear hK K
    refine wpAnyH_take (i := 3) (oi := ⟨some 17, _, _, _, _, _⟩) (v := .bool false) rfl (by kernel_rfl) (by kernel_rfl) (by kernel_rfl) (fun _ _ _ h => h) (Or.inl ⟨by rfl, by intro w hSw; (try dsimp only at hSw); go_simp⟩) (by assumption) ?_
    simp only [Act.put, List.setIfInBounds_toArray, List.set_cons_zero, List.set_cons_succ]
    refine wpAnyH_take (i := 4) (oi := ⟨some 18, _, _, _, _, _⟩) (v := undef) rfl (by kernel_rfl) (by kernel_rfl) (by kernel_rfl) (fun _ _ _ h => h) (Or.inr ⟨by rfl, rfl⟩) (by assumption) ?_
    simp only [Act.put, List.setIfInBounds_toArray, List.set_cons_zero, List.set_cons_succ]
    refine wpAnyH_take (i := 5) (oi := ⟨some 19, _, _, _, _, _⟩) (v := undef) rfl (by kernel_rfl) (by kernel_rfl) (by kernel_rfl) (fun _ _ _ h => h) (Or.inr ⟨by rfl, rfl⟩) (by assumption) ?_
    simp only [Act.put, List.setIfInBounds_toArray, List.set_cons_zero, List.set_cons_succ]
    refine wpAnyH_take (i := 6) (oi := ⟨some 20, _, _, _, _, _⟩) (v := undef) rfl (by kernel_rfl) (by kernel_rfl) (by kernel_rfl) (fun _ _ _ h => h) (Or.inr ⟨by rfl, rfl⟩) (by assumption) ?_
    simp only [Act.put, List.setIfInBounds_toArray, List.set_cons_zero, List.set_cons_succ]
    refine wpAnyH_take (i := 7) (oi := ⟨some 21, _, _, _, _, _⟩) (v := undef) rfl (by kernel_rfl) (by kernel_rfl) (by kernel_rfl) (fun _ _ _ h => h) (Or.inr ⟨by rfl, rfl⟩) (by assumption) ?_
    simp only [Act.put, List.setIfInBounds_toArray, List.set_cons_zero, List.set_cons_succ]
    refine wpAnyH_take (i := 8) (oi := ⟨some 22, _, _, _, _, _⟩) (v := undef) rfl (by kernel_rfl) (by kernel_rfl) (by kernel_rfl) (fun _ _ _ h => h) (Or.inr ⟨by rfl, rfl⟩) (by assumption) ?_
    simp only [Act.put, List.setIfInBounds_toArray, List.set_cons_zero, List.set_cons_succ]
    refine wpAnyH_take (i := 9) (oi := ⟨some 23, _, _, _, _, _⟩) (v := undef) rfl (by kernel_rfl) (by kernel_rfl) (by kernel_rfl) (fun _ _ _ h => h) (Or.inr ⟨by rfl, rfl⟩) (by assumption) ?_
    simp only [Act.put, List.setIfInBounds_toArray, List.set_cons_zero, List.set_cons_succ]
    refine wpAnyH_take (i := 10) (oi := ⟨some 24, _, _, _, _, _⟩) (v := undef) rfl (by kernel_rfl) (by kernel_rfl) (by kernel_rfl) (fun _ _ _ h => h) (Or.inr ⟨by rfl, rfl⟩) (by assumption) ?_
    simp only [Act.put, List.setIfInBounds_toArray, List.set_cons_zero, List.set_cons_succ]
    refine wpAnyH_take (i := 11) (oi := ⟨some 25, _, _, _, _, _⟩) (v := .bool false) rfl (by kernel_rfl) (by kernel_rfl) (by kernel_rfl) (fun _ _ _ h => h) (Or.inl ⟨by rfl, by intro w hSw; (try dsimp only at hSw); go_simp⟩) (by assumption) ?_
    simp only [Act.put, List.setIfInBounds_toArray, List.set_cons_zero, List.set_cons_succ]
    refine wpAnyH_take (i := 12) (oi := ⟨some 8, _, _, _, _, _⟩) (v := .bool false) rfl (by kernel_rfl) (by kernel_rfl) (by kernel_rfl) (fun _ _ _ h => h) (Or.inl ⟨by rfl, by intro w hSw; (try dsimp only at hSw); go_simp⟩) (by assumption) ?_
    simp only [Act.put, List.setIfInBounds_toArray, List.set_cons_zero, List.set_cons_succ]
    refine wpAnyH_done (by kernel_rfl) ?_ _
    obtain ⟨_, _, _, ⟨hbB⟩⟩ := hHeld2
    go_wp2_with fail
    go_ret
    exact ⟨rb HG.out.symm, bthen kB.out hbB kB.out.size⟩
  · have HE := Lib.hid hE
    have hir : inR (addL fs cs a) = true := by rw [← HFB.out]; exact hE
    have HIR := Lib.hid hir
    have HG := Lib.hid (show lower (ksL ps) fs cs a = decide (enL (ksL ps) (addL fs cs a) < enL (ksL ps) fs) by rw [HLW.out, hir]; rfl)
    clear hE hir
    go_region_held3 (fun w' => w.heap.size < w'.heap.size ∧ w'.cell? ⟨w.heap.size, 0, none⟩ = some (.slice A n c) ∧ w'.cell? ⟨w.heap.size, 1, none⟩ = some (.slice B m d) ∧ Kept (Below wi.heap.size wi w'))
      (first | (go_split_ands; refine ⟨by have := hbb.size; omega, ?_, ?_, ⟨bthen (Kept.out ‹Kept (Below wi.heap.size _ _)›) hbb (Kept.out ‹Kept (Below wi.heap.size _ _)›).size⟩⟩ <;> (rw [hbb.cell (by simp; omega)]; assumption)) | go_keep)
      (first | (go_at_call 73; go_split_ands; refine (sFlow_any _ _ _ _ _ _ _ _ _ (addL fs cs a) _ (kO.out.below (Kept.out ‹Kept (Below wi.heap.size _ _)›)) hm20).mono ?_; rw [HE.out]; rintro e5 wb ⟨rfl, hbb⟩) | (go_at_call 122; go_split_ands; refine (sEnergy_any _ _ _ _ _ _ _ _ _ ns ps _ (kN.out.below (Kept.out ‹Kept (Below wi.heap.size _ _)›)) HOK.out (by first | exact (kO.out.below (Kept.out ‹Kept (Below wi.heap.size _ _)›)) | exact (kF.out.below (Kept.out ‹Kept (Below wi.heap.size _ _)›))) (by first | exact HIR.out | exact HFR.out)).mono ?_; rintro e5 wb ⟨rfl, hbb⟩))
    rename_i hh
    obtain ⟨_, _, _, ⟨hbB⟩⟩ := hh
    go_wp2_with fail
    go_ret
    exact ⟨rb HG.out.symm, bthen kB.out hbB kB.out.size⟩
end Go.Proofs.YtpgegfnhokhlmaaGreat
set_option linter.unusedVariables false
set_option maxRecDepth 100000
namespace Go.Proofs.YtpgegfnhokhlmaaGreat
open Go.ChangeShapes Go.WideShapes Go.ChangeAt Go.RowKit Go.Joins Go.Deep

/-- A slice of m numbers, as a cell. -/
def encS (m : Nat) (v : Option Addr × Nat) : List Value := [.slice v.1 m v.2]
theorem info_ints : (Tryz.prog.info? 26).map (fun i => (i.zero, i.size, i.bytes)) = some (some (.slice none 0 0), 1, 24) := by kernel_rfl
/-- The slice value '.slice A n c' owns the lists css, each of m numbers, in blocks from B on. -/
structure Cycs (w : World) (B : Nat) (A : Option Addr) (n c m : Nat) (css : List (List Int)) : Prop where
  out : ∃ vs : List (Option Addr × Nat), OwnR (encS m) 1 26 w B A n c vs ∧ vs.length = css.length ∧ ∀ (i : Nat) (v : Option Addr × Nat) (cs : List Int), vs[i]? = some v → css[i]? = some cs → Own w B v.1 m v.2 cs
section
variable {w w' : World} {B : Nat} {A : Option Addr} {n c m : Nat} {css : List (List Int)}
theorem Cycs.len (h : Cycs w B A n c m css) : css.length = n := by
  obtain ⟨vs, ho, hl, _⟩ := h.out
  rw [← hl]
  exact ho.len (by decide)
theorem Cycs.below (h : Cycs w B A n c m css) (hb : Below w.heap.size w w') : Cycs w' B A n c m css := by
  obtain ⟨vs, ho, hl, hi⟩ := h.out
  exact ⟨vs, ho.below hb, hl, fun i v cs hv hc => (hi i v cs hv hc).below hb⟩
theorem Cycs.alloc (h : Cycs w B A n c m css) (o : Obj) : Cycs (w.alloc o) B A n c m css := h.below ((Below.refl _ _).alloc (Nat.le_refl _) _)
theorem Cycs.mono {B' : Nat} (h : Cycs w B A n c m css) (hB : B' ≤ B) : Cycs w B' A n c m css := by
  obtain ⟨vs, ho, hl, hi⟩ := h.out
  exact ⟨vs, ho.mono hB, hl, fun i v cs hv hc => (hi i v cs hv hc).mono hB⟩
/-- A store below the blocks changes nothing. -/
theorem Cycs.low (h : Cycs w B A n c m css) {a : Addr} (ha : a.block < B) (u : Value) : Cycs (w.setCell a u) B A n c m css := by
  obtain ⟨vs, ho, hl, hi⟩ := h.out
  exact ⟨vs, ⟨ownsRow_setCell_below ho.1 ha u, ho.2⟩, hl, fun i v cs hv hc => ⟨ownsRow_setCell_below (hi i v cs hv hc).1 ha u, (hi i v cs hv hc).2⟩⟩
/-- One of the lists. -/
theorem Cycs.at_ (h : Cycs w B A n c m css) {i : Nat} (hi : i < n) : ∃ g A' c' cs, A = some ⟨g, 0, none⟩ ∧ B ≤ g ∧ g < w.heap.size ∧ css[i]? = some cs ∧ w.cell? ⟨g, i, none⟩ = some (.slice A' m c') ∧ Own w B A' m c' cs := by
  have hl := h.len
  obtain ⟨vs, ho, hvl, ha⟩ := h.out
  obtain ⟨g, rfl, hB, hg⟩ := ho.form (by omega)
  obtain ⟨x, hx, hc, _, _⟩ := ho.cells (by decide) hi
  have hcs : css[i]? = some (css[i]'(by omega)) := List.getElem?_eq_getElem _
  have := hc 0 _ rfl
  rw [Nat.mul_one, Nat.add_zero] at this
  exact ⟨g, x.1, x.2, _, rfl, hB, hg, hcs, this, ha i x _ hx hcs⟩
theorem cycs_nil (w : World) (B m : Nat) : Cycs w B none 0 0 m [] := ⟨[], ownR_nil _ _ _ _ _, rfl, fun i v cs hv => by simp at hv⟩
theorem cycs_empty (w : World) (B m : Nat) (hB : B ≤ w.heap.size) : Cycs (w.alloc (.cells #[] 26)) B (some ⟨w.heap.size, 0, none⟩) 0 0 m [] := ⟨[], ownR_empty _ _ _ _ _ hB, rfl, fun i v cs hv => by simp at hv⟩
end
/-- append(cycles, cycle). -/
theorem wpList_pushC {ops : Array Oper} {rest : List Oper} {o : Oper} {a : Act} {Q : Exit → Act → World → Prop} (wr : World) (hgd : o.guard = none) (s x : Operand)
    (ho : o.op = .call { callee := .builtin .append, args := #[s, x], argTypes := #[89, 89] }) (B : Nat) (A : Option Addr) (n c m : Nat) (css : List (List Int)) (A' : Option Addr) (c' : Nat) (cs : List Int) (H : Nat) (hH : wr.heap.size = H)
    (hs : a.eval s = .slice A n c) (hx : a.eval x = .slice (some ⟨H, 0, none⟩) 1 1) (hown : Cycs wr B A n c m css) (hcs : Own wr B A' m c' cs) (hn : n ≤ 1099511627776) (hB : B ≤ wr.heap.size)
    (h : ∀ g c2 w', Cycs w' B (some ⟨g, 0, none⟩) (n + 1) c2 m (css ++ [cs]) → Below B wr w' → wpList Tryz.prog ops Q rest (a.put o.dst (.slice (some ⟨g, 0, none⟩) (n + 1) c2)) w') :
    wpList Tryz.prog ops Q (o :: rest) a (wr.alloc (.cells #[.slice A' m c'] 26)) := by
  obtain ⟨vs, hv, hl, hi⟩ := hown.out
  refine wpList_pushR (enc := encS m) wr hgd s x ho Tryz.underlying89 info_ints rfl (by decide) (by decide) B A n c vs (A', c') _ rfl H hH hs hx hv rfl (by intro u hu; simp [encS] at hu; subst hu; rfl) hn hB ?_
  intro g c2 w' hO hb hg hBg
  refine h g c2 w' ⟨vs ++ [(A', c')], hO, by simp [hl], ?_⟩ hb
  have key : ∀ (A9 : Option Addr) (c9 : Nat) (zs : List Int), Own wr B A9 m c9 zs → Own w' B A9 m c9 zs := by
    intro A9 c9 zs h9
    refine (h9.alloc _).grown hg ?_
    intro g9 hg9 hh
    exact ap_of hv.1 h9.1 (by decide) g9 hh (by rw [hg9]; rfl)
  intro i v zs hv' hz
  by_cases hlt : i < vs.length
  · rw [List.getElem?_append_left hlt] at hv'
    rw [List.getElem?_append_left (by omega)] at hz
    exact key _ _ _ (hi i v zs hv' hz)
  · have hlt2 := (List.getElem?_eq_some_iff.1 hv').1
    simp at hlt2
    obtain rfl : i = vs.length := by omega
    simp at hv'
    subst hv'
    rw [hl] at hz
    simp at hz
    subst hz
    exact key _ _ _ hcs
/-- The same at a step of a region that draws its order. -/
theorem step_pushC {ops : Array Oper} {o : Oper} {a : Act} {K : Act → World → Prop} {Q : Exit → Act → World → Prop} {E : Prop} (wr : World) (hgd : o.guard = none) (s x : Operand)
    (ho : o.op = .call { callee := .builtin .append, args := #[s, x], argTypes := #[89, 89] }) (B : Nat) (A : Option Addr) (n c m : Nat) (css : List (List Int)) (A' : Option Addr) (c' : Nat) (cs : List Int) (H : Nat) (hH : wr.heap.size = H)
    (hs : a.eval s = .slice A n c) (hx : a.eval x = .slice (some ⟨H, 0, none⟩) 1 1) (hown : Cycs wr B A n c m css) (hcs : Own wr B A' m c' cs) (hn : n ≤ 1099511627776) (hB : B ≤ wr.heap.size)
    (h : ∀ g c2 w', Cycs w' B (some ⟨g, 0, none⟩) (n + 1) c2 m (css ++ [cs]) → Below B wr w' → K (a.put o.dst (.slice (some ⟨g, 0, none⟩) (n + 1) c2)) w') :
    if Region.wanted o (yielded ops a.tmps) = true then Oper.wp Tryz.prog o a (wr.alloc (.cells #[.slice A' m c'] 26)) K Q else E := by
  obtain ⟨vs, hv, hl, hi⟩ := hown.out
  subst hH
  obtain ⟨i9, hi0, hz0, hz1, hz2⟩ := info_parts info_ints
  refine step_append_lies _ hgd s x _ ho B 26 i9 _ 1 24 Tryz.underlying89 hi0 hz0 hz1 hz2 rfl (by omega) (.slice A n c) n (vs.flatMap (encS m)) hs (hv.alloc _).1
    ⟨wr.heap.size, 0, none⟩ 1 1 [.slice A' m c'] hx rfl (World.news_of_block (cs := #[.slice A' m c']) (t := 26) (fr := (0, 0)) (heap_alloc_new wr _)) (by intro u hu; simp at hu; subst hu; rfl)
    (by omega) (by unfold maxLen; omega) (by omega) (by simp; omega) (wr.heap.size + 1) (by simp) ?_
  intro g c2 w' hon hgrow _ _
  have hA : (Value.slice A n c).ownBlock = A.map (·.block) := by cases A <;> rfl
  rw [hA] at hgrow
  refine h g c2 w' ⟨vs ++ [(A', c')], ⟨by rw [List.flatMap_append]; exact hon, fun y hy => rfl⟩, by simp [hl], ?_⟩ (((Below.refl B wr).alloc hB _).grown hgrow (by simp; omega) (fun g hg => (hv.lt g hg).1))
  have key : ∀ (A9 : Option Addr) (c9 : Nat) (zs : List Int), Own wr B A9 m c9 zs → Own w' B A9 m c9 zs := by
    intro A9 c9 zs h9
    refine (h9.alloc _).grown hgrow ?_
    intro g9 hg9 hh
    exact ap_of hv.1 h9.1 (by decide) g9 hh (by rw [hg9]; rfl)
  intro i v zs hv' hz
  by_cases hlt : i < vs.length
  · rw [List.getElem?_append_left hlt] at hv'
    rw [List.getElem?_append_left (by omega)] at hz
    exact key _ _ _ (hi i v zs hv' hz)
  · have hlt2 := (List.getElem?_eq_some_iff.1 hv').1
    simp at hlt2
    obtain rfl : i = vs.length := by omega
    simp at hv'
    subst hv'
    rw [hl] at hz
    simp at hz
    subst hz
    exact key _ _ _ hcs
end Go.Proofs.YtpgegfnhokhlmaaGreat
set_option linter.unusedVariables false
set_option maxRecDepth 100000
namespace Go.Proofs.YtpgegfnhokhlmaaGreat
open Go.ChangeShapes Go.WideShapes Go.ChangeAt Go.RowKit Go.Joins Go.Deep
attribute [local go_sem ↓] Go.wp_at_zero Go.wp_at_succ

/-- The cycles of all chords. -/
def cssTo (es : Es) (n k : Nat) : List (List Int) := ((chd es n).take k).map fun c => cyc es n c
def cssL (es : Es) (n : Nat) : List (List Int) := (chd es n).map fun c => cyc es n c
theorem cssTo_step {es : Es} {n k ci : Nat} (h : (chd es n)[k]? = some ci) : cssTo es n (k + 1) = cssTo es n k ++ [cyc es n ci] := by
  unfold cssTo
  rw [List.take_add_one, h, List.map_append]
  rfl
theorem cssTo_all {es : Es} {n k : Nat} (h : (chd es n).length ≤ k) : cssTo es n k = cssL es n := by
  unfold cssTo cssL
  rw [List.take_of_length_le h]
theorem chd_chord {es : Es} {n ci : Nat} (h : ci ∈ chd es n) : ci < es.length ∧ ¬ Tree es n ci := by
  obtain ⟨h1, h2⟩ := chd_mem.1 h
  exact ⟨h1, fun ht => by rw [treeB_iff.2 ht] at h2; cases h2⟩
theorem css_mem {es : Es} {n : Nat} {cs : List Int} (h : cs ∈ cssL es n) : ∃ ci, cs = cyc es n ci ∧ ci < es.length ∧ ¬ Tree es n ci := by
  obtain ⟨ci, hc, rfl⟩ := List.mem_map.1 h
  exact ⟨ci, rfl, chd_chord hc⟩
set_option maxHeartbeats 4000000 in
theorem sBasis_any (A B : Option Addr) (n c m d : Nat) (ns : List Nd) (ps : List Pp) (w : World) (h : IsNet w A n c ns B m d ps) (hok : NetOk ns ps) :
    Calls Tryz.prog 109 #[.agg #[.slice A n c, .slice B m d]] w fun e w' => ∃ A' c', e = .returned (.slice A' (chd (esOf ps) n).length c') ∧ Cycs w' w.heap.size A' (chd (esOf ps) n).length c' m (cssL (esOf ps) n) ∧ Below w.heap.size w w' := by
  have hln : ns.length = n := h.nodes.len
  have hm : ps.length = m := h.pipes.len
  have hn24 : n ≤ 24 := by have := hok.2.1; omega
  have hm40 : m ≤ 40 := by have := hok.2.2.1; omega
  have hg : Good (esOf ps) n := by rw [← hln]; exact net_good hok
  have HG := Lib.hid hg
  have HM := Lib.hid hm
  have HOK := Lib.hid hok
  clear hln hok hg hm
  have bx := box_new w #[.slice A n c, .slice B m d] 33
  have hV : Below w.heap.size w (w.alloc (.cells #[.slice A n c, .slice B m d] 33)) := (Below.refl _ _).alloc (Nat.le_refl _) _
  go_enter Tryz.func109, Tryz.ntmps109
  go_upto_region 1 with fail
  generalize (w.alloc (.cells #[.slice A n c, .slice B m d] 33)) = V at *
  have xl := bx.lt
  have x0 : V.cell? ⟨w.heap.size, 0, none⟩ = some (.slice A n c) := bx.cell 0
  have x1 : V.cell? ⟨w.heap.size, 1, none⟩ = some (.slice B m d) := bx.cell 1
  go_upto_region 2 with (go_at_call 117; refine (sChords_any _ _ _ _ _ _ ns ps _ (h.below hV) HOK.out).mono ?_; rintro e1 w1 ⟨A1, c1, rfl, o1, hb1⟩)
  rw [cN_len] at o1 ⊢
  have HCL := Lib.hid (show (chd (esOf ps) n).length ≤ 40 by have := chd_len (esOf ps) n; rw [esOf_len, HM.out] at this; omega)
  have HCM := Lib.hid (show ∀ ci ∈ chd (esOf ps) n, ci < m ∧ ¬ Tree (esOf ps) n ci by
    intro ci hci
    obtain ⟨a1, a2⟩ := chd_chord hci
    rw [esOf_len, HM.out] at a1
    exact ⟨a1, a2⟩)
  have HCA := Lib.hid (cssTo_all (es := esOf ps) (n := n) (Nat.le_refl _))
  have HCS := Lib.hid (fun k ci h => cssTo_step (es := esOf ps) (n := n) (k := k) (ci := ci) h)
  have HC0 := Lib.hid (show cssTo (esOf ps) n 0 = [] from rfl)
  generalize hL : (chd (esOf ps) n).length = L at *
  have hL40 : L ≤ 40 := HCL.out
  have HLN := Lib.hid hL
  have hW1 := bthen hV hb1 hV.size
  have b1 := bx.belowA hb1
  have hs1 := hb1.size
  have hsw : w.heap.size ≤ w1.heap.size := hW1.size
  clear x0 x1 xl bx hb1 hL hV
  go_wp2_with fail
  go_loopw [4, 5] (fun ss ii wr => ∃ (k : Nat) (A2 : Option Addr) (c2 : Nat), k ≤ L ∧ ii = .int .i64 k ∧ ss = .slice A2 k c2 ∧ Cycs wr w1.heap.size A2 k c2 m (cssTo (esOf ps) n k) ∧ Below w1.heap.size w1 wr) (fun _ ii _ => L - (intOf ii).toNat)
  case atStart => exact ⟨0, _, 0, Nat.zero_le _, rfl, rfl, by rw [HC0.out]; exact cycs_empty _ _ _ (Nat.le_refl _), (Below.refl _ _).alloc (Nat.le_refl _) _⟩
  case round =>
    obtain ⟨k, A2, c2, hk, rfl, rfl, hO, hb⟩ := hrel
    have bx := b1.belowA hb
    have hbW := hW1.trans (hb.mono hsw)
    by_cases hlt : k < L
    · obtain ⟨b5, f5, z5, rfl, hb5l, hz5, _, hc5⟩ := (o1.below hb).ints.at_ hlt
      obtain ⟨ci, hi, rfl⟩ := cN_get hz5
      obtain ⟨hcm, hct⟩ := HCM.out ci (List.mem_of_getElem? hi)
      have HST := Lib.hid (HCS.out k ci hi)
      have HCT := Lib.hid hct
      have hs := hb.size
      have j0 : (0 : Int) ≤ (k : Int) := by omega
      have j1 : (k : Int) < (L : Int) := by omega
      have xl : w.heap.size < wr.heap.size := bx.lt
      have x0 : wr.cell? ⟨w.heap.size, 0, none⟩ = some (.slice A n c) := bx.cell 0
      have x1 : wr.cell? ⟨w.heap.size, 1, none⟩ = some (.slice B m d) := bx.cell 1
      have HLC := Lib.hid (show (cyc (esOf ps) n ci).length = m by rw [cyc_len HG.out, esOf_len, HM.out])
      have hb5w : b5 < w1.heap.size := by
        obtain ⟨g, hA, _, hg⟩ := o1.form (by omega)
        injection hA with hA
        injection hA with hA
        omega
      have hxw : w.heap.size < w1.heap.size := b1.lt
      have kN : Kept (IsNet wr A n c ns B m d ps) := ⟨h.below hbW⟩
      have kO : Kept (Cycs wr w1.heap.size A2 k c2 m (cssTo (esOf ps) n k)) := ⟨hO⟩
      have kB : Kept (Below w1.heap.size w1 wr) := ⟨hb⟩
      have kU : Kept (Below w1.heap.size wr wr.drew) := ⟨(Below.refl _ _).drew⟩
      obtain ⟨wi, rfl⟩ : ∃ wi : World, wi = wr := ⟨_, rfl⟩
      have KX := Lib.hid (show ∀ w' : World, Below w1.heap.size wi w' → w.heap.size < w'.heap.size ∧ b5 < w'.heap.size ∧ w1.heap.size ≤ w'.heap.size ∧ w'.cell? ⟨w.heap.size, 0, none⟩ = some (.slice A n c) ∧ w'.cell? ⟨w.heap.size, 1, none⟩ = some (.slice B m d) ∧ w'.cell? ⟨b5, f5 + k, none⟩ = some (.int .i64 (ci : Int)) ∧ Kept (Below w1.heap.size wi w') from
        fun w' hX => ⟨by have := hX.size; omega, by have := hX.size; omega, by have := hX.size; omega, (hX.cell (p := ⟨w.heap.size, 0, none⟩) hxw).trans x0, (hX.cell (p := ⟨w.heap.size, 1, none⟩) hxw).trans x1, (hX.cell (p := ⟨b5, f5 + k, none⟩) hb5w).trans hc5, ⟨hX⟩⟩)
      clear hz5 hi hct hO hb hbW bx
      go_upto_region 6 with fail
      go_region_held3 (fun w' => w.heap.size < w'.heap.size ∧ b5 < w'.heap.size ∧ w1.heap.size ≤ w'.heap.size ∧ w'.cell? ⟨w.heap.size, 0, none⟩ = some (.slice A n c) ∧ w'.cell? ⟨w.heap.size, 1, none⟩ = some (.slice B m d) ∧ w'.cell? ⟨b5, f5 + k, none⟩ = some (.int .i64 (ci : Int)) ∧ Kept (Below w1.heap.size wi w'))
        (first
          | exact KX.out _ (k8.out.trans hbn)
          | exact KX.out _ (k8.out.alloc hs6 _)
          | exact KX.out _ k8.out
          | go_keep)
        (first
          | (go_at_call 59; go_split_ands; refine (sCycle_any _ _ _ _ _ _ ci ns ps _ kN.out.drew HOK.out hcm HCT.out).mono ?_; rintro e6 w6 ⟨A6, c6, rfl, o6, hbb⟩; rw [HLC.out] at o6 ⊢; have k6 : Kept (Own w6 w1.heap.size A6 m c6 (cyc (esOf ps) n ci)) := ⟨o6.mono hs⟩; have k7 : Kept (Cycs w6 w1.heap.size A2 k c2 m (cssTo (esOf ps) n k)) := ⟨(kO.out.below ((Below.refl wi.heap.size wi).drew)).below hbb⟩; have hs6 : w1.heap.size ≤ w6.heap.size := Nat.le_trans hs hbb.size; have k8 : Kept (Below w1.heap.size wi w6) := ⟨((Below.refl wi.heap.size wi).drew.mono hs).trans (hbb.mono hs)⟩; clear o6)
          | (refine step_pushC w6 (by rfl) _ _ (by rfl) w1.heap.size _ _ _ _ _ _ _ _ _ rfl (by rfl) (by rfl) k7.out k6.out (by omega) hs6 ?_; intro g9 c9 w9 hO9 hbn))
      have hB9 := kB.out.trans (k8.out.trans hbn)
      clear kN kO kB kU k6 k7 k8 hbn KX
      go_wp2_with fail
      go_roundw
      case rel => exact ⟨k + 1, _, _, by omega, by go_num, rfl, by rw [HST.out]; exact hO9, hB9⟩
      case measure => simp [intOf]; omega
    · obtain rfl : k = L := by omega
      go_wp2_with fail
      go_ret
      rw [HCA.out] at hO
      exact ⟨A2, c2, by rw [HLN.out]; rfl, by rw [HLN.out]; exact hO.mono hsw, hbW⟩
end Go.Proofs.YtpgegfnhokhlmaaGreat
set_option linter.unusedVariables false
set_option maxRecDepth 100000
namespace Go.Proofs.YtpgegfnhokhlmaaGreat
open Go.ChangeShapes Go.WideShapes Go.ChangeAt Go.RowKit Go.Joins Go.Deep
attribute [local go_sem ↓] Go.wp_at_zero Go.wp_at_succ

theorem rsi {A A' : Option Addr} {m m' c c' : Nat} {a b : Int} (h1 : A = A') (h2 : m = m') (h3 : c = c') (h : a = b) : Ending.returned (.tuple #[.slice A m c, .int .i64 a]) = .returned (.tuple #[.slice A' m' c', .int .i64 b]) := by rw [h1, h2, h3, h]
set_option maxHeartbeats 8000000 in
theorem sPass_any (A B C D : Option Addr) (n c m d e1 L e2 B0 B2 : Nat) (s : Int) (t : Nat) (fs : List Int) (css : List (List Int)) (ns : List Nd) (ps : List Pp) (w : World) (h : IsNet w A n c ns B m d ps) (hok : NetOk ns ps) (hf : Own w B2 C m e1 fs) (hB2 : B2 ≤ w.heap.size) (hfr : inR fs = true) (hcs : Cycs w B0 D L e2 m css) (hcv : ∀ cs ∈ css, CyV m cs) (hL : L ≤ 40) (hs : 1 ≤ s ∧ s ≤ 32768) (ht : t ≤ 5000) :
    Calls Tryz.prog 110 #[.agg #[.slice A n c, .slice B m d], .slice D L e2, .slice C m e1, .int .i64 s, .int .i64 (5000 - (t : Int))] w fun e w' => ∃ A' c', e = .returned (.tuple #[.slice A' m c', .int .i64 (((passM (ksL ps) css s (fs, t)).2 : Int) - (t : Int))]) ∧ Own w' B2 A' m c' (passM (ksL ps) css s (fs, t)).1 ∧ Below w.heap.size w w' := by
  have hm40 : m ≤ 40 := by have := hok.2.2.1; have := h.pipes.len; omega
  have HOK := Lib.hid hok
  have HCV := Lib.hid hcv
  have s1 := hs.1
  have s2 := hs.2
  have HT0 := Lib.hid (passT_zero (ksL ps) css s (fs, t))
  have HCL := Lib.hid hcs.len
  have HS0 := Lib.hid (show (fs, t).1.length = m ∧ inR (fs, t).1 = true from ⟨hf.len, hfr⟩)
  obtain ⟨R, hR⟩ : ∃ y, passM (ksL ps) css s (fs, t) = y := ⟨_, rfl⟩
  have HR := Lib.hid hR
  rw [hR]
  have bx := box_new w #[.slice A n c, .slice B m d] 33
  have hV : Below w.heap.size w (w.alloc (.cells #[.slice A n c, .slice B m d] 33)) := (Below.refl _ _).alloc (Nat.le_refl _) _
  clear hcv hok hfr hs hR
  go_enter Tryz.func110, Tryz.ntmps110
  go_wp2_with fail
  generalize (w.alloc (.cells #[.slice A n c, .slice B m d] 33)) = V at *
  have hN := h.below hV
  have hF := hf.below hV
  have hC := hcs.below hV
  have hsv := hV.size
  clear h hf hcs
  go_loopw [2, 12, 13] (fun ff mm ii wr => ∃ (k mv : Nat) (A9 : Option Addr) (c9 : Nat) (zs : List Int), k ≤ L ∧ ff = .slice A9 m c9 ∧ mm = .int .i64 (mv : Int) ∧ ii = .int .i64 k ∧ Hid (passT (ksL ps) css s (fs, t) k = (zs, t + mv)) ∧ t + mv ≤ 5000 ∧ Hid (inR zs = true) ∧ Own wr B2 A9 m c9 zs ∧ Below V.heap.size V wr) (fun _ _ ii _ => L - (intOf ii).toNat)
  case atStart => exact ⟨0, 0, C, e1, fs, Nat.zero_le _, rfl, rfl, rfl, Lib.hid HT0.out, ht, Lib.hid HS0.out.2, hF, Below.refl _ _⟩
  case round =>
    obtain ⟨k, mv, A9, c9, zs, hk, rfl, rfl, rfl, HP, htm, HZ, hZ, hb⟩ := hrel
    have hB := hV.trans (hb.mono hsv)
    by_cases hlt : k < L
    · have hkl : (k : Int) < (L : Int) := by omega
      by_cases hmv : t + mv < 5000
      · have hml : (mv : Int) < 5000 - (t : Int) := by omega
        obtain ⟨g, A', c', cs, rfl, hBg, hgl, hcs, hcell, hO⟩ := (hC.below hb).at_ hlt
        have HCS := Lib.hid (HCV.out cs (List.mem_of_getElem? hcs))
        have HST := Lib.hid (passT_succ (ks := ksL ps) (s := s) (st := (fs, t)) hcs)
        have bw := bx.below hb bx.lt
        have xl := bw.lt
        have x0 : wr.cell? ⟨w.heap.size, 0, none⟩ = some (.slice A n c) := bw.cell 0
        have x1 : wr.cell? ⟨w.heap.size, 1, none⟩ = some (.slice B m d) := bw.cell 1
        have hNr := hN.below hb
        have hgV : g < V.heap.size := by
          obtain ⟨g', _, _, _, hA', _, hl', _⟩ := hC.at_ hlt
          injection hA' with hA'
          injection hA' with hA'
          omega
        have hcsI := hO.ints
        have HZL := Lib.hid hZ.len
        have HAL := Lib.hid (fun a => show (addL zs cs a).length = m by rw [addL_len]; exact HZL.out)
        have HBD := Lib.hid (show ∀ a : Int, (a = s ∨ a = -s) → ∀ i, i < m → (-1000000 ≤ zs.getD i 0 ∧ zs.getD i 0 ≤ 1000000) ∧ -1000000 ≤ a * cs.getD i 0 ∧ a * cs.getD i 0 ≤ 1000000 by
          intro a ha i hi
          have h1 := inR_at HZ.out (i := i) (by rw [HZL.out]; exact hi)
          refine ⟨by omega, ?_⟩
          rcases HCS.out i hi with e | e | e <;> rw [e] <;> omega)
        have sn : IntKind.i64.wrap (-s) = -s := IntWalk.i64_in _ (by omega)
        have kN : Kept (IsNet wr A n c ns B m d ps) := ⟨hNr⟩
        have kZ : Kept (Ints wr A9 m zs) := ⟨hZ.ints⟩
        have kZO : Kept (Own wr B2 A9 m c9 zs) := ⟨hZ⟩
        have hBw : B2 ≤ wr.heap.size := by have := hB.size; omega
        have kC : Kept (Ints wr A' m cs) := ⟨hcsI⟩
        have kV : Kept (Below V.heap.size V wr) := ⟨hb⟩
        obtain ⟨wi, rfl⟩ : ∃ wi : World, wi = wr := ⟨_, rfl⟩
        have kBwi : Kept (Below wi.heap.size wi wi) := ⟨Below.refl _ _⟩
        have KX := Lib.hid (show ∀ w' : World, Below wi.heap.size wi w' → w.heap.size < w'.heap.size ∧ g < w'.heap.size ∧ w'.cell? ⟨w.heap.size, 0, none⟩ = some (.slice A n c) ∧ w'.cell? ⟨w.heap.size, 1, none⟩ = some (.slice B m d) ∧ w'.cell? ⟨g, k, none⟩ = some (.slice A' m c') ∧ Kept (Below wi.heap.size wi w') from
          fun w' hX => ⟨by have := hX.size; omega, by have := hX.size; omega, (hX.cell (p := ⟨w.heap.size, 0, none⟩) xl).trans x0, (hX.cell (p := ⟨w.heap.size, 1, none⟩) xl).trans x1, (hX.cell (p := ⟨g, k, none⟩) hgl).trans hcell, ⟨hX⟩⟩)
        clear hcs hO hb hB hNr hZ hcsI bw
        go_upto_region 5 with fail
        cases hl1 : lower (ksL ps) zs cs s
        · have HL1 := Lib.hid hl1
          clear hl1
          go_region_held3 (fun w' => w.heap.size < w'.heap.size ∧ g < w'.heap.size ∧ w'.cell? ⟨w.heap.size, 0, none⟩ = some (.slice A n c) ∧ w'.cell? ⟨w.heap.size, 1, none⟩ = some (.slice B m d) ∧ w'.cell? ⟨g, k, none⟩ = some (.slice A' m c') ∧ Kept (Below wi.heap.size wi w'))
            (first | (go_split_ands; exact KX.out _ (bthen (Below.refl wi.heap.size wi).drew hbb (Nat.le_refl _))) | exact KX.out _ (Below.refl wi.heap.size wi).drew | go_keep)
            (first | (go_at_call 158; go_split_ands; refine (sLower_any _ _ _ _ _ _ _ _ _ _ s zs cs ns ps _ (kN.out.below (kBwi.out.drew)) HOK.out (kZ.out.below (kBwi.out.drew)) HZ.out (kC.out.below (kBwi.out.drew)) HCS.out ⟨by omega, by omega⟩).mono ?_; rw [HL1.out]; rintro e5 wb ⟨rfl, hbb⟩))
          rename_i hh
          obtain ⟨xl5, gl5, x05, x15, c5, ⟨hbB⟩⟩ := hh
          clear hbb x0 x1 hcell xl hgl
          obtain ⟨W5, rfl⟩ : ∃ y : World, y = wb := ⟨_, rfl⟩
          have kB5 : Kept (Below wi.heap.size wi W5) := ⟨hbB⟩
          have KX5 := Lib.hid (show ∀ w' : World, Below W5.heap.size W5 w' → w.heap.size < w'.heap.size ∧ g < w'.heap.size ∧ w'.cell? ⟨w.heap.size, 0, none⟩ = some (.slice A n c) ∧ w'.cell? ⟨w.heap.size, 1, none⟩ = some (.slice B m d) ∧ w'.cell? ⟨g, k, none⟩ = some (.slice A' m c') ∧ Kept (Below W5.heap.size W5 w') from
            fun w' hX => ⟨by have := hX.size; omega, by have := hX.size; omega, (hX.cell (p := ⟨w.heap.size, 0, none⟩) xl5).trans x05, (hX.cell (p := ⟨w.heap.size, 1, none⟩) xl5).trans x15, (hX.cell (p := ⟨g, k, none⟩) gl5).trans c5, ⟨hX⟩⟩)
          clear hbB KX
          go_upto_region 8 with fail
          cases hl2 : lower (ksL ps) zs cs (-s)
          · have HL2 := Lib.hid hl2
            clear hl2
            go_region_held3 (fun w' => w.heap.size < w'.heap.size ∧ g < w'.heap.size ∧ w'.cell? ⟨w.heap.size, 0, none⟩ = some (.slice A n c) ∧ w'.cell? ⟨w.heap.size, 1, none⟩ = some (.slice B m d) ∧ w'.cell? ⟨g, k, none⟩ = some (.slice A' m c') ∧ Kept (Below W5.heap.size W5 w'))
              (first | (go_split_ands; exact KX5.out _ (bthen (Below.refl W5.heap.size W5).drew hbb (Nat.le_refl _))) | exact KX5.out _ (Below.refl W5.heap.size W5).drew | go_keep)
              (first | (go_at_call 158; go_split_ands; refine (sLower_any _ _ _ _ _ _ _ _ _ _ (-s) zs cs ns ps _ (kN.out.below (kB5.out.drew)) HOK.out (kZ.out.below (kB5.out.drew)) HZ.out (kC.out.below (kB5.out.drew)) HCS.out ⟨by omega, by omega⟩).mono ?_; rw [HL2.out]; rintro e5 wb ⟨rfl, hbb⟩))
            rename_i hh
            obtain ⟨xl8, gl8, x08, x18, c8, ⟨hbB8⟩⟩ := hh
            have hb8 := bthen kB5.out hbB8 kB5.out.size
            have HP2 := Lib.hid (show passT (ksL ps) css s (fs, t) (k + 1) = (zs, t + mv) by
              rw [HST.out, HP.out]
              exact passS_no HL1.out HL2.out)
            have hbE := bthen kV.out hb8 kV.out.size
            have hZE := kZO.out.below hb8
            clear kN kZ kZO kC kV kBwi kB5 hbb KX5
            go_wp2_with fail
            go_roundw
            case rel => exact ⟨k + 1, mv, A9, c9, zs, by omega, rfl, rfl, by go_num, HP2, htm, HZ, hZE, hbE⟩
            case measure => simp [intOf]; omega
          · have HL2 := Lib.hid hl2
            have HLL := Lib.hid hl2
            clear hl2
            go_region_held3 (fun w' => w.heap.size < w'.heap.size ∧ g < w'.heap.size ∧ w'.cell? ⟨w.heap.size, 0, none⟩ = some (.slice A n c) ∧ w'.cell? ⟨w.heap.size, 1, none⟩ = some (.slice B m d) ∧ w'.cell? ⟨g, k, none⟩ = some (.slice A' m c') ∧ Kept (Below W5.heap.size W5 w'))
              (first | (go_split_ands; exact KX5.out _ (bthen (Below.refl W5.heap.size W5).drew hbb (Nat.le_refl _))) | exact KX5.out _ (Below.refl W5.heap.size W5).drew | go_keep)
              (first | (go_at_call 158; go_split_ands; refine (sLower_any _ _ _ _ _ _ _ _ _ _ (-s) zs cs ns ps _ (kN.out.below (kB5.out.drew)) HOK.out (kZ.out.below (kB5.out.drew)) HZ.out (kC.out.below (kB5.out.drew)) HCS.out ⟨by omega, by omega⟩).mono ?_; rw [HL2.out]; rintro e5 wb ⟨rfl, hbb⟩))
            rename_i hh
            obtain ⟨xl8, gl8, x08, x18, c8, ⟨hbB8⟩⟩ := hh
            have hb8 := bthen kB5.out hbB8 kB5.out.size
            have HP2 := Lib.hid (show passT (ksL ps) css s (fs, t) (k + 1) = (addL zs cs (-s), t + (mv + 1)) by
              rw [HST.out, HP.out]
              exact passS_dn hmv HL1.out HL2.out)
            have HB1 := Lib.hid (HBD.out (-s) (.inr rfl))
            have HA1 := Lib.hid (HAL.out (-s))
            go_wp2_with (go_at_call 60; refine (sAdd_any _ _ _ _ _ (-s) zs cs _ (kZ.out.below hb8) (kC.out.below hb8) (by omega) HB1.out).mono ?_; rintro e6 w6 ⟨A6, c6, rfl, o6, hb6⟩; rw [HA1.out] at o6 ⊢)
            have hbE := bthen kV.out (bthen hb8 hb6 hb8.size) kV.out.size
            have hbF := hb8
            clear kN kZ kZO kC kV kBwi kB5 hbb KX5
            go_roundw
            case rel => exact ⟨k + 1, mv + 1, A6, c6, addL zs cs (-s), by omega, rfl, by go_num, by go_num, HP2, by omega, Lib.hid (lower_inR HLL.out), o6.mono (by have := hbF.size; omega), hbE⟩
            case measure => simp [intOf]; omega
        · have HL1 := Lib.hid hl1
          have HLL := Lib.hid hl1
          clear hl1
          go_region_held3 (fun w' => w.heap.size < w'.heap.size ∧ g < w'.heap.size ∧ w'.cell? ⟨w.heap.size, 0, none⟩ = some (.slice A n c) ∧ w'.cell? ⟨w.heap.size, 1, none⟩ = some (.slice B m d) ∧ w'.cell? ⟨g, k, none⟩ = some (.slice A' m c') ∧ Kept (Below wi.heap.size wi w'))
            (first | (go_split_ands; exact KX.out _ (bthen (Below.refl wi.heap.size wi).drew hbb (Nat.le_refl _))) | exact KX.out _ (Below.refl wi.heap.size wi).drew | go_keep)
            (first | (go_at_call 158; go_split_ands; refine (sLower_any _ _ _ _ _ _ _ _ _ _ s zs cs ns ps _ (kN.out.below (kBwi.out.drew)) HOK.out (kZ.out.below (kBwi.out.drew)) HZ.out (kC.out.below (kBwi.out.drew)) HCS.out ⟨by omega, by omega⟩).mono ?_; rw [HL1.out]; rintro e5 wb ⟨rfl, hbb⟩))
          rename_i hh
          obtain ⟨xl5, gl5, x05, x15, c5, ⟨hbB⟩⟩ := hh
          have HP2 := Lib.hid (show passT (ksL ps) css s (fs, t) (k + 1) = (addL zs cs s, t + (mv + 1)) by
            rw [HST.out, HP.out]
            exact passS_up hmv HLL.out)
          have HB1 := Lib.hid (HBD.out s (.inl rfl))
          have HA1 := Lib.hid (HAL.out s)
          go_wp2_with (go_at_call 60; refine (sAdd_any _ _ _ _ _ s zs cs _ (kZ.out.below hbB) (kC.out.below hbB) (by omega) HB1.out).mono ?_; rintro e6 w6 ⟨A6, c6, rfl, o6, hb6⟩; rw [HA1.out] at o6 ⊢)
          have hbE := bthen kV.out (bthen hbB hb6 hbB.size) kV.out.size
          have hbF := hbB
          clear kN kZ kZO kC kV kBwi hbb KX
          go_roundw
          case rel => exact ⟨k + 1, mv + 1, A6, c6, addL zs cs (s), by omega, rfl, by go_num, by go_num, Lib.hid HP2.out, by omega, Lib.hid (lower_inR HLL.out), o6.mono (by have := hbF.size; omega), hbE⟩
          case measure => simp [intOf]; omega
      · have hml : ¬ (mv : Int) < 5000 - (t : Int) := by omega
        have HE := Lib.hid (show R = (zs, t + mv) by
          rw [← HR.out, ← HP.out]
          exact passT_full (by rw [HP.out]; show 5000 ≤ t + mv; omega))
        go_wp2_with fail
        go_ret2
        rw [HE.out]
        exact ⟨A9, c9, rsi rfl rfl rfl (by simp; omega), hZ, hB⟩
    · have hkl : ¬ (k : Int) < (L : Int) := by omega
      have HE := Lib.hid (show R = (zs, t + mv) by
        rw [← HR.out, ← HP.out]
        exact (passT_all (by rw [HCL.out]; omega)).symm)
      go_wp2_with fail
      go_ret2
      rw [HE.out]
      exact ⟨A9, c9, rsi rfl rfl rfl (by simp; omega), hZ, hB⟩
end Go.Proofs.YtpgegfnhokhlmaaGreat
set_option linter.unusedVariables false
set_option maxRecDepth 100000
namespace Go.Proofs.YtpgegfnhokhlmaaGreat
open Go.ChangeShapes Go.WideShapes Go.ChangeAt Go.RowKit Go.Joins Go.Deep
attribute [local go_sem ↓] Go.wp_at_zero Go.wp_at_succ

/-- The cycles' numbers. -/
theorem cssL_v {es : Es} {n m : Nat} (hg : Good es n) (hm : es.length = m) : ∀ cs ∈ cssL es n, CyV m cs := by
  intro cs hcs i hi
  obtain ⟨ci, rfl, h1, h2⟩ := css_mem hcs
  exact cyc_vals hg h1 h2 (by omega)
/-- Relaxing the flows of a network. -/
def rlx (ps : List Pp) (n : Nat) (fs : List Int) (s : Nat) : List Int × Nat := relaxM (ksL ps) (cssL (esOf ps) n) s (fs, 0)
theorem rlx_ok {ps : List Pp} {n m s : Nat} {fs : List Int} (h : fs.length = m) (hr : inR fs = true) : (rlx ps n fs s).1.length = m ∧ inR (rlx ps n fs s).1 = true := relaxM_ok ⟨h, hr⟩
set_option maxHeartbeats 8000000 in
theorem sRelax_any (A B C : Option Addr) (n c m d e1 s0 : Nat) (fs : List Int) (ns : List Nd) (ps : List Pp) (w : World) (h : IsNet w A n c ns B m d ps) (hok : NetOk ns ps) (hf : Ints w C m fs) (hnil : C = none → e1 = 0) (hfr : inR fs = true) (hs : s0 ≤ 32768) :
    Calls Tryz.prog 52 #[.agg #[.slice A n c, .slice B m d], .slice C m e1, .int .i64 (s0 : Int)] w fun e w' => ∃ A' c', e = .returned (.tuple #[.slice A' m c', .int .i64 ((rlx ps n fs s0).2 : Int)]) ∧ Own w' w.heap.size A' m c' (rlx ps n fs s0).1 ∧ Below w.heap.size w w' := by
  have hln : ns.length = n := h.nodes.len
  have hm : ps.length = m := h.pipes.len
  have hm40 : m ≤ 40 := by have := hok.2.2.1; omega
  have hg : Good (esOf ps) n := by rw [← hln]; exact net_good hok
  have HOK := Lib.hid hok
  have HCV := Lib.hid (cssL_v hg (show (esOf ps).length = m by rw [esOf_len]; exact hm))
  have HFR := Lib.hid hfr
  have HNL := Lib.hid hnil
  have HCL := Lib.hid (show (chd (esOf ps) n).length ≤ 40 by have := chd_len (esOf ps) n; rw [esOf_len] at this; omega)
  obtain ⟨R, hR⟩ : ∃ y, rlx ps n fs s0 = y := ⟨_, rfl⟩
  have HR := Lib.hid hR
  unfold rlx at hR
  have HR2 := Lib.hid hR
  rw [HR.out]
  obtain ⟨css, hcss⟩ : ∃ y, cssL (esOf ps) n = y := ⟨_, rfl⟩
  rw [hcss] at HCV HR2
  have HCSS := Lib.hid hcss
  have bx := box_new w #[.slice A n c, .slice B m d] 33
  have hV : Below w.heap.size w (w.alloc (.cells #[.slice A n c, .slice B m d] 33)) := (Below.refl _ _).alloc (Nat.le_refl _) _
  clear hok hfr hR hln hg hcss hnil hm HR
  go_enter Tryz.func52, Tryz.ntmps52
  go_upto_region 1 with fail
  generalize (w.alloc (.cells #[.slice A n c, .slice B m d] 33)) = V at *
  have xl := bx.lt
  have x0 : V.cell? ⟨w.heap.size, 0, none⟩ = some (.slice A n c) := bx.cell 0
  have x1 : V.cell? ⟨w.heap.size, 1, none⟩ = some (.slice B m d) := bx.cell 1
  go_upto_region 2 with (go_at_call 109; refine (sBasis_any _ _ _ _ _ _ ns ps _ (h.below hV) HOK.out).mono ?_; rintro e1 w1 ⟨A1, c1, rfl, hC, hb1⟩)
  rw [HCSS.out] at hC
  generalize hL : (chd (esOf ps) n).length = L at *
  have hL40 : L ≤ 40 := HCL.out
  have hW1 := bthen hV hb1 hV.size
  have bx1 := bx.belowA hb1
  clear hL bx x0 x1 xl hb1
  go_upto_region 3 with (at_builtin; refine wpList_catI (w1.alloc (.cells #[] 2)) rfl _ _ rfl w1.heap.size _ _ _ [] _ _ _ _ HNL.out rfl rfl (own_empty w1 w1.heap.size (Nat.le_refl _)) ((hf.below hW1).alloc _) (by omega) (by omega) (by simp) ?_; intro A3 c3 w3 oZ hb3)
  rw [List.nil_append, Nat.zero_add] at *
  have hw1s : w.heap.size ≤ w1.heap.size := hW1.size
  have hbA : Below w1.heap.size w1 w3 := ((Below.refl w1.heap.size w1).alloc (Nat.le_refl _) _).trans hb3
  have hW3 := bthen hW1 hbA hW1.size
  have bx3 := bx1.belowA hbA
  have hC3 := hC.below hbA
  have hF3 : Own w3 w.heap.size A3 m c3 fs := oZ.mono (by omega)
  have hw3s := hW3.size
  have hN3 := h.below hW3
  clear h hf hC bx1 hW1 hbA hb3 oZ hV
  go_wp2_with fail
  go_loopw [2, 9, 10] (fun st ff tt wr => ∃ (s t : Nat) (A9 : Option Addr) (c9 : Nat) (zs : List Int), st = .int .i64 (s : Int) ∧ ff = .slice A9 m c9 ∧ tt = .int .i64 (t : Int) ∧ Hid (relaxM (ksL ps) css s (zs, t) = R) ∧ s ≤ 32768 ∧ t ≤ 5000 ∧ Hid (inR zs = true) ∧ Own wr w.heap.size A9 m c9 zs ∧ Below w3.heap.size w3 wr) (fun st _ tt _ => (intOf st).toNat * 5001 + (5000 - (intOf tt).toNat))
  case atStart => exact ⟨s0, 0, A3, c3, fs, rfl, rfl, rfl, HR2, hs, by omega, HFR, hF3, Below.refl _ _⟩
  case round =>
    obtain ⟨s, t, A9, c9, zs, rfl, rfl, rfl, HP, hs2, ht2, HZ, hZ, hb⟩ := hrel
    have hBW := bthen hW3 hb hW3.size
    by_cases hs1 : 1 ≤ s
    · have hsi : (1 : Int) ≤ (s : Int) := by omega
      by_cases ht1 : t < 5000
      · have hti : (t : Int) < 5000 := by omega
        have bw := bx3.belowA hb
        have xl := bw.lt
        have x0 : wr.cell? ⟨w.heap.size, 0, none⟩ = some (.slice A n c) := bw.cell 0
        have x1 : wr.cell? ⟨w.heap.size, 1, none⟩ = some (.slice B m d) := bw.cell 1
        have hN := hN3.below hb
        have hC := hC3.below hb
        have sw : IntKind.i64.wrap (5000 - (t : Int)) = 5000 - (t : Int) := IntWalk.i64_in _ (by omega)
        have HSK := Lib.hid (relaxM_pass (ks := ksL ps) (css := css) (s := s) (st := (zs, t)) hs1)
        have HMO := Lib.hid (passM_mono (ksL ps) css (s : Int) (zs, t))
        have HOKP := Lib.hid (passM_ok (ks := ksL ps) (css := css) (s := (s : Int)) (st := (zs, t)) (m := m) ⟨hZ.len, HZ.out⟩)
        obtain ⟨P, hP⟩ : ∃ y, passM (ksL ps) css (s : Int) (zs, t) = y := ⟨_, rfl⟩
        have HPP := Lib.hid hP
        rw [hP] at HSK HMO HOKP
        have hm1 := HMO.out.1
        have hm2 := HMO.out.2.1
        have hm3 : P.2 ≤ 5000 := by
          have e : max 5000 (zs, t).2 = 5000 := by show max 5000 t = 5000; omega
          rw [e] at hm2
          exact hm2
        have hm4 : t ≤ P.2 := hm1
        clear hm1 hm2 hP bw
        go_upto_region 6 with (go_at_call 110; refine (sPass_any _ _ _ _ _ _ _ _ _ _ _ _ _ (s : Int) t zs css ns ps _ hN HOK.out hZ hBW.size HZ.out hC HCV.out hL40 ⟨by omega, by omega⟩ ht2).mono ?_; rintro e6 w6 ⟨A6, c6, rfl, hZ6, hb6⟩)
        rw [HPP.out] at hZ6 ⊢
        have hb7 := bthen hb hb6 hb.size
        clear hb hb6 hN hC hZ x0 x1 xl
        by_cases hmv : P.2 = t
        · have t1 : ((P.2 : Int) - (t : Int) == 0) = true := by simp; omega
          have sx : IntKind.i64.wrap ((t : Int) + ((P.2 : Int) - (t : Int))) = (t : Int) + ((P.2 : Int) - (t : Int)) := IntWalk.i64_in _ (by omega)
          have HQ := Lib.hid (show relaxM (ksL ps) css (s / 2) (P.1, P.2) = R by
            rw [← HP.out, HSK.out, if_pos hmv])
          go_wp2_with fail
          go_roundw
          case rel => exact ⟨s / 2, P.2, A6, c6, P.1, by go_num, rfl, by go_num, HQ, by omega, hm3, Lib.hid HOKP.out.2, hZ6, hb7⟩
          case measure => simp [intOf]; omega
        · have t1 : ((P.2 : Int) - (t : Int) == 0) = false := by simp; omega
          have HQ := Lib.hid (show relaxM (ksL ps) css s (P.1, P.2) = R by
            rw [← HP.out, HSK.out, if_neg hmv])
          go_wp2_with fail
          go_roundw
          case rel => exact ⟨s, P.2, A6, c6, P.1, rfl, rfl, by go_num, HQ, hs2, hm3, Lib.hid HOKP.out.2, hZ6, hb7⟩
          case measure => simp [intOf]; omega
      · have hti : ¬ (t : Int) < 5000 := by omega
        have HE := Lib.hid (show R = (zs, t) by rw [← HP.out]; exact relaxM_full (by show 5000 ≤ t; omega) s)
        go_wp2_with fail
        go_ret2
        rw [HE.out]
        exact ⟨A9, c9, rfl, hZ, hBW⟩
    · have hsi : ¬ (1 : Int) ≤ (s : Int) := by omega
      obtain rfl : s = 0 := by omega
      have HE := Lib.hid (show R = (zs, t) by rw [← HP.out]; exact relaxM_zero _ _ _)
      go_wp2_with fail
      go_ret2
      rw [HE.out]
      exact ⟨A9, c9, rfl, hZ, hBW⟩
end Go.Proofs.YtpgegfnhokhlmaaGreat
set_option linter.unusedVariables false
set_option maxRecDepth 100000
namespace Go.Proofs.YtpgegfnhokhlmaaGreat
open Go.ChangeShapes Go.WideShapes Go.ChangeAt Go.RowKit Go.Joins Go.Deep
attribute [local go_sem ↓] Go.wp_at_zero Go.wp_at_succ

/-- A multiple of a cycle added to the first j flows. -/
def mvTo (fs cs : List Int) (a : Int) (j : Nat) : List Int := (List.range fs.length).map fun i => if i < j then fs.getD i 0 + a * cs.getD i 0 else fs.getD i 0
theorem mvTo_len (fs cs : List Int) (a : Int) (j : Nat) : (mvTo fs cs a j).length = fs.length := by simp [mvTo]
theorem mvTo_at {fs cs : List Int} {a : Int} {i j : Nat} (hi : i < fs.length) : (mvTo fs cs a j)[i]? = some (if i < j then fs.getD i 0 + a * cs.getD i 0 else fs.getD i 0) := by simp [mvTo, hi]
theorem mvTo_zero (fs cs : List Int) (a : Int) : mvTo fs cs a 0 = fs := by
  apply List.ext_getElem?
  intro i
  by_cases hi : i < fs.length
  · rw [mvTo_at hi, if_neg (by omega), getD_some rfl hi]
  · rw [List.getElem?_eq_none (by rw [mvTo_len]; omega), List.getElem?_eq_none (by omega)]
theorem mvTo_all (fs cs : List Int) (a : Int) : mvTo fs cs a fs.length = addL fs cs a := by
  unfold mvTo addL
  apply List.map_congr_left
  intro i hi
  rw [if_pos (List.mem_range.1 hi)]
theorem mvTo_next {fs cs : List Int} {a : Int} {j : Nat} (hj : j < fs.length) : (mvTo fs cs a j).getD j 0 = fs.getD j 0 ∧ (mvTo fs cs a j).set j (fs.getD j 0 + a * cs.getD j 0) = mvTo fs cs a (j + 1) := by
  constructor
  · rw [List.getD_eq_getElem?_getD, mvTo_at hj, if_neg (by omega)]
    rfl
  · apply List.ext_getElem?
    intro i
    by_cases hi : i < fs.length
    · rw [mvTo_at hi]
      by_cases e : j = i
      · subst e
        rw [List.getElem?_set_self (by rw [mvTo_len]; exact hj), if_pos (by omega)]
      · rw [List.getElem?_set_ne e, mvTo_at hi]
        by_cases h2 : i < j
        · rw [if_pos h2, if_pos (by omega)]
        · rw [if_neg h2, if_neg (by omega)]
    · rw [List.getElem?_eq_none (by rw [List.length_set, mvTo_len]; omega), List.getElem?_eq_none (by rw [mvTo_len]; omega)]
/-- The cycles in memory, their slices told. -/
def CycV (w : World) (B : Nat) (A : Option Addr) (n c m : Nat) (vs : List (Option Addr × Nat)) (css : List (List Int)) : Prop := OwnR (encS m) 1 26 w B A n c vs ∧ vs.length = css.length ∧ ∀ (i : Nat) (v : Option Addr × Nat) (cs : List Int), vs[i]? = some v → css[i]? = some cs → Own w B v.1 m v.2 cs
theorem CycV.below {w w' : World} {B : Nat} {A : Option Addr} {n c m : Nat} {vs : List (Option Addr × Nat)} {css : List (List Int)} (h : CycV w B A n c m vs css) (hb : Below w.heap.size w w') : CycV w' B A n c m vs css := ⟨h.1.below hb, h.2.1, fun i v cs hv hc => (h.2.2 i v cs hv hc).below hb⟩
theorem CycV.low {w : World} {B : Nat} {A : Option Addr} {n c m : Nat} {vs : List (Option Addr × Nat)} {css : List (List Int)} (h : CycV w B A n c m vs css) {a : Addr} (ha : a.block < B) (u : Value) : CycV (w.setCell a u) B A n c m vs css :=
  ⟨⟨ownsRow_setCell_below h.1.1 ha u, h.1.2⟩, h.2.1, fun i v cs hv hc => ⟨ownsRow_setCell_below (h.2.2 i v cs hv hc).1 ha u, (h.2.2 i v cs hv hc).2⟩⟩
theorem CycV.get {w : World} {B g : Nat} {n c m : Nat} {vs : List (Option Addr × Nat)} {css : List (List Int)} (h : CycV w B (some ⟨g, 0, none⟩) n c m vs css) {i : Nat} (hi : i < n) {v : Option Addr × Nat} {cs : List Int} (hv : vs[i]? = some v) (hc : css[i]? = some cs) : w.cell? ⟨g, i, none⟩ = some (.slice v.1 m v.2) ∧ Own w B v.1 m v.2 cs ∧ g < w.heap.size := by
  obtain ⟨x, hx, hcell, _, _, hg⟩ := h.1.cells (by decide) hi
  obtain rfl : x = v := Option.some.inj (hx.symm.trans hv)
  have := hcell 0 _ rfl
  rw [Nat.mul_one, Nat.add_zero] at this
  exact ⟨this, h.2.2 i x cs hv hc, hg⟩
/-- What stands in memory while flows are relaxed. -/
structure RS (w wr : World) (B1 : Nat) (A : Option Addr) (n c : Nat) (B : Option Addr) (m d : Nat) (Ao : Option Addr) (co : Nat) (zs : List Int) (Ac : Option Addr) (L cc : Nat) (vs : List (Option Addr × Nat)) (css : List (List Int)) : Prop where
  own : Own wr (w.heap.size + 1) Ao m co zs
  lt : ∀ g, Ao.map (·.block) = some g → g < B1
  cyc : CycV wr B1 Ac L cc m vs css
  box : Box wr w.heap.size #[.slice A n c, .slice B m d] 33
  bel : Below w.heap.size w wr
  sz : B1 ≤ wr.heap.size
section
variable {w wr w' : World} {B1 : Nat} {A : Option Addr} {n c : Nat} {B : Option Addr} {m d : Nat} {Ao : Option Addr} {co : Nat} {zs : List Int} {Ac : Option Addr} {L cc : Nat} {vs : List (Option Addr × Nat)} {css : List (List Int)}
theorem RS.below (h : RS w wr B1 A n c B m d Ao co zs Ac L cc vs css) (hb : Below wr.heap.size wr w') : RS w w' B1 A n c B m d Ao co zs Ac L cc vs css :=
  ⟨h.own.below hb, h.lt, h.cyc.below hb, h.box.belowA hb, bthen h.bel hb h.bel.size, Nat.le_trans h.sz hb.size⟩
theorem RS.set {g : Nat} (h : RS w wr B1 A n c B m d (some ⟨g, 0, none⟩) co zs Ac L cc vs css) {i : Nat} (hi : i < m) {z : Int} (hz : I64 z) : RS w (wr.setCell ⟨g, i, none⟩ (.int .i64 z)) B1 A n c B m d (some ⟨g, 0, none⟩) co (zs.set i z) Ac L cc vs css := by
  have hg := h.own.lt g rfl
  have h1 := h.lt g rfl
  exact ⟨h.own.set_ i hz, h.lt, h.cyc.low (a := ⟨g, i, none⟩) h1 _, h.box.other (a := ⟨g, i, none⟩) (by simp; omega) _, h.bel.setCell (p := ⟨g, i, none⟩) (by simp; omega) _, by simp [World.setCell]; exact h.sz⟩
end
/-- A row below a base stays under what happens from that base on. -/
theorem Own.keepLt {w w' : World} {B B1 : Nat} {A : Option Addr} {n c : Nat} {zs : List Int} (h : Own w B A n c zs) (hb : Below B1 w w') (hl : ∀ g, A.map (·.block) = some g → g < B1) : Own w' B A n c zs := by
  refine ⟨⟨h.1.1, ?_⟩, h.2⟩
  rcases h.1.2 with hn | ⟨g, cap, cur, hv, hB, hg, rest⟩
  · exact .inl hn
  · right
    have hA : A = some ⟨g, 0, none⟩ := by injection hv
    exact ⟨g, cap, cur, hv, hB, (hb.block g (hl g (by rw [hA]; rfl))).trans hg, rest⟩
/-- 1 for true. -/
def boolN : Value → Nat
  | .bool true => 1
  | _ => 0
set_option maxHeartbeats 20000000 in
theorem relax_any (A B C : Option Addr) (n c m d e1 s0 : Nat) (fs : List Int) (ns : List Nd) (ps : List Pp) (w : World) (h : IsNet w A n c ns B m d ps) (hok : NetOk ns ps) (hf : Ints w C m fs) (hfr : inR fs = true) (hs : s0 ≤ 32768) :
    Calls Tryz.prog 80 #[.agg #[.slice A n c, .slice B m d], .slice C m e1, .int .i64 (s0 : Int)] w fun e w' => ∃ A' c', e = .returned (.tuple #[.slice A' m c', .int .i64 ((rlx ps n fs s0).2 : Int)]) ∧ Own w' w.heap.size A' m c' (rlx ps n fs s0).1 ∧ Below w.heap.size w w' := by
  have hln : ns.length = n := h.nodes.len
  have hm : ps.length = m := h.pipes.len
  have hm40 : m ≤ 40 := by have := hok.2.2.1; omega
  have hg : Good (esOf ps) n := by rw [← hln]; exact net_good hok
  have HOK := Lib.hid hok
  have HCV := Lib.hid (cssL_v hg (show (esOf ps).length = m by rw [esOf_len]; exact hm))
  have HFR := Lib.hid hfr
  have HCL := Lib.hid (show (chd (esOf ps) n).length ≤ 40 by have := chd_len (esOf ps) n; rw [esOf_len] at this; omega)
  have HCM := Lib.hid (show ∀ ci ∈ chd (esOf ps) n, ci < m by
    intro ci hci
    obtain ⟨a1, _⟩ := chd_chord hci
    rw [esOf_len] at a1
    omega)
  have HYL := Lib.hid (fun ci => show (cyc (esOf ps) n ci).length = m by rw [cyc_len hg, esOf_len, hm])
  have HCA := Lib.hid (cssTo_all (es := esOf ps) (n := n) (Nat.le_refl _))
  have HCS0 := Lib.hid (fun k ci h => cssTo_step (es := esOf ps) (n := n) (k := k) (ci := ci) h)
  have HC0 := Lib.hid (show cssTo (esOf ps) n 0 = [] from rfl)
  have HFL := Lib.hid hf.len
  obtain ⟨R, hR⟩ : ∃ y, rlx ps n fs s0 = y := ⟨_, rfl⟩
  have HR := Lib.hid hR
  unfold rlx at hR
  have HR2 := Lib.hid hR
  rw [HR.out]
  obtain ⟨css, hcss⟩ : ∃ y, cssL (esOf ps) n = y := ⟨_, rfl⟩
  rw [hcss] at HCV HR2 HCA
  have bx := box_new w #[.slice A n c, .slice B m d] 33
  have hV : Below w.heap.size w (w.alloc (.cells #[.slice A n c, .slice B m d] 33)) := (Below.refl _ _).alloc (Nat.le_refl _) _
  have hsV : (w.alloc (.cells #[.slice A n c, .slice B m d] 33)).heap.size = w.heap.size + 1 := by simp
  clear hok hfr hR hln hg hcss hm HR
  go_enter Tryz.func80, Tryz.ntmps80
  go_upto_region 1 with fail
  generalize (w.alloc (.cells #[.slice A n c, .slice B m d] 33)) = V at *
  go_upto_region 2 with (go_at_call 65; refine (clone_any (hf.below hV) (by omega)).mono ?_; rintro e1 w1 ⟨Ao, co, rfl, oO, hb1⟩)
  have hW1 := bthen hV hb1 hV.size
  have bx1 := bx.belowA hb1
  have hs1 := hb1.size
  have oO1 : Own w1 (w.heap.size + 1) Ao m co fs := oO.mono (by omega)
  have hlt1 := Lib.hid (fun g hg => (oO.lt g hg).2)
  have xl := bx1.lt
  have x0 : w1.cell? ⟨w.heap.size, 0, none⟩ = some (.slice A n c) := bx1.cell 0
  have x1 : w1.cell? ⟨w.heap.size, 1, none⟩ = some (.slice B m d) := bx1.cell 1
  have HN := Lib.hid h
  clear oO bx hb1 hf h
  go_upto_region 4 with (go_at_call 91; refine (chords_any _ _ _ _ _ _ ns ps _ (HN.out.below hW1) HOK.out).mono ?_; rintro e2 w2 ⟨A5, c5, rfl, o5, hb2⟩)
  rw [cN_len] at o5 ⊢
  have HLN : Hid ((chd (esOf ps) n).length ≤ 40) := HCL
  generalize hL : (chd (esOf ps) n).length = L at *
  have HLE := Lib.hid hL
  have hL40 : L ≤ 40 := HLN.out
  have hI0 : RS w w2 w2.heap.size A n c B m d Ao co fs none 0 0 [] [] := ⟨oO1.below hb2, fun g hg => Nat.lt_of_lt_of_le (hlt1.out g hg) hb2.size, ⟨ownR_nil _ _ _ _ _, rfl, fun i v cs hv => by simp at hv⟩, bx1.belowA hb2, bthen hW1 hb2 hW1.size, Nat.le_refl _⟩
  clear hL x0 x1 xl oO1 bx1 hW1 hb2 hV hs1
  obtain ⟨B1, hB1⟩ : ∃ y, w2.heap.size = y := ⟨_, rfl⟩
  rw [hB1] at hI0
  have hwB : w.heap.size < B1 := by rw [← hB1]; exact hI0.box.lt
  have hb0 : Below w2.heap.size w2 w2 := Below.refl _ _
  go_loopw [9, 26] (fun cc ii wr => ∃ (k : Nat) (A2 : Option Addr) (c2 : Nat) (vs : List (Option Addr × Nat)), k ≤ L ∧ ii = .int .i64 (k : Int) ∧ cc = .slice A2 k c2 ∧ RS w wr B1 A n c B m d Ao co fs A2 k c2 vs (cssTo (esOf ps) n k) ∧ Below w2.heap.size w2 wr) (fun _ ii _ => L - (intOf ii).toNat)
  case atStart => exact ⟨0, none, 0, [], Nat.zero_le _, rfl, rfl, by rw [HC0.out]; exact hI0, hb0⟩
  case round =>
    clear hI0 hb0
    obtain ⟨k, A2, c2, vs, hk, rfl, rfl, hI, hb⟩ := hrel
    by_cases hlt : k < L
    · have hkl : (k : Int) < (L : Int) := by omega
      have k0 : (0 : Int) ≤ (k : Int) := by omega
      obtain ⟨b5, f5, z5, rfl, hb5l, hz5, _, hc5⟩ := (o5.below hb).ints.at_ hlt
      obtain ⟨ci, hi, rfl⟩ := cN_get hz5
      have hcm := HCM.out ci (List.mem_of_getElem? hi)
      have HST := Lib.hid (HCS0.out k ci hi)
      have HYC := Lib.hid (HYL.out ci)
      have xl := hI.box.lt
      have x0 : wr.cell? ⟨w.heap.size, 0, none⟩ = some (.slice A n c) := hI.box.cell 0
      have x1 : wr.cell? ⟨w.heap.size, 1, none⟩ = some (.slice B m d) := hI.box.cell 1
      clear hz5 hi
      go_wp2_with (first | (go_at_call 63; refine (cycleOf_any _ _ _ _ _ _ ci ns ps _ (HN.out.below hI.bel) HOK.out hcm).mono ?_; rintro e6 w6 ⟨A6, c6, rfl, o6, hb6⟩; rw [HYC.out] at o6 ⊢; have hI6 := hI.below hb6; have hb7 := bthen hb hb6 hb.size; have hsz6 := hI6.sz; have o7 := o6.mono hI.sz; clear hI hb x0 x1) | (at_builtin; refine wpList_pushC w6 rfl _ _ rfl B1 _ _ _ _ _ _ _ _ _ rfl rfl rfl ⟨vs, hI6.cyc⟩ o7 (by omega) hsz6 ?_; intro g9 c9 w9 hO9 hb9))
      obtain ⟨vs9, hV9⟩ := hO9.out
      have hI9 : RS w w9 B1 A n c B m d Ao co fs (some ⟨g9, 0, none⟩) (k + 1) c9 vs9 (cssTo (esOf ps) n k ++ [cyc (esOf ps) n ci]) := ⟨hI6.own.keepLt hb9 hI6.lt, hI6.lt, hV9, hI6.box.below hb9 (by have := hI6.sz; omega), hI6.bel.trans (hb9.mono (by omega)), by have := hb9.size; omega⟩
      go_roundw
      case rel => exact ⟨k + 1, _, _, vs9, by omega, by go_num, rfl, by rw [HST.out]; exact hI9, hb7.trans (hb9.mono (by omega))⟩
      case measure => simp [intOf]; omega
    · obtain rfl : L = k := by omega
      have hkl : ¬ (L : Int) < (L : Int) := by omega
      rw [HCA.out] at hI
      obtain ⟨Ac, hAc⟩ : ∃ y, A2 = y := ⟨_, rfl⟩
      obtain ⟨cc, hcc⟩ : ∃ y, c2 = y := ⟨_, rfl⟩
      subst hAc hcc
      clear o5 hb HCA HCS0 HC0 HYL HCM
      go_wp2_with fail
      go_loopw [2, 12] (fun st tt wq => ∃ (s t : Nat) (zs : List Int), st = .int .i64 (s : Int) ∧ tt = .int .i64 (t : Int) ∧ Hid (relaxM (ksL ps) css s (zs, t) = R) ∧ s ≤ 32768 ∧ t ≤ 5000 ∧ Hid (inR zs = true) ∧ RS w wq B1 A n c B m d Ao co zs A2 L c2 vs css) (fun st _ _ => (intOf st).toNat)
      case atStart => exact ⟨s0, 0, fs, rfl, rfl, HR2, hs, by omega, HFR, hI⟩
      case round =>
        clear hI
        obtain ⟨s, t, zs, rfl, rfl, HP, hs2, ht2, HZ, hI⟩ := hrel
        by_cases hs1 : 0 < s
        · have hsi : (0 : Int) < (s : Int) := by omega
          go_wp2_with fail
          go_loopw [12, 13] (fun tt bb wq => ∃ (t : Nat) (b : Bool) (zs : List Int), tt = .int .i64 (t : Int) ∧ bb = .bool b ∧ Hid (relaxM (ksL ps) css (if b = true then s else s / 2) (zs, t) = R) ∧ t ≤ 5000 ∧ Hid (inR zs = true) ∧ RS w wq B1 A n c B m d Ao co zs A2 L c2 vs css) (fun tt bb _ => boolN bb + (5000 - (intOf tt).toNat))
          case atStart => exact ⟨t, true, zs, rfl, rfl, HP, ht2, HZ, hI⟩
          case round =>
            clear hI HP HZ ht2
            obtain ⟨t0, b, zs0, rfl, rfl, HP0, ht0, HZ0, hI⟩ := hrel
            cases b
            · go_wp2_with fail
              go_roundw
              case rel => exact ⟨s / 2, t0, zs0, by go_num, rfl, HP0, by omega, ht0, HZ0, hI⟩
              case measure => simp [intOf]; omega
            · replace HP0 : Hid (relaxM (ksL ps) css s (zs0, t0) = R) := HP0
              have HP00 := Lib.hid (passT_zero (ksL ps) css (s : Int) (zs0, t0))
              go_wp2_with fail
              go_loopw [12, 13, 44] (fun tt bb ii wq => ∃ (k t : Nat) (zs : List Int) (b : Bool), k ≤ L ∧ tt = .int .i64 (t : Int) ∧ ii = .int .i64 (k : Int) ∧ bb = .bool b ∧ Hid (passT (ksL ps) css (s : Int) (zs0, t0) k = (zs, t)) ∧ Hid (inR zs = true) ∧ t ≤ 5000 ∧ (b = true ↔ t0 < t) ∧ RS w wq B1 A n c B m d Ao co zs A2 L c2 vs css) (fun _ _ ii _ => L - (intOf ii).toNat)
              case atStart => exact ⟨0, t0, zs0, false, Nat.zero_le _, rfl, rfl, rfl, HP00, HZ0, ht0, ⟨(fun h => by cases h), fun h => absurd h (by omega)⟩, hI⟩
              case round =>
                clear hI
                obtain ⟨k, t, zs, b, hk, rfl, rfl, rfl, HPT, HZ, ht5', HB, hI⟩ := hrel
                by_cases hkL : k < L
                · obtain ⟨g, rfl, _, _⟩ := hI.cyc.1.form (by omega)
                  obtain ⟨cs, hcs⟩ : ∃ y, css[k]? = some y := ⟨_, List.getElem?_eq_getElem (by rw [← hI.cyc.2.1, hI.cyc.1.len (by decide)]; exact hkL)⟩
                  obtain ⟨⟨A8, c8⟩, hv⟩ : ∃ y, vs[k]? = some y := ⟨_, List.getElem?_eq_getElem (by rw [hI.cyc.1.len (by decide)]; exact hkL)⟩
                  have HCS := Lib.hid (HCV.out cs (List.mem_of_getElem? hcs))
                  have HCI := Lib.hid (show ∀ wq : World, CycV wq B1 (some ⟨g, 0, none⟩) L c2 m vs css → Ints wq A8 m cs from fun wq hq => (hq.get hkL hv hcs).2.1.ints)
                  have HST := Lib.hid (passT_succ (ks := ksL ps) (s := (s : Int)) (st := (zs0, t0)) hcs)
                  have htt : t0 ≤ t := by
                    have h1 := (passM_mono (ksL ps) (css.take k) (s : Int) (zs0, t0)).1
                    have h2 : passM (ksL ps) (css.take k) (s : Int) (zs0, t0) = (zs, t) := HPT.out
                    rw [h2] at h1
                    exact h1
                  have hcell := (hI.cyc.get hkL hv hcs).1
                  have hgl := (hI.cyc.get hkL hv hcs).2.2
                  have HZL := Lib.hid hI.own.len
                  have k0 : (0 : Int) ≤ (k : Int) := by omega
                  have k1 : (k : Int) < (L : Int) := by omega
                  have sn : IntKind.i64.wrap (-(s : Int)) = -(s : Int) := IntWalk.i64_in _ (by omega)
                  have HLW1 := Lib.hid (lower_iff (ksL ps) zs cs (s : Int))
                  have HLW2 := Lib.hid (lower_iff (ksL ps) zs cs (-(s : Int)))
                  obtain ⟨v1, hv1⟩ : ∃ y, inR (addL zs cs (s : Int)) = y := ⟨_, rfl⟩
                  obtain ⟨C1, hc1⟩ : ∃ y, chg (ksL ps) zs cs (s : Int) = y := ⟨_, rfl⟩
                  obtain ⟨v2, hv2⟩ : ∃ y, inR (addL zs cs (-(s : Int))) = y := ⟨_, rfl⟩
                  obtain ⟨C2, hc2⟩ : ∃ y, chg (ksL ps) zs cs (-(s : Int)) = y := ⟨_, rfl⟩
                  rw [hv1, hc1] at HLW1
                  rw [hv2, hc2] at HLW2
                  have HV1 := Lib.hid hv1
                  have HV2 := Lib.hid hv2
                  have HQ1 := Lib.hid hc1
                  have HQ2 := Lib.hid hc2
                  have xl := hI.box.lt
                  have x0 : wr.cell? ⟨w.heap.size, 0, none⟩ = some (.slice A n c) := hI.box.cell 0
                  have x1 : wr.cell? ⟨w.heap.size, 1, none⟩ = some (.slice B m d) := hI.box.cell 1
                  clear hcs hv hv1 hv2 hc1 hc2
                  go_upto_region 19 with (go_at_call 126; refine (change_any _ _ _ _ _ _ _ _ _ _ (s : Int) zs cs ns ps _ (HN.out.below hI.bel) HOK.out hI.own.ints HZ.out (HCI.out _ hI.cyc) HCS.out ⟨by omega, by omega⟩).mono ?_; rw [HV1.out, HQ1.out]; rintro e6 w6 ⟨rfl, hb6⟩)
                  replace hI := hI.below hb6
                  clear hb6 x0 x1 xl hcell hgl
                  have tri1 : (v1 = true ∧ C1 < 0) ∨ v1 = false ∨ (v1 = true ∧ 0 ≤ C1) := by
                    cases v1
                    · exact .inr (.inl rfl)
                    · by_cases h : C1 < 0
                      · exact .inl ⟨rfl, h⟩
                      · exact .inr (.inr ⟨rfl, by omega⟩)
                  rcases tri1 with ⟨rfl, hC1⟩ | rfl | ⟨rfl, hC1⟩
                  · have HLO := Lib.hid (show lower (ksL ps) zs cs (s : Int) = true by rw [HLW1.out]; simp [hC1])
                    have HPS := Lib.hid (fun h5 => passS_up (ks := ksL ps) (cs := cs) (s := (s : Int)) (st := (zs, t)) h5 HLO.out)
                    go_upto_region 23 with fail
                    have hA0 : (((s : Int) : Int) = (s : Int) ∨ ((s : Int) : Int) = -(s : Int)) := by first | exact .inl rfl | exact .inr rfl
                    have HLL := Lib.hid (lower_inR HLO.out)
                    by_cases ht5 : t = 5000
                    · have t5 : ((t : Int) == 5000) = true := by simp; omega
                      have HE := Lib.hid (show R = (zs, t) by
                        rw [← HP0.out]
                        rw [relaxM_pass hs1, passT_full (k := k) (by rw [HPT.out]; show 5000 ≤ t; omega), HPT.out]
                        exact relaxM_full (by show 5000 ≤ t; omega) _)
                      go_wp2_with fail
                      go_ret2
                      rw [HE.out]
                      exact ⟨Ao, co, rsi rfl rfl rfl (by show _ = (t : Int); omega), hI.own.mono (by omega), hI.bel⟩
                    · have t5 : ((t : Int) == 5000) = false := by simp; omega
                      have HPN := Lib.hid (show passT (ksL ps) css (s : Int) (zs0, t0) (k + 1) = (addL zs cs ((s : Int)), t + 1) by
                        rw [HST.out, HPT.out]
                        exact HPS.out (by show t < 5000; omega))
                      have HM0 := Lib.hid (mvTo_zero zs cs ((s : Int)))
                      have HMA := Lib.hid (show mvTo zs cs ((s : Int)) m = addL zs cs ((s : Int)) by rw [← HZL.out]; exact mvTo_all zs cs ((s : Int)))
                      go_wp2_with fail
                      go_loopw [85] (fun ii wq => ∃ (j : Nat), j ≤ m ∧ ii = .int .i64 (j : Int) ∧ RS w wq B1 A n c B m d Ao co (mvTo zs cs ((s : Int)) j) (some ⟨g, 0, none⟩) L c2 vs css) (fun ii _ => m - (intOf ii).toNat)
                      case atStart => exact ⟨0, Nat.zero_le _, rfl, by rw [HM0.out]; exact hI⟩
                      case round =>
                        clear hI
                        obtain ⟨j, hj, rfl, hI⟩ := hrel
                        by_cases hjm : j < m
                        · obtain ⟨go, rfl, hgo1, hgo2⟩ := hI.own.form (by omega)
                          obtain ⟨h1, h2⟩ := mvTo_next (fs := zs) (cs := cs) (a := (s : Int)) (j := j) (by rw [HZL.out]; exact hjm)
                          have hc1 := hI.own.atD hjm
                          rw [h1] at hc1
                          have HN2 := Lib.hid h2
                          have co1 := hc1.1
                          have co2 := hc1.2.1
                          have co3 := hc1.2.2.2
                          obtain ⟨bz, oz, rfl, hbz, hcz⟩ := (HCI.out _ hI.cyc).atD hjm
                          have hfr := inR_at HZ.out (i := j) (by rw [HZL.out]; exact hjm)
                          have hzr := HCS.out j hjm
                          obtain ⟨f, hf⟩ : ∃ y, zs.getD j 0 = y := ⟨_, rfl⟩
                          obtain ⟨z, hz⟩ : ∃ y, cs.getD j 0 = y := ⟨_, rfl⟩
                          rw [hf] at co1 hfr HN2
                          rw [hz] at hcz hzr HN2
                          have hza : z * ((s : Int)) = 0 ∨ z * ((s : Int)) = (s : Int) ∨ z * ((s : Int)) = -((s : Int)) := by
                            rcases hzr with e | e | e <;> rw [e] <;> omega
                          have w1 : IntKind.i64.wrap (z * ((s : Int))) = z * ((s : Int)) := IntWalk.i64_in _ (by omega)
                          have w2 : IntKind.i64.wrap (f + z * ((s : Int))) = f + z * ((s : Int)) := IntWalk.i64_in _ (by omega)
                          have hI2 := hI.set hjm (z := f + z * ((s : Int))) (WalkArith.wf_i64 (by omega))
                          have i0 : (0 : Int) ≤ (j : Int) := by omega
                          have i1 : (j : Int) < (m : Int) := by omega
                          have HI2 := Lib.hid hI2
                          have HN3 := Lib.hid (show (mvTo zs cs ((s : Int)) j).set j (f + z * ((s : Int))) = mvTo zs cs ((s : Int)) (j + 1) by rw [Int.mul_comm z]; exact HN2.out)
                          clear hI hI2 hc1 h1 h2 hf hz hza
                          go_wp2_with fail
                          go_roundw
                          case rel => exact ⟨j + 1, by omega, by go_num, by rw [← HN3.out]; exact HI2.out⟩
                          case measure => simp [intOf]; omega
                        · obtain rfl : j = m := by omega
                          rw [HMA.out] at hI
                          go_wp2_with fail
                          go_roundw
                          case rel => exact ⟨k + 1, t + 1, addL zs cs ((s : Int)), true, by omega, by go_num, by go_num, rfl, HPN, HLL, by omega, ⟨fun _ => by omega, fun _ => rfl⟩, hI⟩
                          case measure => simp [intOf]; omega
                  all_goals
                    have HN1 := Lib.hid (show lower (ksL ps) zs cs (s : Int) = false by rw [HLW1.out]; first | rfl | (simp; omega))
                    have xl := hI.box.lt
                    have x0 : w6.cell? ⟨w.heap.size, 0, none⟩ = some (.slice A n c) := hI.box.cell 0
                    have x1 : w6.cell? ⟨w.heap.size, 1, none⟩ = some (.slice B m d) := hI.box.cell 1
                    go_upto_region 22 with (go_at_call 126; refine (change_any _ _ _ _ _ _ _ _ _ _ (-(s : Int)) zs cs ns ps _ (HN.out.below hI.bel) HOK.out hI.own.ints HZ.out (HCI.out _ hI.cyc) HCS.out ⟨by omega, by omega⟩).mono ?_; rw [HV2.out, HQ2.out]; rintro e7 w7 ⟨rfl, hb7⟩)
                    replace hI := hI.below hb7
                    clear hb7 x0 x1 xl
                    have tri2 : (v2 = true ∧ C2 < 0) ∨ v2 = false ∨ (v2 = true ∧ 0 ≤ C2) := by
                      cases v2
                      · exact .inr (.inl rfl)
                      · by_cases h : C2 < 0
                        · exact .inl ⟨rfl, h⟩
                        · exact .inr (.inr ⟨rfl, by omega⟩)
                    rcases tri2 with ⟨rfl, hC2⟩ | rfl | ⟨rfl, hC2⟩
                    · have HLO := Lib.hid (show lower (ksL ps) zs cs (-(s : Int)) = true by rw [HLW2.out]; simp [hC2])
                      have HPS := Lib.hid (fun h5 => passS_dn (ks := ksL ps) (cs := cs) (s := (s : Int)) (st := (zs, t)) h5 HN1.out HLO.out)
                      go_upto_region 23 with fail
                      have hA0 : ((-(s : Int) : Int) = (s : Int) ∨ (-(s : Int) : Int) = -(s : Int)) := by first | exact .inl rfl | exact .inr rfl
                      have HLL := Lib.hid (lower_inR HLO.out)
                      by_cases ht5 : t = 5000
                      · have t5 : ((t : Int) == 5000) = true := by simp; omega
                        have HE := Lib.hid (show R = (zs, t) by
                          rw [← HP0.out]
                          rw [relaxM_pass hs1, passT_full (k := k) (by rw [HPT.out]; show 5000 ≤ t; omega), HPT.out]
                          exact relaxM_full (by show 5000 ≤ t; omega) _)
                        go_wp2_with fail
                        go_ret2
                        rw [HE.out]
                        exact ⟨Ao, co, rsi rfl rfl rfl (by show _ = (t : Int); omega), hI.own.mono (by omega), hI.bel⟩
                      · have t5 : ((t : Int) == 5000) = false := by simp; omega
                        have HPN := Lib.hid (show passT (ksL ps) css (s : Int) (zs0, t0) (k + 1) = (addL zs cs (-(s : Int)), t + 1) by
                          rw [HST.out, HPT.out]
                          exact HPS.out (by show t < 5000; omega))
                        have HM0 := Lib.hid (mvTo_zero zs cs (-(s : Int)))
                        have HMA := Lib.hid (show mvTo zs cs (-(s : Int)) m = addL zs cs (-(s : Int)) by rw [← HZL.out]; exact mvTo_all zs cs (-(s : Int)))
                        go_wp2_with fail
                        go_loopw [85] (fun ii wq => ∃ (j : Nat), j ≤ m ∧ ii = .int .i64 (j : Int) ∧ RS w wq B1 A n c B m d Ao co (mvTo zs cs (-(s : Int)) j) (some ⟨g, 0, none⟩) L c2 vs css) (fun ii _ => m - (intOf ii).toNat)
                        case atStart => exact ⟨0, Nat.zero_le _, rfl, by rw [HM0.out]; exact hI⟩
                        case round =>
                          clear hI
                          obtain ⟨j, hj, rfl, hI⟩ := hrel
                          by_cases hjm : j < m
                          · obtain ⟨go, rfl, hgo1, hgo2⟩ := hI.own.form (by omega)
                            obtain ⟨h1, h2⟩ := mvTo_next (fs := zs) (cs := cs) (a := -(s : Int)) (j := j) (by rw [HZL.out]; exact hjm)
                            have hc1 := hI.own.atD hjm
                            rw [h1] at hc1
                            have HN2 := Lib.hid h2
                            have co1 := hc1.1
                            have co2 := hc1.2.1
                            have co3 := hc1.2.2.2
                            obtain ⟨bz, oz, rfl, hbz, hcz⟩ := (HCI.out _ hI.cyc).atD hjm
                            have hfr := inR_at HZ.out (i := j) (by rw [HZL.out]; exact hjm)
                            have hzr := HCS.out j hjm
                            obtain ⟨f, hf⟩ : ∃ y, zs.getD j 0 = y := ⟨_, rfl⟩
                            obtain ⟨z, hz⟩ : ∃ y, cs.getD j 0 = y := ⟨_, rfl⟩
                            rw [hf] at co1 hfr HN2
                            rw [hz] at hcz hzr HN2
                            have hza : z * (-(s : Int)) = 0 ∨ z * (-(s : Int)) = -(s : Int) ∨ z * (-(s : Int)) = -(-(s : Int)) := by
                              rcases hzr with e | e | e <;> rw [e] <;> omega
                            have w1 : IntKind.i64.wrap (z * (-(s : Int))) = z * (-(s : Int)) := IntWalk.i64_in _ (by omega)
                            have w2 : IntKind.i64.wrap (f + z * (-(s : Int))) = f + z * (-(s : Int)) := IntWalk.i64_in _ (by omega)
                            have hI2 := hI.set hjm (z := f + z * (-(s : Int))) (WalkArith.wf_i64 (by omega))
                            have i0 : (0 : Int) ≤ (j : Int) := by omega
                            have i1 : (j : Int) < (m : Int) := by omega
                            have HI2 := Lib.hid hI2
                            have HN3 := Lib.hid (show (mvTo zs cs (-(s : Int)) j).set j (f + z * (-(s : Int))) = mvTo zs cs (-(s : Int)) (j + 1) by rw [Int.mul_comm z]; exact HN2.out)
                            clear hI hI2 hc1 h1 h2 hf hz hza
                            go_wp2_with fail
                            go_roundw
                            case rel => exact ⟨j + 1, by omega, by go_num, by rw [← HN3.out]; exact HI2.out⟩
                            case measure => simp [intOf]; omega
                          · obtain rfl : j = m := by omega
                            rw [HMA.out] at hI
                            go_wp2_with fail
                            go_roundw
                            case rel => exact ⟨k + 1, t + 1, addL zs cs (-(s : Int)), true, by omega, by go_num, by go_num, rfl, HPN, HLL, by omega, ⟨fun _ => by omega, fun _ => rfl⟩, hI⟩
                            case measure => simp [intOf]; omega
                    all_goals
                      have HN2 := Lib.hid (show lower (ksL ps) zs cs (-(s : Int)) = false by rw [HLW2.out]; first | rfl | (simp; omega))
                      have HPN := Lib.hid (show passT (ksL ps) css (s : Int) (zs0, t0) (k + 1) = (zs, t) by
                        rw [HST.out, HPT.out]
                        exact passS_no HN1.out HN2.out)
                      go_wp2_with fail
                      go_roundw
                      case rel => exact ⟨k + 1, t, zs, b, by omega, rfl, by go_num, rfl, HPN, HZ, ht5', HB, hI⟩
                      case measure => simp [intOf]; omega
                · have HPM := Lib.hid (show passM (ksL ps) css (s : Int) (zs0, t0) = (zs, t) by
                    rw [← HPT.out]
                    exact (passT_all (by rw [← hI.cyc.2.1, hI.cyc.1.len (by decide)]; omega)).symm)
                  have HMO := Lib.hid (passM_mono (ksL ps) css (s : Int) (zs0, t0))
                  rw [HPM.out] at HMO
                  have htt : t0 ≤ t := HMO.out.1
                  have HQ := Lib.hid (show relaxM (ksL ps) css (if b = true then s else s / 2) (zs, t) = R by
                    rw [← HP0.out, relaxM_pass hs1, HPM.out]
                    congr 1
                    cases b
                    · have e : t = t0 := by
                        rcases Nat.lt_or_ge t0 t with h | h
                        · exact absurd (HB.2 h) (by decide)
                        · omega
                      exact (if_pos e).symm
                    · have e : ¬ t = t0 := by have := HB.1 rfl; omega
                      exact (if_neg e).symm)
                  have HMS := Lib.hid (show boolN (.bool b) + (5000 - t) < 1 + (5000 - t0) by
                    cases b
                    · show 0 + (5000 - t) < _; omega
                    · have := HB.1 rfl; show 1 + (5000 - t) < _; omega)
                  clear HB
                  go_wp2_with fail
                  go_roundw
                  case rel => exact ⟨t, b, zs, rfl, rfl, HQ, ht5', HZ, hI⟩
                  case measure => simpa [intOf, boolN] using HMS.out
        · have hsi : ¬ (0 : Int) < (s : Int) := by omega
          obtain rfl : s = 0 := by omega
          have HE := Lib.hid (show R = (zs, t) by rw [← HP.out]; exact relaxM_zero _ _ _)
          go_wp2_with fail
          go_ret2
          rw [HE.out]
          exact ⟨Ao, co, rfl, hI.own.mono (by omega), hI.bel⟩

end Go.Proofs.YtpgegfnhokhlmaaGreat
