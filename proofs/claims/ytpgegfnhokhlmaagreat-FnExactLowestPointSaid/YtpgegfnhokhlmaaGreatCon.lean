/- What isConnected, l04Count, checkConnected, l12Code do, by walks over their text. Conditions: a valid network (of the inner functions); at most 2^20 supplies. -/
import Derived.Test.YtpgegfnhokhlmaaGreatKV
set_option linter.unusedVariables false
set_option maxRecDepth 100000
namespace Go.Proofs.YtpgegfnhokhlmaaGreat
open Go.ChangeShapes Go.WideShapes Go.ChangeAt Go.RowKit Go.Joins Go.Deep
attribute [local go_sem ↓] Go.wp_at_zero Go.wp_at_succ

def conB (es : Es) (n : Nat) : Bool := decide ((bfs es n 0).ord.length = n)
theorem sub_len : ∀ (l1 l2 : List Nat), l1.Nodup → (∀ x ∈ l1, x ∈ l2) → l1.length ≤ l2.length
  | [], _, _, _ => Nat.zero_le _
  | a :: l, l2, hn, hs => by
    obtain ⟨h1, h2⟩ := List.nodup_cons.1 hn
    have ha := hs a List.mem_cons_self
    have := sub_len l (l2.erase a) h2 (fun x hx => (List.mem_erase_of_ne (show x ≠ a from fun e => h1 (e ▸ hx))).2 (hs x (List.mem_cons_of_mem _ hx)))
    rw [List.length_erase_of_mem ha] at this
    have hp : 0 < l2.length := List.length_pos_of_mem ha
    show l.length + 1 ≤ l2.length
    omega
theorem conB_iff {es : Es} {n : Nat} (hg : Good es n) (hn : 0 < n) : conB es n = true ↔ Conn es n := by
  have hD := bfs_done (s := 0) hg hn
  unfold conB
  rw [decide_eq_true_eq]
  constructor
  · intro h v hv
    refine (done_rch hg hD v).1 ?_
    by_cases hm : v ∈ (bfs es n 0).ord
    · exact hm
    · have := nodup_len (l := v :: (bfs es n 0).ord) (n := n) (List.nodup_cons.2 ⟨hm, hD.inv.nd⟩) (fun x hx => by
        rcases List.mem_cons.1 hx with rfl | hx
        · exact hv
        · exact hD.inv.lt x hx)
      simp only [List.length_cons] at this
      omega
  · intro h
    have h1 := nodup_len hD.inv.nd hD.inv.lt
    have h2 := sub_len (List.range n) (bfs es n 0).ord List.nodup_range (fun x hx => (done_rch hg hD x).2 (h x (List.mem_range.1 hx)))
    rw [List.length_range] at h2
    omega
/-- The number of components. -/
def cntTo (es : Es) (n k : Nat) : Nat := ((List.range k).filter fun r => isRoot es n r).length
theorem cntTo_step (es : Es) (n k : Nat) : cntTo es n (k + 1) = cntTo es n k + (if isRoot es n k = true then 1 else 0) := by
  unfold cntTo
  rw [List.range_succ, List.filter_append, List.length_append]
  by_cases h : isRoot es n k = true
  · simp [h]
  · simp at h; simp [h]
theorem cntTo_le (es : Es) (n k : Nat) : cntTo es n k ≤ k := Nat.le_trans (List.length_filter_le _ _) (by simp)
theorem cnt_conn {es : Es} {n : Nat} (hg : Good es n) (hn : 0 < n) : cntTo es n n = 1 ↔ Conn es n := by
  have h0 : 0 ∈ (List.range n).filter fun r => isRoot es n r := List.mem_filter.2 ⟨List.mem_range.2 hn, isRoot_iff.2 ((root_iff hg hn).2 fun r' hr' => absurd hr' (by omega))⟩
  unfold cntTo
  constructor
  · intro h v hv
    obtain ⟨a, ha⟩ := List.length_eq_one_iff.1 h
    obtain ⟨r, hr, hrv⟩ := has_root hg hv
    have hm : r ∈ (List.range n).filter fun r => isRoot es n r := List.mem_filter.2 ⟨List.mem_range.2 (root_lt hr), isRoot_iff.2 hr⟩
    rw [ha] at h0 hm
    have e1 := List.mem_singleton.1 h0
    have e2 := List.mem_singleton.1 hm
    rw [e2, ← e1] at hrv
    exact hrv
  · intro h
    have hnd : ((List.range n).filter fun r => isRoot es n r).Nodup := List.Pairwise.filter _ List.nodup_range
    have h1 := sub_len _ [0] hnd (fun x hx => by
      have := (conn_root hg h).1 (isRoot_iff.1 (List.mem_filter.1 hx).2)
      rw [this.1]
      exact List.mem_singleton.2 rfl)
    have h2 : 0 < ((List.range n).filter fun r => isRoot es n r).length := List.length_pos_of_mem h0
    simp only [List.length_cons, List.length_nil] at h1
    omega
theorem cnt_conB {es : Es} {n : Nat} (hg : Good es n) (hn : 0 < n) : conB es n = decide (cntTo es n n = 1) := by
  rw [Bool.eq_iff_iff, conB_iff hg hn, decide_eq_true_eq, cnt_conn hg hn]
/-- The code of a network that must be connected, and supplies. -/
noncomputable def codeC (ns : List Nd) (ps : List Pp) (n : Nat) (zs : List Int) : Int := if codeF ns ps n zs = 0 then (if conB (esOf ps) n = true then 0 else 5) else codeF ns ps n zs
theorem codeC_bad {ns : List Nd} {ps : List Pp} {n : Nat} {zs : List Int} (h : codeF ns ps n zs ≠ 0) : codeC ns ps n zs = codeF ns ps n zs := by unfold codeC; rw [if_neg h]
theorem codeC_no {ns : List Nd} {ps : List Pp} {n : Nat} {zs : List Int} (h : codeF ns ps n zs = 0) (hc : conB (esOf ps) n = false) : codeC ns ps n zs = 5 := by unfold codeC; rw [if_pos h, if_neg (by rw [hc]; decide)]
theorem codeC_ok {ns : List Nd} {ps : List Pp} {n : Nat} {zs : List Int} (h : codeF ns ps n zs = 0) (hc : conB (esOf ps) n = true) : codeC ns ps n zs = 0 := by unfold codeC; rw [if_pos h, if_pos hc]
theorem codeC_zero {ns : List Nd} {ps : List Pp} {n : Nat} {zs : List Int} (h : codeC ns ps n zs = 0) : codeF ns ps n zs = 0 ∧ NetOk ns ps ∧ flB n zs = true ∧ conB (esOf ps) n = true := by
  by_cases hc : codeF ns ps n zs = 0
  · rcases codeF_in ns ps n zs with ⟨_, hok, hfl⟩ | hk | hk
    · refine ⟨hc, hok, hfl, ?_⟩
      cases hB : conB (esOf ps) n
      · rw [codeC_no hc hB] at h; exact absurd h (by decide)
      · rfl
    · rw [hk] at hc; exact absurd hc (by decide)
    · rw [hk] at hc; exact absurd hc (by decide)
  · rw [codeC_bad hc] at h; exact absurd h hc
set_option maxHeartbeats 4000000 in
theorem isConn_any (A B : Option Addr) (n c m d : Nat) (ns : List Nd) (ps : List Pp) (w : World) (h : IsNet w A n c ns B m d ps) (hok : NetOk ns ps) :
    Calls Tryz.prog 147 #[.agg #[.slice A n c, .slice B m d]] w fun e w' => e = .returned (.bool (conB (esOf ps) n)) ∧ Below w.heap.size w w' := by
  have hn1 : 0 < n := by have := hok.1; have := h.nodes.len; omega
  have hV : Below w.heap.size w (w.alloc (.cells #[.slice A n c, .slice B m d] 33)) := (Below.refl _ _).alloc (Nat.le_refl _) _
  have bx := box_new w #[.slice A n c, .slice B m d] 33
  have HOK := Lib.hid hok
  clear hok
  go_enter Tryz.func147, Tryz.ntmps147
  go_upto_region 1 with fail
  generalize (w.alloc (.cells #[.slice A n c, .slice B m d] 33)) = V at *
  have xl := bx.lt
  have x0 : V.cell? ⟨w.heap.size, 0, none⟩ = some (.slice A n c) := bx.cell 0
  have x1 : V.cell? ⟨w.heap.size, 1, none⟩ = some (.slice B m d) := bx.cell 1
  have kN : Kept (IsNet V A n c ns B m d ps) := ⟨h.below hV⟩
  have kU : Kept (Below V.heap.size V V.drew) := ⟨(Below.refl _ _).drew⟩
  have kV : Kept (Below w.heap.size w V) := ⟨hV⟩
  obtain ⟨wi, rfl⟩ : ∃ y : World, y = V := ⟨_, rfl⟩
  have hfl := fun (x y z : Value) W => run_fld0 x y z W
  clear hV bx
  have HLL := Lib.hid (show conB (esOf ps) n = decide ((bfs (esOf ps) n 0).ord.length = n) from rfl)
  generalize hL : (bfs (esOf ps) n 0).ord.length = L at *
  have HL := Lib.hid hL
  clear hL
  go_region_held3 (fun w' => w.heap.size < w'.heap.size ∧ w'.cell? ⟨w.heap.size, 0, none⟩ = some (.slice A n c) ∧ w'.cell? ⟨w.heap.size, 1, none⟩ = some (.slice B m d) ∧ Kept (Below wi.heap.size wi w'))
    (first | (go_split_ands; refine ⟨by have := hbb.size; omega, ?_, ?_, ⟨bthen (Kept.out ‹Kept (Below wi.heap.size _ _)›) hbb (Kept.out ‹Kept (Below wi.heap.size _ _)›).size⟩⟩ <;> (rw [hbb.cell (by simp; omega)]; assumption)) | go_keep)
    (first | (go_at_call 138; go_split_ands; refine (search_any _ _ _ _ _ _ 0 ns ps _ (kN.out.below (Kept.out ‹Kept (Below wi.heap.size _ _)›)) HOK.out hn1).mono ?_; rintro e4 wb ⟨A6, c6, b5, e5, dl, rfl, _, _, _, _, hbb⟩; rw [HL.out]))
  rename_i hh
  obtain ⟨_, _, _, ⟨hbB⟩⟩ := hh
  go_wp2_with fail
  go_ret
  exact ⟨rb (by rw [HLL.out, Bool.eq_iff_iff]; simp; try omega), bthen kV.out hbB kV.out.size⟩
set_option maxHeartbeats 4000000 in
theorem sCount_any (A B : Option Addr) (n c m d : Nat) (ns : List Nd) (ps : List Pp) (w : World) (h : IsNet w A n c ns B m d ps) (hok : NetOk ns ps) :
    Calls Tryz.prog 141 #[.agg #[.slice A n c, .slice B m d]] w fun e w' => e = .returned (.int .i64 (cntTo (esOf ps) n n : Int)) ∧ Below w.heap.size w w' := by
  have hn24 : n ≤ 24 := by have := hok.2.1; have := h.nodes.len; omega
  have hg : Good (esOf ps) n := by rw [← h.nodes.len]; exact net_good hok
  have hV : Below w.heap.size w (w.alloc (.cells #[.slice A n c, .slice B m d] 33)) := (Below.refl _ _).alloc (Nat.le_refl _) _
  have bx := box_new w #[.slice A n c, .slice B m d] 33
  have HOK := Lib.hid hok
  have HG := Lib.hid hg
  clear hok hg
  go_enter Tryz.func141, Tryz.ntmps141
  go_upto_region 1 with fail
  generalize (w.alloc (.cells #[.slice A n c, .slice B m d] 33)) = V at *
  have xl := bx.lt
  have x0 : V.cell? ⟨w.heap.size, 0, none⟩ = some (.slice A n c) := bx.cell 0
  have x1 : V.cell? ⟨w.heap.size, 1, none⟩ = some (.slice B m d) := bx.cell 1
  go_wp2_with (go_at_call 131; refine (sComps_any _ _ _ _ _ _ ns ps _ (h.below hV) HOK.out).mono ?_; rintro e1 w1 ⟨A1, c1, rfl, o1, hb1⟩)
  have HCL := Lib.hid (show (encE (comps (esOf ps) n)).length = n by rw [encE_len, comps_len])
  rw [HCL.out] at o1 ⊢
  have hB1 := bthen hV hb1 hV.size
  clear bx x0 x1 xl hb1 hV
  go_loop [4, 5] (fun cc ii => ∃ (k : Nat), k ≤ n ∧ cc = .int .i64 (cntTo (esOf ps) n k : Int) ∧ ii = .int .i64 (k : Int)) (fun _ ii => n - (intOf ii).toNat)
  case atStart => exact ⟨0, Nat.zero_le _, rfl, rfl⟩
  case round =>
    obtain ⟨k, hk, rfl, rfl⟩ := hrel
    by_cases hlt : k < n
    · obtain ⟨r, hr, hrn, _⟩ := comps_at HG.out hlt
      obtain ⟨g1, rfl, _, hg1⟩ := o1.form (by omega)
      have hc := (o1.atD hlt).1
      rw [show (encE (comps (esOf ps) n)).getD k 0 = (r : Int) by rw [List.getD_eq_getElem?_getD, encE_at hr]; rfl] at hc
      have hroot : isRoot (esOf ps) n k = decide (r = k) := by
        unfold isRoot
        rw [hr]
        by_cases e : r = k
        · subst e; simp
        · simp [e]
      have HST := Lib.hid (cntTo_step (esOf ps) n k)
      have hle := cntTo_le (esOf ps) n k
      have k0 : (0 : Int) ≤ (k : Int) := by omega
      have k1 : (k : Int) < (n : Int) := by omega
      obtain ⟨C0, hC0⟩ : ∃ y, cntTo (esOf ps) n k = y := ⟨_, rfl⟩
      rw [hC0] at HST hle ⊢
      clear hr hC0
      by_cases e : r = k
      · have t1 : ((r : Int) == (k : Int)) = true := by simp; omega
        have HS2 := Lib.hid (show cntTo (esOf ps) n (k + 1) = C0 + 1 by rw [HST.out, hroot, decide_eq_true e]; rfl)
        clear hroot e
        go_wp2_with fail
        go_round
        case rel => exact ⟨k + 1, by omega, by rw [HS2.out]; go_num, by go_num⟩
        case measure => simp [intOf]; omega
      · have t1 : ((r : Int) == (k : Int)) = false := by simp; omega
        have HS2 := Lib.hid (show cntTo (esOf ps) n (k + 1) = C0 by rw [HST.out, hroot, decide_eq_false e]; rfl)
        clear hroot e
        go_wp2_with fail
        go_round
        case rel => exact ⟨k + 1, by omega, by rw [HS2.out], by go_num⟩
        case measure => simp [intOf]; omega
    · obtain rfl : n = k := by omega
      go_wp2_with fail
      go_ret
      exact ⟨rfl, hB1⟩
set_option maxHeartbeats 4000000 in
theorem codeC_any (A B C : Option Addr) (n c m d l e : Nat) (ns : List Nd) (ps : List Pp) (zs : List Int) (w : World) (h : IsNet w A n c ns B m d ps) (hz : Ints w C l zs) (hl : l ≤ 1048576) :
    Calls Tryz.prog 87 #[.agg #[.slice A n c, .slice B m d], .slice C l e] w fun e w' => e = .returned (.int .i64 (codeC ns ps n zs)) ∧ Below w.heap.size w w' := by
  have hV : Below w.heap.size w (w.alloc (.cells #[.slice A n c, .slice B m d] 33)) := (Below.refl _ _).alloc (Nat.le_refl _) _
  have bx := box_new w #[.slice A n c, .slice B m d] 33
  by_cases hc : codeF ns ps n zs = 0
  · have hok : NetOk ns ps := by
      rcases codeF_in ns ps n zs with ⟨_, hok, _⟩ | hk | hk
      · exact hok
      · rw [hk] at hc; exact absurd hc (by decide)
      · rw [hk] at hc; exact absurd hc (by decide)
    have hn1 : 0 < n := by have := hok.1; have := h.nodes.len; omega
    have hn24 : n ≤ 24 := by have := hok.2.1; have := h.nodes.len; omega
    have hg : Good (esOf ps) n := by rw [← h.nodes.len]; exact net_good hok
    have HCB := Lib.hid (cnt_conB hg hn1)
    have hcl := cntTo_le (esOf ps) n n
    have HOK := Lib.hid hok
    have HC := Lib.hid hc
    clear hok hc hg
    cases hB : conB (esOf ps) n
    · have HB := Lib.hid hB
      have HR := Lib.hid (codeC_no HC.out hB)
      rw [hB] at HCB
      have hne : cntTo (esOf ps) n n ≠ 1 := by have := HCB.out; simp at this; exact this
      obtain ⟨K, hK⟩ : ∃ y, cntTo (esOf ps) n n = y := ⟨_, rfl⟩
      rw [hK] at hne hcl
      have HK := Lib.hid hK
      have t1 : ((K : Int) != 1) = true := by simp; omega
      clear hB hK hne HCB
      go_enter Tryz.func87, Tryz.ntmps87
      go_upto_region 1 with fail
      generalize (w.alloc (.cells #[.slice A n c, .slice B m d] 33)) = V at *
      have xl := bx.lt
      have x0 : V.cell? ⟨w.heap.size, 0, none⟩ = some (.slice A n c) := bx.cell 0
      have x1 : V.cell? ⟨w.heap.size, 1, none⟩ = some (.slice B m d) := bx.cell 1
      go_upto_region 4 with (go_at_call 146; refine (codeP_any _ _ _ _ _ _ _ _ _ ns ps zs _ (h.below hV) (hz.below hV) hl).mono ?_; rw [HC.out]; rintro e1 w1 ⟨rfl, hb1⟩)
      have hW1 := bthen hV hb1 hV.size
      have bx1 := bx.belowA hb1
      clear bx x0 x1 xl hb1
      have xl := bx1.lt
      have x0 : w1.cell? ⟨w.heap.size, 0, none⟩ = some (.slice A n c) := bx1.cell 0
      have x1 : w1.cell? ⟨w.heap.size, 1, none⟩ = some (.slice B m d) := bx1.cell 1
      go_wp2_with (go_at_call 147; refine (isConn_any _ _ _ _ _ _ ns ps _ (h.below hW1) HOK.out).mono ?_; rw [HB.out]; rintro e2 w2 ⟨rfl, hb2⟩)
      go_ret
      exact ⟨ri HR.out.symm, bthen hW1 hb2 hW1.size⟩
    · have HB := Lib.hid hB
      have HR := Lib.hid (codeC_ok HC.out hB)
      rw [hB] at HCB
      have hne : cntTo (esOf ps) n n = 1 := by have := HCB.out; simp at this; exact this
      have HK := Lib.hid hne
      clear hB hne HCB
      go_enter Tryz.func87, Tryz.ntmps87
      go_upto_region 1 with fail
      generalize (w.alloc (.cells #[.slice A n c, .slice B m d] 33)) = V at *
      have xl := bx.lt
      have x0 : V.cell? ⟨w.heap.size, 0, none⟩ = some (.slice A n c) := bx.cell 0
      have x1 : V.cell? ⟨w.heap.size, 1, none⟩ = some (.slice B m d) := bx.cell 1
      go_upto_region 4 with (go_at_call 146; refine (codeP_any _ _ _ _ _ _ _ _ _ ns ps zs _ (h.below hV) (hz.below hV) hl).mono ?_; rw [HC.out]; rintro e1 w1 ⟨rfl, hb1⟩)
      have hW1 := bthen hV hb1 hV.size
      have bx1 := bx.belowA hb1
      clear bx x0 x1 xl hb1
      have xl := bx1.lt
      have x0 : w1.cell? ⟨w.heap.size, 0, none⟩ = some (.slice A n c) := bx1.cell 0
      have x1 : w1.cell? ⟨w.heap.size, 1, none⟩ = some (.slice B m d) := bx1.cell 1
      go_wp2_with (go_at_call 147; refine (isConn_any _ _ _ _ _ _ ns ps _ (h.below hW1) HOK.out).mono ?_; rw [HB.out]; rintro e2 w2 ⟨rfl, hb2⟩)
      go_ret
      exact ⟨ri HR.out.symm, bthen hW1 hb2 hW1.size⟩
  · have HR := Lib.hid (codeC_bad hc)
    obtain ⟨K, hK⟩ : ∃ y, codeF ns ps n zs = y := ⟨_, rfl⟩
    rw [hK] at hc HR
    have HK := Lib.hid hK
    have t1 : (K != 0) = true := by simpa using hc
    have t2 : (K == 0) = false := by simpa using hc
    clear hK hc
    go_enter Tryz.func87, Tryz.ntmps87
    go_upto_region 1 with fail
    generalize (w.alloc (.cells #[.slice A n c, .slice B m d] 33)) = V at *
    have xl := bx.lt
    have x0 : V.cell? ⟨w.heap.size, 0, none⟩ = some (.slice A n c) := bx.cell 0
    have x1 : V.cell? ⟨w.heap.size, 1, none⟩ = some (.slice B m d) := bx.cell 1
    go_wp2_with (go_at_call 146; refine (codeP_any _ _ _ _ _ _ _ _ _ ns ps zs _ (h.below hV) (hz.below hV) hl).mono ?_; rw [HK.out]; rintro e1 w1 ⟨rfl, hb1⟩)
    go_ret
    exact ⟨ri HR.out.symm, bthen hV hb1 hV.size⟩
set_option maxHeartbeats 4000000 in
theorem sCodeC_any (A B C : Option Addr) (n c m d l e : Nat) (ns : List Nd) (ps : List Pp) (zs : List Int) (w : World) (h : IsNet w A n c ns B m d ps) (hz : Ints w C l zs) (hl : l ≤ 1048576) :
    Calls Tryz.prog 82 #[.agg #[.slice A n c, .slice B m d], .slice C l e] w fun e w' => e = .returned (.int .i64 (codeC ns ps n zs)) ∧ Below w.heap.size w w' := by
  have hV : Below w.heap.size w (w.alloc (.cells #[.slice A n c, .slice B m d] 33)) := (Below.refl _ _).alloc (Nat.le_refl _) _
  have bx := box_new w #[.slice A n c, .slice B m d] 33
  by_cases hc : codeF ns ps n zs = 0
  · have hok : NetOk ns ps := by
      rcases codeF_in ns ps n zs with ⟨_, hok, _⟩ | hk | hk
      · exact hok
      · rw [hk] at hc; exact absurd hc (by decide)
      · rw [hk] at hc; exact absurd hc (by decide)
    have hn1 : 0 < n := by have := hok.1; have := h.nodes.len; omega
    have hn24 : n ≤ 24 := by have := hok.2.1; have := h.nodes.len; omega
    have hg : Good (esOf ps) n := by rw [← h.nodes.len]; exact net_good hok
    have HCB := Lib.hid (cnt_conB hg hn1)
    have hcl := cntTo_le (esOf ps) n n
    have HOK := Lib.hid hok
    have HC := Lib.hid hc
    clear hok hc hg
    cases hB : conB (esOf ps) n
    · have HB := Lib.hid hB
      have HR := Lib.hid (codeC_no HC.out hB)
      rw [hB] at HCB
      have hne : cntTo (esOf ps) n n ≠ 1 := by have := HCB.out; simp at this; exact this
      obtain ⟨K, hK⟩ : ∃ y, cntTo (esOf ps) n n = y := ⟨_, rfl⟩
      rw [hK] at hne hcl
      have HK := Lib.hid hK
      have t1 : ((K : Int) != 1) = true := by simp; omega
      clear hB hK hne HCB
      go_enter Tryz.func82, Tryz.ntmps82
      go_upto_region 1 with fail
      generalize (w.alloc (.cells #[.slice A n c, .slice B m d] 33)) = V at *
      have xl := bx.lt
      have x0 : V.cell? ⟨w.heap.size, 0, none⟩ = some (.slice A n c) := bx.cell 0
      have x1 : V.cell? ⟨w.heap.size, 1, none⟩ = some (.slice B m d) := bx.cell 1
      go_upto_region 2 with (go_at_call 108; refine (sCodeP_any _ _ _ _ _ _ _ _ _ ns ps zs _ (h.below hV) (hz.below hV) hl).mono ?_; rw [HC.out]; rintro e1 w1 ⟨rfl, hb1⟩)
      have hW1 := bthen hV hb1 hV.size
      have bx1 := bx.belowA hb1
      clear bx x0 x1 xl hb1
      have xl := bx1.lt
      have x0 : w1.cell? ⟨w.heap.size, 0, none⟩ = some (.slice A n c) := bx1.cell 0
      have x1 : w1.cell? ⟨w.heap.size, 1, none⟩ = some (.slice B m d) := bx1.cell 1
      go_wp2_with (go_at_call 141; refine (sCount_any _ _ _ _ _ _ ns ps _ (h.below hW1) HOK.out).mono ?_; rw [HK.out]; rintro e2 w2 ⟨rfl, hb2⟩)
      go_ret
      exact ⟨ri HR.out.symm, bthen hW1 hb2 hW1.size⟩
    · have HB := Lib.hid hB
      have HR := Lib.hid (codeC_ok HC.out hB)
      rw [hB] at HCB
      have hne : cntTo (esOf ps) n n = 1 := by have := HCB.out; simp at this; exact this
      have HK := Lib.hid hne
      clear hB hne HCB
      go_enter Tryz.func82, Tryz.ntmps82
      go_upto_region 1 with fail
      generalize (w.alloc (.cells #[.slice A n c, .slice B m d] 33)) = V at *
      have xl := bx.lt
      have x0 : V.cell? ⟨w.heap.size, 0, none⟩ = some (.slice A n c) := bx.cell 0
      have x1 : V.cell? ⟨w.heap.size, 1, none⟩ = some (.slice B m d) := bx.cell 1
      go_upto_region 2 with (go_at_call 108; refine (sCodeP_any _ _ _ _ _ _ _ _ _ ns ps zs _ (h.below hV) (hz.below hV) hl).mono ?_; rw [HC.out]; rintro e1 w1 ⟨rfl, hb1⟩)
      have hW1 := bthen hV hb1 hV.size
      have bx1 := bx.belowA hb1
      clear bx x0 x1 xl hb1
      have xl := bx1.lt
      have x0 : w1.cell? ⟨w.heap.size, 0, none⟩ = some (.slice A n c) := bx1.cell 0
      have x1 : w1.cell? ⟨w.heap.size, 1, none⟩ = some (.slice B m d) := bx1.cell 1
      go_wp2_with (go_at_call 141; refine (sCount_any _ _ _ _ _ _ ns ps _ (h.below hW1) HOK.out).mono ?_; rw [HK.out]; rintro e2 w2 ⟨rfl, hb2⟩)
      go_ret
      exact ⟨ri HR.out.symm, bthen hW1 hb2 hW1.size⟩
  · have HR := Lib.hid (codeC_bad hc)
    obtain ⟨K, hK⟩ : ∃ y, codeF ns ps n zs = y := ⟨_, rfl⟩
    rw [hK] at hc HR
    have HK := Lib.hid hK
    have t1 : (K != 0) = true := by simpa using hc
    have t2 : (K == 0) = false := by simpa using hc
    clear hK hc
    go_enter Tryz.func82, Tryz.ntmps82
    go_upto_region 1 with fail
    generalize (w.alloc (.cells #[.slice A n c, .slice B m d] 33)) = V at *
    have xl := bx.lt
    have x0 : V.cell? ⟨w.heap.size, 0, none⟩ = some (.slice A n c) := bx.cell 0
    have x1 : V.cell? ⟨w.heap.size, 1, none⟩ = some (.slice B m d) := bx.cell 1
    go_wp2_with (go_at_call 108; refine (sCodeP_any _ _ _ _ _ _ _ _ _ ns ps zs _ (h.below hV) (hz.below hV) hl).mono ?_; rw [HK.out]; rintro e1 w1 ⟨rfl, hb1⟩)
    go_ret
    exact ⟨ri HR.out.symm, bthen hV hb1 hV.size⟩
end Go.Proofs.YtpgegfnhokhlmaaGreat
