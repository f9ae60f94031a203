/- What ProofText of the program does, by a walk over its text. Conditions: at most 2^20 flows and levels; the table of powers of ten. -/
import Derived.Test.YtebefamekjjbcaaDoorPtt
import Derived.Deep.RegionHeld3
set_option linter.unusedVariables false
set_option maxRecDepth 100000
namespace Go.Proofs.YtebefamekjjbcaaDoor
open Go.ChangeShapes Go.WideShapes Go.ChangeAt Go.RowKit Go.Joins Go.Deep Go.Shelf
attribute [local go_sem ↓] Go.wp_at_zero Go.wp_at_succ

set_option maxHeartbeats 8000000 in
theorem ptx_any (A B C D : Option Addr) (n c m d l e k f : Nat) (ns : List Nd) (ps : List Pp) (fs ls : List Int) (w : World) (h : IsNet w A n c ns B m d ps) (hf : Ints w C l fs) (hv : Ints w D k ls) (hl : l ≤ 1048576) (hk : k ≤ 1048576) (hT : PowTab w) :
    Calls Tryd.prog 9 #[.agg #[.slice A n c, .slice B m d], .agg #[.slice C l e, .slice D k f]] w fun e w' => e = .returned (.string (ptx ns ps m n fs ls)) ∧ Below w.heap.size w w' := by
  have hV : Below w.heap.size w ((w.alloc (.cells #[.slice A n c, .slice B m d] 35)).alloc (.cells #[.slice C l e, .slice D k f] 37)) := ((Below.refl _ _).alloc (Nat.le_refl _) _).alloc (by simp) _
  have bx := (box_new w #[.slice A n c, .slice B m d] 35).alloc (.cells #[.slice C l e, .slice D k f] 37)
  have by1 := box_at (w.alloc (.cells #[.slice A n c, .slice B m d] 35)) #[.slice C l e, .slice D k f] 37 (g := w.heap.size + 1) (by simp)
  go_enter Tryd.func9, Tryd.ntmps9
  go_upto_region 1 with fail
  generalize ((w.alloc (.cells #[.slice A n c, .slice B m d] 35)).alloc (.cells #[.slice C l e, .slice D k f] 37)) = V at *
  have xl := bx.lt
  have x0 : V.cell? ⟨w.heap.size, 0, none⟩ = some (.slice A n c) := bx.cell 0
  have x1 : V.cell? ⟨w.heap.size, 1, none⟩ = some (.slice B m d) := bx.cell 1
  have yl := by1.lt
  have y0 : V.cell? ⟨w.heap.size + 1, 0, none⟩ = some (.slice C l e) := by1.cell 0
  have y1 : V.cell? ⟨w.heap.size + 1, 1, none⟩ = some (.slice D k f) := by1.cell 1
  go_wp2_with fail
  refine (codeQ_any _ _ _ _ _ _ _ _ _ _ _ _ ns ps fs ls _ (h.below hV) (hf.below hV) (hv.below hV) hl hk).mono ?_
  rintro e1 w1 ⟨rfl, hb1⟩
  have hB1 := bthen hV hb1 hV.size
  have bx1 := bx.belowA hb1
  have by2 := by1.belowA hb1
  clear x0 x1 xl y0 y1 yl hb1 bx by1
  rcases codeQ_in ns ps m n fs ls with ⟨hc, hok, hfb, hlb⟩ | hc | hc
  rotate_left
  all_goals try
    have HQ := Lib.hid (ptx_no hc (by decide))
    rw [hc]
    clear hc
    go_wp2_with fail
    go_ret
    exact ⟨rsS HQ.out.symm, hB1⟩
  obtain rfl : l = m := by rw [← hf.len, flB_len hfb]
  obtain rfl : k = n := by rw [← hv.len, lvB_len hlb]
  have hnl : ns.length = k := h.nodes.len
  have hml : ps.length = l := h.pipes.len
  have hn24 : k ≤ 24 := by have := hok.2.1; omega
  have hm40 : l ≤ 40 := by have := hok.2.2.1; omega
  have HQ := Lib.hid (ptx_ok hc)
  have HNL := Lib.hid hnl
  have HOK := Lib.hid hok
  have HFB := Lib.hid hfb
  have HLB := Lib.hid hlb
  have kN : Kept (IsNet w1 A k c ns B l d ps) := ⟨h.below hB1⟩
  have kF : Kept (Ints w1 C l fs) := ⟨hf.below hB1⟩
  have kV : Kept (Ints w1 D k ls) := ⟨hv.below hB1⟩
  have kX : Kept (Box w1 w.heap.size #[.slice A k c, .slice B l d] 35) := ⟨bx1⟩
  have kY : Kept (Box w1 (w.heap.size + 1) #[.slice C l e, .slice D k f] 37) := ⟨by2⟩
  have kW : Kept (Below w.heap.size w w1) := ⟨hB1⟩
  have kT : Kept (PowTab w1) := ⟨hT.below hB1⟩
  clear hT
  have xl1 := bx1.lt
  have yl1 := by2.lt
  have x0 : w1.cell? ⟨w.heap.size, 0, none⟩ = some (.slice A k c) := bx1.cell 0
  have x1 : w1.cell? ⟨w.heap.size, 1, none⟩ = some (.slice B l d) := bx1.cell 1
  have y0 : w1.cell? ⟨w.heap.size + 1, 0, none⟩ = some (.slice C l e) := by2.cell 0
  have y1 : w1.cell? ⟨w.heap.size + 1, 1, none⟩ = some (.slice D k f) := by2.cell 1
  rw [hc]
  clear hc h hf hv hnl hml hok hfb hlb hB1 hV bx1 by2
  have kB0 : Kept (Bld (w1.alloc (.cells #[.pointer none, .slice none 0 0] 57)) w1.heap.size ByteArray.empty) := ⟨bld_new w1⟩
  have kR0 : Kept (Below w1.heap.size w1 (w1.alloc (.cells #[.pointer none, .slice none 0 0] 57))) := ⟨(Below.refl _ _).alloc (Nat.le_refl _) _⟩
  go_upto_region 4 with fail
  generalize (w1.alloc (.cells #[.pointer none, .slice none 0 0] 57)) = w2 at *
  clear x0 x1 y0 y1
  have zl := (kX.out.belowA kR0.out).lt
  have ul := (kY.out.belowA kR0.out).lt
  have z0 : w2.cell? ⟨w.heap.size, 0, none⟩ = some (.slice A k c) := (kX.out.belowA kR0.out).cell 0
  have z1 : w2.cell? ⟨w.heap.size, 1, none⟩ = some (.slice B l d) := (kX.out.belowA kR0.out).cell 1
  have u0 : w2.cell? ⟨w.heap.size + 1, 0, none⟩ = some (.slice C l e) := (kY.out.belowA kR0.out).cell 0
  have u1 : w2.cell? ⟨w.heap.size + 1, 1, none⟩ = some (.slice D k f) := (kY.out.belowA kR0.out).cell 1
  go_wp2_with fail
  go_loopw [17] (fun ii wr => ∃ j : Nat, j ≤ k ∧ ii = .int .i64 (j : Int) ∧ Kept (Bld wr w1.heap.size (txN ns ls j)) ∧ Kept (Below w1.heap.size w1 wr)) (fun ii _ => k - (intOf ii).toNat)
  case atStart => exact ⟨0, Nat.zero_le _, rfl, kB0, kR0⟩
  case round =>
    clear zl ul z0 z1 u0 u1
    obtain ⟨j, hj, rfl, kB, kR⟩ := hrel
    clear kB0 kR0
    by_cases hlt : j < k
    case pos =>
      obtain ⟨bn, on, x, rfl, hbn, hx, _, c0, c1, c2⟩ := (kN.out.below kR.out).nodes.at_ hlt
      obtain ⟨bl, ol, rfl, hbl, cz⟩ := kV.out.atD hlt
      have HST := Lib.hid (show txN ns ls (j + 1) = txN ns ls j ++ (x.nm ++ ⟨#[61]⟩ ++ numB (ls.getD j 0) ++ ⟨#[10]⟩) by rw [txN, lnN, nmAt_at hx])
      have hns : x.nm.size ≤ 8 := by rw [← nmAt_at hx]; exact nmAt_size HOK.out j
      have hzz := bd_lv HLB.out j
      have hNs := num_sz (bd_lv HLB.out) j
      have hss := txN_sz HOK.out HLB.out (k := j) (by omega)
      obtain ⟨z, hz⟩ : ∃ y, ls.getD j 0 = y := ⟨_, rfl⟩
      rw [hz] at cz hzz hNs HST
      have HZZ := Lib.hid hzz
      clear hzz
      obtain ⟨N, hN⟩ : ∃ y, numB z = y := ⟨_, rfl⟩
      rw [hN] at hNs HST
      have HN := Lib.hid hN
      obtain ⟨s, hs⟩ : ∃ y, txN ns ls j = y := ⟨_, rfl⟩
      rw [hs] at kB HST hss
      clear hx hz hN hs
      have HSZ := Lib.hid (show s.size + (x.nm ++ (⟨#[61]⟩ : ByteArray) ++ N ++ (⟨#[10]⟩ : ByteArray)).size ≤ 140737488355328 by simp only [ByteArray.size_append]; simp only [show (⟨#[61]⟩ : ByteArray).size = 1 from rfl, show (⟨#[10]⟩ : ByteArray).size = 1 from rfl]; omega)
      have ca0 : ¬ 9223372036854775807 < x.nm.size + 1 := by omega
      have cb0 : ¬ 9223372036854775807 < (x.nm).size + 1 := by omega
      have ca1 : ¬ 9223372036854775807 < x.nm.size + 1 + N.size := by omega
      have cb1 : ¬ 9223372036854775807 < (x.nm ++ (⟨#[61]⟩ : ByteArray)).size + N.size := by simp only [ByteArray.size_append, show (⟨#[61]⟩ : ByteArray).size = 1 from rfl]; omega
      have ca2 : ¬ 9223372036854775807 < x.nm.size + 1 + N.size + 1 := by omega
      have cb2 : ¬ 9223372036854775807 < (x.nm ++ (⟨#[61]⟩ : ByteArray) ++ N).size + 1 := by simp only [ByteArray.size_append, show (⟨#[61]⟩ : ByteArray).size = 1 from rfl]; omega
      have i0 : (0 : Int) ≤ (j : Int) := by omega
      have i1 : (j : Int) < (k : Int) := by omega
      have i2 : ¬ (k : Int) ≤ (j : Int) := by omega
      go_upto_region 7 with fail
      have bX := box_new wr #[.string x.nm, .int .i64 x.lo, .int .i64 x.hi] 47
      have hV2 : Below wr.heap.size wr (wr.alloc (.cells #[.string x.nm, .int .i64 x.lo, .int .i64 x.hi] 47)) := (Below.refl _ _).alloc (Nat.le_refl _) _
      generalize (wr.alloc (.cells #[.string x.nm, .int .i64 x.lo, .int .i64 x.hi] 47)) = V2 at *
      clear c0 c1 c2
      have hbw := kB.out.lt
      have kR2 : Kept (Below w1.heap.size w1 V2.drew) := ⟨(bthen kR.out hV2 kR.out.size).drew⟩
      have kD : Kept (Bld V2.drew w1.heap.size s) := ⟨(kB.out.below hV2).drew⟩
      have kXb : Kept (Box V2.drew wr.heap.size #[.string x.nm, .int .i64 x.lo, .int .i64 x.hi] 47) := ⟨bX.drew⟩
      have xl := bX.lt
      have v0 : V2.cell? ⟨wr.heap.size, 0, none⟩ = some (.string x.nm) := bX.cell 0
      have v1 : V2.cell? ⟨w.heap.size + 1, 1, none⟩ = some (.slice (some ⟨bl, ol, none⟩) k f) := (kY.out.belowA kR2.out).cell 1
      have v2 : V2.cell? ⟨bl, ol + j, none⟩ = some (.int .i64 z) := (kR2.out.cell (p := ⟨bl, ol + j, none⟩) hbl).trans cz
      have v3 : w.heap.size + 1 < V2.heap.size := by omega
      have v4 : bl < V2.heap.size := by omega
      clear kR kB bX hV2
      go_region_held3 (fun w' => wr.heap.size < w'.heap.size ∧ w.heap.size + 1 < w'.heap.size ∧ bl < w'.heap.size ∧ w'.cell? ⟨wr.heap.size, 0, none⟩ = some (.string x.nm) ∧ w'.cell? ⟨w.heap.size + 1, 1, none⟩ = some (.slice (some ⟨bl, ol, none⟩) k f) ∧ w'.cell? ⟨bl, ol + j, none⟩ = some (.int .i64 z) ∧ Kept (Below w1.heap.size w1 w') ∧ Kept (Box w' wr.heap.size #[.string x.nm, .int .i64 x.lo, .int .i64 x.hi] 47))
        (first | (go_split_ands; exact ⟨by have := hbW.size; omega, by have := hbW.size; omega, by have := hbW.size; omega, (box_others (Kept.out ‹Kept (Box _ wr.heap.size _ _)›) hOK (by omega) (by decide)).cell 0, (hbW.cell (by simp; omega)).trans (by assumption), (hbW.cell (by simp; omega)).trans (by assumption), ⟨(Kept.out ‹Kept (Below w1.heap.size w1 _)›).trans hbW⟩, ⟨box_others (Kept.out ‹Kept (Box _ wr.heap.size _ _)›) hOK (by omega) (by decide)⟩⟩) | (go_split_ands; exact ⟨by have := hbb.size; omega, by have := hbb.size; omega, by have := hbb.size; omega, (hbb.cell (by simp; omega)).trans (by assumption), (hbb.cell (by simp; omega)).trans (by assumption), (hbb.cell (by simp; omega)).trans (by assumption), ⟨bthen (Kept.out ‹Kept (Below w1.heap.size w1 _)›) hbb (Kept.out ‹Kept (Below w1.heap.size w1 _)›).size⟩, ⟨(Kept.out ‹Kept (Box _ wr.heap.size _ _)›).belowA hbb⟩⟩) | go_keep)
        (first | (go_at_call 22; go_split_ands; refine (dec_any z _ HZZ.out.1 HZZ.out.2 (kT.out.below (Kept.out ‹Kept (Below w1.heap.size w1 _)›))).mono ?_; rw [HN.out]; rintro e5 wb ⟨rfl, hbb⟩) | (go_at_call 21; go_split_ands; refine (bld_write _ (kD.out.below hbb) HSZ.out).mono ?_; rintro e6 wc ⟨rfl, hBW, hbW, hOK⟩))
      rename_i hh
      obtain ⟨_, _, _, _, _, _, ⟨hRe⟩, _⟩ := hh
      clear v0 v1 v2 v3 v4 kXb kD kR2
      go_wp2_with fail
      go_roundw
      case rel => exact ⟨j + 1, by omega, by go_num, ⟨by rw [HST.out]; exact hBW⟩, ⟨hRe⟩⟩
      case measure => simp [intOf]; omega
    case neg =>
    obtain rfl : j = k := by omega
    have i1 : ¬ (j : Int) < (j : Int) := by omega
    have zl := (kX.out.belowA kR.out).lt
    have ul := (kY.out.belowA kR.out).lt
    have z0 : wr.cell? ⟨w.heap.size, 0, none⟩ = some (.slice A j c) := (kX.out.belowA kR.out).cell 0
    have z1 : wr.cell? ⟨w.heap.size, 1, none⟩ = some (.slice B l d) := (kX.out.belowA kR.out).cell 1
    have u0 : wr.cell? ⟨w.heap.size + 1, 0, none⟩ = some (.slice C l e) := (kY.out.belowA kR.out).cell 0
    have u1 : wr.cell? ⟨w.heap.size + 1, 1, none⟩ = some (.slice D j f) := (kY.out.belowA kR.out).cell 1
    have hs0 := txN_sz HOK.out HLB.out (k := j) hn24
    obtain ⟨s0, hs0e⟩ : ∃ y, txN ns ls j = y := ⟨_, rfl⟩
    rw [hs0e] at kB HQ hs0
    clear hs0e
    go_wp2_with fail
    go_loopw [38] (fun ii wr => ∃ i : Nat, i ≤ l ∧ ii = .int .i64 (i : Int) ∧ Kept (Bld wr w1.heap.size (txP ns ps fs s0 i)) ∧ Kept (Below w1.heap.size w1 wr)) (fun ii _ => l - (intOf ii).toNat)
    case atStart => exact ⟨0, Nat.zero_le _, rfl, kB, kR⟩
    case round =>
      rename_i wq _
      clear zl ul z0 z1 u0 u1 kB kR
      obtain ⟨i, hi, rfl, kB, kR⟩ := hrel
      by_cases hlt : i < l
      case pos =>
        obtain ⟨bp, op, p, rfl, hbp, hpp, _, q0, q1, q2, q3, q4⟩ := (kN.out.below kR.out).pipes.at_ hlt
        obtain ⟨e1, e2, l1, l2, _, _, _⟩ := pipe_ok HOK.out hpp
        have HLL1 := Lib.hid l1
        have HST := Lib.hid (show txP ns ps fs s0 (i + 1) = txP ns ps fs s0 i ++ (nmAt ns (efr (esOf ps) i) ++ ⟨#[62]⟩ ++ nmAt ns (eto (esOf ps) i) ++ ⟨#[61]⟩ ++ numB (fs.getD i 0) ++ ⟨#[10]⟩) by rw [txP, lnP])
        have hss := txP_sz HOK.out HFB.out hs0 (k := i) (by omega)
        obtain ⟨u, hu⟩ : ∃ y, efr (esOf ps) i = y := ⟨_, rfl⟩
        obtain ⟨v, hv⟩ : ∃ y, eto (esOf ps) i = y := ⟨_, rfl⟩
        rw [hu] at e1 l1 HST
        rw [hv] at e2 l2 HST
        rw [e1] at q0
        rw [e2] at q1
        rw [HNL.out] at l1 l2
        obtain ⟨bn, on, x, rfl, hbn, hx, _, c0, _, _⟩ := (kN.out).nodes.at_ l1
        obtain ⟨bn', on', x', hA', _, hx', _, c0', _, _⟩ := (kN.out).nodes.at_ l2
        obtain ⟨rfl, rfl⟩ : bn = bn' ∧ on = on' := by
          injection hA' with hA'
          injection hA' with a1 a2
          exact ⟨a1, a2⟩
        obtain ⟨bf, of, rfl, hbf, cz⟩ := kF.out.atD hlt
        have hns := nmAt_size HOK.out u
        have hns' := nmAt_size HOK.out v
        rw [nmAt_at hx] at hns HST
        rw [nmAt_at hx'] at hns' HST
        have hzz := bd_fl HFB.out i
        have hNs := num_sz (bd_fl HFB.out) i
        obtain ⟨z, hz⟩ : ∃ y, fs.getD i 0 = y := ⟨_, rfl⟩
        rw [hz] at cz hzz hNs HST
        have HZZ := Lib.hid hzz
        clear hzz
        obtain ⟨N, hN⟩ : ∃ y, numB z = y := ⟨_, rfl⟩
        rw [hN] at hNs HST
        have HN := Lib.hid hN
        obtain ⟨s, hs⟩ : ∃ y, txP ns ps fs s0 i = y := ⟨_, rfl⟩
        rw [hs] at kB HST hss
        obtain ⟨nx, hnx⟩ : ∃ y, x.nm = y := ⟨_, rfl⟩
        obtain ⟨nx', hnx'⟩ : ∃ y, x'.nm = y := ⟨_, rfl⟩
        rw [hnx] at c0 hns HST
        rw [hnx'] at c0' hns' HST
        clear hpp hx hx' hz hN hs e1 e2 hu hv hA' hnx hnx'
        have HSZ := Lib.hid (show s.size + (nx ++ (⟨#[62]⟩ : ByteArray) ++ nx' ++ (⟨#[61]⟩ : ByteArray) ++ N ++ (⟨#[10]⟩ : ByteArray)).size ≤ 140737488355328 by simp only [ByteArray.size_append]; simp only [show (⟨#[61]⟩ : ByteArray).size = 1 from rfl, show (⟨#[62]⟩ : ByteArray).size = 1 from rfl, show (⟨#[10]⟩ : ByteArray).size = 1 from rfl]; omega)
        have ca0 : ¬ 9223372036854775807 < nx.size + 1 := by omega
        have cb0 : ¬ 9223372036854775807 < (nx).size + 1 := by omega
        have ca1 : ¬ 9223372036854775807 < nx.size + 1 + nx'.size := by omega
        have cb1 : ¬ 9223372036854775807 < (nx ++ (⟨#[62]⟩ : ByteArray)).size + nx'.size := by simp only [ByteArray.size_append, show (⟨#[62]⟩ : ByteArray).size = 1 from rfl]; omega
        have ca2 : ¬ 9223372036854775807 < nx.size + 1 + nx'.size + 1 := by omega
        have cb2 : ¬ 9223372036854775807 < (nx ++ (⟨#[62]⟩ : ByteArray) ++ nx').size + 1 := by simp only [ByteArray.size_append, show (⟨#[62]⟩ : ByteArray).size = 1 from rfl]; omega
        have ca3 : ¬ 9223372036854775807 < nx.size + 1 + nx'.size + 1 + N.size := by omega
        have cb3 : ¬ 9223372036854775807 < (nx ++ (⟨#[62]⟩ : ByteArray) ++ nx' ++ (⟨#[61]⟩ : ByteArray)).size + N.size := by simp only [ByteArray.size_append, show (⟨#[61]⟩ : ByteArray).size = 1 from rfl, show (⟨#[62]⟩ : ByteArray).size = 1 from rfl]; omega
        have ca4 : ¬ 9223372036854775807 < nx.size + 1 + nx'.size + 1 + N.size + 1 := by omega
        have cb4 : ¬ 9223372036854775807 < (nx ++ (⟨#[62]⟩ : ByteArray) ++ nx' ++ (⟨#[61]⟩ : ByteArray) ++ N).size + 1 := by simp only [ByteArray.size_append, show (⟨#[61]⟩ : ByteArray).size = 1 from rfl, show (⟨#[62]⟩ : ByteArray).size = 1 from rfl]; omega
        have i0 : (0 : Int) ≤ (i : Int) := by omega
        have i1 : (i : Int) < (l : Int) := by omega
        have i2 : ¬ (l : Int) ≤ (i : Int) := by omega
        have iu0 : (0 : Int) ≤ (u : Int) := by omega
        have iu1 : (u : Int) < (j : Int) := by omega
        have iu2 : ¬ (j : Int) ≤ (u : Int) := by omega
        have iv0 : (0 : Int) ≤ (v : Int) := by omega
        have iv1 : (v : Int) < (j : Int) := by omega
        have iv2 : ¬ (j : Int) ≤ (v : Int) := by omega
        go_upto_region 12 with fail
        have bX := box_new wr #[.int .i64 (u : Int), .int .i64 (v : Int), .int .i64 p.k, .int .i64 p.v, .int .i64 p.l] 50
        have hV2 : Below wr.heap.size wr (wr.alloc (.cells #[.int .i64 (u : Int), .int .i64 (v : Int), .int .i64 p.k, .int .i64 p.v, .int .i64 p.l] 50)) := (Below.refl _ _).alloc (Nat.le_refl _) _
        generalize (wr.alloc (.cells #[.int .i64 (u : Int), .int .i64 (v : Int), .int .i64 p.k, .int .i64 p.v, .int .i64 p.l] 50)) = V2 at *
        clear q0 q1 q2 q3 q4
        have hbw := kB.out.lt
        have kR2 : Kept (Below w1.heap.size w1 V2.drew) := ⟨(bthen kR.out hV2 kR.out.size).drew⟩
        have kD : Kept (Bld V2.drew w1.heap.size s) := ⟨(kB.out.below hV2).drew⟩
        have kXb : Kept (Box V2.drew wr.heap.size #[.int .i64 (u : Int), .int .i64 (v : Int), .int .i64 p.k, .int .i64 p.v, .int .i64 p.l] 50) := ⟨bX.drew⟩
        have xl := bX.lt
        have v0 : V2.cell? ⟨wr.heap.size, 0, none⟩ = some (.int .i64 (u : Int)) := bX.cell 0
        have v1 : V2.cell? ⟨wr.heap.size, 1, none⟩ = some (.int .i64 (v : Int)) := bX.cell 1
        have v2 : V2.cell? ⟨w.heap.size, 0, none⟩ = some (.slice (some ⟨bn, on, none⟩) j c) := (kX.out.belowA kR2.out).cell 0
        have v3 : V2.cell? ⟨w.heap.size + 1, 0, none⟩ = some (.slice (some ⟨bf, of, none⟩) l e) := (kY.out.belowA kR2.out).cell 0
        have v4 : V2.cell? ⟨bn, on + u * 3, none⟩ = some (.string nx) := (kR2.out.cell (p := ⟨bn, on + u * 3, none⟩) hbn).trans c0
        have v5 : V2.cell? ⟨bn, on + v * 3, none⟩ = some (.string nx') := (kR2.out.cell (p := ⟨bn, on + v * 3, none⟩) hbn).trans c0'
        have v6 : V2.cell? ⟨bf, of + i, none⟩ = some (.int .i64 z) := (kR2.out.cell (p := ⟨bf, of + i, none⟩) hbf).trans cz
        have v7 : w.heap.size + 1 < V2.heap.size := by omega
        have v8 : w.heap.size < V2.heap.size := by omega
        have v9 : bn < V2.heap.size := by omega
        have v10 : bf < V2.heap.size := by omega
        clear kR kB bX hV2
        go_region_held3 (fun w' => wr.heap.size < w'.heap.size ∧ w.heap.size < w'.heap.size ∧ w.heap.size + 1 < w'.heap.size ∧ bn < w'.heap.size ∧ bf < w'.heap.size ∧ w'.cell? ⟨wr.heap.size, 0, none⟩ = some (.int .i64 (u : Int)) ∧ w'.cell? ⟨wr.heap.size, 1, none⟩ = some (.int .i64 (v : Int)) ∧ w'.cell? ⟨w.heap.size, 0, none⟩ = some (.slice (some ⟨bn, on, none⟩) j c) ∧ w'.cell? ⟨w.heap.size + 1, 0, none⟩ = some (.slice (some ⟨bf, of, none⟩) l e) ∧ w'.cell? ⟨bn, on + u * 3, none⟩ = some (.string nx) ∧ w'.cell? ⟨bn, on + v * 3, none⟩ = some (.string nx') ∧ w'.cell? ⟨bf, of + i, none⟩ = some (.int .i64 z) ∧ Kept (Below w1.heap.size w1 w') ∧ Kept (Box w' wr.heap.size #[.int .i64 (u : Int), .int .i64 (v : Int), .int .i64 p.k, .int .i64 p.v, .int .i64 p.l] 50))
          (first | (go_split_ands; exact ⟨by have := hbW.size; omega, by have := hbW.size; omega, by have := hbW.size; omega, by have := hbW.size; omega, by have := hbW.size; omega, (box_others (Kept.out ‹Kept (Box _ wr.heap.size _ _)›) hOK (by omega) (by decide)).cell 0, (box_others (Kept.out ‹Kept (Box _ wr.heap.size _ _)›) hOK (by omega) (by decide)).cell 1, (hbW.cell (by simp; omega)).trans (by assumption), (hbW.cell (by simp; omega)).trans (by assumption), (hbW.cell (by simp; omega)).trans (by assumption), (hbW.cell (by simp; omega)).trans (by assumption), (hbW.cell (by simp; omega)).trans (by assumption), ⟨(Kept.out ‹Kept (Below w1.heap.size w1 _)›).trans hbW⟩, ⟨box_others (Kept.out ‹Kept (Box _ wr.heap.size _ _)›) hOK (by omega) (by decide)⟩⟩) | (go_split_ands; exact ⟨by have := hbb.size; omega, by have := hbb.size; omega, by have := hbb.size; omega, by have := hbb.size; omega, by have := hbb.size; omega, (hbb.cell (by simp; omega)).trans (by assumption), (hbb.cell (by simp; omega)).trans (by assumption), (hbb.cell (by simp; omega)).trans (by assumption), (hbb.cell (by simp; omega)).trans (by assumption), (hbb.cell (by simp; omega)).trans (by assumption), (hbb.cell (by simp; omega)).trans (by assumption), (hbb.cell (by simp; omega)).trans (by assumption), ⟨bthen (Kept.out ‹Kept (Below w1.heap.size w1 _)›) hbb (Kept.out ‹Kept (Below w1.heap.size w1 _)›).size⟩, ⟨(Kept.out ‹Kept (Box _ wr.heap.size _ _)›).belowA hbb⟩⟩) | go_keep)
          (first | (go_at_call 22; go_split_ands; refine (dec_any z _ HZZ.out.1 HZZ.out.2 (kT.out.below (Kept.out ‹Kept (Below w1.heap.size w1 _)›))).mono ?_; rw [HN.out]; rintro e5 wb ⟨rfl, hbb⟩) | (go_at_call 21; go_split_ands; refine (bld_write _ (kD.out.below hbb) HSZ.out).mono ?_; rintro e6 wc ⟨rfl, hBW, hbW, hOK⟩))
        rename_i hh
        obtain ⟨_, _, _, _, _, _, _, _, _, _, _, _, ⟨hRe⟩, _⟩ := hh
        clear v0 v1 v2 v3 v4 v5 v6 v7 v8 v9 v10 kXb kD kR2
        go_wp2_with fail
        go_roundw
        case rel => exact ⟨i + 1, by omega, by go_num, ⟨by rw [HST.out]; exact hBW⟩, ⟨hRe⟩⟩
        case measure => simp [intOf]; omega
      case neg =>
      obtain rfl : i = l := by omega
      have i1 : ¬ (i : Int) < (i : Int) := by omega
      go_wp2_with fail
      refine (bld_text kB.out).mono ?_
      rintro e9 w9 ⟨rfl, hb9⟩
      go_wp2_with fail
      go_ret
      exact ⟨rsS HQ.out.symm, bthen kW.out (kR.out.trans hb9) kW.out.size⟩
end Go.Proofs.YtebefamekjjbcaaDoor
