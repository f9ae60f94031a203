/- What rootRange and l08Range do at the root 0, by walks over their text. Conditions: a valid (and connected) network, flows in range. -/
import Derived.Test.YtpgegfnhokhlmaaGreatLvS
import Derived.Test.YtpgegfnhokhlmaaGreatCon
set_option linter.unusedVariables false
set_option maxRecDepth 100000
namespace Go.Proofs.YtpgegfnhokhlmaaGreat
open Go.ChangeShapes Go.WideShapes Go.ChangeAt Go.RowKit Go.Joins Go.Deep
attribute [local go_sem ↓] Go.wp_at_zero Go.wp_at_succ

def nLo (ns : List Nd) (i : Nat) : Int := (ns.map Nd.lo).getD i 0
def nHi (ns : List Nd) (i : Nat) : Int := (ns.map Nd.hi).getD i 0
theorem nLo_at {ns : List Nd} {i : Nat} {x : Nd} (h : ns[i]? = some x) : nLo ns i = x.lo := by simp [nLo, List.getD, h]
theorem nHi_at {ns : List Nd} {i : Nat} {x : Nd} (h : ns[i]? = some x) : nHi ns i = x.hi := by simp [nHi, List.getD, h]
theorem node_bd {ns : List Nd} {ps : List Pp} (h : NetOk ns ps) {i : Nat} {x : Nd} (hx : ns[i]? = some x) : (0 ≤ x.lo ∧ x.lo ≤ 100000000) ∧ 0 ≤ x.hi ∧ x.hi ≤ 100000000 := by
  have hi := (List.getElem?_eq_some_iff.1 hx).1
  have h1 := (h.2.2.2.1 i x hi hx).1
  unfold nodeB at h1
  simp only [Bool.and_eq_true, decide_eq_true_eq] at h1
  omega
/-- The range that the first k nodes leave for the root's level. -/
def rLo (ns : List Nd) (lv : List Int) : Nat → Int
  | 0 => nLo ns 0
  | k + 1 => max (rLo ns lv k) (nLo ns k - lv.getD k 0)
def rHi (ns : List Nd) (lv : List Int) : Nat → Int
  | 0 => nHi ns 0
  | k + 1 => min (rHi ns lv k) (nHi ns k - lv.getD k 0)
theorem rng_bd {ns : List Nd} {ps : List Pp} {lv : List Int} {n : Nat} (h : NetOk ns ps) (hn : ns.length = n) (hl : ∀ v, v < n → (lv.getD v 0).natAbs ≤ 21600000000000) : ∀ k, k ≤ n → (rLo ns lv k).natAbs ≤ 21600100000000 ∧ (rHi ns lv k).natAbs ≤ 21600100000000 := by
  have h0 : ns[0]? = some (ns[0]'(by have := h.1; omega)) := List.getElem?_eq_getElem _
  intro k
  induction k with
  | zero =>
    intro _
    have := node_bd h h0
    unfold rLo rHi
    rw [nLo_at h0, nHi_at h0]
    omega
  | succ k ih =>
    intro hk
    have h1 := ih (by omega)
    have hx : ns[k]? = some (ns[k]'(by omega)) := List.getElem?_eq_getElem _
    have h2 := node_bd h hx
    have h3 := hl k (by omega)
    unfold rLo rHi
    rw [nLo_at hx, nHi_at hx]
    omega
theorem lvR_bd {ns : List Nd} {ps : List Pp} {fs : List Int} {n : Nat} (hok : NetOk ns ps) (hn : ns.length = n) (hl : fs.length = ps.length) (hr : inR fs = true) : ∀ v, v < n → ((lvR (esOf ps) (ksL ps) n fs 0).getD v 0).natAbs ≤ 21600000000000 := by
  intro v hv
  have hg : Good (esOf ps) n := by rw [← hn]; exact net_good hok
  rw [lvR_at hv, Int.add_zero]
  have h1 := lvs_bd (n := n) hg (by omega) (dF_bd hok hl hr) hv
  have h2 : n * 900000000000 ≤ 24 * 900000000000 := Nat.mul_le_mul_right _ (by have := hok.2.1; omega)
  omega
theorem lvR_zero {ns : List Nd} {ps : List Pp} {fs : List Int} {n : Nat} {x : Int} (hok : NetOk ns ps) (hn : ns.length = n) (h0 : 0 < n) : (lvR (esOf ps) (ksL ps) n fs x).getD 0 0 = x := by
  have hg : Good (esOf ps) n := by rw [← hn]; exact net_good hok
  rw [lvR_at h0, lvs_root hg h0 (by simp)]
  simp [List.getD, h0]
/-- The range's ends. -/
def rngL (ns : List Nd) (ps : List Pp) (n : Nat) (fs : List Int) : Int := rLo ns (lvR (esOf ps) (ksL ps) n fs 0) n
def rngH (ns : List Nd) (ps : List Pp) (n : Nat) (fs : List Int) : Int := rHi ns (lvR (esOf ps) (ksL ps) n fs 0) n
/-- The range, and a code: 7 where it is empty. -/
def rngC (ns : List Nd) (ps : List Pp) (n : Nat) (fs : List Int) : Int := if rngH ns ps n fs < rngL ns ps n fs then 7 else 0
def rngA (ns : List Nd) (ps : List Pp) (n : Nat) (fs : List Int) : Int := if rngC ns ps n fs = 0 then rngL ns ps n fs else 0
def rngB (ns : List Nd) (ps : List Pp) (n : Nat) (fs : List Int) : Int := if rngC ns ps n fs = 0 then rngH ns ps n fs else 0
theorem rng_no {ns : List Nd} {ps : List Pp} {n : Nat} {fs : List Int} (h : rngH ns ps n fs < rngL ns ps n fs) : rngC ns ps n fs = 7 ∧ rngA ns ps n fs = 0 ∧ rngB ns ps n fs = 0 := by
  have e : rngC ns ps n fs = 7 := by unfold rngC; rw [if_pos h]
  refine ⟨e, ?_, ?_⟩
  · unfold rngA; rw [e, if_neg (by decide)]
  · unfold rngB; rw [e, if_neg (by decide)]
theorem rng_ok {ns : List Nd} {ps : List Pp} {n : Nat} {fs : List Int} (h : ¬ rngH ns ps n fs < rngL ns ps n fs) : rngC ns ps n fs = 0 ∧ rngA ns ps n fs = rngL ns ps n fs ∧ rngB ns ps n fs = rngH ns ps n fs := by
  have e : rngC ns ps n fs = 0 := by unfold rngC; rw [if_neg h]
  refine ⟨e, ?_, ?_⟩
  · unfold rngA; rw [e, if_pos rfl]
  · unfold rngB; rw [e, if_pos rfl]
set_option maxHeartbeats 8000000 in
theorem range_any (A B C : Option Addr) (n c m d e1 : Nat) (fs : List Int) (ns : List Nd) (ps : List Pp) (w : World) (h : IsNet w A n c ns B m d ps) (hok : NetOk ns ps) (hf : Ints w C m fs) (hfr : inR fs = true) :
    Calls Tryz.prog 152 #[.agg #[.slice A n c, .slice B m d], .slice C m e1, .int .i64 0] w fun e w' => e = .returned (.tuple #[.int .i64 (rngA ns ps n fs), .int .i64 (rngB ns ps n fs), .int .i64 (rngC ns ps n fs)]) ∧ Below w.heap.size w w' := by
  have hln : ns.length = n := h.nodes.len
  have hn24 : n ≤ 24 := by have := hok.2.1; omega
  have hn1 : 0 < n := by have := hok.1; omega
  have HLB := Lib.hid (lvR_bd hok hln (show fs.length = ps.length by rw [hf.len, h.pipes.len]) hfr)
  have HL0 := Lib.hid (lvR_zero (fs := fs) (x := 0) hok hln hn1)
  have HRB := Lib.hid (rng_bd hok hln HLB.out)
  have HLL := Lib.hid (lvR_len (esOf ps) (ksL ps) n fs 0)
  have HOK := Lib.hid hok
  have HFR := Lib.hid hfr
  have HRL := Lib.hid (show rngL ns ps n fs = rLo ns (lvR (esOf ps) (ksL ps) n fs 0) n from rfl)
  have HRH := Lib.hid (show rngH ns ps n fs = rHi ns (lvR (esOf ps) (ksL ps) n fs 0) n from rfl)
  obtain ⟨lv, hlv⟩ : ∃ y, lvR (esOf ps) (ksL ps) n fs 0 = y := ⟨_, rfl⟩
  rw [hlv] at HLB HL0 HRB HRL HRH HLL
  have HLV := Lib.hid hlv
  have hV : Below w.heap.size w (w.alloc (.cells #[.slice A n c, .slice B m d] 33)) := (Below.refl _ _).alloc (Nat.le_refl _) _
  have bx := box_new w #[.slice A n c, .slice B m d] 33
  obtain ⟨bn, on, x0', rfl, hnw, hnx, hnk, n0, n1, n2⟩ := h.nodes.at_ hn1
  have HX0 := Lib.hid (nLo_at hnx)
  have HY0 := Lib.hid (nHi_at hnx)
  rw [Nat.zero_mul, Nat.add_zero] at n0 n1 n2
  clear hok hfr hlv hln hnx
  go_enter Tryz.func152, Tryz.ntmps152
  go_upto_region 1 with fail
  generalize (w.alloc (.cells #[.slice (some ⟨bn, on, none⟩) n c, .slice B m d] 33)) = V at *
  have xl := bx.lt
  have x0 : V.cell? ⟨w.heap.size, 0, none⟩ = some (.slice (some ⟨bn, on, none⟩) n c) := bx.cell 0
  have x1 : V.cell? ⟨w.heap.size, 1, none⟩ = some (.slice B m d) := bx.cell 1
  go_upto_region 2 with (go_at_call 90; refine (lev_any _ _ _ _ _ _ _ _ 0 fs ns ps _ (h.below hV) HOK.out (hf.below hV) HFR.out ⟨by omega, by omega⟩).mono ?_; rw [HLV.out]; rintro e1 w1 ⟨A1, c1, rfl, o1, hb1⟩; rw [HLL.out] at o1 ⊢)
  have hW1 := bthen hV hb1 hV.size
  have bx1 := bx.belowA hb1
  have hs1 := hW1.size
  obtain ⟨g1, rfl, _, hg1⟩ := o1.form hn1
  clear bx x0 x1 xl hb1 hV
  have xl := bx1.lt
  have x0 : w1.cell? ⟨w.heap.size, 0, none⟩ = some (.slice (some ⟨bn, on, none⟩) n c) := bx1.cell 0
  have x1 : w1.cell? ⟨w.heap.size, 1, none⟩ = some (.slice B m d) := bx1.cell 1
  have m1 := (hW1.cell (p := ⟨bn, on + 1, none⟩) hnw).trans n1
  have m2 := (hW1.cell (p := ⟨bn, on + 2, none⟩) hnw).trans n2
  have hnl : bn < w1.heap.size := by omega
  have z0 : (0 : Int) < (n : Int) := by omega
  go_quiet (fail)
  obtain ⟨w2, hw2⟩ : ∃ y, w1.drewN nq = y := ⟨_, rfl⟩
  have hq1 : Qt w1 w2 := ⟨nq, hw2.symm⟩
  have o2 := o1.qt hq1
  have bx2 := bx1.qt hq1
  have hW2 := hW1.trans (hq1.below _)
  have hs2 := hW2.size
  rw [hw2]
  have HR0 := Lib.hid (show rLo ns lv 0 = x0'.lo from HX0.out)
  have HH0 := Lib.hid (show rHi ns lv 0 = x0'.hi from HY0.out)
  clear hw2 hq1 o1 bx1 x0 x1 xl m1 m2 hW1 hs1 hnl
  have xl := bx2.lt
  have x0 : w2.cell? ⟨w.heap.size, 0, none⟩ = some (.slice (some ⟨bn, on, none⟩) n c) := bx2.cell 0
  have x1 : w2.cell? ⟨w.heap.size, 1, none⟩ = some (.slice B m d) := bx2.cell 1
  go_wp2_with fail
  go_loopw [10, 11, 33] (fun ll hh ii wr => ∃ (k : Nat), k ≤ n ∧ ll = .int .i64 (rLo ns lv k) ∧ hh = .int .i64 (rHi ns lv k) ∧ ii = .int .i64 (k : Int) ∧ Below w2.heap.size w2 wr) (fun _ _ ii _ => n - (intOf ii).toNat)
  case atStart => exact ⟨0, Nat.zero_le _, by rw [HR0.out], by rw [HH0.out], rfl, Below.refl _ _⟩
  case round =>
    clear x0 x1 xl
    obtain ⟨k, hk, rfl, rfl, rfl, hb⟩ := hrel
    have hWr := bthen hW2 hb hW2.size
    by_cases hlt : k < n
    · obtain ⟨bn', on', x, hA, hnw', hnx, hnk', q0, q1, q2⟩ := h.nodes.at_ hlt
      obtain ⟨rfl, rfl⟩ : bn = bn' ∧ on = on' := by
        injection hA with hA
        injection hA with e1 e2
        exact ⟨e1, e2⟩
      have hbd := HRB.out k hk
      have hxb := node_bd HOK.out hnx
      have hlb := HLB.out k hlt
      have HSL := Lib.hid (show rLo ns lv (k + 1) = max (rLo ns lv k) (nLo ns k - lv.getD k 0) from rfl)
      have HSH := Lib.hid (show rHi ns lv (k + 1) = min (rHi ns lv k) (nHi ns k - lv.getD k 0) from rfl)
      rw [nLo_at hnx] at HSL
      rw [nHi_at hnx] at HSH
      have hz := ((o2.below hb).atD hlt).1
      have hgl := ((o2.below hb).atD hlt).2.2.2
      obtain ⟨z, hz1⟩ : ∃ y, lv.getD k 0 = y := ⟨_, rfl⟩
      obtain ⟨a, ha⟩ : ∃ y, rLo ns lv k = y := ⟨_, rfl⟩
      obtain ⟨b, hb1⟩ : ∃ y, rHi ns lv k = y := ⟨_, rfl⟩
      obtain ⟨xo, hxo⟩ : ∃ y, x.lo = y := ⟨_, rfl⟩
      obtain ⟨xh, hxh⟩ : ∃ y, x.hi = y := ⟨_, rfl⟩
      have r0 := (hWr.cell (p := ⟨bn, on + k * 3, none⟩) hnw').trans q0
      have r1 := (hWr.cell (p := ⟨bn, on + k * 3 + 1, none⟩) hnw').trans q1
      have r2 := (hWr.cell (p := ⟨bn, on + k * 3 + 2, none⟩) hnw').trans q2
      rw [hz1] at hz hlb HSL HSH
      rw [ha] at hbd HSL ⊢
      rw [hb1] at hbd HSH ⊢
      rw [hxo] at r1 hxb HSL
      rw [hxh] at r2 hxb HSH
      have HA : (a < xo - z ∧ max a (xo - z) = xo - z) ∨ (¬ a < xo - z ∧ max a (xo - z) = a) := by omega
      have HB : (xh - z < b ∧ min b (xh - z) = xh - z) ∨ (¬ xh - z < b ∧ min b (xh - z) = b) := by omega
      have s1 : IntKind.i64.wrap (xo - z) = xo - z := IntWalk.i64_in _ (by omega)
      have s2 : IntKind.i64.wrap (xh - z) = xh - z := IntWalk.i64_in _ (by omega)
      have k0 : (0 : Int) ≤ (k : Int) := by omega
      have k1 : (k : Int) < (n : Int) := by omega
      have hwr := hWr.size
      have hnl : bn < wr.heap.size := by omega
      have hV1 : Below wr.heap.size wr (wr.alloc (.cells #[.string x.nm, .int .i64 xo, .int .i64 xh] 92)) := (Below.refl _ _).alloc (Nat.le_refl _) _
      have bP := box_new wr #[.string x.nm, .int .i64 xo, .int .i64 xh] 92
      have hbN := bthen hb hV1 hb.size
      have hz2 := (hV1.cell (p := ⟨g1, k, none⟩) hgl).trans hz
      have hs1 := hV1.size
      clear hnx q0 q1 q2 hz1 ha hb1 hxo hxh hA hb
      go_upto_region 6 with fail
      obtain ⟨PB, hPB⟩ : ∃ y, wr.heap.size = y := ⟨_, rfl⟩
      rw [hPB] at bP
      clear r0 r1 r2 hz
      generalize (wr.alloc (.cells #[.string x.nm, .int .i64 xo, .int .i64 xh] 92)) = V1 at *
      have yl := bP.lt
      have y1 : V1.cell? ⟨PB, 1, none⟩ = some (.int .i64 xo) := bP.cell 1
      have y2 : V1.cell? ⟨PB, 2, none⟩ = some (.int .i64 xh) := bP.cell 2
      have hgl2 : g1 < V1.heap.size := by omega
      rw [hPB]
      clear HA HB
      go_quiet (fail)
      have hbE := hbN.trans ((Qt.below ⟨nq, rfl⟩ w2.heap.size : Below w2.heap.size V1 (V1.drewN nq)))
      go_wp2_with fail
      go_roundw
      case rel => exact ⟨k + 1, by omega, by rw [HSL.out], by rw [HSH.out], by go_num, hbE⟩
      case measure => simp [intOf]; omega
    · obtain rfl : n = k := by omega
      have hbd := HRB.out n (Nat.le_refl _)
      by_cases hE : rngH ns ps n fs < rngL ns ps n fs
      · obtain ⟨e1, e2, e3⟩ := rng_no hE
        have H1 := Lib.hid e1
        have H2 := Lib.hid e2
        have H3 := Lib.hid e3
        have hE2 : rHi ns lv n < rLo ns lv n := by rw [← HRL.out, ← HRH.out]; exact hE
        clear hE e1 e2 e3
        go_wp2_with fail
        go_ret3
        exact ⟨ri3 H2.out.symm H3.out.symm H1.out.symm, hWr⟩
      · obtain ⟨e1, e2, e3⟩ := rng_ok hE
        rw [HRL.out] at e2
        rw [HRH.out] at e3
        have H1 := Lib.hid e1
        have H2 := Lib.hid e2
        have H3 := Lib.hid e3
        have hE2 : ¬ rHi ns lv n < rLo ns lv n := by rw [← HRL.out, ← HRH.out]; exact hE
        clear hE e1 e2 e3
        go_wp2_with fail
        go_ret3
        exact ⟨ri3 H2.out.symm H3.out.symm H1.out.symm, hWr⟩
set_option maxHeartbeats 8000000 in
theorem sRange_any (A B C : Option Addr) (n c m d e1 : Nat) (fs : List Int) (ns : List Nd) (ps : List Pp) (w : World) (h : IsNet w A n c ns B m d ps) (hok : NetOk ns ps) (hcn : Conn (esOf ps) n) (hf : Ints w C m fs) (hfr : inR fs = true) :
    Calls Tryz.prog 151 #[.agg #[.slice A n c, .slice B m d], .slice C m e1, .int .i64 0] w fun e w' => e = .returned (.tuple #[.int .i64 (rngL ns ps n fs), .int .i64 (rngH ns ps n fs)]) ∧ Below w.heap.size w w' := by
  have hln : ns.length = n := h.nodes.len
  have hn24 : n ≤ 24 := by have := hok.2.1; omega
  have hn1 : 0 < n := by have := hok.1; omega
  have HLB := Lib.hid (lvR_bd hok hln (show fs.length = ps.length by rw [hf.len, h.pipes.len]) hfr)
  have HL0 := Lib.hid (lvR_zero (fs := fs) (x := 0) hok hln hn1)
  have HRB := Lib.hid (rng_bd hok hln HLB.out)
  have HLL := Lib.hid (lvR_len (esOf ps) (ksL ps) n fs 0)
  have HOK := Lib.hid hok
  have HFR := Lib.hid hfr
  have HRL := Lib.hid (show rngL ns ps n fs = rLo ns (lvR (esOf ps) (ksL ps) n fs 0) n from rfl)
  have HRH := Lib.hid (show rngH ns ps n fs = rHi ns (lvR (esOf ps) (ksL ps) n fs 0) n from rfl)
  obtain ⟨lv, hlv⟩ : ∃ y, lvR (esOf ps) (ksL ps) n fs 0 = y := ⟨_, rfl⟩
  rw [hlv] at HLB HL0 HRB HRL HRH HLL
  have HLV := Lib.hid hlv
  have hV : Below w.heap.size w (w.alloc (.cells #[.slice A n c, .slice B m d] 33)) := (Below.refl _ _).alloc (Nat.le_refl _) _
  have bx := box_new w #[.slice A n c, .slice B m d] 33
  obtain ⟨bn, on, x0', rfl, hnw, hnx, hnk, n0, n1, n2⟩ := h.nodes.at_ hn1
  have HX0 := Lib.hid (nLo_at hnx)
  have HY0 := Lib.hid (nHi_at hnx)
  rw [Nat.zero_mul, Nat.add_zero] at n0 n1 n2
  have HCN := Lib.hid hcn
  clear hok hfr hlv hln hnx hcn
  go_enter Tryz.func151, Tryz.ntmps151
  go_upto_region 1 with fail
  generalize (w.alloc (.cells #[.slice (some ⟨bn, on, none⟩) n c, .slice B m d] 33)) = V at *
  have xl := bx.lt
  have x0 : V.cell? ⟨w.heap.size, 0, none⟩ = some (.slice (some ⟨bn, on, none⟩) n c) := bx.cell 0
  have x1 : V.cell? ⟨w.heap.size, 1, none⟩ = some (.slice B m d) := bx.cell 1
  go_upto_region 2 with (go_at_call 85; refine (sLvs_any _ _ _ _ _ _ _ _ 0 fs ns ps _ (h.below hV) HOK.out HCN.out (hf.below hV) HFR.out ⟨by omega, by omega⟩).mono ?_; rw [HLV.out]; rintro e1 w1 ⟨A1, c1, rfl, o1, hb1⟩; rw [HLL.out] at o1 ⊢)
  have hW1 := bthen hV hb1 hV.size
  have bx1 := bx.belowA hb1
  have hs1 := hW1.size
  obtain ⟨g1, rfl, _, hg1⟩ := o1.form hn1
  clear bx x0 x1 xl hb1 hV
  have xl := bx1.lt
  have x0 : w1.cell? ⟨w.heap.size, 0, none⟩ = some (.slice (some ⟨bn, on, none⟩) n c) := bx1.cell 0
  have x1 : w1.cell? ⟨w.heap.size, 1, none⟩ = some (.slice B m d) := bx1.cell 1
  have m1 := (hW1.cell (p := ⟨bn, on + 1, none⟩) hnw).trans n1
  have m2 := (hW1.cell (p := ⟨bn, on + 2, none⟩) hnw).trans n2
  have m3 := (o1.atD hn1).1
  rw [HL0.out] at m3
  have hnl : bn < w1.heap.size := by omega
  have z0 : (0 : Int) < (n : Int) := by omega
  obtain ⟨a0, ha0⟩ : ∃ y, x0'.lo = y := ⟨_, rfl⟩
  obtain ⟨b0, hb0⟩ : ∃ y, x0'.hi = y := ⟨_, rfl⟩
  have hbd0 := HRB.out 0 (Nat.zero_le _)
  rw [show rLo ns lv 0 = x0'.lo from HX0.out, show rHi ns lv 0 = x0'.hi from HY0.out, ha0, hb0] at hbd0
  rw [ha0] at m1 HX0
  rw [hb0] at m2 HY0
  have s1 : IntKind.i64.wrap (a0 - 0) = a0 - 0 := IntWalk.i64_in _ (by omega)
  have s2 : IntKind.i64.wrap (b0 - 0) = b0 - 0 := IntWalk.i64_in _ (by omega)
  clear ha0 hb0
  go_quiet (fail)
  obtain ⟨w2, hw2⟩ : ∃ y, w1.drewN nq = y := ⟨_, rfl⟩
  have hq1 : Qt w1 w2 := ⟨nq, hw2.symm⟩
  have o2 := o1.qt hq1
  have bx2 := bx1.qt hq1
  have hW2 := hW1.trans (hq1.below _)
  have hs2 := hW2.size
  rw [hw2]
  have HR1 := Lib.hid (show rLo ns lv 1 = a0 by
    show max (nLo ns 0) (nLo ns 0 - lv.getD 0 0) = a0
    rw [HX0.out, HL0.out]
    omega)
  have HH1 := Lib.hid (show rHi ns lv 1 = b0 by
    show min (nHi ns 0) (nHi ns 0 - lv.getD 0 0) = b0
    rw [HY0.out, HL0.out]
    omega)
  clear hw2 hq1 o1 bx1 x0 x1 xl m1 m2 m3 hW1 hs1 hnl s1 s2
  have xl := bx2.lt
  have x0 : w2.cell? ⟨w.heap.size, 0, none⟩ = some (.slice (some ⟨bn, on, none⟩) n c) := bx2.cell 0
  have x1 : w2.cell? ⟨w.heap.size, 1, none⟩ = some (.slice B m d) := bx2.cell 1
  go_wp2_with fail
  go_loopw [9, 10, 11] (fun ll hh ii wr => ∃ (k : Nat), 1 ≤ k ∧ k ≤ n ∧ ll = .int .i64 (rLo ns lv k) ∧ hh = .int .i64 (rHi ns lv k) ∧ ii = .int .i64 (k : Int) ∧ Qt w2 wr) (fun _ _ ii _ => n - (intOf ii).toNat)
  case atStart => exact ⟨1, Nat.le_refl _, hn1, by rw [HR1.out]; try simp, by rw [HH1.out]; try simp, rfl, Qt.refl _⟩
  case round =>
    clear x0 x1 xl
    obtain ⟨k, hk1, hk, rfl, rfl, rfl, hq⟩ := hrel
    have hb := hq.below w2.heap.size
    have hWr := bthen hW2 hb hW2.size
    by_cases hlt : k < n
    · obtain ⟨bn', on', x, hA, hnw', hnx, hnk', q0, q1, q2⟩ := h.nodes.at_ hlt
      obtain ⟨rfl, rfl⟩ : bn = bn' ∧ on = on' := by
        injection hA with hA
        injection hA with e1 e2
        exact ⟨e1, e2⟩
      have hbd := HRB.out k hk
      have hxb := node_bd HOK.out hnx
      have hlb := HLB.out k hlt
      have HSL := Lib.hid (show rLo ns lv (k + 1) = max (rLo ns lv k) (nLo ns k - lv.getD k 0) from rfl)
      have HSH := Lib.hid (show rHi ns lv (k + 1) = min (rHi ns lv k) (nHi ns k - lv.getD k 0) from rfl)
      rw [nLo_at hnx] at HSL
      rw [nHi_at hnx] at HSH
      have hz := ((o2.below hb).atD hlt).1
      have hgl := ((o2.below hb).atD hlt).2.2.2
      obtain ⟨z, hz1⟩ : ∃ y, lv.getD k 0 = y := ⟨_, rfl⟩
      obtain ⟨a, ha⟩ : ∃ y, rLo ns lv k = y := ⟨_, rfl⟩
      obtain ⟨b, hb1⟩ : ∃ y, rHi ns lv k = y := ⟨_, rfl⟩
      obtain ⟨xo, hxo⟩ : ∃ y, x.lo = y := ⟨_, rfl⟩
      obtain ⟨xh, hxh⟩ : ∃ y, x.hi = y := ⟨_, rfl⟩
      have r1 := (hWr.cell (p := ⟨bn, on + k * 3 + 1, none⟩) hnw').trans q1
      have r2 := (hWr.cell (p := ⟨bn, on + k * 3 + 2, none⟩) hnw').trans q2
      rw [hz1] at hz hlb HSL HSH
      rw [ha] at hbd HSL ⊢
      rw [hb1] at hbd HSH ⊢
      rw [hxo] at r1 hxb HSL
      rw [hxh] at r2 hxb HSH
      have s1 : IntKind.i64.wrap (xo - z) = xo - z := IntWalk.i64_in _ (by omega)
      have s2 : IntKind.i64.wrap (xh - z) = xh - z := IntWalk.i64_in _ (by omega)
      have k0 : (0 : Int) ≤ (k : Int) := by omega
      have k1 : (k : Int) < (n : Int) := by omega
      have hwr := hWr.size
      have hnl : bn < wr.heap.size := by omega
      have bxr := bx2.qt hq
      have xl := bxr.lt
      have x0 : wr.cell? ⟨w.heap.size, 0, none⟩ = some (.slice (some ⟨bn, on, none⟩) n c) := bxr.cell 0
      have x1 : wr.cell? ⟨w.heap.size, 1, none⟩ = some (.slice B m d) := bxr.cell 1
      clear hnx q0 q1 q2 hz1 ha hb1 hxo hxh hA
      go_upto_region 6 with fail
      go_quiet (fail)
      obtain ⟨w3, hw3⟩ : ∃ y, wr.drewN nq = y := ⟨_, rfl⟩
      have hq3 : Qt wr w3 := ⟨nq, hw3.symm⟩
      rw [hw3]
      have r13 := (hq3.cell ⟨bn, on + k * 3 + 1, none⟩).trans r1
      have r23 := (hq3.cell ⟨bn, on + k * 3 + 2, none⟩).trans r2
      have hz3 := (hq3.cell ⟨g1, k, none⟩).trans hz
      have bx3 := bxr.qt hq3
      have hs3 := (hq3.below wr.heap.size).size
      clear hw3 r1 r2 hz x0 x1 xl bxr
      have xl := bx3.lt
      have x0 : w3.cell? ⟨w.heap.size, 0, none⟩ = some (.slice (some ⟨bn, on, none⟩) n c) := bx3.cell 0
      have x1 : w3.cell? ⟨w.heap.size, 1, none⟩ = some (.slice B m d) := bx3.cell 1
      have hnl3 : bn < w3.heap.size := by omega
      have hgl3 : g1 < w3.heap.size := by omega
      go_upto_region 7 with fail
      go_quiet (fail)
      have hqE : Qt w2 (w3.drewN nq) := (hq.trans hq3).trans ⟨nq, rfl⟩
      go_wp2_with fail
      go_roundw
      case rel => exact ⟨k + 1, by omega, by omega, by rw [HSL.out], by rw [HSH.out], by go_num, hqE⟩
      case measure => simp [intOf]; omega
    · obtain rfl : n = k := by omega
      have H1 := Lib.hid HRL.out
      have H2 := Lib.hid HRH.out
      go_wp2_with fail
      go_ret2
      exact ⟨ri2 H1.out.symm H2.out.symm, hWr⟩
end Go.Proofs.YtpgegfnhokhlmaaGreat
