/- What SolveStep (of the program) does, by a walk over its text. Condition: lists of at most 2^20 numbers. -/
import Derived.Test.YtpgegfnhokhlmabGreatStb
set_option linter.unusedVariables false
set_option maxRecDepth 100000
namespace Go.Proofs.YtpgegfnhokhlmabGreat
open Go.ChangeShapes Go.WideShapes Go.ChangeAt Go.RowKit Go.Joins Go.Deep
attribute [local go_sem ↓] Go.wp_at_zero Go.wp_at_succ

set_option maxHeartbeats 20000000 in
theorem step_any (A B C D : Option Addr) (n c m d l e l2 e2 : Nat) (fs ts : List Int) (ns : List Nd) (ps : List Pp) (w : World) (h : IsNet w A n c ns B m d ps) (hz : Ints w C l fs) (ht : Ints w D l2 ts) (hl : l ≤ 1048576) (hl2 : l2 ≤ 1048576) :
    Calls Tryz.prog 26 #[.agg #[.slice A n c, .slice B m d], .slice C l e, .slice D l2 e2] w (RetI2 w (stL ns ps n m fs ts) (stC ns ps n m fs ts)) := by
  have bx0 := box_new w #[.slice A n c, .slice B m d] 33
  have hW0 : Below w.heap.size w (w.alloc (.cells #[.slice A n c, .slice B m d] 33)) := (Below.refl _ _).alloc (Nat.le_refl _) _
  by_cases hcc : codeF ns ps m fs = 0
  case neg =>
    have hk := st_code (n := n) (ts := ts) hcc
    obtain ⟨K, hK⟩ : ∃ y, codeF ns ps m fs = y := ⟨_, rfl⟩
    rw [hK] at hcc hk
    have HC := Lib.hid hk
    have HL := Lib.hid (stL_bad hk hcc)
    have HK := Lib.hid hK
    have t1 : (K != 0) = true := by simpa using hcc
    clear hK hcc hk
    go_enter Tryz.func26, Tryz.ntmps26
    go_upto_region 1 with fail
    generalize (w.alloc (.cells #[.slice A n c, .slice B m d] 33)) = w0 at *
    have xl := bx0.lt
    have x0 : w0.cell? ⟨w.heap.size, 0, none⟩ = some (.slice A n c) := bx0.cell 0
    have x1 : w0.cell? ⟨w.heap.size, 1, none⟩ = some (.slice B m d) := bx0.cell 1
    go_upto_region 3 with (go_at_call 59; refine (codeF_any _ _ _ _ _ _ _ _ _ ns ps fs _ (h.below hW0) (hz.below hW0) hl).mono ?_; rw [HK.out]; rintro e1 w1 ⟨rfl, hb1⟩)
    have hW1 := bthen hW0 hb1 hW0.size
    have bx1 := bx0.belowA hb1
    clear x0 x1 xl bx0 hb1
    have xl := bx1.lt
    have x0 : w1.cell? ⟨w.heap.size, 0, none⟩ = some (.slice A n c) := bx1.cell 0
    have x1 : w1.cell? ⟨w.heap.size, 1, none⟩ = some (.slice B m d) := bx1.cell 1
    go_wp2_with fail
    go_ret2
    exact retI2_nil HL.out HC.out hW1
  have HCC := Lib.hid hcc
  obtain ⟨hok, hfb⟩ : NetOk ns ps ∧ flB m fs = true := by
    rcases codeF_in ns ps m fs with ⟨_, h1, h2⟩ | h1 | h1
    · exact ⟨h1, h2⟩
    · rw [h1] at hcc; exact absurd hcc (by decide)
    · rw [h1] at hcc; exact absurd hcc (by decide)
  have hgd : Good (esOf ps) n := by rw [← h.nodes.len]; exact net_good hok
  have hn24 : n ≤ 24 := by have := hok.2.1; have := h.nodes.len; omega
  have hm40 : m ≤ 40 := by have := hok.2.2.1; have := h.pipes.len; omega
  have hn20 : n ≤ 1048576 := by omega
  have hel : (esOf ps).length = m := by rw [esOf_len]; exact h.pipes.len
  have HOK := Lib.hid hok
  have HFB := Lib.hid hfb
  have HOL := Lib.hid (outF_len (esOf ps) n fs)
  obtain rfl : m = l := by rw [← hz.len]; exact (flB_len hfb).symm
  cases hsu : flB n ts
  case false =>
    have hk := st_sup hcc hsu
    have HC := Lib.hid hk
    have HL := Lib.hid (stL_bad hk (by decide))
    have HSU := Lib.hid hsu
    clear hcc hsu hk hok hfb hgd hel
    go_enter Tryz.func26, Tryz.ntmps26
    go_upto_region 1 with fail
    generalize (w.alloc (.cells #[.slice A n c, .slice B m d] 33)) = w0 at *
    have xl := bx0.lt
    have x0 : w0.cell? ⟨w.heap.size, 0, none⟩ = some (.slice A n c) := bx0.cell 0
    have x1 : w0.cell? ⟨w.heap.size, 1, none⟩ = some (.slice B m d) := bx0.cell 1
    go_upto_region 4 with (go_at_call 59; refine (codeF_any _ _ _ _ _ _ _ _ _ ns ps fs _ (h.below hW0) (hz.below hW0) hl).mono ?_; rw [HCC.out]; rintro e1 w1 ⟨rfl, hb1⟩)
    have hW1 := bthen hW0 hb1 hW0.size
    have bx1 := bx0.belowA hb1
    clear x0 x1 xl bx0 hb1
    have xl := bx1.lt
    have x0 : w1.cell? ⟨w.heap.size, 0, none⟩ = some (.slice A n c) := bx1.cell 0
    have x1 : w1.cell? ⟨w.heap.size, 1, none⟩ = some (.slice B m d) := bx1.cell 1
    go_upto_region 5 with (go_at_call 64; refine (areSup_any _ _ _ _ _ _ _ _ _ ts _ (ht.below hW1) hl2).mono ?_; rw [HSU.out]; rintro e2 w2 ⟨rfl, hb2⟩)
    have hW2 := bthen hW1 hb2 hW1.size
    have bx2 := bx1.belowA hb2
    clear x0 x1 xl bx1 hb2
    have xl := bx2.lt
    have x0 : w2.cell? ⟨w.heap.size, 0, none⟩ = some (.slice A n c) := bx2.cell 0
    have x1 : w2.cell? ⟨w.heap.size, 1, none⟩ = some (.slice B m d) := bx2.cell 1
    go_wp2_with fail
    go_ret2
    exact retI2_nil HL.out HC.out hW2
  have HSU := Lib.hid hsu
  obtain rfl : n = l2 := by rw [← ht.len]; exact (flB_len hsu).symm
  have HE1 := Lib.hid (show ∀ i, i < n → (ts.getD i 0).natAbs ≤ 1200000 from fun i hi => Nat.le_trans (flB_get hsu i hi) (by decide))
  cases hev : evB (esOf ps) n ts
  case false =>
    have hk := st_k hcc hsu (stk_5 hev)
    have HC := Lib.hid hk
    have HL := Lib.hid (stL_bad hk (by decide))
    have HEV := Lib.hid hev
    clear hcc hsu hk hok hfb hgd hel hev
    go_enter Tryz.func26, Tryz.ntmps26
    go_upto_region 1 with fail
    generalize (w.alloc (.cells #[.slice A n c, .slice B m d] 33)) = w0 at *
    have xl := bx0.lt
    have x0 : w0.cell? ⟨w.heap.size, 0, none⟩ = some (.slice A n c) := bx0.cell 0
    have x1 : w0.cell? ⟨w.heap.size, 1, none⟩ = some (.slice B m d) := bx0.cell 1
    go_upto_region 4 with (go_at_call 59; refine (codeF_any _ _ _ _ _ _ _ _ _ ns ps fs _ (h.below hW0) (hz.below hW0) hl).mono ?_; rw [HCC.out]; rintro e1 w1 ⟨rfl, hb1⟩)
    have hW1 := bthen hW0 hb1 hW0.size
    have bx1 := bx0.belowA hb1
    clear x0 x1 xl bx0 hb1
    have xl := bx1.lt
    have x0 : w1.cell? ⟨w.heap.size, 0, none⟩ = some (.slice A n c) := bx1.cell 0
    have x1 : w1.cell? ⟨w.heap.size, 1, none⟩ = some (.slice B m d) := bx1.cell 1
    go_upto_region 6 with (go_at_call 64; refine (areSup_any _ _ _ _ _ _ _ _ _ ts _ (ht.below hW1) hl2).mono ?_; rw [HSU.out]; rintro e2 w2 ⟨rfl, hb2⟩)
    have hW2 := bthen hW1 hb2 hW1.size
    have bx2 := bx1.belowA hb2
    clear x0 x1 xl bx1 hb2
    have xl := bx2.lt
    have x0 : w2.cell? ⟨w.heap.size, 0, none⟩ = some (.slice A n c) := bx2.cell 0
    have x1 : w2.cell? ⟨w.heap.size, 1, none⟩ = some (.slice B m d) := bx2.cell 1
    go_upto_region 7 with (go_at_call 66; refine (outflows_any _ _ _ _ _ _ _ _ _ ns ps fs _ (h.below hW2) HOK.out (hz.below hW2) HFB.out).mono ?_; rintro e3 w3 ⟨A3, c3, rfl, o3, hb3⟩; rw [HOL.out] at o3 ⊢)
    have hW3 := bthen hW2 hb3 hW2.size
    have bx3 := bx2.belowA hb3
    clear x0 x1 xl bx2 hb3
    have xl := bx3.lt
    have x0 : w3.cell? ⟨w.heap.size, 0, none⟩ = some (.slice A n c) := bx3.cell 0
    have x1 : w3.cell? ⟨w.heap.size, 1, none⟩ = some (.slice B m d) := bx3.cell 1
    go_upto_region 8 with (go_at_call 56; refine (isEven_any _ _ _ _ _ _ _ _ _ ns ps ts _ (h.below hW3) HOK.out (ht.below hW3) rfl HE1.out).mono ?_; rw [HEV.out]; rintro e4 w4 ⟨rfl, hb4⟩; have o4 := o3.below hb4)
    have hW4 := bthen hW3 hb4 hW3.size
    have bx4 := bx3.belowA hb4
    clear x0 x1 xl bx3 hb4
    have xl := bx4.lt
    have x0 : w4.cell? ⟨w.heap.size, 0, none⟩ = some (.slice A n c) := bx4.cell 0
    have x1 : w4.cell? ⟨w.heap.size, 1, none⟩ = some (.slice B m d) := bx4.cell 1
    go_wp2_with fail
    go_ret2
    exact retI2_nil HL.out HC.out hW4
  have HEV := Lib.hid hev
  cases hs2 : flB n (outF (esOf ps) n fs)
  case false =>
    have hk := st_k hcc hsu (stk_2a hev hs2)
    have HC := Lib.hid hk
    have HL := Lib.hid (stL_bad hk (by decide))
    have HS2 := Lib.hid hs2
    clear hcc hsu hk hok hfb hgd hel hev hs2
    go_enter Tryz.func26, Tryz.ntmps26
    go_upto_region 1 with fail
    generalize (w.alloc (.cells #[.slice A n c, .slice B m d] 33)) = w0 at *
    have xl := bx0.lt
    have x0 : w0.cell? ⟨w.heap.size, 0, none⟩ = some (.slice A n c) := bx0.cell 0
    have x1 : w0.cell? ⟨w.heap.size, 1, none⟩ = some (.slice B m d) := bx0.cell 1
    go_upto_region 4 with (go_at_call 59; refine (codeF_any _ _ _ _ _ _ _ _ _ ns ps fs _ (h.below hW0) (hz.below hW0) hl).mono ?_; rw [HCC.out]; rintro e1 w1 ⟨rfl, hb1⟩)
    have hW1 := bthen hW0 hb1 hW0.size
    have bx1 := bx0.belowA hb1
    clear x0 x1 xl bx0 hb1
    have xl := bx1.lt
    have x0 : w1.cell? ⟨w.heap.size, 0, none⟩ = some (.slice A n c) := bx1.cell 0
    have x1 : w1.cell? ⟨w.heap.size, 1, none⟩ = some (.slice B m d) := bx1.cell 1
    go_upto_region 6 with (go_at_call 64; refine (areSup_any _ _ _ _ _ _ _ _ _ ts _ (ht.below hW1) hl2).mono ?_; rw [HSU.out]; rintro e2 w2 ⟨rfl, hb2⟩)
    have hW2 := bthen hW1 hb2 hW1.size
    have bx2 := bx1.belowA hb2
    clear x0 x1 xl bx1 hb2
    have xl := bx2.lt
    have x0 : w2.cell? ⟨w.heap.size, 0, none⟩ = some (.slice A n c) := bx2.cell 0
    have x1 : w2.cell? ⟨w.heap.size, 1, none⟩ = some (.slice B m d) := bx2.cell 1
    go_upto_region 7 with (go_at_call 66; refine (outflows_any _ _ _ _ _ _ _ _ _ ns ps fs _ (h.below hW2) HOK.out (hz.below hW2) HFB.out).mono ?_; rintro e3 w3 ⟨A3, c3, rfl, o3, hb3⟩; rw [HOL.out] at o3 ⊢)
    have hW3 := bthen hW2 hb3 hW2.size
    have bx3 := bx2.belowA hb3
    clear x0 x1 xl bx2 hb3
    have xl := bx3.lt
    have x0 : w3.cell? ⟨w.heap.size, 0, none⟩ = some (.slice A n c) := bx3.cell 0
    have x1 : w3.cell? ⟨w.heap.size, 1, none⟩ = some (.slice B m d) := bx3.cell 1
    go_upto_region 9 with (go_at_call 56; refine (isEven_any _ _ _ _ _ _ _ _ _ ns ps ts _ (h.below hW3) HOK.out (ht.below hW3) rfl HE1.out).mono ?_; rw [HEV.out]; rintro e4 w4 ⟨rfl, hb4⟩; have o4 := o3.below hb4)
    have hW4 := bthen hW3 hb4 hW3.size
    have bx4 := bx3.belowA hb4
    clear x0 x1 xl bx3 hb4
    have xl := bx4.lt
    have x0 : w4.cell? ⟨w.heap.size, 0, none⟩ = some (.slice A n c) := bx4.cell 0
    have x1 : w4.cell? ⟨w.heap.size, 1, none⟩ = some (.slice B m d) := bx4.cell 1
    go_upto_region 10 with (go_at_call 64; refine (areSup_any _ _ _ _ _ _ _ _ _ (outF (esOf ps) n fs) _ o4.ints hn20).mono ?_; rw [HS2.out]; rintro e5 w5 ⟨rfl, hb5⟩; have o5 := o4.below hb5)
    have hW5 := bthen hW4 hb5 hW4.size
    have bx5 := bx4.belowA hb5
    clear x0 x1 xl bx4 hb5
    have xl := bx5.lt
    have x0 : w5.cell? ⟨w.heap.size, 0, none⟩ = some (.slice A n c) := bx5.cell 0
    have x1 : w5.cell? ⟨w.heap.size, 1, none⟩ = some (.slice B m d) := bx5.cell 1
    go_wp2_with fail
    go_ret2
    exact retI2_nil HL.out HC.out hW5
  have HS2 := Lib.hid hs2
  have HAB1 := Lib.hid (flB_abs hn24 hsu)
  have HAB2 := Lib.hid (flB_abs hn24 hs2)
  have HB1 := Lib.hid (show ∀ i, ((ffl (esOf ps) n ts).getD i 0).natAbs ≤ 1000000 from fun i => Nat.le_trans (ffl_bd hgd (flB_len hsu)) HAB1.out)
  have HB2 := Lib.hid (show ∀ i, ((ffl (esOf ps) n (outF (esOf ps) n fs)).getD i 0).natAbs ≤ 1000000 from fun i => Nat.le_trans (ffl_bd hgd (flB_len hs2)) HAB2.out)
  have HBF := Lib.hid (show ∀ i, i < m → (fs.getD i 0).natAbs ≤ 30000 from flB_get hfb)
  have HL1 := Lib.hid (show (ffl (esOf ps) n ts).length = m by rw [ffl_len hgd (flB_len hsu), hel])
  have HL2 := Lib.hid (show (ffl (esOf ps) n (outF (esOf ps) n fs)).length = m by rw [ffl_len hgd (flB_len hs2), hel])
  have hfl := flB_len hfb
  have HFL := Lib.hid hfl
  have HXL := Lib.hid (show (stX (esOf ps) n fs ts).length = m by rw [stX_len, hfl])
  have HXA := Lib.hid (show ∀ i, i < m → (stX (esOf ps) n fs ts).getD i 0 = fs.getD i 0 + ((ffl (esOf ps) n ts).getD i 0 - (ffl (esOf ps) n (outF (esOf ps) n fs)).getD i 0) from fun i hi => stX_at (by omega))
  have HSTK := Lib.hid (show ∀ k, stK (esOf ps) n fs ts = k → stC ns ps n m fs ts = k from fun k hk => st_k hcc hsu hk)
  have HKA := Lib.hid (stk_2b (fs := fs) hev hs2)
  have HKB := Lib.hid (stk_2c (fs := fs) hev hs2)
  have HKC := Lib.hid (stk_2d (fs := fs) hev hs2)
  have HKD := Lib.hid (stk_0 (fs := fs) hev hs2)
  clear hcc hsu hok hfb hgd hel hev hs2 hfl
  go_enter Tryz.func26, Tryz.ntmps26
  go_upto_region 1 with fail
  generalize (w.alloc (.cells #[.slice A n c, .slice B m d] 33)) = w0 at *
  have xl := bx0.lt
  have x0 : w0.cell? ⟨w.heap.size, 0, none⟩ = some (.slice A n c) := bx0.cell 0
  have x1 : w0.cell? ⟨w.heap.size, 1, none⟩ = some (.slice B m d) := bx0.cell 1
  go_upto_region 4 with (go_at_call 59; refine (codeF_any _ _ _ _ _ _ _ _ _ ns ps fs _ (h.below hW0) (hz.below hW0) hl).mono ?_; rw [HCC.out]; rintro e1 w1 ⟨rfl, hb1⟩)
  have hW1 := bthen hW0 hb1 hW0.size
  have bx1 := bx0.belowA hb1
  clear x0 x1 xl bx0 hb1
  have xl := bx1.lt
  have x0 : w1.cell? ⟨w.heap.size, 0, none⟩ = some (.slice A n c) := bx1.cell 0
  have x1 : w1.cell? ⟨w.heap.size, 1, none⟩ = some (.slice B m d) := bx1.cell 1
  go_upto_region 6 with (go_at_call 64; refine (areSup_any _ _ _ _ _ _ _ _ _ ts _ (ht.below hW1) hl2).mono ?_; rw [HSU.out]; rintro e2 w2 ⟨rfl, hb2⟩)
  have hW2 := bthen hW1 hb2 hW1.size
  have bx2 := bx1.belowA hb2
  clear x0 x1 xl bx1 hb2
  have xl := bx2.lt
  have x0 : w2.cell? ⟨w.heap.size, 0, none⟩ = some (.slice A n c) := bx2.cell 0
  have x1 : w2.cell? ⟨w.heap.size, 1, none⟩ = some (.slice B m d) := bx2.cell 1
  go_upto_region 7 with (go_at_call 66; refine (outflows_any _ _ _ _ _ _ _ _ _ ns ps fs _ (h.below hW2) HOK.out (hz.below hW2) HFB.out).mono ?_; rintro e3 w3 ⟨A3, c3, rfl, o3, hb3⟩; rw [HOL.out] at o3 ⊢)
  have hW3 := bthen hW2 hb3 hW2.size
  have bx3 := bx2.belowA hb3
  clear x0 x1 xl bx2 hb3
  have xl := bx3.lt
  have x0 : w3.cell? ⟨w.heap.size, 0, none⟩ = some (.slice A n c) := bx3.cell 0
  have x1 : w3.cell? ⟨w.heap.size, 1, none⟩ = some (.slice B m d) := bx3.cell 1
  go_upto_region 9 with (go_at_call 56; refine (isEven_any _ _ _ _ _ _ _ _ _ ns ps ts _ (h.below hW3) HOK.out (ht.below hW3) rfl HE1.out).mono ?_; rw [HEV.out]; rintro e4 w4 ⟨rfl, hb4⟩; have o4 := o3.below hb4)
  have hW4 := bthen hW3 hb4 hW3.size
  have bx4 := bx3.belowA hb4
  clear x0 x1 xl bx3 hb4
  have xl := bx4.lt
  have x0 : w4.cell? ⟨w.heap.size, 0, none⟩ = some (.slice A n c) := bx4.cell 0
  have x1 : w4.cell? ⟨w.heap.size, 1, none⟩ = some (.slice B m d) := bx4.cell 1
  go_upto_region 11 with (go_at_call 64; refine (areSup_any _ _ _ _ _ _ _ _ _ (outF (esOf ps) n fs) _ o4.ints hn20).mono ?_; rw [HS2.out]; rintro e5 w5 ⟨rfl, hb5⟩; have o5 := o4.below hb5)
  have hW5 := bthen hW4 hb5 hW4.size
  have bx5 := bx4.belowA hb5
  clear x0 x1 xl bx4 hb5
  have xl := bx5.lt
  have x0 : w5.cell? ⟨w.heap.size, 0, none⟩ = some (.slice A n c) := bx5.cell 0
  have x1 : w5.cell? ⟨w.heap.size, 1, none⟩ = some (.slice B m d) := bx5.cell 1
  have kN : Kept (IsNet w5 A n c ns B m d ps) := ⟨h.below hW5⟩
  have kT : Kept (Ints w5 D n ts) := ⟨ht.below hW5⟩
  have kO : Kept (Ints w5 A3 n (outF (esOf ps) n fs)) := ⟨o5.ints⟩
  have kC : Kept (Ints w5 C m fs) := ⟨hz.below hW5⟩
  have kB : Kept (Below w.heap.size w w5) := ⟨hW5⟩
  have kX : Kept (Box w5 w.heap.size #[.slice A n c, .slice B m d] 33) := ⟨bx5⟩
  have kU : Kept (Below w5.heap.size w5 w5.drew) := ⟨(Below.refl _ _).drew⟩
  obtain ⟨F1, hF1⟩ : ∃ y, ffl (esOf ps) n ts = y := ⟨_, rfl⟩
  obtain ⟨F2, hF2⟩ : ∃ y, ffl (esOf ps) n (outF (esOf ps) n fs) = y := ⟨_, rfl⟩
  obtain ⟨X, hX⟩ : ∃ y, stX (esOf ps) n fs ts = y := ⟨_, rfl⟩
  rw [hF1] at HB1 HL1 HXA HKA HKB HKC HKD
  rw [hF2] at HB2 HL2 HXA HKB HKC HKD
  rw [hX] at HXL HXA HKC HKD
  have HF1 := Lib.hid hF1
  have HF2 := Lib.hid hF2
  have HX := Lib.hid hX
  obtain ⟨wi, rfl⟩ : ∃ wi : World, wi = w5 := ⟨_, rfl⟩
  clear hW5 hW4 hW3 hW2 hW1 hW0 bx5 o3 o4 o5 hF1 hF2 hX
  go_region_held3 (fun w' => w.heap.size < w'.heap.size ∧ w'.cell? ⟨w.heap.size, 0, none⟩ = some (.slice A n c) ∧ w'.cell? ⟨w.heap.size, 1, none⟩ = some (.slice B m d) ∧ Kept (Below wi.heap.size wi w'))
    (first | (go_split_ands; refine ⟨by have := hbb.size; omega, ?_, ?_, ⟨bthen (Kept.out ‹Kept (Below wi.heap.size _ _)›) hbb (Kept.out ‹Kept (Below wi.heap.size _ _)›).size⟩⟩ <;> (rw [hbb.cell (by simp; omega)]; assumption)) | go_keep)
    (first | (go_at_call 58; have oF9 := oF1; go_split_ands; refine (forestFlows_any _ _ _ _ _ _ _ _ ns ps (outF (esOf ps) n fs) _ (kN.out.below (Kept.out ‹Kept (Below wi.heap.size _ _)›)) HOK.out (kO.out.below (Kept.out ‹Kept (Below wi.heap.size _ _)›)) HAB2.out).mono ?_; rw [HF2.out]; rintro e9 wb ⟨A5, c5, rfl, oF2, hbb⟩; rw [HL2.out] at oF2 ⊢; have oG1 := oF9.below hbb) | (go_at_call 58; go_split_ands; refine (forestFlows_any _ _ _ _ _ _ _ _ ns ps ts _ (kN.out.below (Kept.out ‹Kept (Below wi.heap.size _ _)›)) HOK.out (kT.out.below (Kept.out ‹Kept (Below wi.heap.size _ _)›)) HAB1.out).mono ?_; rw [HF1.out]; rintro e8 wb ⟨A4, c4, rfl, oF1, hbb⟩; rw [HL1.out] at oF1 ⊢))
  rename_i hh
  obtain ⟨yl, y0, y1, ⟨hbB⟩⟩ := hh
  have hW6 := bthen kB.out hbB kB.out.size
  have bx6 := kX.out.belowA hbB
  have hN6 := kN.out.below hbB
  have hC6 := kC.out.below hbB
  clear kN kT kO kC kB kX kU hbB
  go_upto_region 14 with (go_at_call 70; refine (clone_any hC6 (by omega)).mono ?_; rintro e7 w7 ⟨A7, c7, rfl, o7, hb7⟩)
  have j1 := oG1.ints
  have j2 := oF2.ints
  have hXF : X.length = fs.length := by rw [HXL.out, HFL.out]
  have HXF := Lib.hid hXF
  have o8 : Own w7 wb.heap.size A7 m c7 (mixL X fs 0) := by rw [mix_zero]; exact o7
  have HI1 := Lib.hid (flB_inR HL1.out)
  have HI2 := Lib.hid (flB_inR HL2.out)
  have HI3 := Lib.hid (flB_inR HXL.out)
  clear hXF o7 oG1 oF2 oF9
  go_loopw [47] (fun ii wr => ∃ (k : Nat), k ≤ m ∧ ii = .int .i64 (k : Int) ∧ Own wr wb.heap.size A7 m c7 (mixL X fs k) ∧ Below wb.heap.size w7 wr) (fun ii _ => m - (intOf ii).toNat)
  case atStart => exact ⟨0, Nat.zero_le _, rfl, o8, Below.refl _ _⟩
  case round =>
    obtain ⟨k, hk, rfl, hO, hb⟩ := hrel
    have hbw := hb7.trans hb
    by_cases hlt : k < m
    · obtain ⟨b1, p1, rfl, l1, q1⟩ := j1.atD hlt
      obtain ⟨b2, p2, rfl, l2, q2⟩ := j2.atD hlt
      obtain ⟨g, z9, rfl, hgB, hgl, _, _, _, _⟩ := hO.at_ hlt
      obtain ⟨hc1, hf1, _, _⟩ := hO.atD hlt
      rw [mix_at HXF.out (by rw [HFL.out]; exact hlt)] at hc1
      have q3 := (hbw.cell (p := ⟨b1, p1 + k, none⟩) l1).trans q1
      have q4 := (hbw.cell (p := ⟨b2, p2 + k, none⟩) l2).trans q2
      have hsz := hbw.size
      have l3 : b1 < wr.heap.size := by omega
      have l4 : b2 < wr.heap.size := by omega
      have HXK := Lib.hid (HXA.out k hlt)
      have HS := Lib.hid (mix_set (xs := X) (fs := fs) (k := k) HXF.out (by rw [HFL.out]; exact hlt))
      have e1 := HBF.out k hlt
      have e2 := HB1.out k
      have e3 := HB2.out k
      obtain ⟨x, hx⟩ : ∃ y, fs.getD k 0 = y := ⟨_, rfl⟩
      obtain ⟨y, hy⟩ : ∃ y, F1.getD k 0 = y := ⟨_, rfl⟩
      obtain ⟨z, hz'⟩ : ∃ y, F2.getD k 0 = y := ⟨_, rfl⟩
      rw [hx] at hc1 e1 HXK
      rw [hy] at q3 e2 HXK
      rw [hz'] at q4 e3 HXK
      have s1 : IntKind.i64.wrap (y - z) = y - z := IntWalk.i64_in _ (by omega)
      have s2 : IntKind.i64.wrap (x + (y - z)) = x + (y - z) := IntWalk.i64_in _ (by omega)
      have k0 : (0 : Int) ≤ (k : Int) := by omega
      have k1 : (k : Int) < (m : Int) := by omega
      have hO3 := hO.drew
      have hb3 := hb.drew
      have d1 : wr.drew.cell? ⟨g, k, none⟩ = some (.int .i64 x) := hc1
      have d2 : wr.drew.frozen? ⟨g, k, none⟩ = false := hf1
      have d3 : g < wr.drew.heap.size := hgl
      clear hx hy hz' q1 q2 hb hbw hO
      go_upto_region 16 with fail
      go_still_tail 15, (by kernel_rfl)
      change wpList _ _ _ _ _ wr.drew
      generalize wr.drew = V2 at *
      obtain ⟨hO4, hgr4⟩ := hO3.set1 k (z := x + (y - z)) (WalkArith.wf_i64 (by omega))
      have hM4 : Own (V2.setCell ⟨g, k, none⟩ (.int .i64 (x + (y - z)))) wb.heap.size (some ⟨g, 0, none⟩) m c7 (mixL X fs (k + 1)) := by
        rw [← HS.out, HXK.out]
        exact hO4
      have hb4 := hb3.setCell (p := ⟨g, k, none⟩) hgB (.int .i64 (x + (y - z)))
      clear hO4 hgr4 hO3 hb3
      go_wp2_with fail
      go_roundw
      case rel => exact ⟨k + 1, by omega, by go_num, hM4, hb4⟩
      case measure => simp [intOf]; omega
    · obtain rfl : m = k := by omega
      have e0 : mixL X fs m = X := by
        have h1 := mix_all HXF.out
        rwa [HFL.out] at h1
      rw [e0] at hO
      have hs6 := hW6.size
      have hWr := bthen hW6 hbw hW6.size
      have bxr := bx6.belowA hbw
      have hNr := hN6.below hbw
      have k1 := j1.below hbw
      have k2 := j2.below hbw
      have k3 := hO.ints
      have r0 : wr.cell? ⟨w.heap.size, 0, none⟩ = some (.slice A n c) := bxr.cell 0
      have r1 : wr.cell? ⟨w.heap.size, 1, none⟩ = some (.slice B m d) := bxr.cell 1
      have rl := bxr.lt
      clear e0 hb hbw j1 j2 hO o8
      cases v1 : inR F1
      case false =>
        have HR1 := Lib.hid (show flB m F1 = false by rw [HI1.out, v1])
        have HC := Lib.hid (HSTK.out 2 (HKA.out v1))
        have HL := Lib.hid (stL_bad HC.out (by decide))
        clear v1
        go_upto_region 19 with (go_at_call 63; refine (isFlow_any _ _ _ _ _ _ _ _ _ F1 _ k1 (by omega)).mono ?_; rw [HR1.out]; rintro e21 w21 ⟨rfl, hb21⟩; have hW21 := bthen hWr hb21 hWr.size; have bx21 := bxr.belowA hb21; have u021 : w21.cell? ⟨w.heap.size, 0, none⟩ = some (.slice A n c) := bx21.cell 0; have u121 : w21.cell? ⟨w.heap.size, 1, none⟩ = some (.slice B m d) := bx21.cell 1; have ul21 := bx21.lt)
        go_wp2_with fail
        go_ret2
        exact retI2_nil HL.out HC.out (bthen hWr hb21 hWr.size)
      have HR1 := Lib.hid (show flB m F1 = true by rw [HI1.out, v1])
      cases v2 : inR F2
      case false =>
        have HR2 := Lib.hid (show flB m F2 = false by rw [HI2.out, v2])
        have HC := Lib.hid (HSTK.out 2 (HKB.out v1 v2))
        have HL := Lib.hid (stL_bad HC.out (by decide))
        clear v1 v2
        go_upto_region 19 with (first | (go_at_call 63; have hq_ := hb21; refine (isFlow_any _ _ _ _ _ _ _ _ _ F2 _ (k2.below hb21) (by omega)).mono ?_; rw [HR2.out]; rintro e22 w22 ⟨rfl, hb22⟩; have hW22 := bthen hW21 hb22 hW21.size; have bx22 := bx21.belowA hb22; have u022 : w22.cell? ⟨w.heap.size, 0, none⟩ = some (.slice A n c) := bx22.cell 0; have u122 : w22.cell? ⟨w.heap.size, 1, none⟩ = some (.slice B m d) := bx22.cell 1; have ul22 := bx22.lt) | (go_at_call 63; refine (isFlow_any _ _ _ _ _ _ _ _ _ F1 _ k1 (by omega)).mono ?_; rw [HR1.out]; rintro e21 w21 ⟨rfl, hb21⟩; have hW21 := bthen hWr hb21 hWr.size; have bx21 := bxr.belowA hb21; have u021 : w21.cell? ⟨w.heap.size, 0, none⟩ = some (.slice A n c) := bx21.cell 0; have u121 : w21.cell? ⟨w.heap.size, 1, none⟩ = some (.slice B m d) := bx21.cell 1; have ul21 := bx21.lt))
        go_wp2_with fail
        go_ret2
        exact retI2_nil HL.out HC.out (bthen hW21 hb22 hW21.size)
      have HR2 := Lib.hid (show flB m F2 = true by rw [HI2.out, v2])
      cases v3 : inR X
      case false =>
        have HR3 := Lib.hid (show flB m X = false by rw [HI3.out, v3])
        have HC := Lib.hid (HSTK.out 2 (HKC.out v1 v2 v3))
        have HL := Lib.hid (stL_bad HC.out (by decide))
        clear v1 v2 v3
        go_upto_region 19 with (first | (go_at_call 63; have hq_ := hb22; refine (isFlow_any _ _ _ _ _ _ _ _ _ X _ ((k3.below hb21).below hb22) (by omega)).mono ?_; rw [HR3.out]; rintro e23 w23 ⟨rfl, hb23⟩; have hW23 := bthen hW22 hb23 hW22.size; have bx23 := bx22.belowA hb23; have u023 : w23.cell? ⟨w.heap.size, 0, none⟩ = some (.slice A n c) := bx23.cell 0; have u123 : w23.cell? ⟨w.heap.size, 1, none⟩ = some (.slice B m d) := bx23.cell 1; have ul23 := bx23.lt) | (go_at_call 63; have hq_ := hb21; refine (isFlow_any _ _ _ _ _ _ _ _ _ F2 _ (k2.below hb21) (by omega)).mono ?_; rw [HR2.out]; rintro e22 w22 ⟨rfl, hb22⟩; have hW22 := bthen hW21 hb22 hW21.size; have bx22 := bx21.belowA hb22; have u022 : w22.cell? ⟨w.heap.size, 0, none⟩ = some (.slice A n c) := bx22.cell 0; have u122 : w22.cell? ⟨w.heap.size, 1, none⟩ = some (.slice B m d) := bx22.cell 1; have ul22 := bx22.lt) | (go_at_call 63; refine (isFlow_any _ _ _ _ _ _ _ _ _ F1 _ k1 (by omega)).mono ?_; rw [HR1.out]; rintro e21 w21 ⟨rfl, hb21⟩; have hW21 := bthen hWr hb21 hWr.size; have bx21 := bxr.belowA hb21; have u021 : w21.cell? ⟨w.heap.size, 0, none⟩ = some (.slice A n c) := bx21.cell 0; have u121 : w21.cell? ⟨w.heap.size, 1, none⟩ = some (.slice B m d) := bx21.cell 1; have ul21 := bx21.lt))
        go_wp2_with fail
        go_ret2
        exact retI2_nil HL.out HC.out (bthen hW22 hb23 hW22.size)
      have HR3 := Lib.hid (show flB m X = true by rw [HI3.out, v3])
      have HIX := Lib.hid v3
      have HC := Lib.hid (HSTK.out 0 (HKD.out v1 v2 v3))
      have HL := Lib.hid (show stL ns ps n m fs ts = (rlx ps n X 1).1 by rw [stL_ok HC.out, HX.out])
      have HRL := Lib.hid (rlx_ok (ps := ps) (n := n) (s := 1) HXL.out v3).1
      clear v1 v2 v3
      go_upto_region 20 with (first | (go_at_call 63; have hq_ := hb22; refine (isFlow_any _ _ _ _ _ _ _ _ _ X _ ((k3.below hb21).below hb22) (by omega)).mono ?_; rw [HR3.out]; rintro e23 w23 ⟨rfl, hb23⟩; have hW23 := bthen hW22 hb23 hW22.size; have bx23 := bx22.belowA hb23; have u023 : w23.cell? ⟨w.heap.size, 0, none⟩ = some (.slice A n c) := bx23.cell 0; have u123 : w23.cell? ⟨w.heap.size, 1, none⟩ = some (.slice B m d) := bx23.cell 1; have ul23 := bx23.lt) | (go_at_call 63; have hq_ := hb21; refine (isFlow_any _ _ _ _ _ _ _ _ _ F2 _ (k2.below hb21) (by omega)).mono ?_; rw [HR2.out]; rintro e22 w22 ⟨rfl, hb22⟩; have hW22 := bthen hW21 hb22 hW21.size; have bx22 := bx21.belowA hb22; have u022 : w22.cell? ⟨w.heap.size, 0, none⟩ = some (.slice A n c) := bx22.cell 0; have u122 : w22.cell? ⟨w.heap.size, 1, none⟩ = some (.slice B m d) := bx22.cell 1; have ul22 := bx22.lt) | (go_at_call 63; refine (isFlow_any _ _ _ _ _ _ _ _ _ F1 _ k1 (by omega)).mono ?_; rw [HR1.out]; rintro e21 w21 ⟨rfl, hb21⟩; have hW21 := bthen hWr hb21 hWr.size; have bx21 := bxr.belowA hb21; have u021 : w21.cell? ⟨w.heap.size, 0, none⟩ = some (.slice A n c) := bx21.cell 0; have u121 : w21.cell? ⟨w.heap.size, 1, none⟩ = some (.slice B m d) := bx21.cell 1; have ul21 := bx21.lt))
      have hW23 := bthen hW22 hb23 hW22.size
      have hN23 := ((hNr.below hb21).below hb22).below hb23
      have k23 := ((k3.below hb21).below hb22).below hb23
      have hs23 := hW23.size
      go_wp2_with (go_at_call 61; refine (relax_any _ _ _ _ _ _ _ _ 1 X ns ps _ hN23 HOK.out k23 HIX.out (by decide)).mono ?_; rintro e24 w24 ⟨A24, c24, rfl, o24, hb24⟩)
      go_ret2
      exact retI2_of HRL.out HL.out HC.out (o24.mono hs23) (bthen hW23 hb24 hW23.size)
end Go.Proofs.YtpgegfnhokhlmabGreat
