/- The draws that the laws on compressors begin with: what they do, by walks over their text. Condition: a code of at most 4096 bytes. -/
import Derived.Test.YtgchbajhceddnaaCDraw2
import Derived.Deep.RegionWith
set_option linter.unusedVariables false
set_option maxRecDepth 100000
namespace Go.Proofs.Ytgchbajhceddnaa
open Go.ChangeShapes Go.WideShapes Go.ChangeAt Go.RowKit Go.Joins Go.Deep
attribute [local go_sem ↓] Go.wp_at_zero Go.wp_at_succ

section
variable {H : Type} {enc : TypeId × Value → H} {W : World} {base : Nat} {v : Value} {d : DataW H} {p : List MemPlace}
theorem opn_bytes (hv : Value.okWide Try.prog W .any base 48 v) (h : DataW.Trod enc Try.prog W 0 (fun _ => true) true 48 v d p) (_lt : ∀ x ∈ p, x.block < W.heap.size) :
    ∃ A n c zs, v = .slice A n c ∧ Byts W A n zs ∧ n ≤ c ∧ c ≤ maxLen := by
  obtain ⟨a0, len0, cap0, rfl⟩ := okWide_slice Try.underlying48 hv
  obtain ⟨fuel, hf⟩ := h
  rcases open_ints Try.underlying48 Try.underlying5 (by kernel_rfl) hf with ⟨hcs, _⟩ | ⟨x, l, c, zs, hcs, _, hl, hm, hz, hx, hcell, hwz⟩
  · simp [Value.cells] at hcs
    obtain ⟨rfl, rfl, rfl⟩ := hcs
    exact ⟨none, 0, 0, [], rfl, ⟨rfl, (fun z hz => absurd hz List.not_mem_nil), fun h => absurd h (by omega)⟩, by omega, by unfold maxLen; omega⟩
  · simp [Value.cells] at hcs
    obtain ⟨rfl, rfl, rfl⟩ := hcs
    have hzl : zs.length = cap0 := by simpa using hz
    refine ⟨some x, len0, cap0, zs.take len0, rfl, ⟨by simp; omega, fun z hz => bounds_u8 (hwz z (List.mem_of_mem_take hz)), fun hn => ?_⟩, hl, hm⟩
    obtain ⟨b, off, spot⟩ := x
    have h0 := hcell 0 (by omega)
    have hspot : spot = none := by simpa [Addr.add] using World.cell?_spot h0
    subst hspot
    have hbl := World.block_lt_of_cell? W _ h0
    refine ⟨b, off, rfl, by simpa [Addr.add] using hbl, fun k z hk => ?_⟩
    obtain ⟨hk1, hk2⟩ := List.getElem?_eq_some_iff.1 hk
    have hkl : k < zs.length := by simp at hk1; omega
    have hc := hcell k hkl
    rw [List.getElem_take] at hk2
    subst hk2
    by_cases h0 : k = 0
    · subst h0
      simpa [Addr.add, List.getElem?_eq_getElem hkl] using hc
    · simpa [Addr.add, h0, List.getElem?_eq_getElem hkl] using hc
end
theorem big_any (A : Option Addr) (n c : Nat) (w : World) (hn : n ≤ 9223372036854775807) :
    Calls Try.prog 36 #[.slice A n c] w fun e w' => e = .returned (.bool (decide (4096 < n))) ∧ w = w' := by
  by_cases h : 4096 < n
  · have h' : (4096 : Int) < (n : Int) := by omega
    go_enter Try.func36, Try.ntmps36
    go_wp2_with fail
    go_ret
    exact ⟨rb (by simp [h]), rfl⟩
  · have h' : ¬ (4096 : Int) < (n : Int) := by omega
    go_enter Try.func36, Try.ntmps36
    go_wp2_with fail
    go_ret
    exact ⟨rfl, rfl⟩
theorem src_at {W : World} {B : Nat} {A : Option Addr} {n c : Nat} {zs : List Int} (h : Src W B A n c zs) {b : Nat} (hbB : b ≠ B) (hA : ∀ b' o, A = some ⟨b', o, none⟩ → 0 < n → b' ≠ b) (i : Nat) (u : Value) : Src (W.setCell ⟨b, i, none⟩ u) B A n c zs := by
  obtain ⟨p, s, h1, h2, h3, h4, h5, h6⟩ := h
  refine ⟨p, s, h1, h2, h3, (Below.heap_setCell W _ _ B (by simp; omega)).trans h4, h5.grown (grown_set W b i u) (fun b' o hA' hn => fun hE => ?_), h6⟩
  injection hE with hE
  exact hA b' o hA' hn hE
/-- A call returns a drawn compressor and a number. -/
def RetDC2 (w : World) (lo hi : Int) (e : Ending) (w' : World) : Prop :=
  ∃ (A1 : Option Addr) (n1 c1 : Nat) (fs : List Fc) (fu le x : Int), e = .returned (.tuple #[.agg #[.slice A1 n1 c1, .int .i64 fu, .int .i64 le], .int .i64 x]) ∧ Faces w' A1 n1 fs ∧ n1 ≤ 9 ∧ I64 fu ∧ I64 le ∧ lo ≤ x ∧ x ≤ hi ∧ Below w.heap.size w w'
theorem Faces.grown {w w' : World} {A : Option Addr} {n : Nat} {fs : List Fc} {row : Option Nat} (h : Faces w A n fs) (hg : w.grownBy w' row) (hne : ∀ b o, A = some ⟨b, o, none⟩ → some b ≠ row) : Faces w' A n fs :=
  ⟨⟨h.1.1, fun hn => by
    obtain ⟨b, o, e, hlt, hc⟩ := h.1.2 hn
    exact ⟨b, o, e, Nat.lt_of_lt_of_le hlt hg.size, fun i x hx j v hv => (World.cell?_of_block (a := ⟨b, o + i * 3 + j, none⟩) (hg.block b hlt (hne b o e))).trans (hc i x hx j v hv)⟩⟩, h.2⟩
theorem dc2_close {w W w4 : World} {A3 : Option Addr} {n3 c3 : Nat} {fs : List Fc} {fu le x lo hi : Int} {u0 u1 u2 : Value} (hF : Faces W A3 n3 fs) (hn : n3 ≤ 9) (h1 : I64 fu) (h2 : I64 le) (hx0 : lo ≤ x) (hx1 : x ≤ hi) (hne : ∀ b o, A3 = some ⟨b, o, none⟩ → w.heap.size + 1 < b)
    (hw : Below w.heap.size w W) (hg4 : W.grownBy w4 (some (w.heap.size + 1))) : RetDC2 w lo hi (.returned (.tuple #[.agg #[.slice A3 n3 c3, .int .i64 fu, .int .i64 le], .int .i64 x])) (((w4.setCell ⟨w.heap.size, 0, none⟩ u0).setCell ⟨w.heap.size, 1, none⟩ u1).setCell ⟨w.heap.size, 2, none⟩ u2) := by
  have hs : ∀ (b i : Nat) (u : Value) (V : World), Faces V A3 n3 fs → Faces (V.setCell ⟨w.heap.size, i, none⟩ u) A3 n3 fs := fun b i u V h => h.grown (grown_set V w.heap.size i u) (fun b o hA => fun hE => by have := hne b o hA; injection hE with hE; omega)
  have hF4 := hF.grown hg4 (fun b o hA => fun hE => by have := hne b o hA; injection hE with hE; omega)
  have hw4 := hw.grown hg4 hw.size (fun k hk => by injection hk with hk; omega)
  exact ⟨A3, n3, c3, fs, fu, le, x, rfl, hs 0 _ _ _ (hs 0 _ _ _ (hs 0 _ _ _ hF4)), hn, h1, h2, hx0, hx1, ((hw4.setCell (p := ⟨w.heap.size, 0, none⟩) (Nat.le_refl _) _).setCell (p := ⟨w.heap.size, 1, none⟩) (Nat.le_refl _) _).setCell (p := ⟨w.heap.size, 2, none⟩) (Nat.le_refl _) _⟩
set_option maxHeartbeats 8000000 in
theorem drawFlowRange_any (A : Option Addr) (n c : Nat) (zs : List Int) (w : World) (h : Byts w A n zs) (hn : n ≤ 4096) :
    Calls Try.prog 37 #[.slice A n c] w (RetDC2 w 0 3001) := by
  have hR0 : (w.alloc (.cells #[.slice none 0 0, .int .i64 0, .int .i64 0] 32)).heap[w.heap.size]? = some (.cells #[.slice none 0 0, .int .i64 0, .int .i64 0] 32 (0, 0)) := heap_alloc_new _ _
  have hw0 : Below w.heap.size w (w.alloc (.cells #[.slice none 0 0, .int .i64 0, .int .i64 0] 32)) := (Below.refl _ _).alloc (Nat.le_refl _) _
  have hy0 := h.below hw0
  have hAb : ∀ b o, A = some ⟨b, o, none⟩ → 0 < n → b < w.heap.size := by
    intro b o hA hn0
    obtain ⟨b', o', _, hA', hb', _⟩ := h.at_ hn0
    rw [hA] at hA'
    injection hA' with hA'
    injection hA' with h1
    omega
  have HAb := Lib.hid hAb
  clear hAb
  go_enter Try.func37, Try.ntmps37
  go_wp2_with fail
  refine (from_any _ _ _ _ _ hy0 hn).mono ?_
  rintro e w1 ⟨rfl, hs1, hb1⟩
  have hw1 := bthen hw0 hb1 hw0.size
  have hR1 := (hb1.block w.heap.size (by simp)).trans hR0
  have hz1 : w.heap.size + 1 < w1.heap.size := by have := hs1.lt; simp at this; omega
  rw [show (w.alloc (.cells #[.slice none 0 0, .int .i64 0, .int .i64 0] 32)).heap.size = w.heap.size + 1 by simp] at hs1
  clear hw0 hb1 hR0 hy0
  go_wp2_with fail
  refine (l14Draw_any _ _ _ _ _ _ hs1 hn).mono ?_
  rintro e w2 ⟨A3, n3, c3, fs, fu, le, rfl, hF2, hn3, hfu, hle, hne, hs2, hg2⟩
  have hw2 := hw1.grown hg2 (by omega) (fun k hk => by injection hk with hk; omega)
  have hR2 := gheap hg2 hR1 (by omega)
  have hz2 : w.heap.size + 1 < w2.heap.size := Nat.lt_of_lt_of_le hz1 hg2.size
  clear hw1 hs1 hR1 hg2
  go_wp2_with fail
  have hF3 := hF2.alloc (.cells #[.slice A3 n3 c3, .int .i64 fu, .int .i64 le] 32)
  have hs3 := hs2.alloc (.cells #[.slice A3 n3 c3, .int .i64 fu, .int .i64 le] 32)
  have hR3 := aheap hR2 (.cells #[.slice A3 n3 c3, .int .i64 fu, .int .i64 le] 32)
  have hw3 := hw2.alloc (by omega) (.cells #[.slice A3 n3 c3, .int .i64 fu, .int .i64 le] 32)
  have hC3 : (w2.alloc (.cells #[.slice A3 n3 c3, .int .i64 fu, .int .i64 le] 32)).heap[w2.heap.size]? = some (.cells #[.slice A3 n3 c3, .int .i64 fu, .int .i64 le] 32 (0, 0)) := heap_alloc_new _ _
  have hz3 : w2.heap.size < (w2.alloc (.cells #[.slice A3 n3 c3, .int .i64 fu, .int .i64 le] 32)).heap.size := by simp
  generalize w2.alloc (.cells #[.slice A3 n3 c3, .int .i64 fu, .int .i64 le] 32) = W at *
  obtain ⟨m0, m1, m2, mf0, mf1, mf2⟩ := heap_cells hC3
  obtain ⟨r0, r1, r2, s0, s1, s2⟩ := heap_cells hR3
  have HC3 := Lib.hid hC3
  have HR3 := Lib.hid hR3
  have HF3 := Lib.hid hF3
  have HS3 := Lib.hid hs3
  have HW3 := Lib.hid hw3
  clear hC3 hR3 hF3 hs3 hw3 hF2 hs2 hw2 hR2
  have HS4 := Lib.hid (fun u0 u1 u2 => src_at (b := w.heap.size) (src_at (b := w.heap.size) (src_at HS3.out (b := w.heap.size) (by omega) (fun b o hA hn0 => by have := HAb.out b o hA hn0; omega) 0 u0) (by omega) (fun b o hA hn0 => by have := HAb.out b o hA hn0; omega) 1 u1) (by omega) (fun b o hA hn0 => by have := HAb.out b o hA hn0; omega) 2 u2)
  have hzw : w.heap.size < W.heap.size := by omega
  have hsd : Src W.drew (w.heap.size + 1) A n c zs := HS3.out
  have HS3d := Lib.hid hsd
  clear hsd
  go_region_with (first | (go_at_call 67; ((with_reducible refine (drawRatio_any (w.heap.size + 1) A n c zs W.drew HS3d.out hn).mono ?_)); rintro e w4 ⟨x, hx0, hx1, rfl, hs4, hg4⟩; have q0 := (gcell hg4 w.heap.size 0 (by exact hzw) (by omega)).trans r0; have q1 := (gcell hg4 w.heap.size 1 (by exact hzw) (by omega)).trans r1; have q2 := (gcell hg4 w.heap.size 2 (by exact hzw) (by omega)).trans r2; have n0 := (gcell hg4 w2.heap.size 0 (by exact hz3) (by omega)).trans m0; have n1 := (gcell hg4 w2.heap.size 1 (by exact hz3) (by omega)).trans m1; have n2 := (gcell hg4 w2.heap.size 2 (by exact hz3) (by omega)).trans m2; have v0 := (gfrozen hg4 w.heap.size 0 (by exact hzw) (by omega)).trans s0; have v1 := (gfrozen hg4 w.heap.size 1 (by exact hzw) (by omega)).trans s1; have v2 := (gfrozen hg4 w.heap.size 2 (by exact hzw) (by omega)).trans s2) | (go_at_call 67; refine (drawRatio_any _ A n c zs _ (by first | exact HS4.out _ _ _) hn).mono ?_; rintro e w4 ⟨x, hx0, hx1, rfl, hs4, hg4⟩))
  all_goals go_wp2_with fail
  all_goals
    refine bodyPost_ret (v := .tuple #[.agg #[.slice A3 n3 c3, .int .i64 fu, .int .i64 le], .int .i64 x]) (by simp [results, Try.results37, go_sem, q0, q1, q2]) rfl ?_
    exact dc2_close (W := W.drew) HF3.out hn3 hfu hle hx0 hx1 (fun b o hA => Nat.lt_of_lt_of_le hz1 (hne b o hA)) HW3.out.drew hg4
set_option maxHeartbeats 8000000 in
theorem drawRatioRange_any (A : Option Addr) (n c : Nat) (zs : List Int) (w : World) (h : Byts w A n zs) (hn : n ≤ 4096) :
    Calls Try.prog 40 #[.slice A n c] w (RetDC2 w (-1) 30001) := by
  have hR0 : (w.alloc (.cells #[.slice none 0 0, .int .i64 0, .int .i64 0] 32)).heap[w.heap.size]? = some (.cells #[.slice none 0 0, .int .i64 0, .int .i64 0] 32 (0, 0)) := heap_alloc_new _ _
  have hw0 : Below w.heap.size w (w.alloc (.cells #[.slice none 0 0, .int .i64 0, .int .i64 0] 32)) := (Below.refl _ _).alloc (Nat.le_refl _) _
  have hy0 := h.below hw0
  have hAb : ∀ b o, A = some ⟨b, o, none⟩ → 0 < n → b < w.heap.size := by
    intro b o hA hn0
    obtain ⟨b', o', _, hA', hb', _⟩ := h.at_ hn0
    rw [hA] at hA'
    injection hA' with hA'
    injection hA' with h1
    omega
  have HAb := Lib.hid hAb
  clear hAb
  go_enter Try.func40, Try.ntmps40
  go_wp2_with fail
  refine (from_any _ _ _ _ _ hy0 hn).mono ?_
  rintro e w1 ⟨rfl, hs1, hb1⟩
  have hw1 := bthen hw0 hb1 hw0.size
  have hR1 := (hb1.block w.heap.size (by simp)).trans hR0
  have hz1 : w.heap.size + 1 < w1.heap.size := by have := hs1.lt; simp at this; omega
  rw [show (w.alloc (.cells #[.slice none 0 0, .int .i64 0, .int .i64 0] 32)).heap.size = w.heap.size + 1 by simp] at hs1
  clear hw0 hb1 hR0 hy0
  go_wp2_with fail
  refine (l14Draw_any _ _ _ _ _ _ hs1 hn).mono ?_
  rintro e w2 ⟨A3, n3, c3, fs, fu, le, rfl, hF2, hn3, hfu, hle, hne, hs2, hg2⟩
  have hw2 := hw1.grown hg2 (by omega) (fun k hk => by injection hk with hk; omega)
  have hR2 := gheap hg2 hR1 (by omega)
  have hz2 : w.heap.size + 1 < w2.heap.size := Nat.lt_of_lt_of_le hz1 hg2.size
  clear hw1 hs1 hR1 hg2
  go_wp2_with fail
  have hF3 := hF2.alloc (.cells #[.slice A3 n3 c3, .int .i64 fu, .int .i64 le] 32)
  have hs3 := hs2.alloc (.cells #[.slice A3 n3 c3, .int .i64 fu, .int .i64 le] 32)
  have hR3 := aheap hR2 (.cells #[.slice A3 n3 c3, .int .i64 fu, .int .i64 le] 32)
  have hw3 := hw2.alloc (by omega) (.cells #[.slice A3 n3 c3, .int .i64 fu, .int .i64 le] 32)
  have hC3 : (w2.alloc (.cells #[.slice A3 n3 c3, .int .i64 fu, .int .i64 le] 32)).heap[w2.heap.size]? = some (.cells #[.slice A3 n3 c3, .int .i64 fu, .int .i64 le] 32 (0, 0)) := heap_alloc_new _ _
  have hz3 : w2.heap.size < (w2.alloc (.cells #[.slice A3 n3 c3, .int .i64 fu, .int .i64 le] 32)).heap.size := by simp
  generalize w2.alloc (.cells #[.slice A3 n3 c3, .int .i64 fu, .int .i64 le] 32) = W at *
  obtain ⟨m0, m1, m2, mf0, mf1, mf2⟩ := heap_cells hC3
  obtain ⟨r0, r1, r2, s0, s1, s2⟩ := heap_cells hR3
  have HC3 := Lib.hid hC3
  have HR3 := Lib.hid hR3
  have HF3 := Lib.hid hF3
  have HS3 := Lib.hid hs3
  have HW3 := Lib.hid hw3
  clear hC3 hR3 hF3 hs3 hw3 hF2 hs2 hw2 hR2
  have HS4 := Lib.hid (fun u0 u1 u2 => src_at (b := w.heap.size) (src_at (b := w.heap.size) (src_at HS3.out (b := w.heap.size) (by omega) (fun b o hA hn0 => by have := HAb.out b o hA hn0; omega) 0 u0) (by omega) (fun b o hA hn0 => by have := HAb.out b o hA hn0; omega) 1 u1) (by omega) (fun b o hA hn0 => by have := HAb.out b o hA hn0; omega) 2 u2)
  have hzw : w.heap.size < W.heap.size := by omega
  have hsd : Src W.drew (w.heap.size + 1) A n c zs := HS3.out
  have HS3d := Lib.hid hsd
  clear hsd
  go_region_with (first | (go_at_call 68; ((with_reducible refine (drawFlow_any (w.heap.size + 1) A n c zs W.drew HS3d.out hn).mono ?_)); rintro e w4 ⟨x, hx0, hx1, rfl, hs4, hg4⟩; have q0 := (gcell hg4 w.heap.size 0 (by exact hzw) (by omega)).trans r0; have q1 := (gcell hg4 w.heap.size 1 (by exact hzw) (by omega)).trans r1; have q2 := (gcell hg4 w.heap.size 2 (by exact hzw) (by omega)).trans r2; have n0 := (gcell hg4 w2.heap.size 0 (by exact hz3) (by omega)).trans m0; have n1 := (gcell hg4 w2.heap.size 1 (by exact hz3) (by omega)).trans m1; have n2 := (gcell hg4 w2.heap.size 2 (by exact hz3) (by omega)).trans m2; have v0 := (gfrozen hg4 w.heap.size 0 (by exact hzw) (by omega)).trans s0; have v1 := (gfrozen hg4 w.heap.size 1 (by exact hzw) (by omega)).trans s1; have v2 := (gfrozen hg4 w.heap.size 2 (by exact hzw) (by omega)).trans s2) | (go_at_call 68; refine (drawFlow_any _ A n c zs _ (by first | exact HS4.out _ _ _) hn).mono ?_; rintro e w4 ⟨x, hx0, hx1, rfl, hs4, hg4⟩))
  all_goals go_wp2_with fail
  all_goals
    refine bodyPost_ret (v := .tuple #[.agg #[.slice A3 n3 c3, .int .i64 fu, .int .i64 le], .int .i64 x]) (by simp [results, Try.results40, go_sem, q0, q1, q2]) rfl ?_
    exact dc2_close (W := W.drew) HF3.out hn3 hfu hle hx0 hx1 (fun b o hA => Nat.lt_of_lt_of_le hz1 (hne b o hA)) HW3.out.drew hg4
end Go.Proofs.Ytgchbajhceddnaa
