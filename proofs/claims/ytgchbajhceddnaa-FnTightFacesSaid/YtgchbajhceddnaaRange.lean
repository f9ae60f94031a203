/- What ratioRange, l14Ratios, RatioRange, FlowRange (of the program and of the reference) do, by walks over their text. Conditions: of the inner functions: a valid compressor and a point in its ranges. -/
import Derived.Test.YtgchbajhceddnaaCut
import Derived.Test.YtgchbajhceddnaaPoss
import Derived.Maps.AppendAt
set_option linter.unusedVariables false
set_option maxRecDepth 100000
namespace Go.Proofs.Ytgchbajhceddnaa
open Go.RowKit Go.Joins Go.Deep
attribute [local go_sem ↓] Go.wp_at_zero Go.wp_at_succ

/-- The slice of pairs lies in the call's own memory; bs: the blocks of the pairs. -/
def PairsOwn (w : World) (B : Nat) (A : Option Addr) (n c : Nat) (bs : List Nat) (ps : List (Int × Int)) : Prop :=
  bs.length = n ∧ ps.length = n ∧ w.ownsRow B 42 1 (.slice A n c) n (bs.map fun b => Value.slice (some ⟨b, 0, none⟩) 2 2) ∧
  ∀ (i b : Nat) (p : Int × Int), bs[i]? = some b → ps[i]? = some p → w.heap[b]? = some (Obj.cells #[.int .i64 p.1, .int .i64 p.2] 2 (0, 0))
theorem heap_lt {w : World} {b : Nat} {x : Obj} (h : w.heap[b]? = some x) : b < w.heap.size := by
  rcases Nat.lt_or_ge b w.heap.size with hlt | hge
  · exact hlt
  · rw [Array.getElem?_eq_none hge] at h; cases h
theorem PairsOwn.pairs {w : World} {B : Nat} {A : Option Addr} {n c : Nat} {bs : List Nat} {ps : List (Int × Int)} (h : PairsOwn w B A n c bs ps) : Pairs w A n ps := by
  obtain ⟨h1, h2, h3, h4⟩ := h
  refine ⟨h2, fun hn => ?_⟩
  obtain ⟨g, cap, hv, _, hlt⟩ := h3.form hn
  have hA : A = some ⟨g, 0, none⟩ := by injection hv
  subst hA
  refine ⟨g, 0, rfl, fun i p hp => ?_⟩
  have hi : i < n := by have := (List.getElem?_eq_some_iff.1 hp).1; omega
  have hb : bs[i]? = some (bs[i]'(by omega)) := List.getElem?_eq_getElem _
  have hblk := h4 i _ p hb hp
  refine ⟨bs[i]'(by omega), ?_, ?_, ?_⟩
  · rw [Nat.zero_add, h3.cellAt i (by omega)]
    simp [hb]
  · rw [cell_of_row w _ 0 _ _ _ hblk]; rfl
  · rw [cell_of_row w _ 1 _ _ _ hblk]; rfl
theorem PairsOwn.below {w w' : World} {B : Nat} {A : Option Addr} {n c : Nat} {bs : List Nat} {ps : List (Int × Int)} (h : PairsOwn w B A n c bs ps) (hb : Below w.heap.size w w') : PairsOwn w' B A n c bs ps := by
  obtain ⟨h1, h2, h3, h4⟩ := h
  refine ⟨h1, h2, h3.kept (row := none) ⟨hb.os, hb.tape, hb.output, hb.size, fun k hk _ => hb.block k hk⟩ (by cases A <;> simp [Value.ownBlock]), fun i b p hi hp => ?_⟩
  have := h4 i b p hi hp
  exact (hb.block b (heap_lt this)).trans this
theorem pairs_nil (w : World) (B g : Nat) (hB : B ≤ w.heap.size) (hg : w.heap.size = g) : PairsOwn (w.alloc (.cells #[] 42)) B (some ⟨g, 0, none⟩) 0 0 [] [] := by
  subst hg
  exact ⟨rfl, rfl, World.ownsRow_lit (size := 1) w #[] 0 hB (Nat.zero_le _) rfl, fun i b p hi => by simp at hi⟩
theorem pairs_push {wr W w' : World} {B : Nat} {A : Option Addr} {n c g c' : Nat} {bs : List Nat} {ps : List (Int × Int)} {x y : Int} (h : PairsOwn wr B A n c bs ps)
    (hW : W.heap = ((wr.alloc (.cells #[.int .i64 x, .int .i64 y] 2)).alloc (.cells #[.slice (some ⟨wr.heap.size, 0, none⟩) 2 2] 42)).heap)
    (ho : w'.ownsRow B 42 1 (.slice (some ⟨g, 0, none⟩) (n + 1) c') (n + 1) ((bs.map fun b => Value.slice (some ⟨b, 0, none⟩) 2 2) ++ [.slice (some ⟨wr.heap.size, 0, none⟩) 2 2]))
    (hg : W.grownBy w' (Value.ownBlock (.slice A n c))) : PairsOwn w' B (some ⟨g, 0, none⟩) (n + 1) c' (bs ++ [wr.heap.size]) (ps ++ [(x, y)]) := by
  obtain ⟨h1, h2, h3, h4⟩ := h
  have hsz : W.heap.size = wr.heap.size + 2 := by rw [hW]; simp
  have hrow : ∀ (b : Nat) (cs : Array Value), wr.heap[b]? = some (.cells cs 2 (0, 0)) → some b ≠ Value.ownBlock (.slice A n c) := by
    intro b cs hb he
    rcases h3.2 with ⟨hv, _⟩ | ⟨g', cap, cur, hv, _, hh, _⟩
    · rw [hv] at he; cases he
    · rw [hv] at he
      have : b = g' := by simpa [Value.ownBlock] using he
      subst this
      rw [hb] at hh
      injection hh with hh
      injection hh with _ ht
      exact absurd ht (by decide)
  refine ⟨by simp [h1], by simp [h2], by simpa using ho, fun i b p hi hp => ?_⟩
  by_cases hin : i < n
  · rw [List.getElem?_append_left (by omega)] at hi hp
    have h5 := h4 i b p hi hp
    have hlt := heap_lt h5
    rw [hg.block b (by omega) (hrow b _ h5), hW]
    rw [Below.heap_alloc _ _ _ (by simp; omega), Below.heap_alloc _ _ _ hlt]
    exact h5
  · have hi2 : i = n := by
      have := (List.getElem?_eq_some_iff.1 hi).1
      simp at this
      omega
    subst hi2
    rw [List.getElem?_append_right (by omega)] at hi hp
    simp [h1] at hi
    simp [h2] at hp
    subst hi hp
    have hne : some wr.heap.size ≠ Value.ownBlock (.slice A i c) := by
      intro he
      have := (h3.lt _ he.symm).2
      omega
    rw [hg.block _ (by omega) hne, hW, Below.heap_alloc _ _ _ (by simp)]
    exact heap_alloc_new _ _
theorem info_ints : (Try.prog.info? 42).map (fun i => (i.zero, i.size, i.bytes)) = some (some (.slice none 0 0), 1, 24) := by kernel_rfl

def pairsQ (q : Int) (fs : List Fc) : List (Int × Int) := fs.map fun f => (f.q, f.r - f.p * q)
def pairsP (r : Int) (fs : List Fc) : List (Int × Int) := fs.map fun f => (f.p, f.r - f.q * r)
theorem pairsQ_ok {n : Nat} {fs : List Fc} {fu le q : Int} (h : compB n fs fu le = true) (h0 : 0 ≤ q) (h1 : q ≤ 30000) : ∀ p ∈ pairsQ q fs, okP p := by
  intro p hp
  obtain ⟨f, hf, rfl⟩ := List.mem_map.1 hp
  obtain ⟨i, hi, rfl⟩ := List.mem_iff_getElem.1 hf
  have hb := comp_face h (List.getElem?_eq_getElem hi)
  have := mul_bnd (a := fs[i].p) (b := q) (X := 1000) (Y := 30000) (by omega) (by omega) h0 h1 (by omega)
  exact ⟨by simp only; omega, by simp only; omega, by simp only; omega, by simp only; omega⟩
theorem pairsP_ok {n : Nat} {fs : List Fc} {fu le r : Int} (h : compB n fs fu le = true) (h0 : 0 ≤ r) (h1 : r ≤ 3000) : ∀ p ∈ pairsP r fs, okP p := by
  intro p hp
  obtain ⟨f, hf, rfl⟩ := List.mem_map.1 hp
  obtain ⟨i, hi, rfl⟩ := List.mem_iff_getElem.1 hf
  have hb := comp_face h (List.getElem?_eq_getElem hi)
  have := mul_bnd (a := fs[i].q) (b := r) (X := 1000) (Y := 3000) (by omega) (by omega) h0 h1 (by omega)
  exact ⟨by simp only; omega, by simp only; omega, by simp only; omega, by simp only; omega⟩
theorem pairsQ_at {fs : List Fc} {k : Nat} {f : Fc} (q : Int) (h : fs[k]? = some f) : (pairsQ q fs)[k]? = some (f.q, f.r - f.p * q) := by simp [pairsQ, h]
theorem pairsP_at {fs : List Fc} {k : Nat} {f : Fc} (r : Int) (h : fs[k]? = some f) : (pairsP r fs)[k]? = some (f.p, f.r - f.q * r) := by simp [pairsP, h]
theorem pairsQ_take {fs : List Fc} {k : Nat} {f : Fc} (q : Int) (h : fs[k]? = some f) : pairsQ q (fs.take (k + 1)) = pairsQ q (fs.take k) ++ [(f.q, f.r - f.p * q)] := by
  simp [pairsQ, List.take_add_one, h]
theorem pairsP_take {fs : List Fc} {k : Nat} {f : Fc} (r : Int) (h : fs[k]? = some f) : pairsP r (fs.take (k + 1)) = pairsP r (fs.take k) ++ [(f.p, f.r - f.q * r)] := by
  simp [pairsP, List.take_add_one, h]

/-- The ratios of a flow: the least and the greatest. -/
def ratLo (fs : List Fc) (q : Int) : Int := (cutTo 1000 3000 (pairsQ q fs) fs.length).1
def ratHi (fs : List Fc) (q : Int) : Int := (cutTo 1000 3000 (pairsQ q fs) fs.length).2
/-- The flows of a ratio. -/
def floLo (fs : List Fc) (le r : Int) : Int := (cutTo le 30000 (pairsP r fs) fs.length).1
def floHi (fs : List Fc) (le r : Int) : Int := (cutTo le 30000 (pairsP r fs) fs.length).2
set_option maxHeartbeats 4000000 in
theorem ratioRange_any (A : Option Addr) (n c : Nat) (fs : List Fc) (fu le q : Int) (w : World) (h : Faces w A n fs) (hc : Hid (compB n fs fu le = true)) (hq : 0 ≤ q ∧ q ≤ 30000) :
    Calls Try.prog 64 #[.agg #[.slice A n c, .int .i64 fu, .int .i64 le], .int .i64 q] w fun e w' => (e = if ratLo fs q ≤ ratHi fs q ∧ le ≤ q then .returned (.tuple #[.int .i64 (ratLo fs q), .int .i64 (ratHi fs q), .int .i64 0]) else .returned (.tuple #[.int .i64 0, .int .i64 0, .int .i64 7])) ∧ Below w.heap.size w w' := by
  obtain ⟨E, hE⟩ : ∃ E, (if ratLo fs q ≤ ratHi fs q ∧ le ≤ q then Ending.returned (.tuple #[.int .i64 (ratLo fs q), .int .i64 (ratHi fs q), .int .i64 0]) else .returned (.tuple #[.int .i64 0, .int .i64 0, .int .i64 7])) = E := ⟨_, rfl⟩
  rw [hE]
  have HE := Lib.hid hE
  clear hE
  have hbd := comp_bd hc.out
  have hl := Lib.hid h.len
  have hok := Lib.hid (pairsQ_ok hc.out hq.1 hq.2)
  go_enter Try.func64, Try.ntmps64
  go_wp2_with fail
  have hx : (w.alloc (.cells #[.slice A n c, .int .i64 fu, .int .i64 le] 32)).cell? ⟨w.heap.size, 2, none⟩ = some (.int .i64 le) := by simp
  have hI := h.alloc (.cells #[.slice A n c, .int .i64 fu, .int .i64 le] 32)
  have hw0 : Below w.heap.size w (w.alloc (.cells #[.slice A n c, .int .i64 fu, .int .i64 le] 32)) := (Below.refl _ _).alloc (Nat.le_refl _) _
  have hszl : w.heap.size < (w.alloc (.cells #[.slice A n c, .int .i64 fu, .int .i64 le] 32)).heap.size := by simp
  generalize w.alloc (.cells #[.slice A n c, .int .i64 fu, .int .i64 le] 32) = W at *
  go_loopw [7, 8, 14] (fun ll hh ii wr => ∃ k : Nat, k ≤ n ∧ ii = .int .i64 k ∧ ll = .int .i64 (cutTo 1000 3000 (pairsQ q fs) k).1 ∧ hh = .int .i64 (cutTo 1000 3000 (pairsQ q fs) k).2 ∧ Below W.heap.size W wr) (fun _ _ ii _ => n - (intOf ii).toNat)
  case atStart => exact ⟨0, Nat.zero_le _, rfl, rfl, rfl, Below.refl _ _⟩
  case round =>
    obtain ⟨k, hk, rfl, rfl, rfl, hb⟩ := hrel
    have hx2' := (hb.cell (p := ⟨w.heap.size, 2, none⟩) hszl).trans hx
    have hcb := cutTo_bd hok.out (lo := 1000) (hi := 3000) (by omega) (by omega) (by omega) (by omega) k
    by_cases hlt : k < n
    · obtain ⟨b, o, f, rfl, hbl, hf, hokf, hcp, hcq, hcr⟩ := (hI.below hb).at_ hlt
      have hfb := comp_face hc.out hf
      have hm1 := mul_bnd (a := f.p) (b := q) (X := 1000) (Y := 30000) (by omega) (by omega) (by omega) (by omega) (by omega)
      have HS := Lib.hid (cutTo_step (lo := 1000) (hi := 3000) (pairsQ_at q hf))
      have hb2 : ∀ cs t, Below W.heap.size W (wr.alloc (.cells cs t)) := fun cs t => hb.alloc hb.size _
      clear hf hx
      generalize cutTo 1000 3000 (pairsQ q fs) k = LH at *
      obtain ⟨L, H⟩ := LH
      simp only at *
      go_wp2_with (go_at_call 61; refine (cutRange_any _ _ _ _ _ ⟨by simp only; omega, by simp only; omega, by simp only; omega, by simp only; omega⟩ (by omega) (by omega) (by omega) (by omega)).mono ?_; rintro e w' ⟨rfl, rfl⟩)
      go_roundw
      case rel => exact ⟨k + 1, by omega, by go_num, by rw [HS.out], by rw [HS.out], hb2 _ _⟩
      case measure => simp [intOf]; omega
    · obtain rfl : k = n := by omega
      have HE2 := HE.out
      unfold ratLo ratHi at HE2
      rw [hl.out] at HE2
      have HE3 := Lib.hid HE2
      clear HE2 HE
      generalize cutTo 1000 3000 (pairsQ q fs) k = LH at *
      obtain ⟨L, H⟩ := LH
      simp only at *
      by_cases t1 : L ≤ H
      · by_cases t2 : le ≤ q
        · go_wp2_with fail
          go_ret3
          refine ⟨?_, bthen hw0 hb hw0.size⟩
          rw [← HE3.out, if_pos ⟨t1, t2⟩]
          rfl
        · go_wp2_with fail
          go_ret3
          refine ⟨?_, bthen hw0 hb hw0.size⟩
          rw [← HE3.out, if_neg (by omega)]
          rfl
      · go_wp2_with fail
        go_ret3
        refine ⟨?_, bthen hw0 hb hw0.size⟩
        rw [← HE3.out, if_neg (by omega)]
        rfl
theorem news2 (wr : World) (o : Obj) (x : Value) (t : TypeId) : ∀ (j : Nat) (u : Value), [x][j]? = some u → (((wr.alloc o).alloc (.cells #[x] t)).drew).cell? ((⟨wr.heap.size + 1, 0, none⟩ : Addr).add j) = some u := by
  intro j u hu
  match j, hu with
  | 0, hu =>
    simp at hu
    subst hu
    simp [Addr.add]
theorem pairs_below {wr w' : World} {B : Nat} {A : Option Addr} {n c : Nat} {bs : List Nat} {ps : List (Int × Int)} {o o2 : Obj} (h : PairsOwn wr B A n c bs ps) (hB : B ≤ wr.heap.size)
    (hg : (((wr.alloc o).alloc o2).drew).grownBy w' (Value.ownBlock (.slice A n c))) : Below B wr w' := by
  refine Below.grown (w := ((wr.alloc o).alloc o2).drew) (((Below.refl B wr).alloc hB _).alloc (by simp; omega) _).drew hg (by simp; omega) ?_
  intro k hk
  exact (h.2.2.1.lt k hk).1
set_option maxHeartbeats 8000000 in
theorem sRatios_any (A : Option Addr) (n c : Nat) (fs : List Fc) (fu le q : Int) (w : World) (h : Faces w A n fs) (hc : Hid (compB n fs fu le = true)) (hq : 0 ≤ q ∧ q ≤ 30000) :
    Calls Try.prog 63 #[.agg #[.slice A n c, .int .i64 fu, .int .i64 le], .int .i64 q] w fun e w' => e = .returned (.tuple #[.int .i64 (ratLo fs q), .int .i64 (if q < le then ratLo fs q - 1 else ratHi fs q)]) ∧ Below w.heap.size w w' := by
  obtain ⟨i0, hi0, hz0, hz1, hz2⟩ := info_parts info_ints
  have hbd := comp_bd hc.out
  have hl := Lib.hid h.len
  have hok := Lib.hid (pairsQ_ok hc.out hq.1 hq.2)
  go_enter Try.func63, Try.ntmps63
  go_wp2_with fail
  have hx : (w.alloc (.cells #[.slice A n c, .int .i64 fu, .int .i64 le] 32)).cell? ⟨w.heap.size, 0, none⟩ = some (.slice A n c) ∧ (w.alloc (.cells #[.slice A n c, .int .i64 fu, .int .i64 le] 32)).cell? ⟨w.heap.size, 2, none⟩ = some (.int .i64 le) := by simp
  have hI := h.alloc (.cells #[.slice A n c, .int .i64 fu, .int .i64 le] 32)
  have hblW : ∀ b o, A = some ⟨b, o, none⟩ → 0 < n → b < (w.alloc (.cells #[.slice A n c, .int .i64 fu, .int .i64 le] 32)).heap.size := fun b o hA hn => by
    obtain ⟨b', o', _, hA', hb', _⟩ := hI.at_ hn
    rw [hA] at hA'
    injection hA' with hA'
    injection hA' with h1
    omega
  have hw0 : Below w.heap.size w (w.alloc (.cells #[.slice A n c, .int .i64 fu, .int .i64 le] 32)) := (Below.refl _ _).alloc (Nat.le_refl _) _
  have hszl : w.heap.size < (w.alloc (.cells #[.slice A n c, .int .i64 fu, .int .i64 le] 32)).heap.size := by simp
  have HZ := Lib.hid (show (w.alloc (.cells #[.slice A n c, .int .i64 fu, .int .i64 le] 32)).heap.size = w.heap.size + 1 by simp)
  generalize w.alloc (.cells #[.slice A n c, .int .i64 fu, .int .i64 le] 32) = W at *
  obtain ⟨hx0, hx2⟩ := hx
  go_loopw [6, 7] (fun pp ii wr => ∃ (k : Nat) (A2 : Option Addr) (c1 : Nat) (bs : List Nat), k ≤ n ∧ ii = .int .i64 k ∧ pp = .slice A2 k c1 ∧ PairsOwn wr W.heap.size A2 k c1 bs (pairsQ q (fs.take k)) ∧ Below W.heap.size W wr) (fun _ ii _ => n - (intOf ii).toNat)
  case atStart => exact ⟨0, _, _, [], Nat.zero_le _, rfl, rfl, pairs_nil W _ _ (Nat.le_refl _) HZ.out, (Below.refl _ _).alloc (Nat.le_refl _) _⟩
  case round =>
    obtain ⟨k, A2, c1, bs, hk, rfl, rfl, hpo, hb⟩ := hrel
    have hx0' := (hb.cell (p := ⟨w.heap.size, 0, none⟩) hszl).trans hx0
    have hx2' := (hb.cell (p := ⟨w.heap.size, 2, none⟩) hszl).trans hx2
    by_cases hlt : k < n
    · obtain ⟨b, o, f, rfl, hbl, hf, hokf, hcp, hcq, hcr⟩ := (hI.below hb).at_ hlt
      have hfb := comp_face hc.out hf
      have HT := Lib.hid (pairsQ_take q hf)
      have HPO := Lib.hid hpo
      have hown := hpo.2.2.1
      have nb : some b ≠ Value.ownBlock (.slice A2 k c1) := fun he => absurd (hown.lt b he.symm).1 (by have := hblW b o rfl (by omega); omega)
      have nw : some w.heap.size ≠ Value.ownBlock (.slice A2 k c1) := fun he => absurd (hown.lt _ he.symm).1 (by omega)
      have hm1 := mul_bnd (a := f.p) (b := q) (X := 1000) (Y := 30000) (by omega) (by omega) (by omega) (by omega) (by omega)
      have e0 : (0 : Int) ≤ (k : Int) := by omega
      have e1 : (k : Int) < (n : Int) := by omega
      have e2 : IntKind.i64.wrap (f.p * q) = f.p * q := IntWalk.i64_in _ (by omega)
      have e3 : IntKind.i64.wrap (f.r - f.p * q) = f.r - f.p * q := IntWalk.i64_in _ (by omega)
      have hbs := hb.size
      have hwl := World.block_lt_of_cell? wr _ hx0'
      clear hf hx0 hx2 hpo
      go_wp2_with fail
      go_region_held3 (fun w' => w'.cell? ⟨w.heap.size, 0, none⟩ = some (.slice (some ⟨b, o, none⟩) n c) ∧ w'.cell? ⟨b, o + k * 3, none⟩ = some (.int .i64 f.p) ∧ w'.cell? ⟨b, o + k * 3 + 1, none⟩ = some (.int .i64 f.q) ∧ w'.cell? ⟨b, o + k * 3 + 2, none⟩ = some (.int .i64 f.r))
        (first | go_keep | (go_split_ands; refine ⟨?_, ?_, ?_, ?_⟩ <;> (rw [hgrow.cell_far _ (by simp; omega) (by assumption)]; assumption)))
        ((refine step_append_lies _ (by rfl) _ _ _ (by rfl) W.heap.size 42 i0 _ 1 24 Try.underlying70 hi0 hz0 hz1 hz2 rfl (by omega) (.slice A2 k c1) k _ (by rfl) (((hown.alloc _).alloc _).drew) ⟨wr.heap.size + 1, 0, none⟩ 1 1 [.slice (some ⟨wr.heap.size, 0, none⟩) 2 2] (by rfl) (by rfl) (news2 wr (.cells #[.int .i64 f.q, .int .i64 (f.r - f.p * q)] 2) (.slice (some ⟨wr.heap.size, 0, none⟩) 2 2) 42) (by simp [Value.oneCell']) (by omega) (by unfold maxLen; omega) (by omega) (by simp; omega) (wr.heap.size + 2) (by simp) ?_; intro gg cap w1 hown1 hgrow hat hlt2))
      clear e0 e1 e2 e3
      go_wp2_with fail
      go_roundw
      case rel => exact ⟨k + 1, _, _, _, by omega, by go_num, rfl, HT.out ▸ pairs_push HPO.out (by rfl) hown1 hgrow, hb.trans (pairs_below HPO.out hb.size hgrow)⟩
      case measure => simp [intOf]; omega
    · obtain rfl : k = n := by omega
      have hps := hpo.pairs
      rw [List.take_of_length_le (Nat.le_of_eq hl.out)] at hps
      have hcb := cutTo_bd hok.out (lo := 1000) (hi := 3000) (by omega) (by omega) (by omega) (by omega) k
      have HR := Lib.hid (show ratLo fs q = (cutTo 1000 3000 (pairsQ q fs) k).1 ∧ ratHi fs q = (cutTo 1000 3000 (pairsQ q fs) k).2 by unfold ratLo ratHi; rw [hl.out]; exact ⟨rfl, rfl⟩)
      clear hpo
      by_cases t : q < le
      all_goals
        go_wp2_with fail
        refine (interval_any _ _ _ _ _ _ _ hps (by omega) hok (by omega) (by omega) (by omega) (by omega)).mono ?_
        rintro e w2 ⟨rfl, hq2⟩
        have hy2 := (hq2.cell ⟨w.heap.size, 2, none⟩).trans hx2'
        generalize cutTo 1000 3000 (pairsQ q fs) k = LH at *
        obtain ⟨L, H⟩ := LH
        simp only at *
        go_wp2_with fail
        go_ret2
        exact ⟨ri2 HR.out.1.symm (by have hr : ratLo fs q = L ∧ ratHi fs q = H := HR.out; first | omega | (rw [if_pos t]; omega) | (rw [if_neg (by omega)]; omega)), bthen hw0 (hb.trans (hq2.below _)) hw0.size⟩
end Go.Proofs.Ytgchbajhceddnaa
