/- The source of draws (l01From, l01Next): what they do, by walks over their text. Conditions: a code of at most 4096 bytes; numbers to draw below at most 10^12. -/
import Derived.Test.YtpgegfnhokhlmabGreatKA
import Derived.LoopTactic
import Derived.RegionTactic
set_option linter.unusedVariables false
set_option maxRecDepth 100000
namespace Go.Proofs.YtpgegfnhokhlmabGreat
open Go.ChangeShapes Go.WideShapes Go.ChangeAt Go.RowKit Go.Joins Go.Deep

/-- The slice of bytes '.slice A n c' reads as zs. -/
def Byts (w : World) (A : Option Addr) (n : Nat) (zs : List Int) : Prop :=
  zs.length = n ∧ (∀ z ∈ zs, 0 ≤ z ∧ z ≤ 255) ∧ (0 < n → ∃ b o, A = some ⟨b, o, none⟩ ∧ b < w.heap.size ∧ ∀ (k : Nat) (z : Int), zs[k]? = some z → w.cell? ⟨b, o + k, none⟩ = some (.int .u8 z))
section
variable {w w' : World} {A : Option Addr} {n c B : Nat} {zs : List Int}
theorem Byts.at_ (h : Byts w A n zs) {k : Nat} (hk : k < n) : ∃ b o z, A = some ⟨b, o, none⟩ ∧ b < w.heap.size ∧ 0 ≤ z ∧ z ≤ 255 ∧ w.cell? ⟨b, o + k, none⟩ = some (.int .u8 z) := by
  obtain ⟨b, o, e, hb, hc⟩ := h.2.2 (by omega)
  have hz : zs[k]? = some (zs[k]'(by have := h.1; omega)) := List.getElem?_eq_getElem _
  have := h.2.1 _ (List.getElem_mem (show k < zs.length by have := h.1; omega))
  exact ⟨b, o, _, e, hb, this.1, this.2, hc k _ hz⟩
theorem Byts.grown {row : Option Nat} (h : Byts w A n zs) (hg : w.grownBy w' row) (hne : ∀ b o, A = some ⟨b, o, none⟩ → 0 < n → some b ≠ row) : Byts w' A n zs :=
  ⟨h.1, h.2.1, fun hn => by
    obtain ⟨b, o, e, hlt, hc⟩ := h.2.2 hn
    exact ⟨b, o, e, Nat.lt_of_lt_of_le hlt hg.size, fun k z hz => (World.cell?_of_block (a := ⟨b, o + k, none⟩) (hg.block b hlt (hne b o e hn))).trans (hc k z hz)⟩⟩
theorem Byts.below (h : Byts w A n zs) (hb : Below w.heap.size w w') : Byts w' A n zs :=
  h.grown (row := none) ⟨hb.os, hb.tape, hb.output, hb.size, fun k hk _ => hb.block k hk⟩ (fun _ _ _ _ h => by cases h)
end
/-- A grown world, seen as what it is: only block B has turned. -/
theorem grown_set (w : World) (B i : Nat) (u : Value) : w.grownBy (w.setCell ⟨B, i, none⟩ u) (some B) :=
  ⟨rfl, rfl, rfl, by simp [World.setCell], fun k _ hne => Below.heap_setCell w _ _ k (fun e => hne (by rw [e]))⟩
theorem grown_drewN {a w : World} {row : Option Nat} (h : a.grownBy w row) (n : Nat) : a.grownBy (w.drewN n) row := ⟨h.os, h.tape, h.output, h.size, h.block⟩
theorem grown_allocD {a w : World} {row : Option Nat} (h : a.grownBy w row) (o : Obj) : a.grownBy (w.alloc o) row :=
  ⟨h.os, h.tape, h.output, Nat.le_trans h.size (by simp), fun i hi hne => (Below.heap_alloc w o i (Nat.lt_of_lt_of_le hi h.size)).trans (h.block i hi hne)⟩
theorem grown_below {w w' : World} (h : Below w.heap.size w w') (row : Option Nat) : w.grownBy w' row := ⟨h.os, h.tape, h.output, h.size, fun i hi _ => h.block i hi⟩
theorem below_grown {w w' : World} {N B : Nat} (h : w.grownBy w' (some B)) (hN : N ≤ w.heap.size) (hB : N ≤ B) : Below N w w' :=
  (Below.refl N w).grown h hN (fun k hk => by injection hk with hk; omega)

/-- The source in block B: the code, the place, the seed. -/
def Src (w : World) (B : Nat) (A : Option Addr) (n c : Nat) (zs : List Int) : Prop :=
  ∃ (p : Nat) (s : Int), p ≤ n ∧ 0 ≤ s ∧ s < 2147483647 ∧ w.heap[B]? = some (.cells #[.slice A n c, .int .i64 p, .int .i64 s] 107 (0, 0)) ∧ Byts w A n zs ∧ ∀ b o, A = some ⟨b, o, none⟩ → 0 < n → b ≠ B
theorem heap_lt' {w : World} {b : Nat} {x : Obj} (h : w.heap[b]? = some x) : b < w.heap.size := by
  rcases Nat.lt_or_ge b w.heap.size with hlt | hge
  · exact hlt
  · rw [Array.getElem?_eq_none hge] at h; cases h
theorem Src.lt {w : World} {B : Nat} {A : Option Addr} {n c : Nat} {zs : List Int} (h : Src w B A n c zs) : B < w.heap.size := by
  obtain ⟨p, s, _, _, _, hh, _⟩ := h
  exact heap_lt' hh
theorem Src.below {w w' : World} {B : Nat} {A : Option Addr} {n c : Nat} {zs : List Int} (h : Src w B A n c zs) (hb : Below w.heap.size w w') : Src w' B A n c zs := by
  obtain ⟨p, s, h1, h2, h3, h4, h5, h6⟩ := h
  exact ⟨p, s, h1, h2, h3, (hb.block B (heap_lt' h4)).trans h4, h5.below hb, h6⟩
theorem Src.alloc {w : World} {B : Nat} {A : Option Addr} {n c : Nat} {zs : List Int} (h : Src w B A n c zs) (o : Obj) : Src (w.alloc o) B A n c zs := h.below ((Below.refl _ _).alloc (Nat.le_refl _) _)
/-- A call draws a number below m, and moves the source on. -/
def RetNext (w : World) (B : Nat) (A : Option Addr) (n c : Nat) (zs : List Int) (m : Int) (e : Ending) (w' : World) : Prop :=
  ∃ x : Int, 0 ≤ x ∧ (x = 0 ∨ x < m) ∧ e = .returned (.int .i64 x) ∧ Src w' B A n c zs ∧ w.grownBy w' (some B)

theorem heap_set1 {w : World} {B : Nat} {x y z u : Value} {t : TypeId} (h : w.heap[B]? = some (.cells #[x, y, z] t (0, 0))) : (w.setCell ⟨B, 1, none⟩ u).heap[B]? = some (.cells #[x, u, z] t (0, 0)) := by
  simp [World.setCell, Array.getElem?_modify, h]
theorem heap_set2 {w : World} {B : Nat} {x y z u : Value} {t : TypeId} (h : w.heap[B]? = some (.cells #[x, y, z] t (0, 0))) : (w.setCell ⟨B, 2, none⟩ u).heap[B]? = some (.cells #[x, y, u] t (0, 0)) := by
  simp [World.setCell, Array.getElem?_modify, h]
theorem heap_cells {w : World} {B : Nat} {x y z : Value} {t : TypeId} (h : w.heap[B]? = some (.cells #[x, y, z] t (0, 0))) :
    w.cell? ⟨B, 0, none⟩ = some x ∧ w.cell? ⟨B, 1, none⟩ = some y ∧ w.cell? ⟨B, 2, none⟩ = some z ∧ w.frozen? ⟨B, 0, none⟩ = false ∧ w.frozen? ⟨B, 1, none⟩ = false ∧ w.frozen? ⟨B, 2, none⟩ = false := by
  refine ⟨?_, ?_, ?_, ?_, ?_, ?_⟩
  · rw [cell_of_row w B 0 _ t (0, 0) h]; rfl
  · rw [cell_of_row w B 1 _ t (0, 0) h]; rfl
  · rw [cell_of_row w B 2 _ t (0, 0) h]; rfl
  all_goals simp [World.frozen?, h]

theorem next_close {w w1 w2 : World} {B : Nat} {A : Option Addr} {n c p : Nat} {zs : List Int} {s m x : Int} (hg1 : w.grownBy w1 (some B)) (hby1 : Byts w1 A n zs) (hne : ∀ b o, A = some ⟨b, o, none⟩ → 0 < n → b ≠ B)
    (hp : p ≤ n) (hs : 0 ≤ s ∧ s < 2147483647) (hm : 1 < m) (hx : 0 ≤ x) (hh : w2.heap[B]? = some (.cells #[.slice A n c, .int .i64 (p : Int), .int .i64 s] 107 (0, 0))) (hg2 : w1.grownBy w2 (some B)) :
    RetNext w B A n c zs m (.returned (.int .i64 (x % m))) w2 := by
  refine ⟨x % m, Int.emod_nonneg _ (by omega), .inr (Int.emod_lt_of_pos _ (by omega)), rfl, ⟨p, s, hp, hs.1, hs.2, hh, hby1.grown hg2 (fun b o hA hn0 => fun hE => hne b o hA hn0 (by injection hE)), hne⟩, hg1.trans hg2⟩
theorem cast_succ (p : Nat) : Value.int .i64 ((p : Int) + 1) = .int .i64 ((p + 1 : Nat) : Int) := by simp

set_option maxHeartbeats 4000000 in
theorem next_any (B : Nat) (A : Option Addr) (n c : Nat) (zs : List Int) (m : Int) (w : World) (h : Src w B A n c zs) (hn : n ≤ 4096) (hm : m ≤ 1000000000000) (hm0 : -1000000000000 ≤ m) :
    Calls Tryz.prog 67 #[.pointer (some ⟨B, 0, none⟩), .int .i64 m] w (RetNext w B A n c zs m) := by
  by_cases hm1 : m ≤ 1
  · have H := Lib.hid h
    clear h
    go_enter Tryz.func67, Tryz.ntmps67
    go_wp2
    go_ret
    exact ⟨0, by omega, .inl rfl, rfl, H.out, World.grownBy.refl w _⟩
  · obtain ⟨p, s, hp, hs0, hs1, hh, hby, hne⟩ := h
    obtain ⟨c0, c1, c2, f0, f1, f2⟩ := heap_cells hh
    obtain ⟨s', hs'⟩ : ∃ s', (s * 48271 + 7) % 2147483647 = s' := ⟨_, rfl⟩
    have hb1 : 0 ≤ s' ∧ s' < 2147483647 := by omega
    have hsb : 0 ≤ s * 48271 ∧ s * 48271 ≤ 103661183184390 := by omega
    have HH := Lib.hid hh
    clear hh
    go_enter Tryz.func67, Tryz.ntmps67
    go_wp2_with fail
    have hh1 := heap_set2 (u := .int .i64 s') HH.out
    have hg1 := grown_set w B 2 (.int .i64 s')
    have hby1 := hby.grown hg1 (fun b o hA hn0 => fun hE => hne b o hA hn0 (by injection hE))
    clear c0 c1 c2 f0 f1 f2 hs'
    generalize w.setCell ⟨B, 2, none⟩ (.int .i64 s') = w1 at *
    obtain ⟨c0, c1, c2, f0, f1, f2⟩ := heap_cells hh1
    have HH1 := Lib.hid hh1
    have hd1 : 0 ≤ s' / 19 ∧ s' / 19 ≤ 113025455 := by omega
    clear hh1 hsb
    have HG1 := Lib.hid hg1
    clear hg1
    by_cases hpn : p < n
    · obtain ⟨b, o, z, rfl, hbl, hz0, hz1, hcz⟩ := hby1.at_ hpn
      have hneb : b ≠ B := hne b o rfl (by omega)
      have e0 : (0 : Int) ≤ (p : Int) := by omega
      have e1 : (p : Int) < (n : Int) := by omega
      have HB1 := Lib.hid hby1
      have HN := Lib.hid hne
      have hst := Lib.hid (fun k => heap_set1 (w := w1.drewN k) (u := .int .i64 ((p : Int) + 1)) HH1.out)
      clear hby hby1 hne HH
      rcases (orP (orB trivial) : ¬ m ≤ 256 ∨ m ≤ 256 ∧ ((((p : Int) + 1) % 2 == 0) = false ∨ (((p : Int) + 1) % 2 == 0) = true ∧ True)) with t1 | ⟨t1, t2 | ⟨t2, _⟩⟩
      all_goals
        go_quiet (fail)
        go_wp2_with fail
        have e2 : IntKind.i64.wrap (s' / 19 + z) = s' / 19 + z := IntWalk.i64_in _ (by omega)
        go_quiet (fail)
        clear e2
        go_wp2_with fail
      · go_ret
        exact next_close HG1.out HB1.out HN.out (p := p + 1) (by omega) hb1 hm1 (by omega) (by rw [← cast_succ]; exact hst.out _) ((grown_drewN (World.grownBy.refl w1 _) _).trans (grown_set _ B 1 _))
      · go_ret
        exact next_close HG1.out HB1.out HN.out (p := p + 1) (by omega) hb1 hm1 (by omega) (by rw [← cast_succ]; exact hst.out _) ((grown_drewN (World.grownBy.refl w1 _) _).trans (grown_set _ B 1 _))
      · have e3 : IntKind.i64.wrap ((p : Int) + 1 - 1) = (p : Int) := by rw [show (p : Int) + 1 - 1 = (p : Int) by omega]; exact IntWalk.i64_in _ (by omega)
        go_quiet (fail)
        clear e3
        go_wp2_with fail
        go_ret
        exact next_close HG1.out HB1.out HN.out (p := p + 1) (by omega) hb1 hm1 (by omega) (by rw [← cast_succ]; exact hst.out _) (grown_drewN ((grown_drewN (World.grownBy.refl w1 _) _).trans (grown_set _ B 1 _)) _)
    · have e1 : ¬ (p : Int) < (n : Int) := by omega
      have HB1 := Lib.hid hby1
      have HN := Lib.hid hne
      clear hby hby1 hne HH
      go_quiet (fail)
      go_wp2_with fail
      go_ret
      exact next_close HG1.out HB1.out HN.out hp hb1 hm1 (by omega) HH1.out (grown_drewN (World.grownBy.refl _ _) _)

/-- A call returns a new source. -/
def RetSrc (w : World) (A : Option Addr) (n c : Nat) (zs : List Int) (e : Ending) (w' : World) : Prop :=
  e = .returned (.pointer (some ⟨w.heap.size, 0, none⟩)) ∧ Src w' w.heap.size A n c zs ∧ Below w.heap.size w w'
set_option maxHeartbeats 4000000 in
theorem from_any (A : Option Addr) (n c : Nat) (zs : List Int) (w : World) (h : Byts w A n zs) (hn : n ≤ 4096) :
    Calls Tryz.prog 51 #[.slice A n c] w (RetSrc w A n c zs) := by
  have hne : ∀ b o, A = some ⟨b, o, none⟩ → 0 < n → b ≠ w.heap.size := fun b o hA hn => by
    obtain ⟨b', o', _, hA', hb', _⟩ := h.at_ hn
    rw [hA] at hA'
    injection hA' with hA'
    injection hA' with h1
    omega
  go_enter Tryz.func51, Tryz.ntmps51
  go_wp2_with fail
  go_loopw [4] (fun ii wr => ∃ (k : Nat) (s : Int), k ≤ n ∧ ii = .int .i64 k ∧ 0 ≤ s ∧ s < 2147483647 ∧ Hid (wr.heap[w.heap.size]? = some (.cells #[.slice A n c, .int .i64 0, .int .i64 s] 107 (0, 0))) ∧ Below w.heap.size w wr) (fun ii _ => n - (intOf ii).toNat)
  case atStart => exact ⟨0, 50311, Nat.zero_le _, rfl, by omega, by omega, heap_alloc_new _ _, (Below.refl _ _).alloc (Nat.le_refl _) _⟩
  case round =>
    obtain ⟨k, s, hk, rfl, hs0, hs1, HH, hb⟩ := hrel
    by_cases hlt : k < n ∧ k < 64
    · obtain ⟨hl1, hl2⟩ := hlt
      obtain ⟨b, o, z, rfl, hbl, hz0, hz1, hcz⟩ := (h.below hb).at_ hl1
      have hneb : b ≠ w.heap.size := hne b o rfl (by omega)
      obtain ⟨c0, c1, c2, f0, f1, f2⟩ := heap_cells HH.out
      obtain ⟨s', hs'⟩ : ∃ s', (s * 41 + z) % 2147483647 = s' := ⟨_, rfl⟩
      have hb1 : 0 ≤ s' ∧ s' < 2147483647 := by omega
      have hst := Lib.hid (fun k => heap_set2 (w := wr.drewN k) (u := .int .i64 s') HH.out)
      have e0 : (0 : Int) ≤ (k : Int) := by omega
      have e1 : (k : Int) < (n : Int) := by omega
      have e2 : (k : Int) < 64 := by omega
      clear hne
      go_wp2_with fail
      go_region
      go_wp2_with fail
      go_roundw
      case rel => exact ⟨k + 1, s', by omega, by go_num, hb1.1, hb1.2, hst.out 0, (hb.setCell (p := ⟨w.heap.size, 2, none⟩) (Nat.le_refl _) _).drew⟩
      case measure => simp [intOf]; omega
    · by_cases hl1 : k < n
      · have hl2 : ¬ k < 64 := fun hh => hlt ⟨hl1, hh⟩
        clear hlt
        go_wp2_with fail
        go_ret
        exact ⟨rfl, ⟨0, s, Nat.zero_le _, hs0, hs1, HH.out, h.below hb, hne⟩, hb⟩
      · clear hlt
        go_wp2_with fail
        go_ret
        exact ⟨rfl, ⟨0, s, Nat.zero_le _, hs0, hs1, HH.out, h.below hb, hne⟩, hb⟩

end Go.Proofs.YtpgegfnhokhlmabGreat
