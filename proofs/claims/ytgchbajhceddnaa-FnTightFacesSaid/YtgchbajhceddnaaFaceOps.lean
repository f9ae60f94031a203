/- What toFace, toFaceS, eqFace, eqFaceS, szFaceS do, by walks over their text. Conditions: lengths of at most 1048576. -/
import Derived.Test.YtgchbajhceddnaaFaces
set_option linter.unusedVariables false
set_option maxRecDepth 100000
namespace Go.Proofs.Ytgchbajhceddnaa
open Go.ChangeShapes Go.WideShapes Go.ChangeAt Go.RowKit Go.Joins Go.Deep

/-- A slice of faces of the call's own. -/
def OwnF (w : World) (B : Nat) (A : Option Addr) (n c : Nat) (fs : List Fc) : Prop := OwnR encF 3 66 w B A n c fs ∧ ∀ f ∈ fs, okF f
def RetF (w : World) (fs : List Fc) (e : Ending) (w' : World) : Prop :=
  ∃ A c, e = .returned (.slice A fs.length c) ∧ OwnF w' w.heap.size A fs.length c fs ∧ Below w.heap.size w w'
section
variable {w w' : World} {A : Option Addr} {n c B : Nat} {fs : List Fc}
theorem OwnF.faces (h : OwnF w B A n c fs) : Faces w A n fs := ⟨h.1.recs (by omega), h.2⟩
theorem OwnF.len (h : OwnF w B A n c fs) : fs.length = n := h.1.len (by omega)
theorem OwnF.below (h : OwnF w B A n c fs) (hb : Below w.heap.size w w') : OwnF w' B A n c fs := ⟨h.1.below hb, h.2⟩
theorem OwnF.low (h : OwnF w B A n c fs) {a : Addr} (ha : a.block < B) (u : Value) : OwnF (w.setCell a u) B A n c fs := ⟨⟨ownsRow_setCell_below h.1.1 ha u, h.1.2⟩, h.2⟩
theorem OwnF.mono {B' : Nat} (h : OwnF w B A n c fs) (hB : B' ≤ B) : OwnF w B' A n c fs := ⟨h.1.mono hB, h.2⟩
theorem OwnF.grown {row : Option Nat} (h : OwnF w B A n c fs) (hg : w.grownBy w' row) (hne : ∀ g, A = some ⟨g, 0, none⟩ → row ≠ some g) : OwnF w' B A n c fs := ⟨h.1.grown hg hne, h.2⟩
end

theorem toFace_any (p q r : Int) (w : World) :
    Calls Try.prog 71 #[.agg #[.int .i64 p, .int .i64 q, .int .i64 r]] w fun e w' => e = .returned (.agg #[.int .i64 p, .int .i64 q, .int .i64 r]) ∧ Below w.heap.size w w' := by
  go_enter Try.func71, Try.ntmps71
  go_wp2
  exact bodyPost_ret (v := .agg #[.int .i64 p, .int .i64 q, .int .i64 r]) (by simp [results, Try.results71, go_sem]) rfl ⟨rfl, by
    repeat (first | exact Below.refl _ _ | refine Below.setCell ?_ (by simp <;> omega) _ | refine Below.alloc ?_ (by simp <;> omega) _)⟩
def eqF (f g : Fc) : Bool := decide (f.p = g.p) && (decide (f.q = g.q) && decide (f.r = g.r))
theorem eqF_iff (f g : Fc) : eqF f g = true ↔ f = g := by
  cases f; cases g; simp [eqF]
theorem eqFace_any (f g : Fc) (w : World) :
    Calls Try.prog 72 #[.agg #[.int .i64 f.p, .int .i64 f.q, .int .i64 f.r], .agg #[.int .i64 g.p, .int .i64 g.q, .int .i64 g.r]] w fun e w' => e = .returned (.bool (eqF f g)) ∧ Below w.heap.size w w' := by
  have hb : ∀ cs t ds u, Below w.heap.size w ((w.alloc (.cells cs t)).alloc (.cells ds u)) := fun cs t ds u => ((Below.refl _ _).alloc (Nat.le_refl _) _).alloc (by simp) _
  rcases (orB (orB (orB trivial)) : (f.p != g.p) = false ∨ (f.p != g.p) = true ∧ ((f.q != g.q) = false ∨ (f.q != g.q) = true ∧ ((f.r != g.r) = false ∨ (f.r != g.r) = true ∧ True))) with h1 | ⟨h1, _⟩
  · rcases (orB (orB trivial) : (f.q != g.q) = false ∨ (f.q != g.q) = true ∧ ((f.r != g.r) = false ∨ (f.r != g.r) = true ∧ True)) with h2 | ⟨h2, _⟩
    · rcases (orB trivial : (f.r != g.r) = false ∨ (f.r != g.r) = true ∧ True) with h3 | ⟨h3, _⟩
      · have H := Lib.hid (show eqF f g = true by simp at h1 h2 h3; simp [eqF, h1, h2, h3])
        go_enter Try.func72, Try.ntmps72
        go_wp2
        go_ret
        exact ⟨rb H.out.symm, hb _ _ _ _⟩
      · have H := Lib.hid (show eqF f g = false by simp at h3; simp [eqF, h3])
        go_enter Try.func72, Try.ntmps72
        go_wp2
        go_ret
        exact ⟨rb H.out.symm, hb _ _ _ _⟩
    · have H := Lib.hid (show eqF f g = false by simp at h2; simp [eqF, h2])
      go_enter Try.func72, Try.ntmps72
      go_wp2
      go_ret
      exact ⟨rb H.out.symm, hb _ _ _ _⟩
  · have H := Lib.hid (show eqF f g = false by simp at h1; simp [eqF, h1])
    go_enter Try.func72, Try.ntmps72
    go_wp2
    go_ret
    exact ⟨rb H.out.symm, hb _ _ _ _⟩

def zeroF : Fc := ⟨0, 0, 0⟩
theorem info_face : (Try.prog.info? 66).map (fun i => (i.zero, i.size, i.bytes)) = some (some (.agg #[.int .i64 0, .int .i64 0, .int .i64 0]), 3, 24) := by kernel_rfl
theorem fcopy_step {fs : List Fc} {n i : Nat} {f : Fc} (hl : fs.length = n) (hi : i < n) (hf : fs[i]? = some f) :
    (fs.take i ++ List.replicate (n - i) zeroF).set i f = fs.take (i + 1) ++ List.replicate (n - (i + 1)) zeroF := by
  obtain ⟨hk', rfl⟩ := List.getElem?_eq_some_iff.1 hf
  rw [List.set_append_right _ _ (by simp; omega), List.take_succ_eq_append_getElem hk', List.append_assoc]
  congr 1
  have e1 : i - (fs.take i).length = 0 := by simp; omega
  have e2 : n - i = (n - (i + 1)) + 1 := by omega
  rw [e1, e2, List.replicate_succ]
  rfl
theorem retF_of {w w' : World} {A : Option Addr} {n c : Nat} {fs : List Fc} (hl : fs.length = n) (ho : OwnR encF 3 66 w' w.heap.size A n c fs) (hk : ∀ f ∈ fs, okF f) (hb : Below w.heap.size w w') : RetF w fs (.returned (.slice A n c)) w' := by
  subst hl
  exact ⟨_, _, rfl, ⟨ho, hk⟩, hb⟩
set_option maxHeartbeats 2000000 in
theorem toFaces_any (A : Option Addr) (n c : Nat) (fs : List Fc) (w : World) (h : Faces w A n fs) (hn : n ≤ 1048576) :
    Calls Try.prog 52 #[.slice A n c] w (RetF w fs) := by
  have hmk := fun W => run_mk (P := Try.prog) 30 66 (.agg #[.int .i64 0, .int .i64 0, .int .i64 0]) 3 24 Try.underlying30 info_face n (by omega) (by omega) W
  have hl := Lib.hid h.len
  go_enter Try.func52, Try.ntmps52
  go_wp2
  clear hmk
  go_loopw [4] (fun ii wr => ∃ k : Nat, k ≤ n ∧ ii = .int .i64 k ∧ OwnR encF 3 66 wr w.heap.size (some ⟨w.heap.size, 0, none⟩) n n (fs.take k ++ List.replicate (n - k) zeroF) ∧ Below w.heap.size w wr) (fun ii _ => n - (intOf ii).toNat)
  case atStart => exact ⟨0, Nat.zero_le _, rfl, by simpa using own_made (enc := encF) (k := 3) (e := 66) (z := #[.int .i64 0, .int .i64 0, .int .i64 0]) zeroF rfl (by omega) rfl w n (by unfold maxLen; omega) (Nat.le_refl _), (Below.refl _ _).alloc (Nat.le_refl _) _⟩
  case round =>
    obtain ⟨k, hk, rfl, hown, hb⟩ := hrel
    by_cases hlt : k < n
    · obtain ⟨b, o, f, rfl, hbl, hf, hok, hcp, hcq, hcr⟩ := (h.below hb).at_ hlt
      have hst := Lib.hid (fcopy_step hl.out hlt hf)
      clear hf
      go_wp2_with fail
      refine (toFace_any _ _ _ _).mono ?_
      rintro e w1 ⟨rfl, hb1⟩
      have hown1 := hown.below hb1
      have hb1' := bthen hb hb1 hb.size
      obtain ⟨x, hx, hcs, hfs, _, hgl⟩ := hown1.cells (by omega) hlt
      have c0 := hcs 0 _ rfl
      have c1 := hcs 1 _ rfl
      have c2 := hcs 2 _ rfl
      have f0 := hfs (k * 3)
      have f1 := hfs (k * 3 + 1)
      have f2 := hfs (k * 3 + 2)
      obtain ⟨hput, hgr⟩ := hown1.put (by omega) hlt (x := f) rfl
      have HPUT := Lib.hid hput
      have HGR := Lib.hid hgr
      clear hown hown1 hcs hfs hput hgr hx hcp hcq hcr
      rw [Nat.add_zero] at c0
      go_wp2_with fail
      go_roundw
      case rel => exact ⟨k + 1, by omega, by go_num, by rw [← hst.out]; exact HPUT.out, hb1'.grown HGR.out hb1'.size (fun g hg => by injection hg with hg; omega)⟩
      case measure => simp [intOf]; omega
    · go_wp2_with fail
      go_ret
      obtain rfl : k = n := by omega
      exact retF_of hl.out (by simpa [List.take_of_length_le (Nat.le_of_eq hl.out)] using hown) h.2 hb
theorem feq_take {xs ys : List Fc} {k : Nat} {z : Fc} (h : xs.take k = ys.take k) (hx : xs[k]? = some z) (hy : ys[k]? = some z) : xs.take (k + 1) = ys.take (k + 1) := by
  rw [List.take_add_one, List.take_add_one, h, hx, hy]
attribute [local go_sem ↓] Go.wp_at_zero Go.wp_at_succ
/-- Two slices of faces compared: true if they are the same. -/
def RetEq (w : World) (p : Prop) (e : Ending) (w' : World) : Prop := ∃ b : Bool, (b = true ↔ p) ∧ e = .returned (.bool b) ∧ Below w.heap.size w w'
set_option maxHeartbeats 4000000 in
theorem eqFaces_any (A B : Option Addr) (n m c d : Nat) (xs ys : List Fc) (w : World) (ha : Faces w A n xs) (hb : Faces w B m ys) (hn : n ≤ 1048576) :
    Calls Try.prog 53 #[.slice A n c, .slice B m d] w (RetEq w (xs = ys)) := by
  have hla := Lib.hid ha.len
  have hlb := Lib.hid hb.len
  by_cases hnm : n = m
  · subst hnm
    have hne : ((n : Int) != (n : Int)) = false := by simp
    go_enter Try.func53, Try.ntmps53
    go_wp2_with fail
    go_loopw [5] (fun i wr => ∃ k : Nat, k ≤ n ∧ i = .int .i64 k ∧ Hid (xs.take k = ys.take k) ∧ Below w.heap.size w wr) (fun i _ => n - (intOf i).toNat)
    case atStart => exact ⟨0, Nat.zero_le _, rfl, rfl, Below.refl _ _⟩
    case round =>
      obtain ⟨k, hk, rfl, HP, hw⟩ := hrel
      by_cases hlt : k < n
      · obtain ⟨b, o, f, rfl, hbl, hx, hx64, hx0, hx1, hx2⟩ := (ha.below hw).at_ hlt
        obtain ⟨b', o', g, rfl, hbl', hy, hy64, hy0, hy1, hy2⟩ := (hb.below hw).at_ hlt
        have HX := Lib.hid hx
        have HY := Lib.hid hy
        have hwd := hw.drew
        have hbs := hw.size
        have k0 : (0 : Int) ≤ (k : Int) := by omega
        have k1 : (k : Int) < (n : Int) := by omega
        clear hx hy
        cases hfg : eqF f g
        all_goals
          have HE := Lib.hid hfg
          go_wp2_with fail
          go_region_held3 (fun w' => b < w'.heap.size ∧ b' < w'.heap.size ∧ w.heap.size ≤ w'.heap.size ∧ w'.cell? ⟨b, o + k * 3, none⟩ = some (.int .i64 f.p) ∧ w'.cell? ⟨b, o + k * 3 + 1, none⟩ = some (.int .i64 f.q) ∧ w'.cell? ⟨b, o + k * 3 + 2, none⟩ = some (.int .i64 f.r) ∧ w'.cell? ⟨b', o' + k * 3, none⟩ = some (.int .i64 g.p) ∧ w'.cell? ⟨b', o' + k * 3 + 1, none⟩ = some (.int .i64 g.q) ∧ w'.cell? ⟨b', o' + k * 3 + 2, none⟩ = some (.int .i64 g.r) ∧ Below w.heap.size w w')
            (first | go_keep | (go_split_ands; refine ⟨by have := hb2.size; omega, by have := hb2.size; omega, by have := hb2.size; omega, ?_, ?_, ?_, ?_, ?_, ?_, bthen ‹_› hb2 (by assumption)⟩ <;> (rw [hb2.cell (by simp; omega)]; assumption)))
            (first | (go_at_call 72; refine (eqFace_any f g _).mono ?_; rintro e w2 ⟨rfl, hb2⟩))
          go_wp2_with fail
        · go_ret
          rename_i hh
          refine ⟨false, ⟨(fun h => by cases h), fun h => ?_⟩, rfl, hh.2.2.2.2.2.2.2.2.2⟩
          subst h
          have e := Option.some.inj (HX.out.symm.trans HY.out)
          have := HE.out
          rw [(eqF_iff f g).2 e] at this
          cases this
        · rename_i hh
          go_roundw
          case rel => exact ⟨k + 1, by omega, by go_num, feq_take HP.out HX.out ((eqF_iff f g).1 HE.out ▸ HY.out), hh.2.2.2.2.2.2.2.2.2⟩
          case measure => simp [intOf]; omega
      · go_wp2_with fail
        go_ret
        refine ⟨true, ⟨fun _ => ?_, fun _ => rfl⟩, rfl, hw⟩
        have := HP.out
        rwa [List.take_of_length_le (by have := hla.out; omega), List.take_of_length_le (by have := hlb.out; omega)] at this
  · have HN := Lib.hid hnm
    have hne : ((n : Int) != (m : Int)) = true := by simp; omega
    clear hnm
    go_enter Try.func53, Try.ntmps53
    go_wp2_with fail
    go_ret
    refine ⟨false, ⟨(fun h => by cases h), fun h => ?_⟩, rfl, Below.refl _ _⟩
    subst h
    exact absurd (hla.out.symm.trans hlb.out) HN.out
end Go.Proofs.Ytgchbajhceddnaa
