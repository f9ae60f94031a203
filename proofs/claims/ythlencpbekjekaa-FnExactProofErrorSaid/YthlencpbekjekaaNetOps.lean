/- What toNode, toNodeS, eqNode, eqNodeS and their likes for pipes do, by walks over their text. Conditions: lengths of at most 1048576. -/
import Derived.Test.YthlencpbekjekaaNets
set_option linter.unusedVariables false
set_option maxRecDepth 100000
namespace Go.Proofs.Ythlencpbekjekaa
open Go.ChangeShapes Go.WideShapes Go.ChangeAt Go.RowKit Go.Joins Go.Deep
theorem of_nei {a b : Int} (h : (a != b) = false) : a = b := by simpa using h
theorem ne_ofi {a b : Int} (h : (a != b) = true) : a ≠ b := by simpa using h
theorem str_inj {a b : ByteArray} (h : a.toList = b.toList) : a = b := by
  rw [ByteArray.toList_eq a, ByteArray.toList_eq b] at h
  cases a; cases b
  simpa using Array.toList_inj.1 h
theorem of_nes {a b : ByteArray} (h : (!(a.toList == b.toList)) = false) : a = b := by
  simp at h
  exact str_inj h
theorem ne_ofs {a b : ByteArray} (h : (!(a.toList == b.toList)) = true) : a ≠ b := by
  rintro rfl
  simp at h
/-- Two values compared: true if they are the same. -/
def RetEq (w : World) (p : Prop) (e : Ending) (w' : World) : Prop := ∃ b : Bool, (b = true ↔ p) ∧ e = .returned (.bool b) ∧ Below w.heap.size w w'

/-- A slice of nodes of the call's own. -/
def OwnN (w : World) (B : Nat) (A : Option Addr) (n c : Nat) (xs : List Nd) : Prop := OwnR encN 3 67 w B A n c xs ∧ ∀ x ∈ xs, okN x
def RetN (w : World) (xs : List Nd) (e : Ending) (w' : World) : Prop :=
  ∃ A c, e = .returned (.slice A xs.length c) ∧ OwnN w' w.heap.size A xs.length c xs ∧ Below w.heap.size w w'
section
variable {w w' : World} {A : Option Addr} {n c B : Nat} {xs : List Nd}
theorem OwnN.reads (h : OwnN w B A n c xs) : Nodes w A n xs := ⟨h.1.recs (by omega), h.2⟩
theorem OwnN.len (h : OwnN w B A n c xs) : xs.length = n := h.1.len (by omega)
theorem OwnN.below (h : OwnN w B A n c xs) (hb : Below w.heap.size w w') : OwnN w' B A n c xs := ⟨h.1.below hb, h.2⟩
theorem OwnN.low (h : OwnN w B A n c xs) {a : Addr} (ha : a.block < B) (u : Value) : OwnN (w.setCell a u) B A n c xs := ⟨⟨ownsRow_setCell_below h.1.1 ha u, h.1.2⟩, h.2⟩
theorem OwnN.mono {B' : Nat} (h : OwnN w B A n c xs) (hB : B' ≤ B) : OwnN w B' A n c xs := ⟨h.1.mono hB, h.2⟩
theorem OwnN.grown {row : Option Nat} (h : OwnN w B A n c xs) (hg : w.grownBy w' row) (hne : ∀ g, A = some ⟨g, 0, none⟩ → row ≠ some g) : OwnN w' B A n c xs := ⟨h.1.grown hg hne, h.2⟩
end
theorem toNode_any (f : Nd) (w : World) :
    Calls Try.prog 36 #[.agg #[.string f.nm, .int .i64 f.lo, .int .i64 f.hi]] w fun e w' => e = .returned (.agg #[.string f.nm, .int .i64 f.lo, .int .i64 f.hi]) ∧ Below w.heap.size w w' := by
  go_enter Try.func36, Try.ntmps36
  go_wp2
  exact bodyPost_ret (v := .agg #[.string f.nm, .int .i64 f.lo, .int .i64 f.hi]) (by simp [results, Try.results36, go_sem]) rfl ⟨rfl, by
    repeat (first | exact Below.refl _ _ | refine Below.setCell ?_ (by simp <;> omega) _ | refine Below.alloc ?_ (by simp <;> omega) _)⟩
def eqN (f g : Nd) : Bool := decide (f.nm = g.nm) && (decide (f.lo = g.lo) && (decide (f.hi = g.hi)))
theorem eqN_iff (f g : Nd) : eqN f g = true ↔ f = g := by
  cases f; cases g; simp [eqN]
set_option maxHeartbeats 1000000 in
theorem eqNode_any (f g : Nd) (w : World) :
    Calls Try.prog 42 #[.agg #[.string f.nm, .int .i64 f.lo, .int .i64 f.hi], .agg #[.string g.nm, .int .i64 g.lo, .int .i64 g.hi]] w fun e w' => e = .returned (.bool (eqN f g)) ∧ Below w.heap.size w w' := by
  have hb : ∀ cs t ds u, Below w.heap.size w ((w.alloc (.cells cs t)).alloc (.cells ds u)) := fun cs t ds u => ((Below.refl _ _).alloc (Nat.le_refl _) _).alloc (by simp) _
  cases h0 : (!(f.nm.toList == g.nm.toList))
  · cases h1 : (f.lo != g.lo)
    · cases h2 : (f.hi != g.hi)
      · have e0 := of_nes h0
        have e1 := of_nei h1
        have e2 := of_nei h2
        have H := Lib.hid (show eqN f g = true by simp [eqN, e0, e1, e2])
        clear e0 e1 e2
        go_enter Try.func42, Try.ntmps42
        go_wp2
        go_ret
        exact ⟨rb H.out.symm, hb _ _ _ _⟩
      · have e2 := ne_ofi h2
        have H := Lib.hid (show eqN f g = false by simp [eqN, e2])
        clear e2
        go_enter Try.func42, Try.ntmps42
        go_wp2
        go_ret
        exact ⟨rb H.out.symm, hb _ _ _ _⟩
    · have e1 := ne_ofi h1
      have H := Lib.hid (show eqN f g = false by simp [eqN, e1])
      clear e1
      go_enter Try.func42, Try.ntmps42
      go_wp2
      go_ret
      exact ⟨rb H.out.symm, hb _ _ _ _⟩
  · have e0 := ne_ofs h0
    have H := Lib.hid (show eqN f g = false by simp [eqN, e0])
    clear e0
    go_enter Try.func42, Try.ntmps42
    go_wp2
    go_ret
    exact ⟨rb H.out.symm, hb _ _ _ _⟩
def zeroN : Nd := ⟨ByteArray.empty, 0, 0⟩
theorem infoN : (Try.prog.info? 67).map (fun i => (i.zero, i.size, i.bytes)) = some (some (.agg #[.string ByteArray.empty, .int .i64 0, .int .i64 0]), 3, 32) := by kernel_rfl
theorem copyN {fs : List Nd} {n i : Nat} {f : Nd} (hl : fs.length = n) (hi : i < n) (hf : fs[i]? = some f) :
    (fs.take i ++ List.replicate (n - i) zeroN).set i f = fs.take (i + 1) ++ List.replicate (n - (i + 1)) zeroN := by
  obtain ⟨hk', rfl⟩ := List.getElem?_eq_some_iff.1 hf
  rw [List.set_append_right _ _ (by simp; omega), List.take_succ_eq_append_getElem hk', List.append_assoc]
  congr 1
  have e1 : i - (fs.take i).length = 0 := by simp; omega
  have e2 : n - i = (n - (i + 1)) + 1 := by omega
  rw [e1, e2, List.replicate_succ]
  rfl
theorem retN_of {w w' : World} {A : Option Addr} {n c : Nat} {fs : List Nd} (hl : fs.length = n) (ho : OwnR encN 3 67 w' w.heap.size A n c fs) (hk : ∀ f ∈ fs, okN f) (hb : Below w.heap.size w w') : RetN w fs (.returned (.slice A n c)) w' := by
  subst hl
  exact ⟨_, _, rfl, ⟨ho, hk⟩, hb⟩
set_option maxHeartbeats 4000000 in
theorem toNodes_any (A : Option Addr) (n c : Nat) (fs : List Nd) (w : World) (h : Nodes w A n fs) (hn : n ≤ 1048576) :
    Calls Try.prog 21 #[.slice A n c] w (RetN w fs) := by
  have hmk := fun W => run_mk (P := Try.prog) 33 67 (.agg #[.string ByteArray.empty, .int .i64 0, .int .i64 0]) 3 32 Try.underlying33 infoN n (by omega) (by omega) W
  have hl := Lib.hid h.len
  go_enter Try.func21, Try.ntmps21
  go_wp2
  clear hmk
  go_loopw [4] (fun ii wr => ∃ k : Nat, k ≤ n ∧ ii = .int .i64 k ∧ OwnR encN 3 67 wr w.heap.size (some ⟨w.heap.size, 0, none⟩) n n (fs.take k ++ List.replicate (n - k) zeroN) ∧ Below w.heap.size w wr) (fun ii _ => n - (intOf ii).toNat)
  case atStart => exact ⟨0, Nat.zero_le _, rfl, by simpa using own_made (enc := encN) (k := 3) (e := 67) (z := #[.string ByteArray.empty, .int .i64 0, .int .i64 0]) zeroN rfl (by omega) rfl w n (by unfold maxLen; omega) (Nat.le_refl _), (Below.refl _ _).alloc (Nat.le_refl _) _⟩
  case round =>
    obtain ⟨k, hk, rfl, hown, hb⟩ := hrel
    by_cases hlt : k < n
    · obtain ⟨b, o, f, rfl, hbl, hf, hok, hc0, hc1, hc2⟩ := (h.below hb).at_ hlt
      have hst := Lib.hid (copyN hl.out hlt hf)
      clear hf
      go_wp2_with fail
      refine (toNode_any f _).mono ?_
      rintro e w1 ⟨rfl, hb1⟩
      have hown1 := hown.below hb1
      have hb1' := bthen hb hb1 hb.size
      obtain ⟨x, hx, hcs, hfs, _, hgl⟩ := hown1.cells (by omega) hlt
      have c0 := hcs 0 _ rfl
      have f0 := hfs (k * 3)
      have c1 := hcs 1 _ rfl
      have f1 := hfs (k * 3 + 1)
      have c2 := hcs 2 _ rfl
      have f2 := hfs (k * 3 + 2)
      obtain ⟨hput, hgr⟩ := hown1.put (by omega) hlt (x := f) rfl
      have HPUT := Lib.hid hput
      have HGR := Lib.hid hgr
      clear hown hown1 hcs hfs hput hgr hx hc0 hc1 hc2
      rw [Nat.add_zero] at c0
      go_wp2_with fail
      go_roundw
      case rel => exact ⟨k + 1, by omega, by go_num, by rw [← hst.out]; exact HPUT.out, hb1'.grown HGR.out hb1'.size (fun g hg => by injection hg with hg; omega)⟩
      case measure => simp [intOf]; omega
    · go_wp2_with fail
      go_ret
      obtain rfl : k = n := by omega
      exact retN_of hl.out (by simpa [List.take_of_length_le (Nat.le_of_eq hl.out)] using hown) h.2 hb
theorem takeN {xs ys : List Nd} {k : Nat} {z : Nd} (h : xs.take k = ys.take k) (hx : xs[k]? = some z) (hy : ys[k]? = some z) : xs.take (k + 1) = ys.take (k + 1) := by
  rw [List.take_add_one, List.take_add_one, h, hx, hy]
section
attribute [local go_sem ↓] Go.wp_at_zero Go.wp_at_succ
set_option maxHeartbeats 4000000 in
theorem eqNodes_any (A B : Option Addr) (n m c d : Nat) (xs ys : List Nd) (w : World) (ha : Nodes w A n xs) (hb : Nodes w B m ys) (hn : n ≤ 1048576) :
    Calls Try.prog 27 #[.slice A n c, .slice B m d] w (RetEq w (xs = ys)) := by
  have hla := Lib.hid ha.len
  have hlb := Lib.hid hb.len
  by_cases hnm : n = m
  · subst hnm
    have hne : ((n : Int) != (n : Int)) = false := by simp
    go_enter Try.func27, Try.ntmps27
    go_wp2_with fail
    go_loopw [5] (fun i wr => ∃ k : Nat, k ≤ n ∧ i = .int .i64 k ∧ Hid (xs.take k = ys.take k) ∧ Below w.heap.size w wr) (fun i _ => n - (intOf i).toNat)
    case atStart => exact ⟨0, Nat.zero_le _, rfl, rfl, Below.refl _ _⟩
    case round =>
      obtain ⟨k, hk, rfl, HP, hw⟩ := hrel
      by_cases hlt : k < n
      · obtain ⟨b, o, f, rfl, hbl, hx, hx64, hx0, hx1, hx2⟩ := (ha.below hw).at_ hlt
        obtain ⟨b', o', g, rfl, hbl', hy, hy64, hy0, hy1, hy2⟩ := (hb.below hw).at_ hlt
        have HX := Lib.hid hx
        have HY := Lib.hid hy
        have hwd := hw.drew
        have hbs := hw.size
        have k0 : (0 : Int) ≤ (k : Int) := by omega
        have k1 : (k : Int) < (n : Int) := by omega
        clear hx hy
        cases hfg : eqN f g
        all_goals
          have HE := Lib.hid hfg
          go_wp2_with fail
          go_region_held3 (fun w' => b < w'.heap.size ∧ b' < w'.heap.size ∧ w.heap.size ≤ w'.heap.size ∧ w'.cell? ⟨b, o + k * 3, none⟩ = some (.string f.nm) ∧ w'.cell? ⟨b, o + k * 3 + 1, none⟩ = some (.int .i64 f.lo) ∧ w'.cell? ⟨b, o + k * 3 + 2, none⟩ = some (.int .i64 f.hi) ∧ w'.cell? ⟨b', o' + k * 3, none⟩ = some (.string g.nm) ∧ w'.cell? ⟨b', o' + k * 3 + 1, none⟩ = some (.int .i64 g.lo) ∧ w'.cell? ⟨b', o' + k * 3 + 2, none⟩ = some (.int .i64 g.hi) ∧ Below w.heap.size w w')
            (first | go_keep | (go_split_ands; refine ⟨by have := hb2.size; omega, by have := hb2.size; omega, by have := hb2.size; omega, ?_, ?_, ?_, ?_, ?_, ?_, bthen ‹_› hb2 (by assumption)⟩ <;> (rw [hb2.cell (by simp; omega)]; assumption)))
            (first | (go_at_call 42; refine (eqNode_any f g _).mono ?_; rintro e w2 ⟨rfl, hb2⟩))
          go_wp2_with fail
        · go_ret
          rename_i hh
          refine ⟨false, ⟨(fun h => by cases h), fun h => ?_⟩, rfl, hh.2.2.2.2.2.2.2.2.2⟩
          subst h
          have e := Option.some.inj (HX.out.symm.trans HY.out)
          have := HE.out
          rw [(eqN_iff f g).2 e] at this
          cases this
        · rename_i hh
          go_roundw
          case rel => exact ⟨k + 1, by omega, by go_num, takeN HP.out HX.out ((eqN_iff f g).1 HE.out ▸ HY.out), hh.2.2.2.2.2.2.2.2.2⟩
          case measure => simp [intOf]; omega
      · go_wp2_with fail
        go_ret
        refine ⟨true, ⟨fun _ => ?_, fun _ => rfl⟩, rfl, hw⟩
        have := HP.out
        rwa [List.take_of_length_le (by have := hla.out; omega), List.take_of_length_le (by have := hlb.out; omega)] at this
  · have HN := Lib.hid hnm
    have hne : ((n : Int) != (m : Int)) = true := by simp; omega
    clear hnm
    go_enter Try.func27, Try.ntmps27
    go_wp2_with fail
    go_ret
    refine ⟨false, ⟨(fun h => by cases h), fun h => ?_⟩, rfl, Below.refl _ _⟩
    subst h
    exact absurd (hla.out.symm.trans hlb.out) HN.out
end

/-- A slice of pipes of the call's own. -/
def OwnP (w : World) (B : Nat) (A : Option Addr) (n c : Nat) (xs : List Pp) : Prop := OwnR encP 5 65 w B A n c xs ∧ ∀ x ∈ xs, okP x
def RetP (w : World) (xs : List Pp) (e : Ending) (w' : World) : Prop :=
  ∃ A c, e = .returned (.slice A xs.length c) ∧ OwnP w' w.heap.size A xs.length c xs ∧ Below w.heap.size w w'
section
variable {w w' : World} {A : Option Addr} {n c B : Nat} {xs : List Pp}
theorem OwnP.reads (h : OwnP w B A n c xs) : Pipes w A n xs := ⟨h.1.recs (by omega), h.2⟩
theorem OwnP.len (h : OwnP w B A n c xs) : xs.length = n := h.1.len (by omega)
theorem OwnP.below (h : OwnP w B A n c xs) (hb : Below w.heap.size w w') : OwnP w' B A n c xs := ⟨h.1.below hb, h.2⟩
theorem OwnP.low (h : OwnP w B A n c xs) {a : Addr} (ha : a.block < B) (u : Value) : OwnP (w.setCell a u) B A n c xs := ⟨⟨ownsRow_setCell_below h.1.1 ha u, h.1.2⟩, h.2⟩
theorem OwnP.mono {B' : Nat} (h : OwnP w B A n c xs) (hB : B' ≤ B) : OwnP w B' A n c xs := ⟨h.1.mono hB, h.2⟩
theorem OwnP.grown {row : Option Nat} (h : OwnP w B A n c xs) (hg : w.grownBy w' row) (hne : ∀ g, A = some ⟨g, 0, none⟩ → row ≠ some g) : OwnP w' B A n c xs := ⟨h.1.grown hg hne, h.2⟩
end
theorem toPipe_any (f : Pp) (w : World) :
    Calls Try.prog 37 #[.agg #[.int .i64 f.fr, .int .i64 f.to, .int .i64 f.k, .int .i64 f.v, .int .i64 f.l]] w fun e w' => e = .returned (.agg #[.int .i64 f.fr, .int .i64 f.to, .int .i64 f.k, .int .i64 f.v, .int .i64 f.l]) ∧ Below w.heap.size w w' := by
  go_enter Try.func37, Try.ntmps37
  go_wp2
  exact bodyPost_ret (v := .agg #[.int .i64 f.fr, .int .i64 f.to, .int .i64 f.k, .int .i64 f.v, .int .i64 f.l]) (by simp [results, Try.results37, go_sem]) rfl ⟨rfl, by
    repeat (first | exact Below.refl _ _ | refine Below.setCell ?_ (by simp <;> omega) _ | refine Below.alloc ?_ (by simp <;> omega) _)⟩
def eqP (f g : Pp) : Bool := decide (f.fr = g.fr) && (decide (f.to = g.to) && (decide (f.k = g.k) && (decide (f.v = g.v) && (decide (f.l = g.l)))))
theorem eqP_iff (f g : Pp) : eqP f g = true ↔ f = g := by
  cases f; cases g; simp [eqP]
set_option maxHeartbeats 1000000 in
theorem eqPipe_any (f g : Pp) (w : World) :
    Calls Try.prog 43 #[.agg #[.int .i64 f.fr, .int .i64 f.to, .int .i64 f.k, .int .i64 f.v, .int .i64 f.l], .agg #[.int .i64 g.fr, .int .i64 g.to, .int .i64 g.k, .int .i64 g.v, .int .i64 g.l]] w fun e w' => e = .returned (.bool (eqP f g)) ∧ Below w.heap.size w w' := by
  have hb : ∀ cs t ds u, Below w.heap.size w ((w.alloc (.cells cs t)).alloc (.cells ds u)) := fun cs t ds u => ((Below.refl _ _).alloc (Nat.le_refl _) _).alloc (by simp) _
  cases h0 : (f.fr != g.fr)
  · cases h1 : (f.to != g.to)
    · cases h2 : (f.k != g.k)
      · cases h3 : (f.v != g.v)
        · cases h4 : (f.l != g.l)
          · have e0 := of_nei h0
            have e1 := of_nei h1
            have e2 := of_nei h2
            have e3 := of_nei h3
            have e4 := of_nei h4
            have H := Lib.hid (show eqP f g = true by simp [eqP, e0, e1, e2, e3, e4])
            clear e0 e1 e2 e3 e4
            go_enter Try.func43, Try.ntmps43
            go_wp2
            go_ret
            exact ⟨rb H.out.symm, hb _ _ _ _⟩
          · have e4 := ne_ofi h4
            have H := Lib.hid (show eqP f g = false by simp [eqP, e4])
            clear e4
            go_enter Try.func43, Try.ntmps43
            go_wp2
            go_ret
            exact ⟨rb H.out.symm, hb _ _ _ _⟩
        · have e3 := ne_ofi h3
          have H := Lib.hid (show eqP f g = false by simp [eqP, e3])
          clear e3
          go_enter Try.func43, Try.ntmps43
          go_wp2
          go_ret
          exact ⟨rb H.out.symm, hb _ _ _ _⟩
      · have e2 := ne_ofi h2
        have H := Lib.hid (show eqP f g = false by simp [eqP, e2])
        clear e2
        go_enter Try.func43, Try.ntmps43
        go_wp2
        go_ret
        exact ⟨rb H.out.symm, hb _ _ _ _⟩
    · have e1 := ne_ofi h1
      have H := Lib.hid (show eqP f g = false by simp [eqP, e1])
      clear e1
      go_enter Try.func43, Try.ntmps43
      go_wp2
      go_ret
      exact ⟨rb H.out.symm, hb _ _ _ _⟩
  · have e0 := ne_ofi h0
    have H := Lib.hid (show eqP f g = false by simp [eqP, e0])
    clear e0
    go_enter Try.func43, Try.ntmps43
    go_wp2
    go_ret
    exact ⟨rb H.out.symm, hb _ _ _ _⟩
def zeroP : Pp := ⟨0, 0, 0, 0, 0⟩
theorem infoP : (Try.prog.info? 65).map (fun i => (i.zero, i.size, i.bytes)) = some (some (.agg #[.int .i64 0, .int .i64 0, .int .i64 0, .int .i64 0, .int .i64 0]), 5, 40) := by kernel_rfl
theorem copyP {fs : List Pp} {n i : Nat} {f : Pp} (hl : fs.length = n) (hi : i < n) (hf : fs[i]? = some f) :
    (fs.take i ++ List.replicate (n - i) zeroP).set i f = fs.take (i + 1) ++ List.replicate (n - (i + 1)) zeroP := by
  obtain ⟨hk', rfl⟩ := List.getElem?_eq_some_iff.1 hf
  rw [List.set_append_right _ _ (by simp; omega), List.take_succ_eq_append_getElem hk', List.append_assoc]
  congr 1
  have e1 : i - (fs.take i).length = 0 := by simp; omega
  have e2 : n - i = (n - (i + 1)) + 1 := by omega
  rw [e1, e2, List.replicate_succ]
  rfl
theorem retP_of {w w' : World} {A : Option Addr} {n c : Nat} {fs : List Pp} (hl : fs.length = n) (ho : OwnR encP 5 65 w' w.heap.size A n c fs) (hk : ∀ f ∈ fs, okP f) (hb : Below w.heap.size w w') : RetP w fs (.returned (.slice A n c)) w' := by
  subst hl
  exact ⟨_, _, rfl, ⟨ho, hk⟩, hb⟩
set_option maxHeartbeats 4000000 in
theorem toPipes_any (A : Option Addr) (n c : Nat) (fs : List Pp) (w : World) (h : Pipes w A n fs) (hn : n ≤ 1048576) :
    Calls Try.prog 22 #[.slice A n c] w (RetP w fs) := by
  have hmk := fun W => run_mk (P := Try.prog) 34 65 (.agg #[.int .i64 0, .int .i64 0, .int .i64 0, .int .i64 0, .int .i64 0]) 5 40 Try.underlying34 infoP n (by omega) (by omega) W
  have hl := Lib.hid h.len
  go_enter Try.func22, Try.ntmps22
  go_wp2
  clear hmk
  go_loopw [4] (fun ii wr => ∃ k : Nat, k ≤ n ∧ ii = .int .i64 k ∧ OwnR encP 5 65 wr w.heap.size (some ⟨w.heap.size, 0, none⟩) n n (fs.take k ++ List.replicate (n - k) zeroP) ∧ Below w.heap.size w wr) (fun ii _ => n - (intOf ii).toNat)
  case atStart => exact ⟨0, Nat.zero_le _, rfl, by simpa using own_made (enc := encP) (k := 5) (e := 65) (z := #[.int .i64 0, .int .i64 0, .int .i64 0, .int .i64 0, .int .i64 0]) zeroP rfl (by omega) rfl w n (by unfold maxLen; omega) (Nat.le_refl _), (Below.refl _ _).alloc (Nat.le_refl _) _⟩
  case round =>
    obtain ⟨k, hk, rfl, hown, hb⟩ := hrel
    by_cases hlt : k < n
    · obtain ⟨b, o, f, rfl, hbl, hf, hok, hc0, hc1, hc2, hc3, hc4⟩ := (h.below hb).at_ hlt
      have hst := Lib.hid (copyP hl.out hlt hf)
      clear hf
      go_wp2_with fail
      refine (toPipe_any f _).mono ?_
      rintro e w1 ⟨rfl, hb1⟩
      have hown1 := hown.below hb1
      have hb1' := bthen hb hb1 hb.size
      obtain ⟨x, hx, hcs, hfs, _, hgl⟩ := hown1.cells (by omega) hlt
      have c0 := hcs 0 _ rfl
      have f0 := hfs (k * 5)
      have c1 := hcs 1 _ rfl
      have f1 := hfs (k * 5 + 1)
      have c2 := hcs 2 _ rfl
      have f2 := hfs (k * 5 + 2)
      have c3 := hcs 3 _ rfl
      have f3 := hfs (k * 5 + 3)
      have c4 := hcs 4 _ rfl
      have f4 := hfs (k * 5 + 4)
      obtain ⟨hput, hgr⟩ := hown1.put (by omega) hlt (x := f) rfl
      have HPUT := Lib.hid hput
      have HGR := Lib.hid hgr
      clear hown hown1 hcs hfs hput hgr hx hc0 hc1 hc2 hc3 hc4
      rw [Nat.add_zero] at c0
      go_wp2_with fail
      go_roundw
      case rel => exact ⟨k + 1, by omega, by go_num, by rw [← hst.out]; exact HPUT.out, hb1'.grown HGR.out hb1'.size (fun g hg => by injection hg with hg; omega)⟩
      case measure => simp [intOf]; omega
    · go_wp2_with fail
      go_ret
      obtain rfl : k = n := by omega
      exact retP_of hl.out (by simpa [List.take_of_length_le (Nat.le_of_eq hl.out)] using hown) h.2 hb
theorem takeP {xs ys : List Pp} {k : Nat} {z : Pp} (h : xs.take k = ys.take k) (hx : xs[k]? = some z) (hy : ys[k]? = some z) : xs.take (k + 1) = ys.take (k + 1) := by
  rw [List.take_add_one, List.take_add_one, h, hx, hy]
section
attribute [local go_sem ↓] Go.wp_at_zero Go.wp_at_succ
set_option maxHeartbeats 4000000 in
theorem eqPipes_any (A B : Option Addr) (n m c d : Nat) (xs ys : List Pp) (w : World) (ha : Pipes w A n xs) (hb : Pipes w B m ys) (hn : n ≤ 1048576) :
    Calls Try.prog 28 #[.slice A n c, .slice B m d] w (RetEq w (xs = ys)) := by
  have hla := Lib.hid ha.len
  have hlb := Lib.hid hb.len
  by_cases hnm : n = m
  · subst hnm
    have hne : ((n : Int) != (n : Int)) = false := by simp
    go_enter Try.func28, Try.ntmps28
    go_wp2_with fail
    go_loopw [5] (fun i wr => ∃ k : Nat, k ≤ n ∧ i = .int .i64 k ∧ Hid (xs.take k = ys.take k) ∧ Below w.heap.size w wr) (fun i _ => n - (intOf i).toNat)
    case atStart => exact ⟨0, Nat.zero_le _, rfl, rfl, Below.refl _ _⟩
    case round =>
      obtain ⟨k, hk, rfl, HP, hw⟩ := hrel
      by_cases hlt : k < n
      · obtain ⟨b, o, f, rfl, hbl, hx, hx64, hx0, hx1, hx2, hx3, hx4⟩ := (ha.below hw).at_ hlt
        obtain ⟨b', o', g, rfl, hbl', hy, hy64, hy0, hy1, hy2, hy3, hy4⟩ := (hb.below hw).at_ hlt
        have HX := Lib.hid hx
        have HY := Lib.hid hy
        have hwd := hw.drew
        have hbs := hw.size
        have k0 : (0 : Int) ≤ (k : Int) := by omega
        have k1 : (k : Int) < (n : Int) := by omega
        clear hx hy
        cases hfg : eqP f g
        all_goals
          have HE := Lib.hid hfg
          go_wp2_with fail
          go_region_held3 (fun w' => b < w'.heap.size ∧ b' < w'.heap.size ∧ w.heap.size ≤ w'.heap.size ∧ w'.cell? ⟨b, o + k * 5, none⟩ = some (.int .i64 f.fr) ∧ w'.cell? ⟨b, o + k * 5 + 1, none⟩ = some (.int .i64 f.to) ∧ w'.cell? ⟨b, o + k * 5 + 2, none⟩ = some (.int .i64 f.k) ∧ w'.cell? ⟨b, o + k * 5 + 3, none⟩ = some (.int .i64 f.v) ∧ w'.cell? ⟨b, o + k * 5 + 4, none⟩ = some (.int .i64 f.l) ∧ w'.cell? ⟨b', o' + k * 5, none⟩ = some (.int .i64 g.fr) ∧ w'.cell? ⟨b', o' + k * 5 + 1, none⟩ = some (.int .i64 g.to) ∧ w'.cell? ⟨b', o' + k * 5 + 2, none⟩ = some (.int .i64 g.k) ∧ w'.cell? ⟨b', o' + k * 5 + 3, none⟩ = some (.int .i64 g.v) ∧ w'.cell? ⟨b', o' + k * 5 + 4, none⟩ = some (.int .i64 g.l) ∧ Below w.heap.size w w')
            (first | go_keep | (go_split_ands; refine ⟨by have := hb2.size; omega, by have := hb2.size; omega, by have := hb2.size; omega, ?_, ?_, ?_, ?_, ?_, ?_, ?_, ?_, ?_, ?_, bthen ‹_› hb2 (by assumption)⟩ <;> (rw [hb2.cell (by simp; omega)]; assumption)))
            (first | (go_at_call 43; refine (eqPipe_any f g _).mono ?_; rintro e w2 ⟨rfl, hb2⟩))
          go_wp2_with fail
        · go_ret
          rename_i hh
          refine ⟨false, ⟨(fun h => by cases h), fun h => ?_⟩, rfl, hh.2.2.2.2.2.2.2.2.2.2.2.2.2⟩
          subst h
          have e := Option.some.inj (HX.out.symm.trans HY.out)
          have := HE.out
          rw [(eqP_iff f g).2 e] at this
          cases this
        · rename_i hh
          go_roundw
          case rel => exact ⟨k + 1, by omega, by go_num, takeP HP.out HX.out ((eqP_iff f g).1 HE.out ▸ HY.out), hh.2.2.2.2.2.2.2.2.2.2.2.2.2⟩
          case measure => simp [intOf]; omega
      · go_wp2_with fail
        go_ret
        refine ⟨true, ⟨fun _ => ?_, fun _ => rfl⟩, rfl, hw⟩
        have := HP.out
        rwa [List.take_of_length_le (by have := hla.out; omega), List.take_of_length_le (by have := hlb.out; omega)] at this
  · have HN := Lib.hid hnm
    have hne : ((n : Int) != (m : Int)) = true := by simp; omega
    clear hnm
    go_enter Try.func28, Try.ntmps28
    go_wp2_with fail
    go_ret
    refine ⟨false, ⟨(fun h => by cases h), fun h => ?_⟩, rfl, Below.refl _ _⟩
    subst h
    exact absurd (hla.out.symm.trans hlb.out) HN.out
end
end Go.Proofs.Ythlencpbekjekaa
