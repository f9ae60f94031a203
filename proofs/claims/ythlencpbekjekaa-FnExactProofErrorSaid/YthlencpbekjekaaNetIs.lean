/- What IsNode, nodeIndex, IsNetwork of the program and of the reference do, by walks over their text. No condition but that the numbers fit their kind. -/
import Derived.Test.YthlencpbekjekaaNetOps
import Derived.Test.YthlencpbekjekaaNames
set_option linter.unusedVariables false
set_option maxRecDepth 100000
namespace Go.Proofs.Ythlencpbekjekaa
open Go.ChangeShapes Go.WideShapes Go.ChangeAt Go.RowKit Go.Joins Go.Deep

def nodeB (x : Nd) : Bool := nameB x.nm && (decide (0 ≤ x.lo) && (decide (x.lo ≤ x.hi) && decide (x.hi ≤ 100000000)))
def pipeB (n : Int) (x : Pp) : Bool := inB x.fr 0 (n - 1) && (inB x.to 0 (n - 1) && (decide (x.fr ≠ x.to) && (inB x.k 1 1000 && (inB x.v 0 1000000 && inB x.l 1 30000))))
/-- The first k nodes are valid, with different names. -/
def okTo (ns : List Nd) (k : Nat) : Prop := ∀ i x, i < k → ns[i]? = some x → nodeB x = true ∧ ∀ j y, j < i → ns[j]? = some y → y.nm ≠ x.nm
def NetOk (ns : List Nd) (ps : List Pp) : Prop := 1 ≤ ns.length ∧ ns.length ≤ 24 ∧ ps.length ≤ 40 ∧ okTo ns ns.length ∧ ∀ p ∈ ps, pipeB ns.length p = true

set_option maxHeartbeats 1000000 in
theorem isNode_any (f : Nd) (w : World) (hs : f.nm.size ≤ maxLen) :
    Calls Try.prog 54 #[.agg #[.string f.nm, .int .i64 f.lo, .int .i64 f.hi]] w fun e w' => e = .returned (.bool (nodeB f)) ∧ Below w.heap.size w w' := by
  rcases (orB (orP (orP (orP trivial))) : nameB f.nm = false ∨ nameB f.nm = true ∧ (¬ 0 ≤ f.lo ∨ 0 ≤ f.lo ∧ (¬ f.lo ≤ f.hi ∨ f.lo ≤ f.hi ∧ (¬ f.hi ≤ 100000000 ∨ f.hi ≤ 100000000 ∧ True)))) with h1 | ⟨h1, h2 | ⟨h2, h3 | ⟨h3, h4 | ⟨h4, _⟩⟩⟩⟩
  all_goals
    go_enter Try.func54, Try.ntmps54
    go_wp2_with (go_at_call 58; refine (isName_any _ _ hs).mono ?_; rintro e w' ⟨rfl, rfl⟩)
    go_ret
    exact ⟨rb (by unfold nodeB; first | (simp [h1]; done) | (simp [h1, h2]; done) | (simp [h1, h2, h3]; done) | (simp [h1, h2, h3, h4]; done) | (simp [h1]; omega)), (Below.refl _ _).alloc (Nat.le_refl _) _⟩
set_option maxHeartbeats 1000000 in
theorem sIsNode_any (f : Nd) (w : World) (hs : f.nm.size ≤ maxLen) :
    Calls Try.prog 51 #[.agg #[.string f.nm, .int .i64 f.lo, .int .i64 f.hi]] w fun e w' => e = .returned (.bool (nodeB f)) ∧ Below w.heap.size w w' := by
  rcases (orB (orP (orP (orP trivial))) : nameB f.nm = false ∨ nameB f.nm = true ∧ (¬ 0 ≤ f.lo ∨ 0 ≤ f.lo ∧ (¬ f.lo ≤ f.hi ∨ f.lo ≤ f.hi ∧ (¬ f.hi ≤ 100000000 ∨ f.hi ≤ 100000000 ∧ True)))) with h1 | ⟨h1, h2 | ⟨h2, h3 | ⟨h3, h4 | ⟨h4, _⟩⟩⟩⟩
  all_goals
    go_enter Try.func51, Try.ntmps51
    go_wp2_with (go_at_call 57; refine (sName_any _ _ hs).mono ?_; rintro e w' ⟨rfl, rfl⟩)
    go_ret
    exact ⟨rb (by unfold nodeB; first | (simp [h1]; done) | (simp [h1, h2]; done) | (simp [h1, h2, h3]; done) | (simp [h1, h2, h3, h4]; done) | (simp [h1]; omega)), (Below.refl _ _).alloc (Nat.le_refl _) _⟩
/-- The first node with a name, or -1. -/
def nodeAt (ns : List Nd) (s : ByteArray) (r : Int) : Prop :=
  (r = -1 ∧ ∀ (j : Nat) (y : Nd), ns[j]? = some y → y.nm ≠ s) ∨ ∃ (i : Nat) (x : Nd), r = i ∧ ns[i]? = some x ∧ x.nm = s ∧ ∀ (j : Nat) (y : Nd), j < i → ns[j]? = some y → y.nm ≠ s
set_option maxHeartbeats 1000000 in
theorem isIt_any (f : Nd) (s : ByteArray) (g : Nat) (w : World) (hg : g < w.heap.size) (hc : w.cell? ⟨g, 0, none⟩ = some (.string s)) :
    Calls Try.prog 60 #[.agg #[.string f.nm, .int .i64 f.lo, .int .i64 f.hi], .pointer (some ⟨g, 0, none⟩)] w fun e w' => e = .returned (.bool (f.nm.toList == s.toList)) ∧ Below w.heap.size w w' := by
  go_enter Try.func60, Try.ntmps60
  go_wp2_with fail
  go_ret
  exact ⟨rfl, (Below.refl _ _).alloc (Nat.le_refl _) _⟩
theorem nx_step {ns : List Nd} {s : ByteArray} {k : Nat} {f : Nd} (h : ∀ (j : Nat) (y : Nd), j < k → ns[j]? = some y → y.nm ≠ s) (hf : ns[k]? = some f) (hne : f.nm ≠ s) : ∀ (j : Nat) (y : Nd), j < k + 1 → ns[j]? = some y → y.nm ≠ s := by
  intro j y hj hy
  by_cases e : j = k
  · subst e
    rw [hf] at hy
    exact Option.some.inj hy ▸ hne
  · exact h j y (by omega) hy
theorem str_eq {a b : ByteArray} (h : (a.toList == b.toList) = true) : a = b := str_inj (by simpa using h)
theorem str_ne {a b : ByteArray} (h : (a.toList == b.toList) = false) : a ≠ b := by
  rintro rfl
  simp at h
set_option maxHeartbeats 2000000 in
theorem idxFunc_any (A : Option Addr) (n c : Nat) (ns : List Nd) (s : ByteArray) (g : Nat) (w : World) (h : Nodes w A n ns) (hn : n ≤ maxLen) (hg : g < w.heap.size) (hc : w.cell? ⟨g, 0, none⟩ = some (.string s)) :
    Calls Try.prog 59 #[.slice A n c, .func (.func 60) #[] #[.pointer (some ⟨g, 0, none⟩)]] w fun e w' => ∃ r, e = .returned (.int .i64 r) ∧ nodeAt ns s r ∧ Below w.heap.size w w' := by
  unfold maxLen at hn
  have hl := Lib.hid h.len
  go_enter Try.func59, Try.ntmps59
  go_wp2_with fail
  go_loopw [8] (fun ii wr => ∃ k : Nat, k ≤ n ∧ ii = .int .i64 k ∧ Hid (∀ (j : Nat) (y : Nd), j < k → ns[j]? = some y → y.nm ≠ s) ∧ Below w.heap.size w wr) (fun ii _ => n - (intOf ii).toNat)
  case atStart => exact ⟨0, Nat.zero_le _, rfl, (fun j y hj => absurd hj (by omega)), Below.refl _ _⟩
  case round =>
    obtain ⟨k, hk, rfl, HP, hb⟩ := hrel
    by_cases hlt : k < n
    · obtain ⟨b, o, f, rfl, hbl, hf, hok, hc0, hc1, hc2⟩ := (h.below hb).at_ hlt
      have HF := Lib.hid hf
      clear hf
      have hc' := (hb.cell (p := ⟨g, 0, none⟩) hg).trans hc
      have hg' := Nat.lt_of_lt_of_le hg hb.size
      cases hE : (f.nm.toList == s.toList)
      all_goals
        have HE := Lib.hid hE
        clear hE
        go_wp2_with fail
        refine (isIt_any f s g _ hg' hc').mono ?_
        rintro e w1 ⟨rfl, hb1⟩
        have hb' := bthen hb hb1 hb.size
        rw [HE.out]
        go_wp2_with fail
      · go_roundw
        case rel => exact ⟨k + 1, by omega, by go_num, nx_step HP.out HF.out (str_ne HE.out), hb'⟩
        case measure => simp [intOf]; omega
      · go_ret
        exact ⟨_, rfl, .inr ⟨k, f, rfl, HF.out, str_eq HE.out, HP.out⟩, hb'⟩
    · go_wp2_with fail
      go_ret
      obtain rfl : k = n := by omega
      exact ⟨_, rfl, .inl ⟨rfl, fun j y hj => HP.out j y (by have := (List.getElem?_eq_some_iff.1 hj).1; have := hl.out; omega) hj⟩, hb⟩
end Go.Proofs.Ythlencpbekjekaa
