/- Networks as arguments: how they read, and what a call that returns one gives. No condition. -/
import Derived.Test.YthlencpbekjekaaNetSz
import Derived.Test.YthlencpbekjekaaNetIs3
import Derived.Test.YthlencpbekjekaaNetIs4
set_option linter.unusedVariables false
set_option maxRecDepth 100000
namespace Go.Proofs.Ythlencpbekjekaa
open Go.ChangeShapes Go.WideShapes Go.ChangeAt Go.RowKit Go.Joins Go.Deep

/-- A network reads as the nodes ns and the pipes ps. -/
structure IsNet (w : World) (A : Option Addr) (n c : Nat) (ns : List Nd) (B : Option Addr) (m d : Nat) (ps : List Pp) : Prop where
  nodes : Nodes w A n ns
  capA : n ≤ c ∧ c ≤ maxLen
  pipes : Pipes w B m ps
  capB : m ≤ d ∧ d ≤ maxLen
  nilA : A = none → c = 0
  nilB : B = none → d = 0
section
variable {w w' : World} {A B : Option Addr} {n c m d : Nat} {ns : List Nd} {ps : List Pp}
theorem IsNet.below (h : IsNet w A n c ns B m d ps) (hb : Below w.heap.size w w') : IsNet w' A n c ns B m d ps := ⟨h.nodes.below hb, h.capA, h.pipes.below hb, h.capB, h.nilA, h.nilB⟩
theorem IsNet.alloc (h : IsNet w A n c ns B m d ps) (o : Obj) : IsNet (w.alloc o) A n c ns B m d ps := h.below ((Below.refl _ _).alloc (Nat.le_refl _) _)
theorem IsNet.drew (h : IsNet w A n c ns B m d ps) : IsNet w.drew A n c ns B m d ps := h.below ((Below.refl _ _).drew)
end
theorem OwnN.cap {w : World} {B : Nat} {A : Option Addr} {n c : Nat} {xs : List Nd} (h : OwnN w B A n c xs) : n ≤ c ∧ c ≤ maxLen := by
  rcases h.1.1.2 with ⟨e, h0⟩ | ⟨g, cap, cur, e, _, _, h1, h2, _⟩
  · injection e with e1 e2 e3
    subst e2 e3
    exact ⟨Nat.le_refl _, by unfold maxLen; omega⟩
  · injection e with e1 e2 e3
    subst e3
    exact ⟨h1, h2⟩
theorem OwnP.cap {w : World} {B : Nat} {A : Option Addr} {n c : Nat} {xs : List Pp} (h : OwnP w B A n c xs) : n ≤ c ∧ c ≤ maxLen := by
  rcases h.1.1.2 with ⟨e, h0⟩ | ⟨g, cap, cur, e, _, _, h1, h2, _⟩
  · injection e with e1 e2 e3
    subst e2 e3
    exact ⟨Nat.le_refl _, by unfold maxLen; omega⟩
  · injection e with e1 e2 e3
    subst e3
    exact ⟨h1, h2⟩
theorem OwnR.nil_ {α : Type} {enc : α → List Value} {k : Nat} {e : TypeId} {w : World} {B : Nat} {A : Option Addr} {n c : Nat} {xs : List α} (h : OwnR enc k e w B A n c xs) : A = none → c = 0 := by
  intro hA
  rcases h.1.2 with ⟨e, h0⟩ | ⟨g, cap, cur, e, _⟩
  · injection e
  · subst hA
    injection e with e1
    cases e1
theorem OwnN.nil_ {w : World} {B : Nat} {A : Option Addr} {n c : Nat} {xs : List Nd} (h : OwnN w B A n c xs) : A = none → c = 0 := h.1.nil_
theorem OwnP.nil_ {w : World} {B : Nat} {A : Option Addr} {n c : Nat} {xs : List Pp} (h : OwnP w B A n c xs) : A = none → c = 0 := h.1.nil_
/-- A network of the call's own, its lists in blocks from C on. -/
structure OwnNet (w : World) (C : Nat) (A : Option Addr) (n c : Nat) (ns : List Nd) (B : Option Addr) (m d : Nat) (ps : List Pp) : Prop where
  nodes : OwnN w C A n c ns
  pipes : OwnP w C B m d ps
theorem OwnNet.reads {w : World} {C : Nat} {A : Option Addr} {n c : Nat} {ns : List Nd} {B : Option Addr} {m d : Nat} {ps : List Pp} (h : OwnNet w C A n c ns B m d ps) : IsNet w A n c ns B m d ps := ⟨h.nodes.reads, h.nodes.cap, h.pipes.reads, h.pipes.cap, h.nodes.nil_, h.pipes.nil_⟩
theorem OwnNet.below {w w' : World} {C : Nat} {A : Option Addr} {n c : Nat} {ns : List Nd} {B : Option Addr} {m d : Nat} {ps : List Pp} (h : OwnNet w C A n c ns B m d ps) (hb : Below w.heap.size w w') : OwnNet w' C A n c ns B m d ps := ⟨h.nodes.below hb, h.pipes.below hb⟩
/-- toNetwork, in these words. -/
theorem toNetw_any (A B : Option Addr) (n c m d : Nat) (ns : List Nd) (ps : List Pp) (w : World) (h : IsNet w A n c ns B m d ps) (hn : n ≤ 1048576) (hm : m ≤ 1048576) :
    Calls Try.prog 8 #[.agg #[.slice A n c, .slice B m d]] w fun e w' => ∃ A' c' B' d', e = .returned (.agg #[.slice A' n c', .slice B' m d']) ∧ OwnNet w' w.heap.size A' n c' ns B' m d' ps ∧ Below w.heap.size w w' := by
  obtain rfl : ns.length = n := h.nodes.len
  obtain rfl : ps.length = m := h.pipes.len
  refine (toNet_any A B c d ns ps w h.nodes h.pipes hn hm).mono ?_
  rintro e w' ⟨A', c', B', d', rfl, h1, h2, h3⟩
  exact ⟨A', c', B', d', rfl, ⟨h1, h2⟩, h3⟩
theorem opn_netw {H : Type} {enc : TypeId × Value → H} {W : World} {base : Nat} {v : Value} {d : DataW H} {p : List MemPlace} (hv : Value.okWide Try.prog W .any base 25 v) (h : DataW.Trod enc Try.prog W 0 (fun _ => true) true 25 v d p) (_lt : ∀ x ∈ p, x.block < W.heap.size) :
    ∃ A n c ns B m e ps, v = .agg #[.slice A n c, .slice B m e] ∧ IsNet W A n c ns B m e ps := by
  obtain ⟨A, n, c, ns, B, m, e, ps, rfl, h1, h2, h3, h4, h5, h6, h7, h8⟩ := opn_net hv h _lt
  exact ⟨A, n, c, ns, B, m, e, ps, rfl, ⟨h1, ⟨h2, h3⟩, h4, ⟨h5, h6⟩, h7, h8⟩⟩
theorem isNetw_any (A B : Option Addr) (n c m d : Nat) (ns : List Nd) (ps : List Pp) (w : World) (h : IsNet w A n c ns B m d ps) :
    Calls Try.prog 48 #[.agg #[.slice A n c, .slice B m d]] w (RetEq w (NetOk ns ps)) := isNet_any A B n c m d ns ps w h.nodes h.pipes h.capA (Nat.le_trans h.capB.1 h.capB.2)
theorem sIsNetw_any (A B : Option Addr) (n c m d : Nat) (ns : List Nd) (ps : List Pp) (w : World) (h : IsNet w A n c ns B m d ps) :
    Calls Try.prog 44 #[.agg #[.slice A n c, .slice B m d]] w (RetEq w (NetOk ns ps)) := sIsNet_any A B n c m d ns ps w h.nodes h.pipes (Nat.le_trans h.capA.1 h.capA.2) (Nat.le_trans h.capB.1 h.capB.2)
/-- A box that holds a network. -/
structure BoxN (w : World) (g : Nat) (A : Option Addr) (n c : Nat) (B : Option Addr) (m d : Nat) : Prop where
  lt : g < w.heap.size
  c0 : w.cell? ⟨g, 0, none⟩ = some (.slice A n c)
  c1 : w.cell? ⟨g, 1, none⟩ = some (.slice B m d)
theorem BoxN.below {w w' : World} {g : Nat} {A : Option Addr} {n c : Nat} {B : Option Addr} {m d : Nat} (h : BoxN w g A n c B m d) (hb : Below w.heap.size w w') : BoxN w' g A n c B m d :=
  ⟨Nat.lt_of_lt_of_le h.lt hb.size, (hb.cell h.lt).trans h.c0, (hb.cell h.lt).trans h.c1⟩
theorem boxN_of {w : World} {A : Option Addr} {n c : Nat} {B : Option Addr} {m d : Nat} (t : TypeId) : BoxN (w.alloc (.cells #[.slice A n c, .slice B m d] t)) w.heap.size A n c B m d := ⟨by simp, by simp, by simp⟩
end Go.Proofs.Ythlencpbekjekaa
