/- What PipeError and ProofError do, by walks over both texts. Conditions: lengths of at most 1048576. -/
import Derived.Test.YtebefamekjjbcaaGreatPErr
import Derived.Test.YtebefamekjjbcaaGreatKA
set_option linter.unusedVariables false
set_option maxRecDepth 100000
namespace Go.Proofs.YtebefamekjjbcaaGreat
open Go.ChangeShapes Go.WideShapes Go.ChangeAt Go.RowKit Go.Joins Go.Deep
attribute [local go_sem ↓] Go.wp_at_zero Go.wp_at_succ

theorem peV_bd {w : World} {A : Option Addr} {n c : Nat} {ns : List Nd} {B : Option Addr} {m d : Nat} {ps : List Pp} {fs ls : List Int} (h : IsNet w A n c ns B m d ps) (hok : NetOk ns ps) (hfb : flB m fs = true) (hlb : lvB n ls = true) {i : Nat} (hi : i < m) : -2000900000000000000 ≤ peV ps fs ls i ∧ peV ps fs ls i ≤ 2000900000000000000 := by
  have hp : ps[i]? = some (ps[i]'(by rw [h.pipes.len]; exact hi)) := List.getElem?_eq_getElem _
  obtain ⟨_, _, l1, l2, _, hpk, _⟩ := pipe_ok hok hp
  rw [h.nodes.len] at l1 l2
  have hfk := all_at (flB_all hfb) (getD_some (flB_len hfb) hi)
  have hla := all_at (lvB_all hlb) (getD_some (lvB_len hlb) l1)
  have hlb' := all_at (lvB_all hlb) (getD_some (lvB_len hlb) l2)
  have hdr := drp_bd hpk hfk
  unfold peV
  rw [kOf_at hp]
  omega
/-- The greatest error without its sign, among the first k pipes. -/
def mxE (ps : List Pp) (fs ls : List Int) : Nat → Int
  | 0 => 0
  | k + 1 => max (mxE ps fs ls k) (ab (peV ps fs ls k))
theorem mxE_bd {w : World} {A : Option Addr} {n c : Nat} {ns : List Nd} {B : Option Addr} {m d : Nat} {ps : List Pp} {fs ls : List Int} (h : IsNet w A n c ns B m d ps) (hok : NetOk ns ps) (hfb : flB m fs = true) (hlb : lvB n ls = true) : ∀ k, k ≤ m → 0 ≤ mxE ps fs ls k ∧ mxE ps fs ls k ≤ 2000900000000000000
  | 0, _ => by simp [mxE]
  | k + 1, hk => by
    have h1 := mxE_bd h hok hfb hlb k (by omega)
    have h2 := peV_bd h hok hfb hlb (show k < m by omega)
    unfold mxE ab
    omega
noncomputable def perR (ns : List Nd) (ps : List Pp) (m n : Nat) (fs ls : List Int) (q : Int) : Int × Int := if codeQ ns ps m n fs ls = 0 then (if inB q 0 ((m : Int) - 1) = true then (peV ps fs ls q.toNat, 0) else (0, 2)) else (0, codeQ ns ps m n fs ls)
theorem perR_code {ns : List Nd} {ps : List Pp} {m n : Nat} {fs ls : List Int} {q k : Int} (h : codeQ ns ps m n fs ls = k) (hk : k ≠ 0) : perR ns ps m n fs ls q = (0, k) := by
  unfold perR
  rw [h, if_neg hk]
theorem perR_no {ns : List Nd} {ps : List Pp} {m n : Nat} {fs ls : List Int} {q : Int} (h : codeQ ns ps m n fs ls = 0) (hq : inB q 0 ((m : Int) - 1) = false) : perR ns ps m n fs ls q = (0, 2) := by
  unfold perR
  rw [if_pos h, if_neg (by rw [hq]; decide)]
theorem perR_ok {ns : List Nd} {ps : List Pp} {m n : Nat} {fs ls : List Int} {q : Int} (h : codeQ ns ps m n fs ls = 0) (hq : inB q 0 ((m : Int) - 1) = true) : perR ns ps m n fs ls q = (peV ps fs ls q.toNat, 0) := by
  unfold perR
  rw [if_pos h, if_pos hq]
noncomputable def prfR (ns : List Nd) (ps : List Pp) (m n : Nat) (fs ls : List Int) : Int × Int := if codeQ ns ps m n fs ls = 0 then (mxE ps fs ls m, 0) else (0, codeQ ns ps m n fs ls)
theorem prfR_code {ns : List Nd} {ps : List Pp} {m n : Nat} {fs ls : List Int} {k : Int} (h : codeQ ns ps m n fs ls = k) (hk : k ≠ 0) : prfR ns ps m n fs ls = (0, k) := by
  unfold prfR
  rw [h, if_neg hk]
theorem prfR_ok {ns : List Nd} {ps : List Pp} {m n : Nat} {fs ls : List Int} (h : codeQ ns ps m n fs ls = 0) : prfR ns ps m n fs ls = (mxE ps fs ls m, 0) := by
  unfold prfR
  rw [if_pos h]
theorem in_anyB (n lo hi : Int) (w : World) :
    Calls Tryz.prog 34 #[.int .i64 n, .int .i64 lo, .int .i64 hi] w fun e w' => e = .returned (.bool (inB n lo hi)) ∧ Below w.heap.size w w' :=
  (in_any n lo hi w).mono fun e w' ⟨he, hw⟩ => ⟨he, hw ▸ Below.refl _ _⟩
end Go.Proofs.YtebefamekjjbcaaGreat
