/- The text of a proof: what ProofText (of the program and of the reference) does, by walks over its text. Conditions: at most 2^20 flows and levels; the table of powers of ten, for the program's. -/
import Derived.Test.YtebefamekjjbcaaDoorPtx
set_option linter.unusedVariables false
set_option maxRecDepth 100000
namespace Go.Proofs.YtebefamekjjbcaaDoor
open Go.ChangeShapes Go.WideShapes Go.ChangeAt Go.RowKit Go.Joins Go.Deep Go.Shelf
attribute [local go_sem ↓] Go.wp_at_zero Go.wp_at_succ

/-- The name of a node. -/
def nmAt (ns : List Nd) (i : Nat) : ByteArray := (ns.map Nd.nm).getD i ByteArray.empty
theorem nmAt_at {ns : List Nd} {i : Nat} {f : Nd} (h : ns[i]? = some f) : nmAt ns i = f.nm := by simp [nmAt, List.getD, h]
theorem nmAt_size {ns : List Nd} {ps : List Pp} (h : NetOk ns ps) (i : Nat) : (nmAt ns i).size ≤ 8 := by
  cases hi : ns[i]? with
  | none => simp [nmAt, List.getD, hi]
  | some f =>
    rw [nmAt_at hi]
    have hl := (List.getElem?_eq_some_iff.1 hi).1
    have h2 := (h.2.2.2.1 i f hl hi).1
    unfold nodeB nameB at h2
    simp only [Bool.and_eq_true, decide_eq_true_eq] at h2
    exact h2.1.2.1
/-- A node's line, a pipe's line. -/
def lnN (ns : List Nd) (ls : List Int) (i : Nat) : ByteArray := nmAt ns i ++ ⟨#[61]⟩ ++ numB (ls.getD i 0) ++ ⟨#[10]⟩
def lnP (ns : List Nd) (ps : List Pp) (fs : List Int) (i : Nat) : ByteArray := nmAt ns (efr (esOf ps) i) ++ ⟨#[62]⟩ ++ nmAt ns (eto (esOf ps) i) ++ ⟨#[61]⟩ ++ numB (fs.getD i 0) ++ ⟨#[10]⟩
def txN (ns : List Nd) (ls : List Int) : Nat → ByteArray
  | 0 => ByteArray.empty
  | k + 1 => txN ns ls k ++ lnN ns ls k
def txP (ns : List Nd) (ps : List Pp) (fs : List Int) (s : ByteArray) : Nat → ByteArray
  | 0 => s
  | k + 1 => txP ns ps fs s k ++ lnP ns ps fs k
theorem lnN_size {ns : List Nd} {ps : List Pp} {ls : List Int} (h : NetOk ns ps) {i : Nat} (h0 : -9223372036854775808 ≤ ls.getD i 0) (h1 : ls.getD i 0 ≤ 9223372036854775807) : (lnN ns ls i).size ≤ 31 := by
  have := nmAt_size h i
  have := numB_size h0 h1
  have e1 : (⟨#[61]⟩ : ByteArray).size = 1 := rfl
  have e2 : (⟨#[10]⟩ : ByteArray).size = 1 := rfl
  simp only [lnN, ByteArray.size_append, e1, e2]
  omega
theorem lnP_size {ns : List Nd} {ps : List Pp} {fs : List Int} (h : NetOk ns ps) {i : Nat} (h0 : -9223372036854775808 ≤ fs.getD i 0) (h1 : fs.getD i 0 ≤ 9223372036854775807) : (lnP ns ps fs i).size ≤ 40 := by
  have := nmAt_size h (efr (esOf ps) i)
  have := nmAt_size h (eto (esOf ps) i)
  have := numB_size h0 h1
  have e1 : (⟨#[61]⟩ : ByteArray).size = 1 := rfl
  have e2 : (⟨#[10]⟩ : ByteArray).size = 1 := rfl
  have e3 : (⟨#[62]⟩ : ByteArray).size = 1 := rfl
  simp only [lnP, ByteArray.size_append, e1, e2, e3]
  omega
theorem txN_size {ns : List Nd} {ps : List Pp} {ls : List Int} (h : NetOk ns ps) (hb : ∀ i, -9223372036854775808 ≤ ls.getD i 0 ∧ ls.getD i 0 ≤ 9223372036854775807) : ∀ k, (txN ns ls k).size ≤ 31 * k
  | 0 => by simp [txN]
  | k + 1 => by
    have := txN_size h hb k
    have := lnN_size h (hb k).1 (hb k).2
    simp only [txN, ByteArray.size_append]
    omega
theorem txP_size {ns : List Nd} {ps : List Pp} {fs : List Int} (s : ByteArray) (h : NetOk ns ps) (hb : ∀ i, -9223372036854775808 ≤ fs.getD i 0 ∧ fs.getD i 0 ≤ 9223372036854775807) : ∀ k, (txP ns ps fs s k).size ≤ s.size + 40 * k
  | 0 => by simp [txP]
  | k + 1 => by
    have := txP_size s h hb k
    have := lnP_size h (hb k).1 (hb k).2
    simp only [txP, ByteArray.size_append]
    omega
theorem txN_step (ns : List Nd) (ls : List Int) (k : Nat) : txN ns ls (k + 1) = txN ns ls k ++ nmAt ns k ++ ⟨#[61]⟩ ++ numB (ls.getD k 0) ++ ⟨#[10]⟩ := by
  simp only [txN, lnN, ByteArray.append_assoc]
theorem txP_step (ns : List Nd) (ps : List Pp) (fs : List Int) (s : ByteArray) (k : Nat) : txP ns ps fs s (k + 1) = txP ns ps fs s k ++ nmAt ns (efr (esOf ps) k) ++ ⟨#[62]⟩ ++ nmAt ns (eto (esOf ps) k) ++ ⟨#[61]⟩ ++ numB (fs.getD k 0) ++ ⟨#[10]⟩ := by
  simp only [txP, lnP, ByteArray.append_assoc]
/-- The text. -/
noncomputable def ptx (ns : List Nd) (ps : List Pp) (m n : Nat) (fs ls : List Int) : ByteArray := if codeQ ns ps m n fs ls = 0 then txP ns ps fs (txN ns ls n) m else ByteArray.empty
theorem bd_all {zs : List Int} {L : Int} (h : allB zs (-L) L = true) (hL : 0 ≤ L) (hL2 : L ≤ 9223372036854775807) (i : Nat) : -9223372036854775807 ≤ zs.getD i 0 ∧ zs.getD i 0 ≤ 9223372036854775807 := by
  by_cases hi : i < zs.length
  · have := all_at h (getD_some rfl hi)
    omega
  · rw [List.getD_eq_getElem?_getD, List.getElem?_eq_none (by omega)]
    decide
theorem bd_fl {zs : List Int} {m : Nat} (h : flB m zs = true) (i : Nat) : -9223372036854775807 ≤ zs.getD i 0 ∧ zs.getD i 0 ≤ 9223372036854775807 := bd_all (L := 30000) (flB_all h) (by omega) (by omega) i
theorem bd_lv {zs : List Int} {m : Nat} (h : lvB m zs = true) (i : Nat) : -9223372036854775807 ≤ zs.getD i 0 ∧ zs.getD i 0 ≤ 9223372036854775807 := bd_all (L := 1000000000000000000) (lvB_all h) (by omega) (by omega) i
theorem txN_sz {ns : List Nd} {ps : List Pp} {ls : List Int} {n : Nat} (h : NetOk ns ps) (hl : lvB n ls = true) {k : Nat} (hk : k ≤ 24) : (txN ns ls k).size ≤ 744 := by
  have := txN_size (ls := ls) h (fun i => ⟨by have := bd_lv hl i; omega, (bd_lv hl i).2⟩) k
  omega
theorem txP_sz {ns : List Nd} {ps : List Pp} {fs : List Int} {s : ByteArray} {m : Nat} (h : NetOk ns ps) (hl : flB m fs = true) (hs : s.size ≤ 744) {k : Nat} (hk : k ≤ 40) : (txP ns ps fs s k).size ≤ 2344 := by
  have := txP_size (fs := fs) s h (fun i => ⟨by have := bd_fl hl i; omega, (bd_fl hl i).2⟩) k
  omega
theorem num_sz {zs : List Int} (h : ∀ i, -9223372036854775807 ≤ zs.getD i 0 ∧ zs.getD i 0 ≤ 9223372036854775807) (i : Nat) : (numB (zs.getD i 0)).size ≤ 21 := numB_size (by have := h i; omega) (h i).2
theorem ptx_no {ns : List Nd} {ps : List Pp} {m n : Nat} {fs ls : List Int} {k : Int} (h : codeQ ns ps m n fs ls = k) (hk : k ≠ 0) : ptx ns ps m n fs ls = ⟨#[]⟩ := by
  unfold ptx
  rw [if_neg (by rw [h]; exact hk)]
  rfl
theorem ptx_ok {ns : List Nd} {ps : List Pp} {m n : Nat} {fs ls : List Int} (h : codeQ ns ps m n fs ls = 0) : ptx ns ps m n fs ls = txP ns ps fs (txN ns ls n) m := by
  unfold ptx
  rw [if_pos h]
/-- What a builder's write leaves of another block. -/
theorem box_others {w w' : World} {e : TypeId} {b g : Nat} {cs : Array Value} {t : TypeId} (h : Box w g cs t) (hk : Lib.OthersKept e (some b) w w') (hg : g ≠ b) (ht : t ≠ e) : Box w' g cs t :=
  hk g _ h (fun hh => hg (Option.some.inj hh)) (fun c fz hh => by injection hh with _ h2 _; exact ht h2)
def Tryd.lays169_ren : Go.Shelf.Ren := ⟨fun | 169 => 23 | n => n, fun | 70 => 54 | 9 => 9 | 0 => 0 | 72 => 57 | 37 => 55 | 127 => 74 | 3 => 3 | 5 => 5 | n => n, fun | n => n⟩
theorem Tryd.lays169 : Go.Proofs.Lays.n169 Tryd.prog Tryd.lays169_ren := {
  mixed := by kernel_rfl
  f169 := Tryd.func23.trans (congrArg some (by kernel_rfl))
  t0 := Tryd.underlying0
  a0 := Tryd.isAgg0
  z0 := Tryd.sizeOf0
  v0 := Tryd.zeroValue0
  t3 := Tryd.underlying3
  a3 := Tryd.isAgg3
  z3 := Tryd.sizeOf3
  v3 := Tryd.zeroValue3
  t9 := Tryd.underlying9
  a9 := Tryd.isAgg9
  z9 := Tryd.sizeOf9
  v9 := Tryd.zeroValue9
  t37 := Tryd.underlying55
  a37 := Tryd.isAgg55
  z37 := Tryd.sizeOf55
  v37 := Tryd.zeroValue55
  t70 := Tryd.underlying54
  a70 := Tryd.isAgg54
  z70 := Tryd.sizeOf54
  v70 := Tryd.zeroValue54
  t72 := Tryd.underlying57
  a72 := Tryd.isAgg57
  z72 := Tryd.sizeOf57
  v72 := Tryd.zeroValue57
  t127 := Tryd.underlying74
  a127 := Tryd.isAgg74
  z127 := Tryd.sizeOf74
  v127 := Tryd.zeroValue74 }
theorem xb169 : Builder.Extra Tryd.prog Tryd.lays169_ren where
  sizeBuilder := by kernel_rfl
  liesBuilder := by kernel_rfl
  t5 := Tryd.underlying5
  a5 := Tryd.isAgg5
  z5 := Tryd.sizeOf5
  v5 := Tryd.zeroValue5
  infoByte := by kernel_rfl
  cellsByte := by kernel_rfl
  sizeByte := by kernel_rfl
  neB5 := by decide
/-- The check that a builder was not copied: at a new builder it lays the builder's own address; at a used one it does nothing. (The dump's text of it refuses the panic's statement: so the shelf's contract cannot be laid here.) -/
theorem check_new (b : Nat) (w : World) (h0 : w.cell? ⟨b, 0, none⟩ = some (.pointer none)) (hsh : w.shape? b = some (57, 2)) (hfz : w.frozen? ⟨b, 0, none⟩ = false) :
    Calls Tryd.prog 35 #[.pointer (some ⟨b, 0, none⟩)] w fun e w' => e = .returned (.tuple #[]) ∧ w' = w.setCell ⟨b, 0, none⟩ (.pointer (some ⟨b, 0, none⟩)) := by
  obtain ⟨j, hj, hjs⟩ := Option.map_eq_some_iff.1 (show (Tryd.prog.info? 57).map (·.size) = some 2 by kernel_rfl)
  have hlies : liesAt Tryd.prog Tryd.prog.depth 57 (2 / Tryd.prog.cellsOf 57) 0 57 1 = true := by kernel_rfl
  go_enter Tryd.func35, Tryd.ntmps35
  go_wp2
  rw [Lib.run_to_unsafe w ⟨b, 0, none⟩ Tryd.underlying54 Tryd.underlying80 hj (by rw [hjs]; decide) hsh (Nat.zero_lt_succ 1)]
  simp only [Result.andThen]
  rw [Oper.upon_value]
  go_wp2
  rw [run_callFunc_extern Tryd.func45 (by kernel_rfl) (by kernel_rfl) (by kernel_rfl) (e := Extern.AbiNoEscape.same) (by kernel_rfl)]
  rw [Lib.run_noEscape]
  simp only [Result.andThen]
  rw [Oper.upon_value]
  go_wp2
  rw [Lib.run_from_unsafe w ⟨b, 0, none⟩ Tryd.underlying80 Tryd.underlying54 hj hsh hlies]
  simp only [Result.andThen]
  rw [Oper.upon_value]
  go_wp2
  go_end0
  exact ⟨rfl, rfl⟩
theorem check_used (b : Nat) (w : World) (h0 : w.cell? ⟨b, 0, none⟩ = some (.pointer (some ⟨b, 0, none⟩))) :
    Calls Tryd.prog 35 #[.pointer (some ⟨b, 0, none⟩)] w fun e w' => e = .returned (.tuple #[]) ∧ w' = w := by
  obtain ⟨j, hj, _⟩ := Option.map_eq_some_iff.1 (show (Tryd.prog.info? 57).map (·.size) = some 2 by kernel_rfl)
  go_enter Tryd.func35, Tryd.ntmps35
  go_wp2
  rw [Lib.run_neq_ptr_same w _ Tryd.underlying54 hj]
  go_wp2
  go_end0
  exact ⟨rfl, rfl⟩
theorem check_any (B b : Nat) (bs : List Value) (w : World) (h : Lib.IsBuilderF 57 5 B b bs w) :
    Calls Tryd.prog 35 #[.pointer (some ⟨b, 0, none⟩)] w fun e w' => e = .returned (.tuple #[]) ∧ Lib.BuilderAtF 57 5 B b (.pointer (some ⟨b, 0, none⟩)) bs w' ∧ Below B w w' ∧ Lib.OthersKept 5 (some b) w w' := by
  rcases h with h | h
  · refine (check_new b w h.cell0 h.shape h.frozen0).mono ?_
    rintro e w' ⟨rfl, rfl⟩
    exact ⟨rfl, h.used _, (Below.refl B w).setCell (p := ⟨b, 0, none⟩) h.1 _, (Lib.OthersKept.refl _ _ w).setCell ⟨b, 0, none⟩ rfl _⟩
  · refine (check_used b w h.cell0).mono ?_
    rintro e w' ⟨rfl, rfl⟩
    exact ⟨rfl, h, Below.refl B _, Lib.OthersKept.refl _ _ _⟩
set_option maxHeartbeats 2000000 in
theorem wrStr_any (B b : Nat) (bs : List Value) (s : ByteArray) (w : World) (h : Lib.IsBuilderF 57 5 B b bs w) (hlen : bs.length + s.size ≤ 140737488355328) (hBw : B ≤ w.heap.size) :
    Calls Tryd.prog 21 #[.pointer (some ⟨b, 0, none⟩), .string s] w fun e w' => e = .returned (.tuple #[.int .i64 s.size, .nilIface]) ∧ Lib.BuilderAtF 57 5 B b (.pointer (some ⟨b, 0, none⟩)) (bs ++ Lib.strCells s) w' ∧ Below B w w' ∧ Lib.OthersKept 5 (some b) w w' := by
  obtain ⟨i0, hi, hz0, hz1, hz2⟩ := info_parts (show (Tryd.prog.info? 5).map (fun i => (i.zero, i.size, i.bytes)) = some (some (.int .u8 0), 1, 1) by kernel_rfl)
  go_enter Tryd.func21, Tryd.ntmps21
  go_wp2_with fail
  refine (check_any B b bs _ h).mono ?_
  rintro e w1 ⟨rfl, h1, hb1, hk1⟩
  have hs1 := hb1.size
  obtain ⟨hB, v, hbk, hown, hne⟩ := h1
  have c0 : w1.cell? ⟨b, 0, none⟩ = some (.pointer (some ⟨b, 0, none⟩)) := by rw [Lib.cell_of_heap hbk]; rfl
  have c1 : w1.cell? ⟨b, 1, none⟩ = some v := by rw [Lib.cell_of_heap hbk]; rfl
  go_wp2_with (at_builtin; refine Lib.wpList_append_own_stringF _ rfl _ _ 55 9 rfl B 5 i0 Tryd.underlying55 Tryd.underlying9 hi hz0 hz1 hz2 _ _ _ rfl hown s rfl ?c3 ?c4 ?c5 ?_)
  case c3 => unfold maxLen; omega
  case c4 => omega
  case c5 => omega
  intro v' w2 hown' hgrow _
  have hlt : b < w1.heap.size := by
    rcases Nat.lt_or_ge b w1.heap.size with h' | h'
    · exact h'
    · simp [Array.getElem?_eq_none h'] at hbk
  have hb2 : w2.heap[b]? = some (.cells #[.pointer (some ⟨b, 0, none⟩), v] 57 (0, 0)) := (hgrow.block b hlt (fun e => hne e.symm)).trans hbk
  have d0 : w2.cell? ⟨b, 0, none⟩ = some (.pointer (some ⟨b, 0, none⟩)) := by rw [Lib.cell_of_heap hb2]; rfl
  have d1 : w2.cell? ⟨b, 1, none⟩ = some v := by rw [Lib.cell_of_heap hb2]; rfl
  have f1 : w2.frozen? ⟨b, 1, none⟩ = false := Lib.frozen_of_heap hb2 1
  obtain ⟨ao, n', cap, rfl⟩ : ∃ ao n' cap, v' = .slice ao n' cap := by
    rcases hown'.2 with ⟨hv, _⟩ | ⟨g, cap, cur, fz, hv, _⟩
    · exact ⟨_, _, _, hv⟩
    · exact ⟨_, _, _, hv⟩
  go_wp2
  go_ret2
  refine ⟨rfl, ?_, ?_, (hk1.grown hgrow (Lib.ownsRowF_kind hown)).setCell ⟨b, 1, none⟩ rfl _⟩
  · exact Lib.BuilderAtF.put (T := 57) (e := 5) hB hb2 (bs' := bs ++ Lib.strCells s) (by simpa [Lib.strCells_length] using hown') (by decide)
  · exact (hb1.grown hgrow (by omega) (fun k hk => (hown.lt k hk).1)).setCell (p := ⟨b, 1, none⟩) hB _
/-- A builder that lies in block b and holds the bytes s. -/
def Bld (w : World) (b : Nat) (s : ByteArray) : Prop := Lib.IsBuilderF 57 5 b b (Lib.strCells s) w
theorem bld_new (w : World) : Bld (w.alloc (.cells #[.pointer none, .slice none 0 0] 57)) w.heap.size ByteArray.empty := by
  refine .inl ⟨Nat.le_refl _, .slice none 0 0, heap_alloc_new _ _, ⟨by simp [Lib.strCells], .inl ⟨rfl, by simp [Lib.strCells]⟩⟩, by simp [Value.ownBlock]⟩
theorem Bld.lt {w : World} {b : Nat} {s : ByteArray} (h : Bld w b s) : b < w.heap.size := by
  rcases h with h | h
  · exact h.lt
  · exact h.lt
theorem bldAt_below {T e : TypeId} {B b : Nat} {p : Value} {bs : List Value} {W W' : World} (h : Lib.BuilderAtF T e B b p bs W) (hb : Below W.heap.size W W') : Lib.BuilderAtF T e B b p bs W' := by
  have hlt := h.lt
  obtain ⟨hB, v, hv, hown, hne⟩ := h
  exact ⟨hB, v, (hb.block b hlt).trans hv, hown.kept (row := none) ⟨hb.os, hb.tape, hb.output, hb.size, fun k hk _ => hb.block k hk⟩ (Classical.em _), hne⟩
theorem Bld.below {w w' : World} {b : Nat} {s : ByteArray} (h : Bld w b s) (hb : Below w.heap.size w w') : Bld w' b s :=
  h.elim (fun x => .inl (bldAt_below x hb)) (fun x => .inr (bldAt_below x hb))
theorem Bld.drew {w : World} {b : Nat} {s : ByteArray} (h : Bld w b s) : Bld w.drew b s := h.below (Below.refl _ _).drew
theorem strCells_app (s t : ByteArray) : Lib.strCells (s ++ t) = Lib.strCells s ++ Lib.strCells t := by
  simp [Lib.strCells, ByteArray.data_append]
theorem bld_write {w : World} {b : Nat} {s : ByteArray} (t : ByteArray) (h : Bld w b s) (hl : s.size + t.size ≤ 140737488355328) :
    Calls Tryd.prog 21 #[.pointer (some ⟨b, 0, none⟩), .string t] w fun e w' => e = .returned (.tuple #[.int .i64 t.size, .nilIface]) ∧ Bld w' b (s ++ t) ∧ Below b w w' ∧ Lib.OthersKept 5 (some b) w w' := by
  have hb := h.lt
  refine (wrStr_any b b (Lib.strCells s) t w h (by rw [Lib.strCells_length]; exact hl) (by omega)).mono ?_
  rintro e w' ⟨rfl, h1, h2, h3⟩
  refine ⟨rfl, .inr ?_, h2, h3⟩
  rw [strCells_app]
  exact h1
theorem bld_text {w : World} {b : Nat} {s : ByteArray} (h : Bld w b s) :
    Calls Tryd.prog 23 #[.pointer (some ⟨b, 0, none⟩)] w fun e w' => e = .returned (.string s) ∧ Below b w w' := by
  have hb := h.lt
  refine (Any.Builder_String_any_k Tryd.lays169 xb169 b b s.data.toList w h (by omega)).mono ?_
  rintro e w' ⟨rfl, _, h2, _⟩
  exact ⟨rfl, h2⟩
end Go.Proofs.YtebefamekjjbcaaDoor
