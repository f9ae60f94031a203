/- Slices of bytes that a call makes; what SettingsText of the program and of the reference does, by walks over its text. Conditions: lengths of at most 1048576. -/
import Derived.Test.YtpgegfnhokhlmabSwitch
import Derived.Test.YtpgegfnhokhlmabKA
import Derived.Laws.BytesArg
set_option linter.unusedVariables false
set_option maxRecDepth 100000
namespace Go.Proofs.Ytpgegfnhokhlmab
open Go.ChangeShapes Go.WideShapes Go.ChangeAt Go.RowKit Go.Joins Go.Deep

/-- The slice value '.slice A n c' owns the bytes zs, in a block from B on. -/
def OwnB (w : World) (B : Nat) (A : Option Addr) (n c : Nat) (zs : List Int) : Prop :=
  w.ownsRow B 5 1 (.slice A n c) n (zs.map (Value.int .u8))
theorem info_u8 : (Try.prog.info? 5).map (fun i => (i.zero, i.size, i.bytes)) = some (some (.int .u8 0), 1, 1) := by kernel_rfl
section
variable {w w' : World} {A : Option Addr} {n c B g : Nat} {zs : List Int}
theorem OwnB.len (h : OwnB w B A n c zs) : zs.length = n := by have := h.1; simpa using this
theorem OwnB.form (h : OwnB w B A n c zs) (hn : 0 < n) : ∃ g, A = some ⟨g, 0, none⟩ ∧ B ≤ g ∧ g < w.heap.size := by
  obtain ⟨g, cap, hv, hb, hlt⟩ := World.ownsRow.form h hn
  have hA : A = some ⟨g, 0, none⟩ := by injection hv
  exact ⟨g, hA, hb, hlt⟩
theorem OwnB.cells (h : OwnB w B (some ⟨g, 0, none⟩) n c zs) {k : Nat} (hk : k < n) : w.cell? ⟨g, k, none⟩ = some (.int .u8 (zs.getD k 0)) ∧ w.frozen? ⟨g, k, none⟩ = false := by
  have hl := h.len
  refine ⟨?_, World.ownsRow.frozenAt h k⟩
  rw [World.ownsRow.cellAt h k (by omega)]
  simp [List.getD, List.getElem?_eq_getElem (show k < zs.length by omega)]
theorem OwnB.set_ (h : OwnB w B (some ⟨g, 0, none⟩) n c zs) (k : Nat) (z : Int) : OwnB (w.setCell ⟨g, k, none⟩ (.int .u8 z)) B (some ⟨g, 0, none⟩) n c (zs.set k z) := by
  have := (World.ownsRow.stored h k (.int .u8 z)).1
  unfold OwnB
  rwa [List.map_set]
theorem OwnB.below (h : OwnB w B A n c zs) (hb : Below w.heap.size w w') : OwnB w' B A n c zs :=
  World.ownsRow.kept (row := none) h ⟨hb.os, hb.tape, hb.output, hb.size, fun k hk _ => hb.block k hk⟩ (by
    cases A <;> simp [Value.ownBlock])
theorem OwnB.alloc (h : OwnB w B A n c zs) (o : Obj) : OwnB (w.alloc o) B A n c zs := h.below ((Below.refl _ _).alloc (Nat.le_refl _) _)
end
theorem ownB_zeros (w : World) (n : Nat) (hn : n ≤ 1048576) : OwnB (w.alloc (.cells (madeCells #[.int .u8 0] n) 5)) w.heap.size (some ⟨w.heap.size, 0, none⟩) n n (List.replicate n 0) := by
  have h := World.ownsRow_lit (base := w.heap.size) (e := 5) (size := 1) w (madeCells #[.int .u8 0] n) n (Nat.le_refl _) (by unfold maxLen; omega) (by simp [madeCells])
  have e : (madeCells #[.int .u8 0] n).toList = (List.replicate n (0 : Int)).map (Value.int .u8) := by
    apply List.ext_getElem?
    intro i
    by_cases hi : i < n <;> simp [madeCells, hi, Nat.mod_one]
  rwa [e] at h
theorem ownB_empty (w : World) (B : Nat) (hB : B ≤ w.heap.size) : OwnB (w.alloc (.cells #[] 5)) B (some ⟨w.heap.size, 0, none⟩) 0 0 [] :=
  World.ownsRow_lit (size := 1) w #[] 0 hB (Nat.zero_le _) rfl
theorem wpList_pushB {ops : Array Oper} {rest : List Oper} {o : Oper} {a : Act} {Q : Exit → Act → World → Prop} (wr : World) (hgd : o.guard = none) (s x : Operand)
    (ho : o.op = .call { callee := .builtin .append, args := #[s, x], argTypes := #[22, 22] }) (B : Nat) (A : Option Addr) (n c : Nat) (zs : List Int) (z : Int)
    (hs : a.eval s = .slice A n c) (hx : a.eval x = .slice (some ⟨wr.heap.size, 0, none⟩) 1 1) (hown : OwnB wr B A n c zs) (hn : n ≤ 1099511627776) (hB : B ≤ wr.heap.size)
    (h : ∀ g c' w', OwnB w' B (some ⟨g, 0, none⟩) (n + 1) c' (zs ++ [z]) → Below B wr w' → B ≤ g → wpList Try.prog ops Q rest (a.put o.dst (.slice (some ⟨g, 0, none⟩) (n + 1) c')) w') :
    wpList Try.prog ops Q (o :: rest) a (wr.alloc (.cells #[.int .u8 z] 5)) := by
  obtain ⟨i0, hi0, hz0, hz1, hz2⟩ := info_parts info_u8
  refine wpList_append_own _ hgd s x 22 ho B 5 i0 (.int .u8 0) 1 1 Try.underlying22 hi0 hz0 hz1 hz2 rfl (by decide) (.slice A n c) n (zs.map (Value.int .u8)) hs (hown.alloc _) ⟨wr.heap.size, 0, none⟩ 1 1 [.int .u8 z] hx rfl ?_ ?_ (by unfold maxLen; omega) (by omega) (by simp; omega) ?_
  · intro j u hj
    match j, hj with
    | 0, hj => simp at hj; subst hj; simp [Addr.add]
  · intro u hu; simp at hu; subst hu; rfl
  · intro v' w1 hown' hgrow _
    have hl := hown.len
    obtain ⟨g, cap, hv, hb, hlt⟩ := hown'.form (by omega)
    subst hv
    refine h g cap w1 (by unfold OwnB; simpa using hown') ?_ hb
    refine (((Below.refl B wr).alloc hB _).grown hgrow (by simp; omega) ?_)
    intro k hk
    exact (World.ownsRow.lt hown k hk).1
/-- string(b) of bytes that the call owns. -/
theorem run_text {w : World} {B g n c : Nat} {zs : List Int} (h : OwnB w B (some ⟨g, 0, none⟩) n c zs) : (convert 22 9 (.slice (some ⟨g, 0, none⟩) n c)).run Try.prog w = .ok (.string (strOfNums zs)) w :=
  run_convert_bytes_arg w 22 5 Try.underlying22 Try.underlying5 g 0 n c zs h.len (fun i hi => by rw [Nat.zero_add]; exact (h.cells hi).1) 9 Try.underlying9

/-- The character of a setting. -/
def chS (s : Int) : Int := if s = 0 then 120 else if s = 1 then 111 else 62
def txS (zs : List Int) : List Int := zs.map chS
theorem txS_take {zs : List Int} {k : Nat} {z : Int} (h : zs[k]? = some z) : txS (zs.take k) ++ [chS z] = txS (zs.take (k + 1)) := by
  simp [txS, List.take_add_one, h]
theorem txS_step {zs : List Int} {n k : Nat} {z : Int} (hl : zs.length = n) (hk : k < n) (hz : zs[k]? = some z) :
    (txS (zs.take k) ++ List.replicate (n - k) 0).set k (chS z) = txS (zs.take (k + 1)) ++ List.replicate (n - (k + 1)) 0 := by
  rw [← txS_take hz, List.set_append_right _ _ (by simp [txS]; omega), List.append_assoc]
  congr 1
  have e1 : k - (txS (zs.take k)).length = 0 := by simp [txS]; omega
  have e2 : n - k = (n - (k + 1)) + 1 := by omega
  rw [e1, e2, List.replicate_succ]
  rfl
theorem set_cases {m : Nat} {zs : List Int} {k : Nat} {z : Int} (h : setB m zs = true) (hz : zs[k]? = some z) : z = 0 ∨ z = 1 ∨ z = 2 := by
  unfold setB at h
  rw [Bool.and_eq_true] at h
  have := all_at h.2 hz
  omega
open Classical in
/-- What SettingsText returns. -/
noncomputable def textS (ns : List Nd) (ps : List Pp) (m : Nat) (zs : List Int) : ByteArray := if NetOk ns ps ∧ setB m zs = true then strOfNums (txS zs) else ByteArray.empty
theorem textS_no {ns : List Nd} {ps : List Pp} {m : Nat} {zs : List Int} (h : ¬ (NetOk ns ps ∧ setB m zs = true)) : textS ns ps m zs = ByteArray.empty := if_neg h
theorem textS_ok {ns : List Nd} {ps : List Pp} {m : Nat} {zs : List Int} (h : NetOk ns ps) (h2 : setB m zs = true) : textS ns ps m zs = strOfNums (txS zs) := if_pos ⟨h, h2⟩
theorem rs {a b : ByteArray} (h : a = b) : Ending.returned (.string a) = .returned (.string b) := by rw [h]
theorem idx_x : ∀ w, (Instr.index 9 (.string ⟨#[120, 111, 62]⟩) (.int .i64 0)).run Try.prog w = .ok (.int .u8 120) w := fun _ => by kernel_rfl
theorem idx_o : ∀ w, (Instr.index 9 (.string ⟨#[120, 111, 62]⟩) (.int .i64 1)).run Try.prog w = .ok (.int .u8 111) w := fun _ => by kernel_rfl
theorem idx_g : ∀ w, (Instr.index 9 (.string ⟨#[120, 111, 62]⟩) (.int .i64 2)).run Try.prog w = .ok (.int .u8 62) w := fun _ => by kernel_rfl
set_option maxHeartbeats 2000000 in
theorem text_any (A B C : Option Addr) (n c m d e : Nat) (ns : List Nd) (ps : List Pp) (zs : List Int) (w : World) (h : IsNet w A n c ns B m d ps) (hz : Ints w C zs.length zs) (hl : zs.length ≤ 1048576) :
    Calls Try.prog 6 #[.agg #[.slice A n c, .slice B m d], .slice C zs.length e] w fun e w' => e = .returned (.string (textS ns ps m zs)) ∧ Below w.heap.size w w' := by
  have hw0 : ∀ cs t, Below w.heap.size w (w.alloc (.cells cs t)) := fun cs t => (Below.refl _ _).alloc (Nat.le_refl _) _
  go_enter Try.func6, Try.ntmps6
  go_wp2_with fail
  refine (isNetw_any _ _ _ _ _ _ ns ps _ (h.alloc _)).mono ?_
  rintro e w1 ⟨b, hb, rfl, hb1⟩
  obtain ⟨xl, x0, x1⟩ := (boxN_of (w := w) (A := A) (n := n) (c := c) (B := B) (m := m) (d := d) 27).below hb1
  have hB1 := bthen (hw0 _ _) hb1 (by simp)
  have HB := Lib.hid hb
  clear hb
  cases b
  · go_wp2_with fail
    go_ret
    exact ⟨rs (textS_no (fun h => absurd (HB.out.2 h.1) (by simp))).symm, hB1⟩
  have HN := Lib.hid (HB.out.1 rfl)
  go_wp2_with fail
  refine (areSett_any _ _ _ _ _ _ _ _ _ zs _ (hz.below hB1) hl).mono ?_
  rintro e w2 ⟨rfl, hb2⟩
  have hB2 := bthen hB1 hb2 hB1.size
  clear hB1 hb2 xl x0 x1
  cases hE : setB m zs
  · have HE := Lib.hid hE
    clear hE
    go_wp2_with fail
    go_ret
    exact ⟨rs (textS_no (fun h => absurd h.2 (by rw [HE.out]; simp))).symm, hB2⟩
  have HE := Lib.hid hE
  clear hE
  have hz2 := hz.below hB2
  generalize hN : zs.length = N at *
  have HL := Lib.hid hN
  clear hN
  have hmk := fun W => run_make_row' (P := Try.prog) 22 5 (.int .u8 0) 1 Try.underlying22 info_u8 rfl .i64 .i64 N (by omega) (by omega) W
  go_wp2_with fail
  clear hmk
  go_loopw [22] (fun ii wr => ∃ k : Nat, k ≤ N ∧ ii = .int .i64 k ∧ OwnB wr w2.heap.size (some ⟨w2.heap.size, 0, none⟩) N N (txS (zs.take k) ++ List.replicate (N - k) 0) ∧ Below w2.heap.size w2 wr) (fun ii _ => N - (intOf ii).toNat)
  case atStart => exact ⟨0, Nat.zero_le _, rfl, by simpa [txS] using ownB_zeros w2 N hl, (Below.refl _ _).alloc (Nat.le_refl _) _⟩
  case round =>
    obtain ⟨k, hk, rfl, hown, hb⟩ := hrel
    by_cases hlt : k < N
    · obtain ⟨b, o, z, rfl, hbl, hzk, hz64, hc⟩ := (hz2.below hb).at_ hlt
      obtain ⟨hcg, hfg⟩ := hown.cells hlt
      have hgl := (hown.form (by omega)).choose_spec.2.2
      have hgl' : w2.heap.size < wr.heap.size := by
        obtain ⟨g, hg, _, hgl⟩ := hown.form (by omega)
        injection hg with hg
        injection hg with hg
        omega
      clear hgl
      have hown' := Lib.hid (hown.set_ k (chS z))
      have hst := Lib.hid (txS_step HL.out hlt hzk)
      have hb' := hb.setCell (p := ⟨w2.heap.size, k, none⟩) (Nat.le_refl _) (.int .u8 (chS z))
      have i0 := idx_x
      have i1 := idx_o
      have i2 := idx_g
      rcases set_cases HE.out hzk with rfl | rfl | rfl
      all_goals
        clear hown hzk
        go_wp2_with fail
        go_roundw
        case rel => exact ⟨k + 1, by omega, by go_num, by rw [← hst.out]; exact hown'.out, hb'⟩
        case measure => simp [intOf]; omega
    · obtain rfl : k = N := by omega
      have hrun := run_text hown
      go_wp2_with fail
      go_ret
      exact ⟨rs (by rw [textS_ok HN.out HE.out, List.take_of_length_le (Nat.le_of_eq HL.out)]), bthen hB2 hb hB2.size⟩
set_option maxHeartbeats 2000000 in
theorem sText_any (A B C : Option Addr) (n c m d e : Nat) (ns : List Nd) (ps : List Pp) (zs : List Int) (w : World) (h : IsNet w A n c ns B m d ps) (hz : Ints w C zs.length zs) (hl : zs.length ≤ 1048576) :
    Calls Try.prog 7 #[.agg #[.slice A n c, .slice B m d], .slice C zs.length e] w fun e w' => e = .returned (.string (textS ns ps m zs)) ∧ Below w.heap.size w w' := by
  have hw0 : ∀ cs t, Below w.heap.size w (w.alloc (.cells cs t)) := fun cs t => (Below.refl _ _).alloc (Nat.le_refl _) _
  have xV := boxN_of (w := w) (A := A) (n := n) (c := c) (B := B) (m := m) (d := d) 27
  have hV := hw0 #[.slice A n c, .slice B m d] 27
  have nV := h.below hV
  have zV := hz.below hV
  go_enter Try.func7, Try.ntmps7
  go_wp2_with fail
  generalize hN : zs.length = N at *
  have HL := Lib.hid hN
  clear hN
  generalize hVV : (w.alloc (.cells #[.slice A n c, .slice B m d] 27)) = V at *
  have hsz : w.heap.size + 1 = V.heap.size := by rw [← hVV]; simp
  rw [hsz]
  clear hVV hsz
  go_loopw [5, 6] (fun ss ii wr => ∃ (k : Nat) (g c2 : Nat), k ≤ N ∧ ii = .int .i64 k ∧ ss = .slice (some ⟨g, 0, none⟩) k c2 ∧ OwnB wr V.heap.size (some ⟨g, 0, none⟩) k c2 (txS (zs.take k)) ∧ Below V.heap.size V wr ∧ Hid (0 < k → NetOk ns ps ∧ setB m zs = true)) (fun _ ii _ => N - (intOf ii).toNat)
  case atStart => exact ⟨0, _, 0, Nat.zero_le _, rfl, rfl, ownB_empty _ _ (Nat.le_refl _), (Below.refl _ _).alloc (Nat.le_refl _) _, fun h => absurd h (by omega)⟩
  case round =>
    obtain ⟨k, g, c2, hk, rfl, rfl, hown, hb, HK⟩ := hrel
    by_cases hlt : k < N
    · obtain ⟨xl, x0, x1⟩ := xV.below hb
      go_wp2_with fail
      refine (sIsSett_any _ _ _ _ _ _ _ _ _ ns ps zs _ (nV.below hb) (zV.below hb) hl).mono ?_
      rintro e w1 ⟨bs, hbs, rfl, hb1⟩
      have hB1 := bthen hb hb1 hb.size
      have hown1 := hown.below hb1
      clear xl x0 x1 hown
      cases bs
      · have HB := Lib.hid (show ¬ (NetOk ns ps ∧ setB m zs = true) from fun hh => absurd (hbs.2 hh) (by simp))
        obtain rfl : k = 0 := by
          rcases Nat.eq_zero_or_pos k with h0 | h0
          · exact h0
          · exact absurd (HK.out h0) HB.out
        clear hbs HK
        have hrun := run_text hown1
        go_wp2_with fail
        go_ret
        exact ⟨rs (textS_no HB.out).symm, bthen hV hB1 hV.size⟩
      · have HB := Lib.hid (hbs.1 rfl)
        clear hbs HK
        obtain ⟨b, o, z, rfl, hbl, hzk, hz64, hc⟩ := (zV.below hB1).at_ hlt
        have hst := Lib.hid (txS_take hzk)
        have i0 := idx_x
        have i1 := idx_o
        have i2 := idx_g
        rcases set_cases HB.out.2 hzk with rfl | rfl | rfl
        all_goals
          clear hzk
        · go_wp2_with (at_builtin; refine wpList_pushB w1 rfl _ _ rfl V.heap.size _ _ _ _ 120 rfl rfl hown1 (by omega) hB1.size ?_; intro g3 c3 w3 hown3 hb3 _)
          go_roundw
          case rel => exact ⟨k + 1, _, _, by omega, by go_num, rfl, hst.out ▸ hown3, hB1.trans hb3, fun _ => HB.out⟩
          case measure => simp [intOf]; omega
        · go_wp2_with (at_builtin; refine wpList_pushB w1 rfl _ _ rfl V.heap.size _ _ _ _ 111 rfl rfl hown1 (by omega) hB1.size ?_; intro g3 c3 w3 hown3 hb3 _)
          go_roundw
          case rel => exact ⟨k + 1, _, _, by omega, by go_num, rfl, hst.out ▸ hown3, hB1.trans hb3, fun _ => HB.out⟩
          case measure => simp [intOf]; omega
        · go_wp2_with (at_builtin; refine wpList_pushB w1 rfl _ _ rfl V.heap.size _ _ _ _ 62 rfl rfl hown1 (by omega) hB1.size ?_; intro g3 c3 w3 hown3 hb3 _)
          go_roundw
          case rel => exact ⟨k + 1, _, _, by omega, by go_num, rfl, hst.out ▸ hown3, hB1.trans hb3, fun _ => HB.out⟩
          case measure => simp [intOf]; omega
    · obtain rfl : k = N := by omega
      have hrun := run_text hown
      go_wp2_with fail
      go_ret
      refine ⟨rs ?_, bthen hV hb hV.size⟩
      rw [List.take_of_length_le (Nat.le_of_eq HL.out)]
      by_cases h0 : 0 < k
      · rw [textS_ok (HK.out h0).1 (HK.out h0).2]
      · have : zs = [] := List.length_eq_zero_iff.1 (by have := HL.out; omega)
        subst this
        unfold textS
        split <;> rfl
end Go.Proofs.Ytpgegfnhokhlmab
