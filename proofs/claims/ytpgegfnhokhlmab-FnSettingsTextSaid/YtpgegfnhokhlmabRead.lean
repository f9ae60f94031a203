/- What strings.IndexByte, ReadSettings of the program and of the reference do, by walks over their text. Conditions: a string of at most 1048576 bytes. -/
import Derived.Test.YtpgegfnhokhlmabText
import Derived.Test.YtpgegfnhokhlmabScale
import Derived.Lib.Bytealg
set_option linter.unusedVariables false
set_option maxRecDepth 100000
namespace Go.Proofs.Ytpgegfnhokhlmab
open Go.ChangeShapes Go.WideShapes Go.ChangeAt Go.RowKit Go.Joins Go.Deep

theorem slIndexByte_any (s : ByteArray) (c : Int) (w : World) :
    Calls Try.prog 38 #[.string s, .int .u8 c] w fun e w' => e = .returned (.int .i64 (Lib.indexByte s.data.toList c.toNat.toUInt8)) ∧ w = w' := by
  go_enter Try.func38, Try.ntmps38
  go_wp2
  rw [run_callFunc_extern Try.func55 (by kernel_rfl) (by kernel_rfl) (by kernel_rfl) (e := Extern.BytealgIndexByte.indexByte) (by kernel_rfl), Lib.run_indexByteString]
  simp only [Result.andThen]
  rw [Oper.upon_value]
  go_wp2
  go_ret
  exact ⟨rfl, rfl⟩
theorem indexByte_any (s : ByteArray) (c : Int) (w : World) :
    Calls Try.prog 20 #[.string s, .int .u8 c] w fun e w' => e = .returned (.int .i64 (Lib.indexByte s.data.toList c.toNat.toUInt8)) ∧ w = w' := by
  go_enter Try.func20, Try.ntmps20
  go_wp2_with fail
  refine (slIndexByte_any _ _ _).mono ?_
  rintro e w' ⟨rfl, rfl⟩
  go_wp2_with fail
  go_ret
  exact ⟨rfl, rfl⟩

/-- The setting of a character, -1 if there is none. -/
def setC (c : UInt8) : Int := if c = 120 then 0 else if c = 111 then 1 else if c = 62 then 2 else -1
theorem setC_index (c : UInt8) : Lib.indexByte (⟨#[120, 111, 62]⟩ : ByteArray).data.toList (c.toNat : Int).toNat.toUInt8 = setC c := by
  have e : (c.toNat : Int).toNat.toUInt8 = c := by simp
  rw [e]
  unfold setC
  show Lib.indexByte [120, 111, 62] c = _
  by_cases h0 : c = 120
  · subst h0; rfl
  · have h0' : ¬ (120 : UInt8) = c := fun h => h0 h.symm
    by_cases h1 : c = 111
    · subst h1; rfl
    · have h1' : ¬ (111 : UInt8) = c := fun h => h1 h.symm
      by_cases h2 : c = 62
      · subst h2; rfl
      · have h2' : ¬ (62 : UInt8) = c := fun h => h2 h.symm
        simp [Lib.indexByte, h0, h1, h2, h0', h1', h2']
theorem setC_ge (c : UInt8) : -1 ≤ setC c ∧ setC c ≤ 2 := by
  unfold setC
  split
  · omega
  · split
    · omega
    · split <;> omega
theorem setC_ways (c : UInt8) : (((c.toNat : Int) == 120) = true ∧ setC c = 0) ∨ (((c.toNat : Int) == 120) = false ∧ ((c.toNat : Int) == 111) = true ∧ setC c = 1) ∨ (((c.toNat : Int) == 120) = false ∧ ((c.toNat : Int) == 111) = false ∧ ((c.toNat : Int) == 62) = true ∧ setC c = 2) ∨
    (((c.toNat : Int) == 120) = false ∧ ((c.toNat : Int) == 111) = false ∧ ((c.toNat : Int) == 62) = false ∧ setC c = -1) := by
  have key : ∀ k : UInt8, ((c.toNat : Int) == (k.toNat : Int)) = decide (c = k) := by
    intro k
    by_cases h : c = k
    · subst h; simp
    · rw [decide_eq_false h]
      have : ¬ c.toNat = k.toNat := fun hh => h (UInt8.toNat_inj.1 hh)
      rw [beq_eq_false_iff_ne]
      omega
  have k1 : ((c.toNat : Int) == 120) = decide (c = 120) := key 120
  have k2 : ((c.toNat : Int) == 111) = decide (c = 111) := key 111
  have k3 : ((c.toNat : Int) == 62) = decide (c = 62) := key 62
  rw [k1, k2, k3]
  unfold setC
  by_cases h0 : c = 120
  · simp [h0]
  · by_cases h1 : c = 111
    · simp [h1]
    · by_cases h2 : c = 62
      · simp [h2]
      · simp [h0, h1, h2]
def rdS (l : List UInt8) : List Int := l.map setC
def rdOk (l : List UInt8) : Bool := l.all fun c => decide (0 ≤ setC c)
theorem rdS_take {s : ByteArray} {k : Nat} (h : k < s.size) : rdS (s.data.toList.take k) ++ [setC s[k]] = rdS (s.data.toList.take (k + 1)) := by
  rw [take_snoc s k h]; simp [rdS]
theorem rdS_step {s : ByteArray} {n k : Nat} (hl : s.size = n) (hk : k < n) (hk' : k < s.size) :
    (rdS (s.data.toList.take k) ++ List.replicate (n - k) 0).set k (setC s[k]) = rdS (s.data.toList.take (k + 1)) ++ List.replicate (n - (k + 1)) 0 := by
  have hll : s.data.toList.length = n := by rw [← hl]; simp
  rw [← rdS_take hk', List.set_append_right _ _ (by simp [rdS]; omega), List.append_assoc]
  congr 1
  have e1 : k - (rdS (s.data.toList.take k)).length = 0 := by simp [rdS]; omega
  have e2 : n - k = (n - (k + 1)) + 1 := by omega
  rw [e1, e2, List.replicate_succ]
  rfl
theorem rdOk_step {s : ByteArray} {k : Nat} (h : k < s.size) (hp : rdOk (s.data.toList.take k) = true) (hc : 0 ≤ setC s[k]) : rdOk (s.data.toList.take (k + 1)) = true := by
  unfold rdOk at *
  rw [take_snoc s k h, List.all_append, hp]; simp [hc]
theorem rdOk_bad {s : ByteArray} {k : Nat} (h : k < s.size) (hc : setC s[k] < 0) : rdOk s.data.toList = false := by
  unfold rdOk
  rw [List.all_eq_false]
  refine ⟨s[k], ?_, by simp; omega⟩
  have : s.data.toList[k]? = some s[k] := by rw [List.getElem?_eq_getElem (by simpa using h)]; rfl
  exact List.mem_of_getElem? this
/-- A call returns a slice of its own that reads as zs, and a bool, and leaves what was there. -/
def RetIntsB (w : World) (zs : List Int) (b : Bool) (e : Ending) (w' : World) : Prop :=
  ∃ A c, e = .returned (.tuple #[.slice A zs.length c, .bool b]) ∧ Own w' w.heap.size A zs.length c zs ∧ Below w.heap.size w w'
/-- What ReadSettings returns. -/
noncomputable def readOk (ns : List Nd) (ps : List Pp) (m : Nat) (s : ByteArray) : Bool := @decide (NetOk ns ps ∧ s.size = m ∧ rdOk s.data.toList = true) (Classical.propDecidable _)
noncomputable def readS (ns : List Nd) (ps : List Pp) (m : Nat) (s : ByteArray) : List Int := if readOk ns ps m s = true then rdS s.data.toList else []
theorem readOk_yes {ns : List Nd} {ps : List Pp} {m : Nat} {s : ByteArray} (h : NetOk ns ps ∧ s.size = m ∧ rdOk s.data.toList = true) : readOk ns ps m s = true := @decide_eq_true _ (Classical.propDecidable _) h
theorem readOk_no {ns : List Nd} {ps : List Pp} {m : Nat} {s : ByteArray} (h : ¬ (NetOk ns ps ∧ s.size = m ∧ rdOk s.data.toList = true)) : readOk ns ps m s = false := @decide_eq_false _ (Classical.propDecidable _) h
theorem ret_read_no {ns : List Nd} {ps : List Pp} {m : Nat} {s : ByteArray} {w w' : World} (h : ¬ (NetOk ns ps ∧ s.size = m ∧ rdOk s.data.toList = true)) (hb : Below w.heap.size w w') :
    RetIntsB w (readS ns ps m s) (readOk ns ps m s) (.returned (.tuple #[.slice none 0 0, .bool false])) w' := by
  have e := readOk_no h
  unfold readS
  rw [e]
  exact ⟨none, 0, rfl, own_nil _ _, hb⟩
theorem ret_read_yes {ns : List Nd} {ps : List Pp} {m : Nat} {s : ByteArray} {w w' : World} {A : Option Addr} {n c : Nat} (h : NetOk ns ps ∧ s.size = m ∧ rdOk s.data.toList = true) (hn : s.size = n) (ho : Own w' w.heap.size A n c (rdS s.data.toList)) (hb : Below w.heap.size w w') :
    RetIntsB w (readS ns ps m s) (readOk ns ps m s) (.returned (.tuple #[.slice A n c, .bool true])) w' := by
  have e := readOk_yes h
  unfold readS
  rw [e]
  have hl : (rdS s.data.toList).length = n := ho.len
  refine ⟨A, c, ?_, ?_, hb⟩
  · rw [if_pos rfl, hl]
  · rw [if_pos rfl, hl]; exact ho
set_option maxHeartbeats 2000000 in
theorem read_any (A B : Option Addr) (n c m d : Nat) (ns : List Nd) (ps : List Pp) (s : ByteArray) (w : World) (h : IsNet w A n c ns B m d ps) (hs : s.size ≤ 1048576) :
    Calls Try.prog 8 #[.agg #[.slice A n c, .slice B m d], .string s] w (RetIntsB w (readS ns ps m s) (readOk ns ps m s)) := by
  have hw0 : ∀ cs t, Below w.heap.size w (w.alloc (.cells cs t)) := fun cs t => (Below.refl _ _).alloc (Nat.le_refl _) _
  go_enter Try.func8, Try.ntmps8
  go_wp2_with fail
  refine (isNetw_any _ _ _ _ _ _ ns ps _ (h.alloc _)).mono ?_
  rintro e w1 ⟨b, hb, rfl, hb1⟩
  obtain ⟨xl, x0, x1⟩ := (boxN_of (w := w) (A := A) (n := n) (c := c) (B := B) (m := m) (d := d) 27).below hb1
  have hB1 := bthen (hw0 _ _) hb1 (by simp)
  have HB := Lib.hid hb
  clear hb hb1
  cases b
  · go_wp2_with fail
    go_ret2
    exact ret_read_no (fun h => absurd (HB.out.2 h.1) (by simp)) hB1
  have HN := Lib.hid (HB.out.1 rfl)
  clear HB
  cases hE : ((s.size : Int) != (m : Int))
  case true =>
    have HE := Lib.hid (show ¬ s.size = m by intro h; rw [h] at hE; simp at hE)
    go_wp2_with fail
    go_ret2
    exact ret_read_no (fun h => HE.out h.2.1) hB1
  have HE := Lib.hid (show s.size = m by have := of_nei hE; omega)
  have hmk := fun W => run_make_row' (P := Try.prog) 28 2 (.int .i64 0) 8 Try.underlying28 info_i64 rfl .i64 .i64 s.size (by omega) (by omega) W
  go_wp2_with fail
  clear hmk hE xl x0 x1
  go_loopw [25] (fun ii wr => ∃ k : Nat, k ≤ s.size ∧ ii = .int .i64 k ∧ Own wr w1.heap.size (some ⟨w1.heap.size, 0, none⟩) s.size s.size (rdS (s.data.toList.take k) ++ List.replicate (s.size - k) 0) ∧ Below w1.heap.size w1 wr ∧ Hid (rdOk (s.data.toList.take k) = true)) (fun ii _ => s.size - (intOf ii).toNat)
  case atStart => exact ⟨0, Nat.zero_le _, rfl, by simpa [rdS] using own_zeros w1 s.size hs, (Below.refl _ _).alloc (Nat.le_refl _) _, rfl⟩
  case round =>
    obtain ⟨k, hk, rfl, hown, hb, HP⟩ := hrel
    by_cases hlt : k < s.size
    · have hge := setC_ge s[k]
      have HI := Lib.hid (setC_index s[k])
      by_cases hneg : setC s[k] < 0
      · go_wp2_with fail
        refine (indexByte_any _ _ _).mono ?_
        rintro e w' ⟨rfl, rfl⟩
        rw [HI.out]
        go_wp2_with fail
        go_ret2
        exact ret_read_no (fun h => absurd h.2.2 (by rw [rdOk_bad hlt hneg]; simp)) (bthen hB1 hb hB1.size)
      · obtain ⟨g, z', hg, hBg, hgl, _, _, hcg, hfg⟩ := hown.at_ hlt
        obtain rfl : g = w1.heap.size := by injection hg with hg; injection hg with hg; exact hg.symm
        have hown' := Lib.hid (hown.set_ k (z := setC s[k]) (WalkArith.wf_i64 (by omega)))
        have hst := Lib.hid (rdS_step rfl hlt hlt)
        have hb' := hb.setCell (p := ⟨w1.heap.size, k, none⟩) (Nat.le_refl _) (.int .i64 (setC s[k]))
        have HQ := Lib.hid (rdOk_step hlt HP.out (by omega))
        clear hown hg
        go_wp2_with fail
        refine (indexByte_any _ _ _).mono ?_
        rintro e w' ⟨rfl, rfl⟩
        rw [HI.out]
        go_wp2_with fail
        go_roundw
        case rel => exact ⟨k + 1, by omega, by go_num, by rw [← hst.out]; exact hown'.out, hb', HQ.out⟩
        case measure => simp [intOf]; omega
    · obtain rfl : k = s.size := by omega
      go_wp2_with fail
      go_ret2
      have hfull : s.data.toList.take s.size = s.data.toList := List.take_of_length_le (by simp)
      have hp := HP.out
      rw [hfull] at hown hp
      exact ret_read_yes ⟨HN.out, HE.out, hp⟩ rfl ((by simpa using hown : Own wr w1.heap.size (some ⟨w1.heap.size, 0, none⟩) s.size s.size (rdS s.data.toList)).mono hB1.size) (bthen hB1 hb hB1.size)
end Go.Proofs.Ytpgegfnhokhlmab
