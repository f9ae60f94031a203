/- What markText, markNodeS, markPipeS, markNetwork, heldNodeS, heldPipeS, heldNetwork do, by walks over their text. Conditions: lengths of at most 1048576. -/
import Derived.Test.YtoijogaogheciaaBox
import Derived.Laws.BytesArg
set_option linter.unusedVariables false
set_option maxRecDepth 100000
namespace Go.Proofs.Ytoijogaogheciaa
open Go.ChangeShapes Go.WideShapes Go.ChangeAt Go.RowKit Go.Joins Go.Deep

/-- The decimal digits of a number ahead of a text. -/
def mdig (k : Nat) (t : ByteArray) : ByteArray := if h : k = 0 then t else mdig (k / 10) (strOfNums [48 + (k : Int) % 10] ++ t)
termination_by k
decreasing_by omega
def mtx (k : Nat) : ByteArray := ⟨#[109]⟩ ++ mdig k ByteArray.empty
theorem mdig_zero (t : ByteArray) : mdig 0 t = t := by rw [mdig]; rfl
theorem mdig_pos {k : Nat} (h : 0 < k) (t : ByteArray) : mdig k t = mdig (k / 10) (strOfNums [48 + (k : Int) % 10] ++ t) := by
  rw [mdig, dif_neg (by omega)]
set_option maxHeartbeats 1000000 in
theorem markText_any (k : Nat) (w : World) (h0 : 0 < k) (h1 : k ≤ 1000000000000) :
    Calls Try.prog 109 #[.int .i64 k] w fun e w' => e = .returned (.string (mtx k)) ∧ Below w.heap.size w w' := by
  have d1 : decide (k = 0) = false := by simp; omega
  go_enter Try.func109, Try.ntmps109
  go_wp2_with fail
  go_loopw [0, 3] (fun kk tt wr => ∃ (j : Nat) (t : ByteArray), j ≤ k ∧ t.size + j ≤ k ∧ kk = .int .i64 j ∧ tt = .string t ∧ Hid (mdig j t = mdig k ByteArray.empty) ∧ Below w.heap.size w wr) (fun kk _ _ => (intOf kk).toNat)
  case atStart => exact ⟨k, ByteArray.empty, Nat.le_refl _, by simp, rfl, rfl, rfl, Below.refl _ _⟩
  case round =>
    obtain ⟨j, t, hj, hts, rfl, rfl, HT, hb⟩ := hrel
    by_cases hlt : 0 < j
    · have hrun := run_convert_bytes_arg (P := Try.prog) (wr.alloc (.cells #[.int .u8 (48 + (j : Int) % 10)] 5)) 61 5 Try.underlying61 Try.underlying5 wr.heap.size 0 1 1 [48 + (j : Int) % 10] rfl (fun i hi => by
        obtain rfl : i = 0 := by omega
        simp) 9 Try.underlying9
      have HD := Lib.hid (mdig_pos hlt t)
      have hs1 : (strOfNums [48 + (j : Int) % 10]).size = 1 := strOfNums_size _
      have hsz : ¬ 9223372036854775807 < (strOfNums [48 + (j : Int) % 10]).size + t.size := by omega
      have hs2 : (strOfNums [48 + (j : Int) % 10] ++ t).size + j / 10 ≤ k := by rw [ByteArray.size_append]; omega
      clear hs1
      go_wp2_with fail
      go_roundw
      case rel => exact ⟨j / 10, _, by omega, hs2, by go_num, rfl, HD.out.symm.trans HT.out, hb.alloc hb.size _⟩
      case measure => simp [intOf]; omega
    · obtain rfl : j = 0 := by omega
      have hsz : ¬ 9223372036854775807 < (⟨#[109]⟩ : ByteArray).size + t.size := by
        have : (⟨#[109]⟩ : ByteArray).size = 1 := rfl
        omega
      go_wp2_with fail
      go_ret
      have ht := HT.out
      rw [mdig_zero] at ht
      exact ⟨by rw [ht]; rfl, hb⟩
/-- The marks of nodes and of pipes. -/
def mkN (k n : Nat) : List Nd := (List.range n).map fun i : Nat => ⟨mtx (k + 3 * i), ((k : Int) + 3 * (i : Int) + 1), ((k : Int) + 3 * (i : Int) + 1 + 1)⟩
def mkP (k n : Nat) : List Pp := (List.range n).map fun i : Nat => ⟨((k : Int) + 5 * (i : Int)), ((k : Int) + 5 * (i : Int) + 1), ((k : Int) + 5 * (i : Int) + 1 + 1), ((k : Int) + 5 * (i : Int) + 1 + 1 + 1), ((k : Int) + 5 * (i : Int) + 1 + 1 + 1 + 1)⟩
theorem mkN_len (k n : Nat) : (mkN k n).length = n := by simp [mkN]
theorem mkP_len (k n : Nat) : (mkP k n).length = n := by simp [mkP]
theorem mkN_at (k : Nat) {n i : Nat} (h : i < n) : (mkN k n)[i]? = some ⟨mtx (k + 3 * i), ((k : Int) + 3 * (i : Int) + 1), ((k : Int) + 3 * (i : Int) + 1 + 1)⟩ := by simp [mkN, h]
theorem mkP_at (k : Nat) {n i : Nat} (h : i < n) : (mkP k n)[i]? = some ⟨((k : Int) + 5 * (i : Int)), ((k : Int) + 5 * (i : Int) + 1), ((k : Int) + 5 * (i : Int) + 1 + 1), ((k : Int) + 5 * (i : Int) + 1 + 1 + 1), ((k : Int) + 5 * (i : Int) + 1 + 1 + 1 + 1)⟩ := by simp [mkP, h]
theorem mkN_step {zs : List Nd} {n j : Nat} (k : Nat) (hl : zs.length = n) (hj : j < n) : (mkN k j ++ zs.drop j).set j ⟨mtx (k + 3 * j), ((k : Int) + 3 * (j : Int) + 1), ((k : Int) + 3 * (j : Int) + 1 + 1)⟩ = mkN k (j + 1) ++ zs.drop (j + 1) := by
  rw [List.set_append_right _ _ (by simp [mkN_len])]
  have e : List.drop j zs = zs[j] :: zs.drop (j + 1) := by rw [List.drop_eq_getElem_cons (by omega)]
  rw [e, mkN_len, Nat.sub_self]
  simp [mkN, List.range_succ]
  rw [e]
  rfl
theorem mkP_step {zs : List Pp} {n j : Nat} (k : Nat) (hl : zs.length = n) (hj : j < n) : (mkP k j ++ zs.drop j).set j ⟨((k : Int) + 5 * (j : Int)), ((k : Int) + 5 * (j : Int) + 1), ((k : Int) + 5 * (j : Int) + 1 + 1), ((k : Int) + 5 * (j : Int) + 1 + 1 + 1), ((k : Int) + 5 * (j : Int) + 1 + 1 + 1 + 1)⟩ = mkP k (j + 1) ++ zs.drop (j + 1) := by
  rw [List.set_append_right _ _ (by simp [mkP_len])]
  have e : List.drop j zs = zs[j] :: zs.drop (j + 1) := by rw [List.drop_eq_getElem_cons (by omega)]
  rw [e, mkP_len, Nat.sub_self]
  simp [mkP, List.range_succ]
  rw [e]
  rfl
set_option maxHeartbeats 2000000 in
theorem markNodes_any (B : Nat) (A : Option Addr) (n c k : Nat) (xs : List Nd) (w : World) (h : OwnR encN 3 99 w B A n c xs) (hn : n ≤ 1048576) (hk0 : 0 < k) (hk1 : k ≤ 100000000000) :
    Calls Try.prog 79 #[.slice A n c, .int .i64 k] w fun e w' => e = .returned (.int .i64 ((k : Int) + 3 * (n : Int))) ∧ OwnR encN 3 99 w' B A n c (mkN k n) ∧ w.grownBy w' (A.map (·.block)) := by
  have hl := Lib.hid (h.len (by omega))
  go_enter Try.func79, Try.ntmps79
  go_wp2_with fail
  go_loopw [1, 5] (fun kk ii wr => ∃ j : Nat, j ≤ n ∧ ii = .int .i64 j ∧ kk = .int .i64 ((k : Int) + 3 * (j : Int)) ∧ OwnR encN 3 99 wr B A n c (mkN k j ++ xs.drop j) ∧ w.grownBy wr (A.map (·.block))) (fun _ ii _ => n - (intOf ii).toNat)
  case atStart => exact ⟨0, Nat.zero_le _, rfl, by simp, by simpa [mkN] using h, World.grownBy.refl w _⟩
  case round =>
    obtain ⟨j, hj, rfl, rfl, hown, hgr⟩ := hrel
    by_cases hlt : j < n
    · have hst := Lib.hid (mkN_step k hl.out hlt)
      obtain ⟨g, rfl, hBg, hgl⟩ := hown.form (by omega)
      go_wp2_with fail
      refine (markText_any (k + 3 * j) _ (by omega) (by omega)).mono ?_
      rintro e w1 ⟨rfl, hb1⟩
      have hown1 := hown.below hb1
      have hgr1 : w.grownBy w1 (some g) := hgr.trans ⟨hb1.os, hb1.tape, hb1.output, hb1.size, fun i hi _ => hb1.block i hi⟩
      obtain ⟨x, hx, hcs, hfs, _, hgl1⟩ := hown1.cells (by omega) hlt
      have c0 := hcs 0 _ rfl
      have f0 := hfs (j * 3)
      have c1 := hcs 1 _ rfl
      have f1 := hfs (j * 3 + 1)
      have c2 := hcs 2 _ rfl
      have f2 := hfs (j * 3 + 2)
      obtain ⟨hput, hgr2⟩ := hown1.put (by omega) hlt (x := ⟨mtx (k + 3 * j), ((k : Int) + 3 * (j : Int) + 1), ((k : Int) + 3 * (j : Int) + 1 + 1)⟩) rfl
      have HPUT := Lib.hid hput
      have HGR := Lib.hid (hgr1.trans hgr2)
      clear hown hown1 hcs hfs hput hgr2 hx hgr hgr1
      rw [Nat.add_zero] at c0
      go_wp2_with fail
      go_roundw
      case rel => exact ⟨j + 1, by omega, by go_num, by go_num, by rw [← hst.out]; exact HPUT.out, HGR.out⟩
      case measure => simp [intOf]; omega
    · go_wp2_with fail
      go_ret
      obtain rfl : j = n := by omega
      exact ⟨rfl, by simpa [List.drop_of_length_le (Nat.le_of_eq hl.out)] using hown, hgr⟩
set_option maxHeartbeats 2000000 in
theorem markPipes_any (B : Nat) (A : Option Addr) (n c k : Nat) (xs : List Pp) (w : World) (h : OwnR encP 5 66 w B A n c xs) (hn : n ≤ 1048576) (hk1 : k ≤ 100000000000) :
    Calls Try.prog 80 #[.slice A n c, .int .i64 k] w fun e w' => e = .returned (.int .i64 ((k : Int) + 5 * (n : Int))) ∧ OwnR encP 5 66 w' B A n c (mkP k n) ∧ w.grownBy w' (A.map (·.block)) := by
  have hl := Lib.hid (h.len (by omega))
  go_enter Try.func80, Try.ntmps80
  go_wp2_with fail
  go_loopw [1, 5] (fun kk ii wr => ∃ j : Nat, j ≤ n ∧ ii = .int .i64 j ∧ kk = .int .i64 ((k : Int) + 5 * (j : Int)) ∧ OwnR encP 5 66 wr B A n c (mkP k j ++ xs.drop j) ∧ w.grownBy wr (A.map (·.block))) (fun _ ii _ => n - (intOf ii).toNat)
  case atStart => exact ⟨0, Nat.zero_le _, rfl, by simp, by simpa [mkP] using h, World.grownBy.refl w _⟩
  case round =>
    obtain ⟨j, hj, rfl, rfl, hown, hgr⟩ := hrel
    by_cases hlt : j < n
    · have hst := Lib.hid (mkP_step k hl.out hlt)
      obtain ⟨g, rfl, hBg, hgl⟩ := hown.form (by omega)
      obtain ⟨x, hx, hcs, hfs, _, hgl1⟩ := hown.cells (by omega) hlt
      have c0 := hcs 0 _ rfl
      have f0 := hfs (j * 5)
      have c1 := hcs 1 _ rfl
      have f1 := hfs (j * 5 + 1)
      have c2 := hcs 2 _ rfl
      have f2 := hfs (j * 5 + 2)
      have c3 := hcs 3 _ rfl
      have f3 := hfs (j * 5 + 3)
      have c4 := hcs 4 _ rfl
      have f4 := hfs (j * 5 + 4)
      obtain ⟨hput, hgr2⟩ := hown.put (by omega) hlt (x := ⟨((k : Int) + 5 * (j : Int)), ((k : Int) + 5 * (j : Int) + 1), ((k : Int) + 5 * (j : Int) + 1 + 1), ((k : Int) + 5 * (j : Int) + 1 + 1 + 1), ((k : Int) + 5 * (j : Int) + 1 + 1 + 1 + 1)⟩) rfl
      have HPUT := Lib.hid hput
      have HGR := Lib.hid (hgr.trans hgr2)
      clear hown hcs hfs hput hgr2 hx hgr
      rw [Nat.add_zero] at c0
      go_wp2_with fail
      go_roundw
      case rel => exact ⟨j + 1, by omega, by go_num, by go_num, by rw [← hst.out]; exact HPUT.out, HGR.out⟩
      case measure => simp [intOf]; omega
    · go_wp2_with fail
      go_ret
      obtain rfl : j = n := by omega
      exact ⟨rfl, by simpa [List.drop_of_length_le (Nat.le_of_eq hl.out)] using hown, hgr⟩
set_option maxHeartbeats 2000000 in
theorem heldPipes_any (A : Option Addr) (n c k : Nat) (w : World) (h : Recs encP 5 w A n (mkP k n)) (hn : n ≤ 1048576) (hk1 : k ≤ 100000000000) :
    Calls Try.prog 86 #[.slice A n c, .int .i64 k] w fun e w' => e = .returned (.int .i64 ((k : Int) + 5 * (n : Int))) ∧ w = w' := by
  go_enter Try.func86, Try.ntmps86
  go_wp2_with fail
  go_loop [1, 5] (fun kk ii => ∃ j : Nat, j ≤ n ∧ ii = .int .i64 j ∧ kk = .int .i64 ((k : Int) + 5 * (j : Int))) (fun _ ii => n - (intOf ii).toNat)
  case atStart => exact ⟨0, Nat.zero_le _, rfl, by simp⟩
  case round =>
    obtain ⟨j, hj, rfl, rfl⟩ := hrel
    by_cases hlt : j < n
    · obtain ⟨b, o, x, rfl, hbl, hx, hcs⟩ := h.at_ hlt
      obtain rfl := Option.some.inj (hx.symm.trans (mkP_at k hlt))
      have c0 := hcs 0 _ rfl
      have c1 := hcs 1 _ rfl
      have c2 := hcs 2 _ rfl
      have c3 := hcs 3 _ rfl
      have c4 := hcs 4 _ rfl
      rw [Nat.add_zero] at c0
      clear hx hcs
      go_wp2_with fail
      go_round
      case rel => exact ⟨j + 1, by omega, by go_num, by go_num⟩
      case measure => simp [intOf]; omega
    · go_wp2_with fail
      go_ret
      obtain rfl : j = n := by omega
      exact ⟨rfl, rfl⟩
theorem rowsT_apart {w : World} {B B' : Nat} {e e' : TypeId} {k k' n n' : Nat} {v v' : Value} {xs ys : List Value} (h : w.ownsRow B e k v n xs) (h' : w.ownsRow B' e' k' v' n' ys) (hne : e ≠ e') : ∀ g, v.ownBlock = some g → v'.ownBlock ≠ some g := by
  intro g hg hg'
  rcases h.2 with ⟨rfl, _⟩ | ⟨g1, cap, cur, rfl, _, hb, _⟩
  · cases hg
  · rcases h'.2 with ⟨rfl, _⟩ | ⟨g2, cap', cur', rfl, _, hb', _⟩
    · cases hg'
    · simp [Value.ownBlock] at hg hg'
      subst hg hg'
      rw [hb] at hb'
      injection hb' with hb'
      injection hb' with _ hb'
      exact hne hb'
theorem grown_alloc {w w' : World} {row : Option Nat} (h : w.grownBy w' row) (o : Obj) : w.grownBy (w'.alloc o) row := h.trans ⟨rfl, rfl, rfl, by simp, fun k hk _ => Below.heap_alloc w' o k hk⟩
theorem alloc_grown {w : World} (o : Obj) (row : Option Nat) : w.grownBy (w.alloc o) row := grown_alloc (World.grownBy.refl w row) o
theorem nodes_pipes_apart {w : World} {B B' : Nat} {A A' : Option Addr} {n c n' c' : Nat} {zs : List Nd} {xs : List Pp} (h : OwnR encN 3 99 w B A n c zs) (h' : OwnR encP 5 66 w B' A' n' c' xs) :
    (∀ g, A = some ⟨g, 0, none⟩ → A'.map (·.block) ≠ some g) ∧ (∀ g, A' = some ⟨g, 0, none⟩ → A.map (·.block) ≠ some g) := by
  have h1 := rowsT_apart h.1 h'.1 (by decide)
  refine ⟨fun g hg hh => h1 g (by subst hg; rfl) ?_, fun g hg hh => h1 g ?_ (by subst hg; rfl)⟩
  · cases A' with
    | none => cases hh
    | some a => exact hh
  · cases A with
    | none => cases hh
    | some a => exact hh
section
attribute [local go_sem ↓] Go.wp_at_zero Go.wp_at_succ
set_option maxHeartbeats 2000000 in
theorem heldNodes_any (A : Option Addr) (n c k : Nat) (w : World) (h : Recs encN 3 w A n (mkN k n)) (hn : n ≤ 1048576) (hk0 : 0 < k) (hk1 : k ≤ 100000000000) :
    Calls Try.prog 85 #[.slice A n c, .int .i64 k] w fun e w' => e = .returned (.int .i64 ((k : Int) + 3 * (n : Int))) ∧ Below w.heap.size w w' := by
  go_enter Try.func85, Try.ntmps85
  go_wp2_with fail
  go_loopw [1, 5] (fun kk ii wr => ∃ j : Nat, j ≤ n ∧ ii = .int .i64 j ∧ kk = .int .i64 ((k : Int) + 3 * (j : Int)) ∧ Below w.heap.size w wr) (fun _ ii _ => n - (intOf ii).toNat)
  case atStart => exact ⟨0, Nat.zero_le _, rfl, by simp, Below.refl _ _⟩
  case round =>
    obtain ⟨j, hj, rfl, rfl, hb⟩ := hrel
    by_cases hlt : j < n
    · obtain ⟨b, o, x, rfl, hbl, hx, hcs⟩ := (h.below hb).at_ hlt
      obtain rfl := Option.some.inj (hx.symm.trans (mkN_at k hlt))
      have c0 := hcs 0 _ rfl
      have c1 := hcs 1 _ rfl
      have c2 := hcs 2 _ rfl
      rw [Nat.add_zero] at c0
      have i0 : (0 : Int) ≤ (j : Int) := by omega
      have i1 : (j : Int) < (n : Int) := by omega
      have hes : (!((mtx (k + 3 * j)).toList == (mtx (k + 3 * j)).toList)) = false := by simp
      have kV : Kept (Below w.heap.size w wr.drew) := ⟨hb.drew⟩
      clear hx hcs
      go_wp2_with fail
      go_region_held3 (fun w' => b < w'.heap.size ∧ w'.cell? ⟨b, o + j * 3, none⟩ = some (.string (mtx (k + 3 * j))) ∧ w'.cell? ⟨b, o + j * 3 + 1, none⟩ = some (.int .i64 ((k : Int) + 3 * (j : Int) + 1)) ∧ w'.cell? ⟨b, o + j * 3 + 2, none⟩ = some (.int .i64 ((k : Int) + 3 * (j : Int) + 1 + 1)) ∧ Kept (Below w.heap.size w w'))
        (first | go_keep | (go_split_ands; refine ⟨by have := hb2.size; omega, ?_, ?_, ?_, ⟨bthen (Kept.out ‹Kept (Below _ _ _)›) hb2 (Kept.out ‹Kept (Below _ _ _)›).size⟩⟩ <;> (rw [hb2.cell (by simp; omega)]; assumption)))
        (first | (go_at_call 109; refine (markText_any (k + 3 * j) _ (by omega) (by omega)).mono ?_; rintro e w2 ⟨rfl, hb2⟩))
      rename_i hh
      obtain ⟨g0, q0, q1, q2, ⟨hbn⟩⟩ := hh
      go_wp2_with fail
      go_roundw
      case rel => exact ⟨j + 1, by omega, by go_num, by go_num, hbn⟩
      case measure => simp [intOf]; omega
    · go_wp2_with fail
      go_ret
      obtain rfl : j = n := by omega
      exact ⟨rfl, hb⟩
end
set_option maxHeartbeats 2000000 in
theorem markNet_any (C D : Nat) (A B : Option Addr) (n c m d : Nat) (k : Nat) (ns : List Nd) (ps : List Pp) (w : World) (h1 : OwnR encN 3 99 w C A n c ns) (h2 : OwnR encP 5 66 w D B m d ps) (hn : n ≤ 1048576) (hm : m ≤ 1048576) (hk0 : 0 < k) (hk1 : k ≤ 10000000000) :
    Calls Try.prog 39 #[.agg #[.slice A n c, .slice B m d], .int .i64 k] w fun e w' => e = .returned (.int .i64 ((k : Int) + 3 * (n : Int) + 5 * (m : Int))) ∧ OwnR encN 3 99 w' C A n c (mkN k n) ∧ OwnR encP 5 66 w' D B m d (mkP (k + 3 * n) m) ∧
      ∃ w1, w.grownBy w1 (A.map (·.block)) ∧ w1.grownBy w' (B.map (·.block)) := by
  have hl1 := h1.lt
  have bx := box_new w #[.slice A n c, .slice B m d] 45
  go_enter Try.func39, Try.ntmps39
  go_wp2_with fail
  refine (markNodes_any C A n c k ns _ (h1.alloc _) hn hk0 (by omega)).mono ?_
  rintro e w1 ⟨rfl, ho1, hg1⟩
  have bx1 := bx.grown hg1 (fun hh => by have := (hl1 _ hh).2; omega)
  have xl := bx1.lt
  have x1 : w1.cell? ⟨w.heap.size, 1, none⟩ = some (.slice B m d) := bx1.cell 1
  have hp1 := (h2.alloc (.cells #[.slice A n c, .slice B m d] 45)).grown hg1 (nodes_pipes_apart h1 h2).2
  have hG := (alloc_grown (w := w) (.cells #[.slice A n c, .slice B m d] 45) (A.map (·.block))).trans hg1
  have ek : ((k : Int) + 3 * (n : Int)) = ((k + 3 * n : Nat) : Int) := by omega
  rw [ek]
  have HEK := Lib.hid ek
  clear ek hl1 hg1
  go_wp2_with fail
  refine (markPipes_any D B m d (k + 3 * n) ps _ hp1 hm (by omega)).mono ?_
  rintro e w2 ⟨rfl, ho2, hg2⟩
  have ho1' := ho1.grown hg2 (nodes_pipes_apart ho1 hp1).1
  go_wp2_with fail
  go_ret
  exact ⟨ri (by omega), ho1', ho2, w1, hG, hg2⟩
set_option maxHeartbeats 2000000 in
theorem heldNet_any (A B : Option Addr) (n c m d k : Nat) (w : World) (h1 : Recs encN 3 w A n (mkN k n)) (h2 : Recs encP 5 w B m (mkP (k + 3 * n) m)) (hn : n ≤ 1048576) (hm : m ≤ 1048576) (hk0 : 0 < k) (hk1 : k ≤ 10000000000) :
    Calls Try.prog 44 #[.agg #[.slice A n c, .slice B m d], .int .i64 k] w fun e w' => e = .returned (.int .i64 ((k : Int) + 3 * (n : Int) + 5 * (m : Int))) ∧ Below w.heap.size w w' := by
  have bx := box_new w #[.slice A n c, .slice B m d] 45
  have hw0 : ∀ cs t, Below w.heap.size w (w.alloc (.cells cs t)) := fun cs t => (Below.refl _ _).alloc (Nat.le_refl _) _
  go_enter Try.func44, Try.ntmps44
  go_wp2_with fail
  refine (heldNodes_any A n c k _ (h1.alloc _) hn hk0 (by omega)).mono ?_
  rintro e w1 ⟨rfl, hb1⟩
  have bx1 := bx.belowA hb1
  have xl := bx1.lt
  have x1 : w1.cell? ⟨w.heap.size, 1, none⟩ = some (.slice B m d) := bx1.cell 1
  have hB1 := bthen (hw0 _ _) hb1 (by simp)
  have ek : ((k : Int) + 3 * (n : Int)) = ((k + 3 * n : Nat) : Int) := by omega
  rw [ek]
  clear ek
  go_wp2_with fail
  refine (heldPipes_any B m d (k + 3 * n) _ (h2.below hB1) hm (by omega)).mono ?_
  rintro e w2 ⟨rfl, rfl⟩
  go_wp2_with fail
  go_ret
  exact ⟨ri (by omega), hB1⟩
end Go.Proofs.Ytoijogaogheciaa
