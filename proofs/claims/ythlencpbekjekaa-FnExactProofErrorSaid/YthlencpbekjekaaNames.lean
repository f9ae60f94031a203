/- Names of nodes: what isName and l02Name do, by walks over their text. No condition but that the string fits in memory. -/
import Derived.Test.YthlencpbekjekaaNets
import Derived.Test.YthlencpbekjekaaInts
set_option linter.unusedVariables false
set_option maxRecDepth 100000
namespace Go.Proofs.Ythlencpbekjekaa
open Go.ChangeShapes Go.WideShapes Go.ChangeAt Go.RowKit Go.Joins Go.Deep

/-- A letter or a digit. -/
def nameC (c : UInt8) : Bool := (decide (97 ≤ (c.toNat : Int)) && decide ((c.toNat : Int) ≤ 122)) || (decide (48 ≤ (c.toNat : Int)) && decide ((c.toNat : Int) ≤ 57))
def nameB (s : ByteArray) : Bool := decide (1 ≤ s.size) && (decide (s.size ≤ 8) && s.data.toList.all nameC)
theorem nameC_ways (c : UInt8) : ((97 ≤ (c.toNat : Int) ∧ (c.toNat : Int) ≤ 122) ∧ Hid (nameC c = true)) ∨ ((97 ≤ (c.toNat : Int) ∧ ¬ (c.toNat : Int) ≤ 122 ∧ 48 ≤ (c.toNat : Int) ∧ ¬ (c.toNat : Int) ≤ 57) ∧ Hid (nameC c = false)) ∨ ((¬ 97 ≤ (c.toNat : Int) ∧ 48 ≤ (c.toNat : Int) ∧ (c.toNat : Int) ≤ 57) ∧ Hid (nameC c = true)) ∨
    ((¬ 97 ≤ (c.toNat : Int) ∧ 48 ≤ (c.toNat : Int) ∧ ¬ (c.toNat : Int) ≤ 57) ∧ Hid (nameC c = false)) ∨ ((¬ 97 ≤ (c.toNat : Int) ∧ ¬ 48 ≤ (c.toNat : Int)) ∧ Hid (nameC c = false)) := by
  have e : nameC c = decide ((97 ≤ (c.toNat : Int) ∧ (c.toNat : Int) ≤ 122) ∨ (48 ≤ (c.toNat : Int) ∧ (c.toNat : Int) ≤ 57)) := by simp [nameC]
  have y : (97 ≤ (c.toNat : Int) ∧ (c.toNat : Int) ≤ 122) ∨ (48 ≤ (c.toNat : Int) ∧ (c.toNat : Int) ≤ 57) → nameC c = true := fun h => by rw [e]; exact decide_eq_true h
  have n : ¬ ((97 ≤ (c.toNat : Int) ∧ (c.toNat : Int) ≤ 122) ∨ (48 ≤ (c.toNat : Int) ∧ (c.toNat : Int) ≤ 57)) → nameC c = false := fun h => by rw [e]; exact decide_eq_false h
  generalize (c.toNat : Int) = z at *
  by_cases a : 97 ≤ z
  · by_cases b : z ≤ 122
    · exact .inl ⟨⟨a, b⟩, y (.inl ⟨a, b⟩)⟩
    · exact .inr (.inl ⟨⟨a, b, by omega, by omega⟩, n (by omega)⟩)
  · by_cases b : 48 ≤ z
    · by_cases d : z ≤ 57
      · exact .inr (.inr (.inl ⟨⟨a, b, d⟩, y (.inr ⟨b, d⟩)⟩))
      · exact .inr (.inr (.inr (.inl ⟨⟨a, b, d⟩, n (by omega)⟩)))
    · exact .inr (.inr (.inr (.inr ⟨⟨a, b⟩, n (by omega)⟩)))
theorem take_snoc (s : ByteArray) (k : Nat) (h : k < s.size) : s.data.toList.take (k + 1) = s.data.toList.take k ++ [s[k]] := by
  rw [List.take_succ_eq_append_getElem (by simpa using h)]; rfl
theorem name_step {s : ByteArray} {k : Nat} (h : k < s.size) (hp : (s.data.toList.take k).all nameC = true) (hc : nameC s[k] = true) : (s.data.toList.take (k + 1)).all nameC = true := by
  rw [take_snoc s k h, List.all_append, hp]; simp [hc]
theorem name_bad {s : ByteArray} {k : Nat} (h : k < s.size) (hc : nameC s[k] = false) : s.data.toList.all nameC = false := by
  rw [List.all_eq_false]
  refine ⟨s[k], ?_, by simp [hc]⟩
  have : s.data.toList[k]? = some s[k] := by rw [List.getElem?_eq_getElem (by simpa using h)]; rfl
  exact List.mem_of_getElem? this
theorem name_all {s : ByteArray} {k : Nat} (h : ¬ k < s.size) (hp : (s.data.toList.take k).all nameC = true) : s.data.toList.all nameC = true := by
  rwa [List.take_of_length_le (by simp; omega)] at hp
set_option maxHeartbeats 2000000 in
theorem isName_any (s : ByteArray) (w : World) (hs : s.size ≤ maxLen) :
    Calls Try.prog 58 #[.string s] w fun e w' => e = .returned (.bool (nameB s)) ∧ w = w' := by
  unfold maxLen at hs
  by_cases h1 : s.size < 1
  · have e := Lib.hid (show nameB s = false by unfold nameB; rw [decide_eq_false (by omega)]; rfl)
    go_enter Try.func58, Try.ntmps58
    go_wp2
    go_ret
    exact ⟨rb e.out.symm, rfl⟩
  by_cases h2 : 8 < s.size
  · have e := Lib.hid (show nameB s = false by unfold nameB; rw [decide_eq_false (by omega : ¬ s.size ≤ 8)]; simp)
    go_enter Try.func58, Try.ntmps58
    go_wp2
    go_ret
    exact ⟨rb e.out.symm, rfl⟩
  have HE := Lib.hid (show nameB s = s.data.toList.all nameC by unfold nameB; rw [decide_eq_true (by omega : 1 ≤ s.size), decide_eq_true (by omega : s.size ≤ 8)]; rfl)
  go_enter Try.func58, Try.ntmps58
  go_wp2
  go_loop [3] (fun i => ∃ k : Nat, k ≤ s.size ∧ i = .int .i64 k ∧ Hid ((s.data.toList.take k).all nameC = true)) (fun i => s.size - (intOf i).toNat)
  case atStart => exact ⟨0, Nat.zero_le _, rfl, rfl⟩
  case round =>
    obtain ⟨k, hk, rfl, HP⟩ := hrel
    by_cases hlt : k < s.size
    · rcases nameC_ways s[k] with ⟨⟨a, b⟩, HC⟩ | ⟨⟨a, b, c, d⟩, HC⟩ | ⟨⟨a, b, c⟩, HC⟩ | ⟨⟨a, b, c⟩, HC⟩ | ⟨⟨a, b⟩, HC⟩
      all_goals go_wp2
      all_goals first
        | (exfalso; omega)
        | (go_round
           case rel => exact ⟨k + 1, by omega, by go_num, name_step hlt HP.out HC.out⟩
           case measure => simp [intOf]; omega)
        | (go_ret
           exact ⟨rb (by rw [HE.out, name_bad hlt HC.out]), rfl⟩)
    · go_wp2
      go_ret
      exact ⟨rb (by rw [HE.out, name_all hlt HP.out]), rfl⟩
set_option maxHeartbeats 2000000 in
theorem sName_any (s : ByteArray) (w : World) (hs : s.size ≤ maxLen) :
    Calls Try.prog 57 #[.string s] w fun e w' => e = .returned (.bool (nameB s)) ∧ w = w' := by
  unfold maxLen at hs
  go_enter Try.func57, Try.ntmps57
  go_wp2
  go_loop [3] (fun i => ∃ k : Nat, k ≤ s.size ∧ i = .int .i64 k ∧ Hid ((s.data.toList.take k).all nameC = true)) (fun i => s.size - (intOf i).toNat)
  case atStart => exact ⟨0, Nat.zero_le _, rfl, rfl⟩
  case round =>
    obtain ⟨k, hk, rfl, HP⟩ := hrel
    by_cases hlt : k < s.size
    · rcases nameC_ways s[k] with ⟨⟨a, b⟩, HC⟩ | ⟨⟨a, b, c, d⟩, HC⟩ | ⟨⟨a, b, c⟩, HC⟩ | ⟨⟨a, b, c⟩, HC⟩ | ⟨⟨a, b⟩, HC⟩
      all_goals go_wp2
      all_goals first
        | (exfalso; omega)
        | (go_round
           case rel => exact ⟨k + 1, by omega, by go_num, name_step hlt HP.out HC.out⟩
           case measure => simp [intOf]; omega)
        | (go_ret
           exact ⟨rb (by unfold nameB; rw [name_bad hlt HC.out]; simp), rfl⟩)
    · have HA := Lib.hid (name_all hlt HP.out)
      by_cases h1 : 1 ≤ s.size
      · by_cases h2 : s.size ≤ 8
        · go_wp2
          go_ret
          exact ⟨rb (by unfold nameB; rw [HA.out]; first | (simp [h1, h2]; done) | (simp [h1, h2]; omega) | (rw [Bool.eq_iff_iff]; simp; omega)), rfl⟩
        · go_wp2
          go_ret
          exact ⟨rb (by unfold nameB; rw [HA.out]; first | (simp [h1, h2]; done) | (simp [h1, h2]; omega) | (rw [Bool.eq_iff_iff]; simp; omega)), rfl⟩
      · go_wp2
        go_ret
        exact ⟨rb (by unfold nameB; rw [HA.out]; first | (simp [h1]; done) | (simp [h1]; omega) | (rw [Bool.eq_iff_iff]; simp; omega)), rfl⟩
end Go.Proofs.Ythlencpbekjekaa
