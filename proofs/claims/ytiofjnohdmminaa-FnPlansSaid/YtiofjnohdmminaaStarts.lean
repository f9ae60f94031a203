/- What StartsOf of the program and of the reference do, by walks over their text. Condition: at most 1048576 hours. -/
import Derived.Test.YtiofjnohdmminaaLists
import Derived.Test.YtiofjnohdmminaaPush
set_option linter.unusedVariables false
set_option maxRecDepth 100000
namespace Go.Proofs.Ytiofjnohdmminaa
open Go.RowKit Go.Joins

/-- A call returns a slice of its own that reads as zs, and a number, and leaves what was there. -/
def RetInts2 (w : World) (zs : List Int) (k : Int) (e : Ending) (w' : World) : Prop :=
  ∃ A c, e = .returned (.tuple #[.slice A zs.length c, .int .i64 k]) ∧ Own w' w.heap.size A zs.length c zs ∧ Below w.heap.size w w'
theorem own_nil (w : World) (B : Nat) : Own w B none 0 0 [] := ⟨World.ownsRow_nil _ _ _ _, fun z hz => absurd hz List.not_mem_nil⟩
theorem retInts2_nil (w : World) (k : Int) : RetInts2 w [] k (.returned (.tuple #[.slice none 0 0, .int .i64 k])) w := ⟨none, 0, rfl, own_nil _ _, Below.refl _ _⟩
theorem own_empty (w : World) (B : Nat) (hB : B ≤ w.heap.size) : Own (w.alloc (.cells #[] 2)) B (some ⟨w.heap.size, 0, none⟩) 0 0 [] :=
  ⟨World.ownsRow_lit (size := 1) w #[] 0 hB (Nat.zero_le _) rfl, fun z hz => absurd hz List.not_mem_nil⟩

/-- The hours before k in which the unit is on and was off in the hour before. -/
def startsTo (zs : List Int) : Nat → List Int
  | 0 => []
  | k + 1 => startsTo zs k ++ if zs[k]? = some 1 ∧ (k = 0 ∨ zs[k - 1]? = some 0) then [(k : Int)] else []
def startsCode (zs : List Int) : Int := if inB zs.length 1 48 = false then 3 else if allB zs 0 1 = false then 2 else 0
def startsOf (zs : List Int) : List Int := if startsCode zs = 0 then startsTo zs zs.length else []
theorem startsTo_le (zs : List Int) (k : Nat) : (startsTo zs k).length ≤ k := by
  induction k with
  | zero => simp [startsTo]
  | succ k ih =>
    rw [startsTo, List.length_append]
    split <;> simp <;> omega
theorem startsOf_le {zs : List Int} (h : zs.length ≤ 1048576) : (startsOf zs).length ≤ 1048576 := by
  unfold startsOf
  split
  · exact Nat.le_trans (startsTo_le _ _) h
  · simp
section
variable {zs : List Int} {k : Nat} {x p : Int}
theorem starts_no (hx : zs[k]? = some x) (h : (x == 1) = false) : startsTo zs k = startsTo zs (k + 1) := by
  have h' : x ≠ 1 := by simpa using h
  rw [startsTo, if_neg (by rw [hx]; simp [h'])]
  simp
theorem starts_off (hx : zs[k]? = some x) (h0 : ¬ k = 0) (hp : zs[k - 1]? = some p) (h : (p == 0) = false) : startsTo zs k = startsTo zs (k + 1) := by
  have h' : p ≠ 0 := by simpa using h
  rw [startsTo, if_neg (by rw [hp]; simp [h', h0])]
  simp
theorem starts_yes (hx : zs[k]? = some x) (h : (x == 1) = true) (hp : k = 0 ∨ ∃ p, zs[k - 1]? = some p ∧ (p == 0) = true) : startsTo zs k ++ [(k : Int)] = startsTo zs (k + 1) := by
  have h' : x = 1 := by simpa using h
  rw [startsTo, if_pos ⟨by rw [hx, h'], hp.imp id (fun ⟨p, h1, h2⟩ => by rw [h1]; simpa using h2)⟩]
end

set_option maxHeartbeats 2000000 in
theorem starts_any (A : Option Addr) (c : Nat) (zs : List Int) (w : World) (h : Ints w A zs.length zs) (hn : zs.length ≤ 1048576) :
    Calls Try.prog 25 #[.slice A zs.length c] w (RetInts2 w (startsOf zs) (startsCode zs)) := by
  rcases (orB (orB trivial) : inB zs.length 1 48 = false ∨ inB zs.length 1 48 = true ∧ (allB zs 0 1 = false ∨ allB zs 0 1 = true ∧ True)) with h1 | ⟨h1, h2 | ⟨h2, _⟩⟩
  · have e1 : startsCode zs = 3 := by simp [startsCode, h1]
    have e2 : startsOf zs = [] := by simp [startsOf, e1]
    rw [e1, e2]
    clear e1 e2
    go_enter Try.func25, Try.ntmps25
    go_wp2_with (go_at_call 53; refine (areHours_any _ _ _ _ hn).mono ?_; rintro e w' ⟨rfl, rfl⟩)
    go_ret2
    exact retInts2_nil _ _
  · have e1 : startsCode zs = 2 := by simp [startsCode, h1, h2]
    have e2 : startsOf zs = [] := by simp [startsOf, e1]
    rw [e1, e2]
    clear e1 e2
    go_enter Try.func25, Try.ntmps25
    go_wp2_with (first | (go_at_call 53; refine (areHours_any _ _ _ _ hn).mono ?_; rintro e w' ⟨rfl, rfl⟩) | (go_at_call 54; refine (allWithin_any _ _ _ _ _ _ _ h hn).mono ?_; rintro e w' ⟨rfl, rfl⟩))
    go_ret2
    exact retInts2_nil _ _
  · have e1 : startsCode zs = 0 := by simp [startsCode, h1, h2]
    have e2 : startsOf zs = startsTo zs zs.length := by simp [startsOf, e1]
    rw [e1, e2]
    clear e1 e2
    have hn48 : zs.length ≤ 48 := by have := (inB_iff _ _ _).1 h1; omega
    go_enter Try.func25, Try.ntmps25
    go_wp2_with (first | (go_at_call 53; refine (areHours_any _ _ _ _ hn).mono ?_; rintro e w' ⟨rfl, rfl⟩) | (go_at_call 54; refine (allWithin_any _ _ _ _ _ _ _ h hn).mono ?_; rintro e w' ⟨rfl, rfl⟩))
    generalize hnl : zs.length = n at *
    have HL := Lib.hid hnl
    clear hnl
    go_loopw [4, 17] (fun st ii wr => ∃ (k : Nat) (A2 : Option Addr) (c1 m : Nat), k ≤ n ∧ ii = .int .i64 k ∧ st = .slice A2 m c1 ∧ Own wr w.heap.size A2 m c1 (startsTo zs k) ∧ Below w.heap.size w wr ∧ m ≤ k) (fun _ ii _ => n - (intOf ii).toNat)
    case atStart => exact ⟨0, none, 0, 0, Nat.zero_le _, rfl, rfl, own_nil _ _, Below.refl _ _, Nat.le_refl _⟩
    case round =>
      obtain ⟨k, A2, c1, m, hk, rfl, rfl, hown, hb, hm⟩ := hrel
      by_cases hlt : k < n
      · have h' := h.below hb
        obtain ⟨b, o, x, rfl, hbl, hx, hx64, hcx⟩ := h'.at_ hlt
        have HX := Lib.hid hx
        clear hx
        cases t1 : (x == 1)
        · have HC := Lib.hid (starts_no HX.out t1)
          generalize startsTo zs k = S at *
          obtain rfl : S.length = m := hown.len
          go_wp2_with fail
          go_roundw
          case rel => exact ⟨k + 1, A2, c1, S.length, by omega, by go_num, rfl, HC.out ▸ hown, hb, by omega⟩
          case measure => simp [intOf]; omega
        · by_cases hk0 : k = 0
          · have HC := Lib.hid (starts_yes HX.out t1 (.inl hk0))
            have hk1 : ((k : Int) == 0) = true := by simp; omega
            clear hk0
            generalize startsTo zs k = S at *
            obtain rfl : S.length = m := hown.len
            go_wp2_with (at_builtin; refine wpList_push wr rfl _ _ rfl w.heap.size _ _ _ _ (k : Int) rfl rfl hown (WalkArith.wf_i64 (by omega)) (by omega) (by have := hb.size; omega) ?_; intro g c2 w2 hown2 hb2 _ _)
            go_roundw
            case rel => exact ⟨k + 1, some ⟨g, 0, none⟩, c2, S.length + 1, by omega, by go_num, rfl, HC.out ▸ hown2, hb.trans hb2, by omega⟩
            case measure => simp [intOf]; omega
          · obtain ⟨b'', o'', p, hA, _, hp, hp64, hcp⟩ := h'.at_ (show k - 1 < n by omega)
            obtain ⟨rfl, rfl⟩ : b = b'' ∧ o = o'' := by injection hA with hA; injection hA with h1 h2; exact ⟨h1, h2⟩
            have HP := Lib.hid hp
            clear hp hA
            have hk1 : ((k : Int) == 0) = false := by simp; omega
            have e3 : ((k : Int) - 1).toNat = k - 1 := by omega
            cases t2 : (p == 0)
            · have HC := Lib.hid (starts_off HX.out hk0 HP.out t2)
              generalize startsTo zs k = S at *
              obtain rfl : S.length = m := hown.len
              go_wp2_with fail
              go_roundw
              case rel => exact ⟨k + 1, A2, c1, S.length, by omega, by go_num, rfl, HC.out ▸ hown, hb, by omega⟩
              case measure => simp [intOf]; omega
            · have HC := Lib.hid (starts_yes HX.out t1 (.inr ⟨p, HP.out, t2⟩))
              generalize startsTo zs k = S at *
              obtain rfl : S.length = m := hown.len
              go_wp2_with (at_builtin; refine wpList_push wr rfl _ _ rfl w.heap.size _ _ _ _ (k : Int) rfl rfl hown (WalkArith.wf_i64 (by omega)) (by omega) (by have := hb.size; omega) ?_; intro g c2 w2 hown2 hb2 _ _)
              go_roundw
              case rel => exact ⟨k + 1, some ⟨g, 0, none⟩, c2, S.length + 1, by omega, by go_num, rfl, HC.out ▸ hown2, hb.trans hb2, by omega⟩
              case measure => simp [intOf]; omega
      · go_wp2_with fail
        go_ret2
        obtain rfl : k = n := by omega
        obtain rfl : (startsTo zs k).length = m := hown.len
        exact ⟨_, _, rfl, hown, hb⟩
set_option maxHeartbeats 2000000 in
theorem sStarts_any (A : Option Addr) (c : Nat) (zs : List Int) (w : World) (h : Ints w A zs.length zs) (hn : zs.length ≤ 1048576) :
    Calls Try.prog 23 #[.slice A zs.length c] w (RetInts2 w (startsOf zs) (startsCode zs)) := by
  rcases (orB (orB trivial) : inB zs.length 1 48 = false ∨ inB zs.length 1 48 = true ∧ (allB zs 0 1 = false ∨ allB zs 0 1 = true ∧ True)) with h1 | ⟨h1, h2 | ⟨h2, _⟩⟩
  · have e1 : startsCode zs = 3 := by simp [startsCode, h1]
    have e2 : startsOf zs = [] := by simp [startsOf, e1]
    rw [e1, e2]
    clear e1 e2
    go_enter Try.func23, Try.ntmps23
    go_wp2_with (go_at_call 51; refine (hours_any _ _ _ _ hn).mono ?_; rintro e w' ⟨rfl, rfl⟩)
    go_ret2
    exact retInts2_nil _ _
  · have e1 : startsCode zs = 2 := by simp [startsCode, h1, h2]
    have e2 : startsOf zs = [] := by simp [startsOf, e1]
    rw [e1, e2]
    clear e1 e2
    go_enter Try.func23, Try.ntmps23
    go_wp2_with (first | (go_at_call 51; refine (hours_any _ _ _ _ hn).mono ?_; rintro e w' ⟨rfl, rfl⟩) | (go_at_call 52; refine (bits_any _ _ _ _ _ h hn).mono ?_; rintro e w' ⟨rfl, rfl⟩))
    go_ret2
    exact retInts2_nil _ _
  · have e1 : startsCode zs = 0 := by simp [startsCode, h1, h2]
    have e2 : startsOf zs = startsTo zs zs.length := by simp [startsOf, e1]
    rw [e1, e2]
    clear e1 e2
    have hn48 : zs.length ≤ 48 := by have := (inB_iff _ _ _).1 h1; omega
    go_enter Try.func23, Try.ntmps23
    go_wp2_with (first | (go_at_call 51; refine (hours_any _ _ _ _ hn).mono ?_; rintro e w' ⟨rfl, rfl⟩) | (go_at_call 52; refine (bits_any _ _ _ _ _ h hn).mono ?_; rintro e w' ⟨rfl, rfl⟩))
    generalize hnl : zs.length = n at *
    have HL := Lib.hid hnl
    clear hnl
    go_loopw [4, 5] (fun st ii wr => ∃ (k : Nat) (A2 : Option Addr) (c1 m : Nat), k ≤ n ∧ ii = .int .i64 k ∧ st = .slice A2 m c1 ∧ Own wr w.heap.size A2 m c1 (startsTo zs k) ∧ Below w.heap.size w wr ∧ m ≤ k) (fun _ ii _ => n - (intOf ii).toNat)
    case atStart => exact ⟨0, _, _, 0, Nat.zero_le _, rfl, rfl, own_empty _ _ (Nat.le_refl _), (Below.refl _ _).alloc (Nat.le_refl _) _, Nat.le_refl _⟩
    case round =>
      obtain ⟨k, A2, c1, m, hk, rfl, rfl, hown, hb, hm⟩ := hrel
      by_cases hlt : k < n
      · have h' := h.below hb
        obtain ⟨b, o, x, rfl, hbl, hx, hx64, hcx⟩ := h'.at_ hlt
        have HX := Lib.hid hx
        clear hx
        cases t1 : (x == 1)
        · have HC := Lib.hid (starts_no HX.out t1)
          generalize startsTo zs k = S at *
          obtain rfl : S.length = m := hown.len
          go_wp2_with fail
          go_roundw
          case rel => exact ⟨k + 1, A2, c1, S.length, by omega, by go_num, rfl, HC.out ▸ hown, hb, by omega⟩
          case measure => simp [intOf]; omega
        · by_cases hk0 : k = 0
          · have HC := Lib.hid (starts_yes HX.out t1 (.inl hk0))
            have hk1 : ((k : Int) == 0) = true := by simp; omega
            clear hk0
            generalize startsTo zs k = S at *
            obtain rfl : S.length = m := hown.len
            go_wp2_with (at_builtin; refine wpList_push wr rfl _ _ rfl w.heap.size _ _ _ _ (k : Int) rfl rfl hown (WalkArith.wf_i64 (by omega)) (by omega) (by have := hb.size; omega) ?_; intro g c2 w2 hown2 hb2 _ _)
            go_roundw
            case rel => exact ⟨k + 1, some ⟨g, 0, none⟩, c2, S.length + 1, by omega, by go_num, rfl, HC.out ▸ hown2, hb.trans hb2, by omega⟩
            case measure => simp [intOf]; omega
          · obtain ⟨b'', o'', p, hA, _, hp, hp64, hcp⟩ := h'.at_ (show k - 1 < n by omega)
            obtain ⟨rfl, rfl⟩ : b = b'' ∧ o = o'' := by injection hA with hA; injection hA with h1 h2; exact ⟨h1, h2⟩
            have HP := Lib.hid hp
            clear hp hA
            have hk1 : ((k : Int) == 0) = false := by simp; omega
            have e3 : ((k : Int) - 1).toNat = k - 1 := by omega
            cases t2 : (p == 0)
            · have HC := Lib.hid (starts_off HX.out hk0 HP.out t2)
              generalize startsTo zs k = S at *
              obtain rfl : S.length = m := hown.len
              go_wp2_with fail
              go_roundw
              case rel => exact ⟨k + 1, A2, c1, S.length, by omega, by go_num, rfl, HC.out ▸ hown, hb, by omega⟩
              case measure => simp [intOf]; omega
            · have HC := Lib.hid (starts_yes HX.out t1 (.inr ⟨p, HP.out, t2⟩))
              generalize startsTo zs k = S at *
              obtain rfl : S.length = m := hown.len
              go_wp2_with (at_builtin; refine wpList_push wr rfl _ _ rfl w.heap.size _ _ _ _ (k : Int) rfl rfl hown (WalkArith.wf_i64 (by omega)) (by omega) (by have := hb.size; omega) ?_; intro g c2 w2 hown2 hb2 _ _)
              go_roundw
              case rel => exact ⟨k + 1, some ⟨g, 0, none⟩, c2, S.length + 1, by omega, by go_num, rfl, HC.out ▸ hown2, hb.trans hb2, by omega⟩
              case measure => simp [intOf]; omega
      · go_wp2_with fail
        go_ret2
        obtain rfl : k = n := by omega
        obtain rfl : (startsTo zs k).length = m := hown.len
        exact ⟨_, _, rfl, hown, hb⟩
end Go.Proofs.Ytiofjnohdmminaa
