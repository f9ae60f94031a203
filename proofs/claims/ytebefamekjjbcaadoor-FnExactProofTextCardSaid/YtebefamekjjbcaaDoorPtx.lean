/- What l01Dec, l12Number, decimal do, by walks over their text; the text of a proof. -/
import Derived.Test.YtebefamekjjbcaaDoorPErr
import Derived.Shelf.Strings.BuilderK
import Derived.Shelf.Strconv.Itoa4
import Derived.Lib.LaidTab
import Derived.Lib.ItoaLen
import Derived.Lib.AppendIntMem
import Derived.Laws.BytesArg
set_option linter.unusedVariables false
set_option maxRecDepth 100000
namespace Go.Proofs.YtebefamekjjbcaaDoor
open Go.ChangeShapes Go.WideShapes Go.ChangeAt Go.RowKit Go.Joins Go.Deep Go.Shelf
attribute [local go_sem ↓] Go.wp_at_zero Go.wp_at_succ

/-- A number's text. -/
def numB (z : Int) : ByteArray := ⟨(Lib.itoa z).toArray⟩
def decB (z : Int) : ByteArray := ⟨(Lib.decDigits z.toNat).toArray⟩
theorem rsS {a b : ByteArray} (h : a = b) : Ending.returned (.string a) = .returned (.string b) := by rw [h]
theorem numB_size {z : Int} (h0 : -9223372036854775808 ≤ z) (h1 : z ≤ 9223372036854775807) : (numB z).size ≤ 21 := by
  have := Lib.itoa_length_le z h0 h1
  simpa [numB, ByteArray.size] using this
theorem decB_size {z : Int} (h0 : 0 ≤ z) (h1 : z ≤ 9223372036854775807) : (decB z).size ≤ 20 := by
  have := Lib.nDigits_le20 z.toNat (by omega)
  have e : (decB z).size = (Lib.decDigits z.toNat).length := by simp [decB, ByteArray.size]
  rw [e, Lib.decDigits_length]
  exact this
theorem numB_nonneg {z : Int} (h : 0 ≤ z) : numB z = decB z := by
  obtain ⟨u, rfl⟩ := Int.eq_ofNat_of_zero_le h
  unfold numB decB
  rw [Lib.itoa_nonneg]
  rfl
theorem numB_neg {z : Int} (h : z < 0) : numB z = ⟨#[45]⟩ ++ decB (-z) := by
  obtain ⟨u, hu⟩ := Int.eq_ofNat_of_zero_le (show 0 ≤ -z by omega)
  obtain rfl : z = -(u : Int) := by omega
  unfold numB decB
  rw [Lib.itoa_neg u (by omega)]
  have e : (- -(u : Int)).toNat = u := by omega
  rw [e]
  apply ByteArray.ext
  simp [ByteArray.data_append]
theorem decB_one {z : Int} (h0 : 0 ≤ z) (h : z < 10) : decB z = strOfNums [48 + z] := by
  obtain ⟨u, rfl⟩ := Int.eq_ofNat_of_zero_le h0
  unfold decB strOfNums
  rw [show ((u : Int)).toNat = u from rfl, Lib.decDigits_one (by omega)]
  have e : (48 + (u : Int)).toNat = 48 + u := by omega
  simp [e]
theorem decB_more {z : Int} (h : 10 ≤ z) : decB z = decB (z / 10) ++ strOfNums [48 + z % 10] := by
  obtain ⟨u, rfl⟩ := Int.eq_ofNat_of_zero_le (show 0 ≤ z by omega)
  have e1 : ((u : Int) / 10).toNat = u / 10 := by omega
  have e2 : (48 + (u : Int) % 10).toNat = 48 + u % 10 := by omega
  unfold decB strOfNums
  rw [show ((u : Int)).toNat = u from rfl, e1]
  rw [Lib.decDigits, dif_neg (by omega)]
  apply ByteArray.ext
  simp [ByteArray.data_append, e2]
set_option maxHeartbeats 4000000 in
theorem sDecs_any : ∀ (u : Nat) (z : Int), z.toNat = u → 0 ≤ z → z ≤ 9223372036854775807 → ∀ w : World,
    Calls Tryd.prog 30 #[.int .i64 z] w fun e w' => e = .returned (.string (decB z)) ∧ Below w.heap.size w w' := by
  intro u
  induction u using Nat.strongRecOn with
  | _ u ih =>
  intro z hzu h0 h1 w
  have hrunG : ∀ (W : World) (g : Nat) (x : Int), W.cell? ⟨g, 0, none⟩ = some (.int .u8 x) → (convert 55 9 (.slice (some ⟨g, 0, none⟩) 1 1)).run Tryd.prog W = .ok (.string (strOfNums [x])) W := fun W g x hc =>
    run_convert_bytes_arg (P := Tryd.prog) (w := W) 55 5 Tryd.underlying55 Tryd.underlying5 g 0 1 1 [x] rfl (fun j hj => by
      obtain rfl : j = 0 := by omega
      exact hc) 9 Tryd.underlying9
  have hrowG : ∀ (W : World) (x : Int), (W.alloc (.cells #[.int .u8 x] 5)).cell? ⟨W.heap.size, 0, none⟩ = some (.int .u8 x) := fun W x => by
    rw [cell_of_row _ _ 0 _ _ (0, 0) (heap_alloc_new _ _)]
    rfl
  by_cases h10 : z < 10
  · have hb : Below w.heap.size w (w.alloc (.cells #[.int .u8 (48 + z)] 5)) := (Below.refl _ _).alloc (Nat.le_refl _) _
    have hrun := hrunG _ _ _ (hrowG w (48 + z))
    have HD := Lib.hid (decB_one h0 h10)
    clear ih hrunG hrowG
    go_enter Tryd.func30, Tryd.ntmps30
    go_wp2_with fail
    go_ret
    exact ⟨rsS HD.out.symm, hb⟩
  · have hq0 : 0 ≤ z / 10 := by omega
    have hq1 : z / 10 ≤ 922337203685477580 := by omega
    have hr0 : 0 ≤ z % 10 := by omega
    have hr1 : z % 10 < 10 := by omega
    have IH := Kept.mk (ih (z / 10).toNat (by omega) (z / 10) rfl hq0 (by omega))
    have HD := Lib.hid (decB_more (z := z) (by omega))
    have hsz := decB_size hq0 (by omega)
    have eq1 : z.tdiv 10 = z / 10 := Int.tdiv_eq_ediv_of_nonneg h0
    have eq2 : z.tmod 10 = z % 10 := Int.tmod_eq_emod_of_nonneg h0
    obtain ⟨q, hq⟩ : ∃ q, z / 10 = q := ⟨_, rfl⟩
    obtain ⟨r, hr⟩ : ∃ r, z % 10 = r := ⟨_, rfl⟩
    rw [hq] at hq0 hq1 IH HD hsz eq1
    rw [hr] at hr0 hr1 HD eq2
    obtain ⟨S, hS⟩ : ∃ S, decB q = S := ⟨_, rfl⟩
    rw [hS] at IH HD hsz
    obtain ⟨T, hT⟩ : ∃ T, strOfNums [48 + r] = T := ⟨_, rfl⟩
    have hts : T.size = 1 := by rw [← hT, strOfNums_size]; rfl
    rw [hT] at HD
    have HR := Lib.hid (fun W g (hc : World.cell? W ⟨g, 0, none⟩ = some (.int .u8 (48 + r))) => (hrunG W g (48 + r) hc).trans (by rw [hT]))
    have HRW := Lib.hid (fun W => hrowG W (48 + r))
    have hcat : ¬ 9223372036854775807 < S.size + T.size := by omega
    have hrA := HR.out _ _ (HRW.out w.drew)
    have hrA2 : (convert 55 9 (.slice (some ⟨w.heap.size, 0, none⟩) 1 1)).run Tryd.prog (w.alloc (.cells #[.int .u8 (48 + r)] 5)).drew = .ok (.string T) (w.alloc (.cells #[.int .u8 (48 + r)] 5)).drew := hrA
    have s1 : IntKind.i64.wrap q = q := IntWalk.i64_in _ (by omega)
    have s2 : IntKind.i64.wrap (48 + r) = 48 + r := IntWalk.i64_in _ (by omega)
    have s3 : IntKind.u8.wrap (48 + r) = 48 + r := IntWalk.u8_in _ (by omega)
    clear ih hrunG hrowG hq hr hS hT hts hrA
    go_enter Tryd.func30, Tryd.ntmps30
    go_upto_region 3 with fail
    go_region_with (first | (go_at_call 30; refine (IH.out w.drew).mono ?_; rintro e1 w1 ⟨rfl, hb1⟩; have hrB := HR.out _ _ (HRW.out w1); have HB := Lib.hid hb1; clear hb1) | (go_at_call 30; refine (IH.out (w.alloc (.cells #[.int .u8 (48 + r)] 5)).drew).mono ?_; rintro e1 w1 ⟨rfl, hb1⟩; have hrB := HR.out w1 w.heap.size ((hb1.cell (p := ⟨w.heap.size, 0, none⟩) (by simp)).trans (HRW.out w.drew)); have HB := Lib.hid hb1; clear hb1))
    all_goals
      try go_wp2_with fail
      go_ret
      refine ⟨rsS HD.out.symm, ?_⟩
      first | exact bthen (Below.refl _ _).drew HB.out (Nat.le_refl _) | exact (bthen (Below.refl _ _).drew HB.out (Nat.le_refl _)).alloc (by have := HB.out.size; simpa using this) _ | exact bthen ((Below.refl _ _).alloc (Nat.le_refl _) _).drew HB.out (by simp)
theorem sNum_any (z : Int) (w : World) (h0 : -9223372036854775807 ≤ z) (h1 : z ≤ 9223372036854775807) :
    Calls Tryd.prog 16 #[.int .i64 z] w fun e w' => e = .returned (.string (numB z)) ∧ Below w.heap.size w w' := by
  by_cases hz : z < 0
  · have HD := Lib.hid (numB_neg hz)
    have hsz := decB_size (z := -z) (by omega) (by omega)
    have HC := Lib.hid (sDecs_any _ (-z) rfl (by omega) (by omega))
    obtain ⟨S, hS⟩ : ∃ S, decB (-z) = S := ⟨_, rfl⟩
    rw [hS] at HD hsz HC
    have hcat : ¬ 9223372036854775807 < (⟨#[45]⟩ : ByteArray).size + S.size := by
      have : (⟨#[45]⟩ : ByteArray).size = 1 := rfl
      omega
    have hcat2 : ¬ 9223372036854775807 < 1 + S.size := by omega
    clear hS
    go_enter Tryd.func16, Tryd.ntmps16
    go_wp2_with fail
    refine (HC.out _).mono ?_
    rintro e1 w1 ⟨rfl, hb1⟩
    go_wp2_with fail
    go_ret
    exact ⟨rsS HD.out.symm, hb1⟩
  · have HD := Lib.hid (numB_nonneg (z := z) (by omega))
    go_enter Tryd.func16, Tryd.ntmps16
    go_wp2_with fail
    refine (sDecs_any _ z rfl (by omega) (by omega) _).mono ?_
    rintro e1 w1 ⟨rfl, hb1⟩
    go_wp2_with fail
    go_ret
    exact ⟨rsS HD.out.symm, hb1⟩
def Tryd.laysFI_ren : Go.Shelf.Ren := ⟨fun | 173 => 36 | 246 => 46 | 283 => 55 | 284 => 56 | 285 => 57 | 286 => 58 | 129 => 64 | 317 => 63 | 318 => 65 | 319 => 66 | 320 => 67 | 337 => 68 | 338 => 69 | n => n, fun | 2 => 2 | 3 => 3 | 9 => 9 | 4 => 4 | 171 => 88 | 0 => 0 | 53 => 89 | 37 => 55 | 5 => 5 | 173 => 92 | 212 => 98 | 51 => 99 | 20 => 20 | 213 => 100 | 46 => 102 | 232 => 105 | 233 => 106 | n => n, fun | 17 => 0 | 18 => 1 | 19 => 2 | n => n⟩
theorem Tryd.laysFI : Go.Proofs.LaysM.n173 Tryd.prog Tryd.laysFI_ren := {
  mixed := by kernel_rfl
  f129 := Tryd.func64.trans (congrArg some (by kernel_rfl))
  f173 := Tryd.func36.trans (congrArg some (by kernel_rfl))
  f246 := Tryd.func46.trans (congrArg some (by kernel_rfl))
  f283 := Tryd.func55.trans (congrArg some (by kernel_rfl))
  f284 := Tryd.func56.trans (congrArg some (by kernel_rfl))
  f285 := Tryd.func57.trans (congrArg some (by kernel_rfl))
  f286 := Tryd.func58.trans (congrArg some (by kernel_rfl))
  f317 := Tryd.func63.trans (congrArg some (by kernel_rfl))
  f318 := Tryd.func65.trans (congrArg some (by kernel_rfl))
  f319 := Tryd.func66.trans (congrArg some (by kernel_rfl))
  f320 := Tryd.func67.trans (congrArg some (by kernel_rfl))
  f337 := Tryd.func68.trans (congrArg some (by kernel_rfl))
  f338 := Tryd.func69.trans (congrArg some (by kernel_rfl))
  t0 := Tryd.underlying0
  a0 := Tryd.isAgg0
  z0 := Tryd.sizeOf0
  v0 := Tryd.zeroValue0
  t2 := Tryd.underlying2
  a2 := Tryd.isAgg2
  z2 := Tryd.sizeOf2
  v2 := Tryd.zeroValue2
  t3 := Tryd.underlying3
  a3 := Tryd.isAgg3
  z3 := Tryd.sizeOf3
  v3 := Tryd.zeroValue3
  t4 := Tryd.underlying4
  a4 := Tryd.isAgg4
  z4 := Tryd.sizeOf4
  v4 := Tryd.zeroValue4
  t5 := Tryd.underlying5
  a5 := Tryd.isAgg5
  z5 := Tryd.sizeOf5
  v5 := Tryd.zeroValue5
  t9 := Tryd.underlying9
  a9 := Tryd.isAgg9
  z9 := Tryd.sizeOf9
  v9 := Tryd.zeroValue9
  t20 := Tryd.underlying20
  a20 := Tryd.isAgg20
  z20 := Tryd.sizeOf20
  v20 := Tryd.zeroValue20
  t37 := Tryd.underlying55
  a37 := Tryd.isAgg55
  z37 := Tryd.sizeOf55
  v37 := Tryd.zeroValue55
  t46 := Tryd.underlying102
  a46 := Tryd.isAgg102
  z46 := Tryd.sizeOf102
  v46 := Tryd.zeroValue102
  t51 := Tryd.underlying99
  a51 := Tryd.isAgg99
  z51 := Tryd.sizeOf99
  v51 := Tryd.zeroValue99
  t53 := Tryd.underlying89
  a53 := Tryd.isAgg89
  z53 := Tryd.sizeOf89
  v53 := Tryd.zeroValue89
  t171 := Tryd.underlying88
  a171 := Tryd.isAgg88
  z171 := Tryd.sizeOf88
  v171 := Tryd.zeroValue88
  t173 := Tryd.underlying92
  a173 := Tryd.isAgg92
  z173 := Tryd.sizeOf92
  v173 := Tryd.zeroValue92
  t212 := Tryd.underlying98
  a212 := Tryd.isAgg98
  z212 := Tryd.sizeOf98
  v212 := Tryd.zeroValue98
  t213 := Tryd.underlying100
  a213 := Tryd.isAgg100
  z213 := Tryd.sizeOf100
  t232 := Tryd.underlying105
  a232 := Tryd.isAgg105
  z232 := Tryd.sizeOf105
  v232 := Tryd.zeroValue105
  t233 := Tryd.underlying106
  a233 := Tryd.isAgg106
  z233 := Tryd.sizeOf106
  v233 := Tryd.zeroValue106
  g17 := by kernel_rfl
  g18 := by kernel_rfl
  g19 := by kernel_rfl
  i0 := by kernel_rfl
  i2 := by kernel_rfl
  i3 := by kernel_rfl
  i4 := by kernel_rfl
  i5 := by kernel_rfl
  i9 := by kernel_rfl
  i20 := by kernel_rfl
  i37 := by kernel_rfl
  i46 := by kernel_rfl
  i51 := by kernel_rfl
  i53 := by kernel_rfl
  i171 := by kernel_rfl
  i173 := by kernel_rfl
  i212 := by kernel_rfl
  i232 := by kernel_rfl
  i233 := by kernel_rfl
  m17 := by kernel_rfl
  m18 := by kernel_rfl
  m19 := by kernel_rfl }
/-- The table that FormatInt reads. -/
def PowTab (w : World) : Prop := Lib.TabBelow Tryd.prog w.heap.size w "internal/strconv.uint64pow10" .u64 Lib.pow10Tab
theorem PowTab.below {w w' : World} (h : PowTab w) (hb : Below w.heap.size w w') : PowTab w' := fun w2 h2 => h w2 (bthen hb h2 hb.size)
theorem dec_any (z : Int) (w : World) (h0 : -9223372036854775807 ≤ z) (h1 : z ≤ 9223372036854775807) (ht : PowTab w) :
    Calls Tryd.prog 22 #[.int .i64 z] w fun e w' => e = .returned (.string (numB z)) ∧ Below w.heap.size w w' := by
  have HT := Lib.hid ht
  clear ht
  go_enter Tryd.func22, Tryd.ntmps22
  go_wp2_with fail
  refine (Any.strconv_FormatInt_10 Tryd.laysFI z (by omega) h1 w HT.out.here).mono ?_
  rintro e1 w1 ⟨rfl, k, os, rfl⟩
  go_wp2_with fail
  go_ret
  exact ⟨rfl, Lib.below_grow _ _ (Nat.le_refl _) _ _⟩
end Go.Proofs.YtebefamekjjbcaaDoor
