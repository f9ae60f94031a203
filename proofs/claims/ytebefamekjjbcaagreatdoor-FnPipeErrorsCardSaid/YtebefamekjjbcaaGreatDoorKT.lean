/- What l01Dec, l12Number, decimal do, by walks over their text; the text of a proof. The text of a proof: what ProofText (of the program and of the reference) does, by walks over its text. Conditions: at most 2^20 flows and levels; the table of powers of ten, for the program's. What ProofText of the reference does, by a walk over its text. Conditions: at most 2^20 flows and levels. What ProofText of the program does, by a walk over its text. Conditions: at most 2^20 flows and levels; the table of powers of ten. -/
import Derived.Test.YtebefamekjjbcaaGreatDoorPErr
import Derived.Shelf.Strings.BuilderK
import Derived.Shelf.Strconv.Itoa4
import Derived.Lib.LaidTab
import Derived.Lib.ItoaLen
import Derived.Lib.AppendIntMem
import Derived.Laws.BytesArg
import Derived.Deep.RegionHeld3
set_option linter.unusedVariables false
set_option maxRecDepth 100000
namespace Go.Proofs.YtebefamekjjbcaaGreatDoor
open Go.ChangeShapes Go.WideShapes Go.ChangeAt Go.RowKit Go.Joins Go.Deep Go.Shelf
attribute [local go_sem ↓] Go.wp_at_zero Go.wp_at_succ

/-- A number's text. -/
def numB (z : Int) : ByteArray := ⟨(Lib.itoa z).toArray⟩
def decB (z : Int) : ByteArray := ⟨(Lib.decDigits z.toNat).toArray⟩
theorem rsS {a b : ByteArray} (h : a = b) : Ending.returned (.string a) = .returned (.string b) := by rw [h]
theorem numB_size {z : Int} (h0 : -9223372036854775808 ≤ z) (h1 : z ≤ 9223372036854775807) : (numB z).size ≤ 21 := by
  have := Lib.itoa_length_le z h0 h1
  simpa [numB, ByteArray.size] using this
theorem decB_size {z : Int} (h0 : 0 ≤ z) (h1 : z ≤ 9223372036854775807) : (decB z).size ≤ 20 := by
  have := Lib.nDigits_le20 z.toNat (by omega)
  have e : (decB z).size = (Lib.decDigits z.toNat).length := by simp [decB, ByteArray.size]
  rw [e, Lib.decDigits_length]
  exact this
theorem numB_nonneg {z : Int} (h : 0 ≤ z) : numB z = decB z := by
  obtain ⟨u, rfl⟩ := Int.eq_ofNat_of_zero_le h
  unfold numB decB
  rw [Lib.itoa_nonneg]
  rfl
theorem numB_neg {z : Int} (h : z < 0) : numB z = ⟨#[45]⟩ ++ decB (-z) := by
  obtain ⟨u, hu⟩ := Int.eq_ofNat_of_zero_le (show 0 ≤ -z by omega)
  obtain rfl : z = -(u : Int) := by omega
  unfold numB decB
  rw [Lib.itoa_neg u (by omega)]
  have e : (- -(u : Int)).toNat = u := by omega
  rw [e]
  apply ByteArray.ext
  simp [ByteArray.data_append]
theorem decB_one {z : Int} (h0 : 0 ≤ z) (h : z < 10) : decB z = strOfNums [48 + z] := by
  obtain ⟨u, rfl⟩ := Int.eq_ofNat_of_zero_le h0
  unfold decB strOfNums
  rw [show ((u : Int)).toNat = u from rfl, Lib.decDigits_one (by omega)]
  have e : (48 + (u : Int)).toNat = 48 + u := by omega
  simp [e]
theorem decB_more {z : Int} (h : 10 ≤ z) : decB z = decB (z / 10) ++ strOfNums [48 + z % 10] := by
  obtain ⟨u, rfl⟩ := Int.eq_ofNat_of_zero_le (show 0 ≤ z by omega)
  have e1 : ((u : Int) / 10).toNat = u / 10 := by omega
  have e2 : (48 + (u : Int) % 10).toNat = 48 + u % 10 := by omega
  unfold decB strOfNums
  rw [show ((u : Int)).toNat = u from rfl, e1]
  rw [Lib.decDigits, dif_neg (by omega)]
  apply ByteArray.ext
  simp [ByteArray.data_append, e2]
set_option maxHeartbeats 4000000 in
theorem sDecs_any : ∀ (u : Nat) (z : Int), z.toNat = u → 0 ≤ z → z ≤ 9223372036854775807 → ∀ w : World,
    Calls Tryz.prog 61 #[.int .i64 z] w fun e w' => e = .returned (.string (decB z)) ∧ Below w.heap.size w w' := by
  intro u
  induction u using Nat.strongRecOn with
  | _ u ih =>
  intro z hzu h0 h1 w
  have hrunG : ∀ (W : World) (g : Nat) (x : Int), W.cell? ⟨g, 0, none⟩ = some (.int .u8 x) → (convert 22 9 (.slice (some ⟨g, 0, none⟩) 1 1)).run Tryz.prog W = .ok (.string (strOfNums [x])) W := fun W g x hc =>
    run_convert_bytes_arg (P := Tryz.prog) (w := W) 22 5 Tryz.underlying22 Tryz.underlying5 g 0 1 1 [x] rfl (fun j hj => by
      obtain rfl : j = 0 := by omega
      exact hc) 9 Tryz.underlying9
  have hrowG : ∀ (W : World) (x : Int), (W.alloc (.cells #[.int .u8 x] 5)).cell? ⟨W.heap.size, 0, none⟩ = some (.int .u8 x) := fun W x => by
    rw [cell_of_row _ _ 0 _ _ (0, 0) (heap_alloc_new _ _)]
    rfl
  by_cases h10 : z < 10
  · have hb : Below w.heap.size w (w.alloc (.cells #[.int .u8 (48 + z)] 5)) := (Below.refl _ _).alloc (Nat.le_refl _) _
    have hrun := hrunG _ _ _ (hrowG w (48 + z))
    have HD := Lib.hid (decB_one h0 h10)
    clear ih hrunG hrowG
    go_enter Tryz.func61, Tryz.ntmps61
    go_wp2_with fail
    go_ret
    exact ⟨rsS HD.out.symm, hb⟩
  · have hq0 : 0 ≤ z / 10 := by omega
    have hq1 : z / 10 ≤ 922337203685477580 := by omega
    have hr0 : 0 ≤ z % 10 := by omega
    have hr1 : z % 10 < 10 := by omega
    have IH := Kept.mk (ih (z / 10).toNat (by omega) (z / 10) rfl hq0 (by omega))
    have HD := Lib.hid (decB_more (z := z) (by omega))
    have hsz := decB_size hq0 (by omega)
    have eq1 : z.tdiv 10 = z / 10 := Int.tdiv_eq_ediv_of_nonneg h0
    have eq2 : z.tmod 10 = z % 10 := Int.tmod_eq_emod_of_nonneg h0
    obtain ⟨q, hq⟩ : ∃ q, z / 10 = q := ⟨_, rfl⟩
    obtain ⟨r, hr⟩ : ∃ r, z % 10 = r := ⟨_, rfl⟩
    rw [hq] at hq0 hq1 IH HD hsz eq1
    rw [hr] at hr0 hr1 HD eq2
    obtain ⟨S, hS⟩ : ∃ S, decB q = S := ⟨_, rfl⟩
    rw [hS] at IH HD hsz
    obtain ⟨T, hT⟩ : ∃ T, strOfNums [48 + r] = T := ⟨_, rfl⟩
    have hts : T.size = 1 := by rw [← hT, strOfNums_size]; rfl
    rw [hT] at HD
    have HR := Lib.hid (fun W g (hc : World.cell? W ⟨g, 0, none⟩ = some (.int .u8 (48 + r))) => (hrunG W g (48 + r) hc).trans (by rw [hT]))
    have HRW := Lib.hid (fun W => hrowG W (48 + r))
    have hcat : ¬ 9223372036854775807 < S.size + T.size := by omega
    have hrA := HR.out _ _ (HRW.out w.drew)
    have hrA2 : (convert 22 9 (.slice (some ⟨w.heap.size, 0, none⟩) 1 1)).run Tryz.prog (w.alloc (.cells #[.int .u8 (48 + r)] 5)).drew = .ok (.string T) (w.alloc (.cells #[.int .u8 (48 + r)] 5)).drew := hrA
    have s1 : IntKind.i64.wrap q = q := IntWalk.i64_in _ (by omega)
    have s2 : IntKind.i64.wrap (48 + r) = 48 + r := IntWalk.i64_in _ (by omega)
    have s3 : IntKind.u8.wrap (48 + r) = 48 + r := IntWalk.u8_in _ (by omega)
    clear ih hrunG hrowG hq hr hS hT hts hrA
    go_enter Tryz.func61, Tryz.ntmps61
    go_upto_region 3 with fail
    go_region_with (first | (go_at_call 61; refine (IH.out w.drew).mono ?_; rintro e1 w1 ⟨rfl, hb1⟩; have hrB := HR.out _ _ (HRW.out w1); have HB := Lib.hid hb1; clear hb1) | (go_at_call 61; refine (IH.out (w.alloc (.cells #[.int .u8 (48 + r)] 5)).drew).mono ?_; rintro e1 w1 ⟨rfl, hb1⟩; have hrB := HR.out w1 w.heap.size ((hb1.cell (p := ⟨w.heap.size, 0, none⟩) (by simp)).trans (HRW.out w.drew)); have HB := Lib.hid hb1; clear hb1))
    all_goals
      try go_wp2_with fail
      go_ret
      refine ⟨rsS HD.out.symm, ?_⟩
      first | exact bthen (Below.refl _ _).drew HB.out (Nat.le_refl _) | exact (bthen (Below.refl _ _).drew HB.out (Nat.le_refl _)).alloc (by have := HB.out.size; simpa using this) _ | exact bthen ((Below.refl _ _).alloc (Nat.le_refl _) _).drew HB.out (by simp)
theorem sNum_any (z : Int) (w : World) (h0 : -9223372036854775807 ≤ z) (h1 : z ≤ 9223372036854775807) :
    Calls Tryz.prog 31 #[.int .i64 z] w fun e w' => e = .returned (.string (numB z)) ∧ Below w.heap.size w w' := by
  by_cases hz : z < 0
  · have HD := Lib.hid (numB_neg hz)
    have hsz := decB_size (z := -z) (by omega) (by omega)
    have HC := Lib.hid (sDecs_any _ (-z) rfl (by omega) (by omega))
    obtain ⟨S, hS⟩ : ∃ S, decB (-z) = S := ⟨_, rfl⟩
    rw [hS] at HD hsz HC
    have hcat : ¬ 9223372036854775807 < (⟨#[45]⟩ : ByteArray).size + S.size := by
      have : (⟨#[45]⟩ : ByteArray).size = 1 := rfl
      omega
    have hcat2 : ¬ 9223372036854775807 < 1 + S.size := by omega
    clear hS
    go_enter Tryz.func31, Tryz.ntmps31
    go_wp2_with fail
    refine (HC.out _).mono ?_
    rintro e1 w1 ⟨rfl, hb1⟩
    go_wp2_with fail
    go_ret
    exact ⟨rsS HD.out.symm, hb1⟩
  · have HD := Lib.hid (numB_nonneg (z := z) (by omega))
    go_enter Tryz.func31, Tryz.ntmps31
    go_wp2_with fail
    refine (sDecs_any _ z rfl (by omega) (by omega) _).mono ?_
    rintro e1 w1 ⟨rfl, hb1⟩
    go_wp2_with fail
    go_ret
    exact ⟨rsS HD.out.symm, hb1⟩
def Tryz.laysFI_ren : Go.Shelf.Ren := ⟨fun | 173 => 60 | 246 => 89 | 283 => 110 | 284 => 111 | 285 => 112 | 286 => 113 | 129 => 129 | 317 => 128 | 318 => 130 | 319 => 131 | 320 => 132 | 337 => 146 | 338 => 147 | n => n, fun | 2 => 2 | 3 => 3 | 9 => 9 | 4 => 4 | 171 => 115 | 0 => 0 | 53 => 116 | 37 => 22 | 5 => 5 | 173 => 119 | 212 => 134 | 51 => 135 | 20 => 20 | 213 => 136 | 46 => 107 | 232 => 155 | 233 => 156 | n => n, fun | 17 => 0 | 18 => 1 | 19 => 2 | n => n⟩
theorem Tryz.laysFI : Go.Proofs.LaysM.n173 Tryz.prog Tryz.laysFI_ren := {
  mixed := by kernel_rfl
  f129 := Tryz.func129.trans (congrArg some (by kernel_rfl))
  f173 := Tryz.func60.trans (congrArg some (by kernel_rfl))
  f246 := Tryz.func89.trans (congrArg some (by kernel_rfl))
  f283 := Tryz.func110.trans (congrArg some (by kernel_rfl))
  f284 := Tryz.func111.trans (congrArg some (by kernel_rfl))
  f285 := Tryz.func112.trans (congrArg some (by kernel_rfl))
  f286 := Tryz.func113.trans (congrArg some (by kernel_rfl))
  f317 := Tryz.func128.trans (congrArg some (by kernel_rfl))
  f318 := Tryz.func130.trans (congrArg some (by kernel_rfl))
  f319 := Tryz.func131.trans (congrArg some (by kernel_rfl))
  f320 := Tryz.func132.trans (congrArg some (by kernel_rfl))
  f337 := Tryz.func146.trans (congrArg some (by kernel_rfl))
  f338 := Tryz.func147.trans (congrArg some (by kernel_rfl))
  t0 := Tryz.underlying0
  a0 := Tryz.isAgg0
  z0 := Tryz.sizeOf0
  v0 := Tryz.zeroValue0
  t2 := Tryz.underlying2
  a2 := Tryz.isAgg2
  z2 := Tryz.sizeOf2
  v2 := Tryz.zeroValue2
  t3 := Tryz.underlying3
  a3 := Tryz.isAgg3
  z3 := Tryz.sizeOf3
  v3 := Tryz.zeroValue3
  t4 := Tryz.underlying4
  a4 := Tryz.isAgg4
  z4 := Tryz.sizeOf4
  v4 := Tryz.zeroValue4
  t5 := Tryz.underlying5
  a5 := Tryz.isAgg5
  z5 := Tryz.sizeOf5
  v5 := Tryz.zeroValue5
  t9 := Tryz.underlying9
  a9 := Tryz.isAgg9
  z9 := Tryz.sizeOf9
  v9 := Tryz.zeroValue9
  t20 := Tryz.underlying20
  a20 := Tryz.isAgg20
  z20 := Tryz.sizeOf20
  v20 := Tryz.zeroValue20
  t37 := Tryz.underlying22
  a37 := Tryz.isAgg22
  z37 := Tryz.sizeOf22
  v37 := Tryz.zeroValue22
  t46 := Tryz.underlying107
  a46 := Tryz.isAgg107
  z46 := Tryz.sizeOf107
  v46 := Tryz.zeroValue107
  t51 := Tryz.underlying135
  a51 := Tryz.isAgg135
  z51 := Tryz.sizeOf135
  v51 := Tryz.zeroValue135
  t53 := Tryz.underlying116
  a53 := Tryz.isAgg116
  z53 := Tryz.sizeOf116
  v53 := Tryz.zeroValue116
  t171 := Tryz.underlying115
  a171 := Tryz.isAgg115
  z171 := Tryz.sizeOf115
  v171 := Tryz.zeroValue115
  t173 := Tryz.underlying119
  a173 := Tryz.isAgg119
  z173 := Tryz.sizeOf119
  v173 := Tryz.zeroValue119
  t212 := Tryz.underlying134
  a212 := Tryz.isAgg134
  z212 := Tryz.sizeOf134
  v212 := Tryz.zeroValue134
  t213 := Tryz.underlying136
  a213 := Tryz.isAgg136
  z213 := Tryz.sizeOf136
  t232 := Tryz.underlying155
  a232 := Tryz.isAgg155
  z232 := Tryz.sizeOf155
  v232 := Tryz.zeroValue155
  t233 := Tryz.underlying156
  a233 := Tryz.isAgg156
  z233 := Tryz.sizeOf156
  v233 := Tryz.zeroValue156
  g17 := by kernel_rfl
  g18 := by kernel_rfl
  g19 := by kernel_rfl
  i0 := by kernel_rfl
  i2 := by kernel_rfl
  i3 := by kernel_rfl
  i4 := by kernel_rfl
  i5 := by kernel_rfl
  i9 := by kernel_rfl
  i20 := by kernel_rfl
  i37 := by kernel_rfl
  i46 := by kernel_rfl
  i51 := by kernel_rfl
  i53 := by kernel_rfl
  i171 := by kernel_rfl
  i173 := by kernel_rfl
  i212 := by kernel_rfl
  i232 := by kernel_rfl
  i233 := by kernel_rfl
  m17 := by kernel_rfl
  m18 := by kernel_rfl
  m19 := by kernel_rfl }
/-- The table that FormatInt reads. -/
def PowTab (w : World) : Prop := Lib.TabBelow Tryz.prog w.heap.size w "internal/strconv.uint64pow10" .u64 Lib.pow10Tab
theorem PowTab.below {w w' : World} (h : PowTab w) (hb : Below w.heap.size w w') : PowTab w' := fun w2 h2 => h w2 (bthen hb h2 hb.size)
theorem dec_any (z : Int) (w : World) (h0 : -9223372036854775807 ≤ z) (h1 : z ≤ 9223372036854775807) (ht : PowTab w) :
    Calls Tryz.prog 29 #[.int .i64 z] w fun e w' => e = .returned (.string (numB z)) ∧ Below w.heap.size w w' := by
  have HT := Lib.hid ht
  clear ht
  go_enter Tryz.func29, Tryz.ntmps29
  go_wp2_with fail
  refine (Any.strconv_FormatInt_10 Tryz.laysFI z (by omega) h1 w HT.out.here).mono ?_
  rintro e1 w1 ⟨rfl, k, os, rfl⟩
  go_wp2_with fail
  go_ret
  exact ⟨rfl, Lib.below_grow _ _ (Nat.le_refl _) _ _⟩
end Go.Proofs.YtebefamekjjbcaaGreatDoor
set_option linter.unusedVariables false
set_option maxRecDepth 100000
namespace Go.Proofs.YtebefamekjjbcaaGreatDoor
open Go.ChangeShapes Go.WideShapes Go.ChangeAt Go.RowKit Go.Joins Go.Deep Go.Shelf
attribute [local go_sem ↓] Go.wp_at_zero Go.wp_at_succ

/-- The name of a node. -/
def nmAt (ns : List Nd) (i : Nat) : ByteArray := (ns.map Nd.nm).getD i ByteArray.empty
theorem nmAt_at {ns : List Nd} {i : Nat} {f : Nd} (h : ns[i]? = some f) : nmAt ns i = f.nm := by simp [nmAt, List.getD, h]
theorem nmAt_size {ns : List Nd} {ps : List Pp} (h : NetOk ns ps) (i : Nat) : (nmAt ns i).size ≤ 8 := by
  cases hi : ns[i]? with
  | none => simp [nmAt, List.getD, hi]
  | some f =>
    rw [nmAt_at hi]
    have hl := (List.getElem?_eq_some_iff.1 hi).1
    have h2 := (h.2.2.2.1 i f hl hi).1
    unfold nodeB nameB at h2
    simp only [Bool.and_eq_true, decide_eq_true_eq] at h2
    exact h2.1.2.1
/-- A node's line, a pipe's line. -/
def lnN (ns : List Nd) (ls : List Int) (i : Nat) : ByteArray := nmAt ns i ++ ⟨#[61]⟩ ++ numB (ls.getD i 0) ++ ⟨#[10]⟩
def lnP (ns : List Nd) (ps : List Pp) (fs : List Int) (i : Nat) : ByteArray := nmAt ns (efr (esOf ps) i) ++ ⟨#[62]⟩ ++ nmAt ns (eto (esOf ps) i) ++ ⟨#[61]⟩ ++ numB (fs.getD i 0) ++ ⟨#[10]⟩
def txN (ns : List Nd) (ls : List Int) : Nat → ByteArray
  | 0 => ByteArray.empty
  | k + 1 => txN ns ls k ++ lnN ns ls k
def txP (ns : List Nd) (ps : List Pp) (fs : List Int) (s : ByteArray) : Nat → ByteArray
  | 0 => s
  | k + 1 => txP ns ps fs s k ++ lnP ns ps fs k
theorem lnN_size {ns : List Nd} {ps : List Pp} {ls : List Int} (h : NetOk ns ps) {i : Nat} (h0 : -9223372036854775808 ≤ ls.getD i 0) (h1 : ls.getD i 0 ≤ 9223372036854775807) : (lnN ns ls i).size ≤ 31 := by
  have := nmAt_size h i
  have := numB_size h0 h1
  have e1 : (⟨#[61]⟩ : ByteArray).size = 1 := rfl
  have e2 : (⟨#[10]⟩ : ByteArray).size = 1 := rfl
  simp only [lnN, ByteArray.size_append, e1, e2]
  omega
theorem lnP_size {ns : List Nd} {ps : List Pp} {fs : List Int} (h : NetOk ns ps) {i : Nat} (h0 : -9223372036854775808 ≤ fs.getD i 0) (h1 : fs.getD i 0 ≤ 9223372036854775807) : (lnP ns ps fs i).size ≤ 40 := by
  have := nmAt_size h (efr (esOf ps) i)
  have := nmAt_size h (eto (esOf ps) i)
  have := numB_size h0 h1
  have e1 : (⟨#[61]⟩ : ByteArray).size = 1 := rfl
  have e2 : (⟨#[10]⟩ : ByteArray).size = 1 := rfl
  have e3 : (⟨#[62]⟩ : ByteArray).size = 1 := rfl
  simp only [lnP, ByteArray.size_append, e1, e2, e3]
  omega
theorem txN_size {ns : List Nd} {ps : List Pp} {ls : List Int} (h : NetOk ns ps) (hb : ∀ i, -9223372036854775808 ≤ ls.getD i 0 ∧ ls.getD i 0 ≤ 9223372036854775807) : ∀ k, (txN ns ls k).size ≤ 31 * k
  | 0 => by simp [txN]
  | k + 1 => by
    have := txN_size h hb k
    have := lnN_size h (hb k).1 (hb k).2
    simp only [txN, ByteArray.size_append]
    omega
theorem txP_size {ns : List Nd} {ps : List Pp} {fs : List Int} (s : ByteArray) (h : NetOk ns ps) (hb : ∀ i, -9223372036854775808 ≤ fs.getD i 0 ∧ fs.getD i 0 ≤ 9223372036854775807) : ∀ k, (txP ns ps fs s k).size ≤ s.size + 40 * k
  | 0 => by simp [txP]
  | k + 1 => by
    have := txP_size s h hb k
    have := lnP_size h (hb k).1 (hb k).2
    simp only [txP, ByteArray.size_append]
    omega
theorem txN_step (ns : List Nd) (ls : List Int) (k : Nat) : txN ns ls (k + 1) = txN ns ls k ++ nmAt ns k ++ ⟨#[61]⟩ ++ numB (ls.getD k 0) ++ ⟨#[10]⟩ := by
  simp only [txN, lnN, ByteArray.append_assoc]
theorem txP_step (ns : List Nd) (ps : List Pp) (fs : List Int) (s : ByteArray) (k : Nat) : txP ns ps fs s (k + 1) = txP ns ps fs s k ++ nmAt ns (efr (esOf ps) k) ++ ⟨#[62]⟩ ++ nmAt ns (eto (esOf ps) k) ++ ⟨#[61]⟩ ++ numB (fs.getD k 0) ++ ⟨#[10]⟩ := by
  simp only [txP, lnP, ByteArray.append_assoc]
/-- The text. -/
noncomputable def ptx (ns : List Nd) (ps : List Pp) (m n : Nat) (fs ls : List Int) : ByteArray := if codeQ ns ps m n fs ls = 0 then txP ns ps fs (txN ns ls n) m else ByteArray.empty
theorem bd_all {zs : List Int} {L : Int} (h : allB zs (-L) L = true) (hL : 0 ≤ L) (hL2 : L ≤ 9223372036854775807) (i : Nat) : -9223372036854775807 ≤ zs.getD i 0 ∧ zs.getD i 0 ≤ 9223372036854775807 := by
  by_cases hi : i < zs.length
  · have := all_at h (getD_some rfl hi)
    omega
  · rw [List.getD_eq_getElem?_getD, List.getElem?_eq_none (by omega)]
    decide
theorem bd_fl {zs : List Int} {m : Nat} (h : flB m zs = true) (i : Nat) : -9223372036854775807 ≤ zs.getD i 0 ∧ zs.getD i 0 ≤ 9223372036854775807 := bd_all (L := 30000) (flB_all h) (by omega) (by omega) i
theorem bd_lv {zs : List Int} {m : Nat} (h : lvB m zs = true) (i : Nat) : -9223372036854775807 ≤ zs.getD i 0 ∧ zs.getD i 0 ≤ 9223372036854775807 := bd_all (L := 1000000000000000000) (lvB_all h) (by omega) (by omega) i
theorem txN_sz {ns : List Nd} {ps : List Pp} {ls : List Int} {n : Nat} (h : NetOk ns ps) (hl : lvB n ls = true) {k : Nat} (hk : k ≤ 24) : (txN ns ls k).size ≤ 744 := by
  have := txN_size (ls := ls) h (fun i => ⟨by have := bd_lv hl i; omega, (bd_lv hl i).2⟩) k
  omega
theorem txP_sz {ns : List Nd} {ps : List Pp} {fs : List Int} {s : ByteArray} {m : Nat} (h : NetOk ns ps) (hl : flB m fs = true) (hs : s.size ≤ 744) {k : Nat} (hk : k ≤ 40) : (txP ns ps fs s k).size ≤ 2344 := by
  have := txP_size (fs := fs) s h (fun i => ⟨by have := bd_fl hl i; omega, (bd_fl hl i).2⟩) k
  omega
theorem num_sz {zs : List Int} (h : ∀ i, -9223372036854775807 ≤ zs.getD i 0 ∧ zs.getD i 0 ≤ 9223372036854775807) (i : Nat) : (numB (zs.getD i 0)).size ≤ 21 := numB_size (by have := h i; omega) (h i).2
theorem ptx_no {ns : List Nd} {ps : List Pp} {m n : Nat} {fs ls : List Int} {k : Int} (h : codeQ ns ps m n fs ls = k) (hk : k ≠ 0) : ptx ns ps m n fs ls = ⟨#[]⟩ := by
  unfold ptx
  rw [if_neg (by rw [h]; exact hk)]
  rfl
theorem ptx_ok {ns : List Nd} {ps : List Pp} {m n : Nat} {fs ls : List Int} (h : codeQ ns ps m n fs ls = 0) : ptx ns ps m n fs ls = txP ns ps fs (txN ns ls n) m := by
  unfold ptx
  rw [if_pos h]
/-- What a builder's write leaves of another block. -/
theorem box_others {w w' : World} {e : TypeId} {b g : Nat} {cs : Array Value} {t : TypeId} (h : Box w g cs t) (hk : Lib.OthersKept e (some b) w w') (hg : g ≠ b) (ht : t ≠ e) : Box w' g cs t :=
  hk g _ h (fun hh => hg (Option.some.inj hh)) (fun c fz hh => by injection hh with _ h2 _; exact ht h2)
def Tryz.lays169_ren : Go.Shelf.Ren := ⟨fun | 169 => 30 | n => n, fun | 70 => 52 | 9 => 9 | 0 => 0 | 72 => 54 | 37 => 22 | 127 => 87 | 3 => 3 | 5 => 5 | n => n, fun | n => n⟩
theorem Tryz.lays169 : Go.Proofs.Lays.n169 Tryz.prog Tryz.lays169_ren := {
  mixed := by kernel_rfl
  f169 := Tryz.func30.trans (congrArg some (by kernel_rfl))
  t0 := Tryz.underlying0
  a0 := Tryz.isAgg0
  z0 := Tryz.sizeOf0
  v0 := Tryz.zeroValue0
  t3 := Tryz.underlying3
  a3 := Tryz.isAgg3
  z3 := Tryz.sizeOf3
  v3 := Tryz.zeroValue3
  t9 := Tryz.underlying9
  a9 := Tryz.isAgg9
  z9 := Tryz.sizeOf9
  v9 := Tryz.zeroValue9
  t37 := Tryz.underlying22
  a37 := Tryz.isAgg22
  z37 := Tryz.sizeOf22
  v37 := Tryz.zeroValue22
  t70 := Tryz.underlying52
  a70 := Tryz.isAgg52
  z70 := Tryz.sizeOf52
  v70 := Tryz.zeroValue52
  t72 := Tryz.underlying54
  a72 := Tryz.isAgg54
  z72 := Tryz.sizeOf54
  v72 := Tryz.zeroValue54
  t127 := Tryz.underlying87
  a127 := Tryz.isAgg87
  z127 := Tryz.sizeOf87
  v127 := Tryz.zeroValue87 }
theorem xb169 : Builder.Extra Tryz.prog Tryz.lays169_ren where
  sizeBuilder := by kernel_rfl
  liesBuilder := by kernel_rfl
  t5 := Tryz.underlying5
  a5 := Tryz.isAgg5
  z5 := Tryz.sizeOf5
  v5 := Tryz.zeroValue5
  infoByte := by kernel_rfl
  cellsByte := by kernel_rfl
  sizeByte := by kernel_rfl
  neB5 := by decide
/-- The check that a builder was not copied: at a new builder it lays the builder's own address; at a used one it does nothing. (The dump's text of it refuses the panic's statement: so the shelf's contract cannot be laid here.) -/
theorem check_new (b : Nat) (w : World) (h0 : w.cell? ⟨b, 0, none⟩ = some (.pointer none)) (hsh : w.shape? b = some (54, 2)) (hfz : w.frozen? ⟨b, 0, none⟩ = false) :
    Calls Tryz.prog 59 #[.pointer (some ⟨b, 0, none⟩)] w fun e w' => e = .returned (.tuple #[]) ∧ w' = w.setCell ⟨b, 0, none⟩ (.pointer (some ⟨b, 0, none⟩)) := by
  obtain ⟨j, hj, hjs⟩ := Option.map_eq_some_iff.1 (show (Tryz.prog.info? 54).map (·.size) = some 2 by kernel_rfl)
  have hlies : liesAt Tryz.prog Tryz.prog.depth 54 (2 / Tryz.prog.cellsOf 54) 0 54 1 = true := by kernel_rfl
  go_enter Tryz.func59, Tryz.ntmps59
  go_wp2
  rw [Lib.run_to_unsafe w ⟨b, 0, none⟩ Tryz.underlying52 Tryz.underlying102 hj (by rw [hjs]; decide) hsh (Nat.zero_lt_succ 1)]
  simp only [Result.andThen]
  rw [Oper.upon_value]
  go_wp2
  rw [run_callFunc_extern Tryz.func88 (by kernel_rfl) (by kernel_rfl) (by kernel_rfl) (e := Extern.AbiNoEscape.same) (by kernel_rfl)]
  rw [Lib.run_noEscape]
  simp only [Result.andThen]
  rw [Oper.upon_value]
  go_wp2
  rw [Lib.run_from_unsafe w ⟨b, 0, none⟩ Tryz.underlying102 Tryz.underlying52 hj hsh hlies]
  simp only [Result.andThen]
  rw [Oper.upon_value]
  go_wp2
  go_end0
  exact ⟨rfl, rfl⟩
theorem check_used (b : Nat) (w : World) (h0 : w.cell? ⟨b, 0, none⟩ = some (.pointer (some ⟨b, 0, none⟩))) :
    Calls Tryz.prog 59 #[.pointer (some ⟨b, 0, none⟩)] w fun e w' => e = .returned (.tuple #[]) ∧ w' = w := by
  obtain ⟨j, hj, _⟩ := Option.map_eq_some_iff.1 (show (Tryz.prog.info? 54).map (·.size) = some 2 by kernel_rfl)
  go_enter Tryz.func59, Tryz.ntmps59
  go_wp2
  rw [Lib.run_neq_ptr_same w _ Tryz.underlying52 hj]
  go_wp2
  go_end0
  exact ⟨rfl, rfl⟩
theorem check_any (B b : Nat) (bs : List Value) (w : World) (h : Lib.IsBuilderF 54 5 B b bs w) :
    Calls Tryz.prog 59 #[.pointer (some ⟨b, 0, none⟩)] w fun e w' => e = .returned (.tuple #[]) ∧ Lib.BuilderAtF 54 5 B b (.pointer (some ⟨b, 0, none⟩)) bs w' ∧ Below B w w' ∧ Lib.OthersKept 5 (some b) w w' := by
  rcases h with h | h
  · refine (check_new b w h.cell0 h.shape h.frozen0).mono ?_
    rintro e w' ⟨rfl, rfl⟩
    exact ⟨rfl, h.used _, (Below.refl B w).setCell (p := ⟨b, 0, none⟩) h.1 _, (Lib.OthersKept.refl _ _ w).setCell ⟨b, 0, none⟩ rfl _⟩
  · refine (check_used b w h.cell0).mono ?_
    rintro e w' ⟨rfl, rfl⟩
    exact ⟨rfl, h, Below.refl B _, Lib.OthersKept.refl _ _ _⟩
set_option maxHeartbeats 2000000 in
theorem wrStr_any (B b : Nat) (bs : List Value) (s : ByteArray) (w : World) (h : Lib.IsBuilderF 54 5 B b bs w) (hlen : bs.length + s.size ≤ 140737488355328) (hBw : B ≤ w.heap.size) :
    Calls Tryz.prog 28 #[.pointer (some ⟨b, 0, none⟩), .string s] w fun e w' => e = .returned (.tuple #[.int .i64 s.size, .nilIface]) ∧ Lib.BuilderAtF 54 5 B b (.pointer (some ⟨b, 0, none⟩)) (bs ++ Lib.strCells s) w' ∧ Below B w w' ∧ Lib.OthersKept 5 (some b) w w' := by
  obtain ⟨i0, hi, hz0, hz1, hz2⟩ := info_parts (show (Tryz.prog.info? 5).map (fun i => (i.zero, i.size, i.bytes)) = some (some (.int .u8 0), 1, 1) by kernel_rfl)
  go_enter Tryz.func28, Tryz.ntmps28
  go_wp2_with fail
  refine (check_any B b bs _ h).mono ?_
  rintro e w1 ⟨rfl, h1, hb1, hk1⟩
  have hs1 := hb1.size
  obtain ⟨hB, v, hbk, hown, hne⟩ := h1
  have c0 : w1.cell? ⟨b, 0, none⟩ = some (.pointer (some ⟨b, 0, none⟩)) := by rw [Lib.cell_of_heap hbk]; rfl
  have c1 : w1.cell? ⟨b, 1, none⟩ = some v := by rw [Lib.cell_of_heap hbk]; rfl
  go_wp2_with (at_builtin; refine Lib.wpList_append_own_stringF _ rfl _ _ 22 9 rfl B 5 i0 Tryz.underlying22 Tryz.underlying9 hi hz0 hz1 hz2 _ _ _ rfl hown s rfl ?c3 ?c4 ?c5 ?_)
  case c3 => unfold maxLen; omega
  case c4 => omega
  case c5 => omega
  intro v' w2 hown' hgrow _
  have hlt : b < w1.heap.size := by
    rcases Nat.lt_or_ge b w1.heap.size with h' | h'
    · exact h'
    · simp [Array.getElem?_eq_none h'] at hbk
  have hb2 : w2.heap[b]? = some (.cells #[.pointer (some ⟨b, 0, none⟩), v] 54 (0, 0)) := (hgrow.block b hlt (fun e => hne e.symm)).trans hbk
  have d0 : w2.cell? ⟨b, 0, none⟩ = some (.pointer (some ⟨b, 0, none⟩)) := by rw [Lib.cell_of_heap hb2]; rfl
  have d1 : w2.cell? ⟨b, 1, none⟩ = some v := by rw [Lib.cell_of_heap hb2]; rfl
  have f1 : w2.frozen? ⟨b, 1, none⟩ = false := Lib.frozen_of_heap hb2 1
  obtain ⟨ao, n', cap, rfl⟩ : ∃ ao n' cap, v' = .slice ao n' cap := by
    rcases hown'.2 with ⟨hv, _⟩ | ⟨g, cap, cur, fz, hv, _⟩
    · exact ⟨_, _, _, hv⟩
    · exact ⟨_, _, _, hv⟩
  go_wp2
  go_ret2
  refine ⟨rfl, ?_, ?_, (hk1.grown hgrow (Lib.ownsRowF_kind hown)).setCell ⟨b, 1, none⟩ rfl _⟩
  · exact Lib.BuilderAtF.put (T := 54) (e := 5) hB hb2 (bs' := bs ++ Lib.strCells s) (by simpa [Lib.strCells_length] using hown') (by decide)
  · exact (hb1.grown hgrow (by omega) (fun k hk => (hown.lt k hk).1)).setCell (p := ⟨b, 1, none⟩) hB _
/-- A builder that lies in block b and holds the bytes s. -/
def Bld (w : World) (b : Nat) (s : ByteArray) : Prop := Lib.IsBuilderF 54 5 b b (Lib.strCells s) w
theorem bld_new (w : World) : Bld (w.alloc (.cells #[.pointer none, .slice none 0 0] 54)) w.heap.size ByteArray.empty := by
  refine .inl ⟨Nat.le_refl _, .slice none 0 0, heap_alloc_new _ _, ⟨by simp [Lib.strCells], .inl ⟨rfl, by simp [Lib.strCells]⟩⟩, by simp [Value.ownBlock]⟩
theorem Bld.lt {w : World} {b : Nat} {s : ByteArray} (h : Bld w b s) : b < w.heap.size := by
  rcases h with h | h
  · exact h.lt
  · exact h.lt
theorem bldAt_below {T e : TypeId} {B b : Nat} {p : Value} {bs : List Value} {W W' : World} (h : Lib.BuilderAtF T e B b p bs W) (hb : Below W.heap.size W W') : Lib.BuilderAtF T e B b p bs W' := by
  have hlt := h.lt
  obtain ⟨hB, v, hv, hown, hne⟩ := h
  exact ⟨hB, v, (hb.block b hlt).trans hv, hown.kept (row := none) ⟨hb.os, hb.tape, hb.output, hb.size, fun k hk _ => hb.block k hk⟩ (Classical.em _), hne⟩
theorem Bld.below {w w' : World} {b : Nat} {s : ByteArray} (h : Bld w b s) (hb : Below w.heap.size w w') : Bld w' b s :=
  h.elim (fun x => .inl (bldAt_below x hb)) (fun x => .inr (bldAt_below x hb))
theorem Bld.drew {w : World} {b : Nat} {s : ByteArray} (h : Bld w b s) : Bld w.drew b s := h.below (Below.refl _ _).drew
theorem strCells_app (s t : ByteArray) : Lib.strCells (s ++ t) = Lib.strCells s ++ Lib.strCells t := by
  simp [Lib.strCells, ByteArray.data_append]
theorem bld_write {w : World} {b : Nat} {s : ByteArray} (t : ByteArray) (h : Bld w b s) (hl : s.size + t.size ≤ 140737488355328) :
    Calls Tryz.prog 28 #[.pointer (some ⟨b, 0, none⟩), .string t] w fun e w' => e = .returned (.tuple #[.int .i64 t.size, .nilIface]) ∧ Bld w' b (s ++ t) ∧ Below b w w' ∧ Lib.OthersKept 5 (some b) w w' := by
  have hb := h.lt
  refine (wrStr_any b b (Lib.strCells s) t w h (by rw [Lib.strCells_length]; exact hl) (by omega)).mono ?_
  rintro e w' ⟨rfl, h1, h2, h3⟩
  refine ⟨rfl, .inr ?_, h2, h3⟩
  rw [strCells_app]
  exact h1
theorem bld_text {w : World} {b : Nat} {s : ByteArray} (h : Bld w b s) :
    Calls Tryz.prog 30 #[.pointer (some ⟨b, 0, none⟩)] w fun e w' => e = .returned (.string s) ∧ Below b w w' := by
  have hb := h.lt
  refine (Any.Builder_String_any_k Tryz.lays169 xb169 b b s.data.toList w h (by omega)).mono ?_
  rintro e w' ⟨rfl, _, h2, _⟩
  exact ⟨rfl, h2⟩
end Go.Proofs.YtebefamekjjbcaaGreatDoor
set_option linter.unusedVariables false
set_option maxRecDepth 100000
namespace Go.Proofs.YtebefamekjjbcaaGreatDoor
open Go.ChangeShapes Go.WideShapes Go.ChangeAt Go.RowKit Go.Joins Go.Deep Go.Shelf
attribute [local go_sem ↓] Go.wp_at_zero Go.wp_at_succ

set_option maxHeartbeats 8000000 in
theorem sPtx_any (A B C D : Option Addr) (n c m d l e k f : Nat) (ns : List Nd) (ps : List Pp) (fs ls : List Int) (w : World) (h : IsNet w A n c ns B m d ps) (hf : Ints w C l fs) (hv : Ints w D k ls) (hl : l ≤ 1048576) (hk : k ≤ 1048576) :
    Calls Tryz.prog 11 #[.agg #[.slice A n c, .slice B m d], .agg #[.slice C l e, .slice D k f]] w fun e w' => e = .returned (.string (ptx ns ps m n fs ls)) ∧ Below w.heap.size w w' := by
  have hV : Below w.heap.size w ((w.alloc (.cells #[.slice A n c, .slice B m d] 27)).alloc (.cells #[.slice C l e, .slice D k f] 30)) := ((Below.refl _ _).alloc (Nat.le_refl _) _).alloc (by simp) _
  have bx := (box_new w #[.slice A n c, .slice B m d] 27).alloc (.cells #[.slice C l e, .slice D k f] 30)
  have by1 := box_at (w.alloc (.cells #[.slice A n c, .slice B m d] 27)) #[.slice C l e, .slice D k f] 30 (g := w.heap.size + 1) (by simp)
  go_enter Tryz.func11, Tryz.ntmps11
  go_upto_region 1 with fail
  generalize ((w.alloc (.cells #[.slice A n c, .slice B m d] 27)).alloc (.cells #[.slice C l e, .slice D k f] 30)) = V at *
  have xl := bx.lt
  have x0 : V.cell? ⟨w.heap.size, 0, none⟩ = some (.slice A n c) := bx.cell 0
  have x1 : V.cell? ⟨w.heap.size, 1, none⟩ = some (.slice B m d) := bx.cell 1
  have yl := by1.lt
  have y0 : V.cell? ⟨w.heap.size + 1, 0, none⟩ = some (.slice C l e) := by1.cell 0
  have y1 : V.cell? ⟨w.heap.size + 1, 1, none⟩ = some (.slice D k f) := by1.cell 1
  go_wp2_with fail
  refine (sCodeQ_any _ _ _ _ _ _ _ _ _ _ _ _ ns ps fs ls _ (h.below hV) (hf.below hV) (hv.below hV) hl hk).mono ?_
  rintro e1 w1 ⟨rfl, hb1⟩
  have hB1 := bthen hV hb1 hV.size
  have bx1 := bx.belowA hb1
  have by2 := by1.belowA hb1
  clear x0 x1 xl y0 y1 yl hb1 bx by1
  rcases codeQ_in ns ps m n fs ls with ⟨hc, hok, hfb, hlb⟩ | hc | hc
  rotate_left
  all_goals try
    have HQ := Lib.hid (ptx_no hc (by decide))
    rw [hc]
    clear hc
    go_wp2_with fail
    go_ret
    exact ⟨rsS HQ.out.symm, hB1⟩
  obtain rfl : l = m := by rw [← hf.len, flB_len hfb]
  obtain rfl : k = n := by rw [← hv.len, lvB_len hlb]
  have hnl : ns.length = k := h.nodes.len
  have hml : ps.length = l := h.pipes.len
  have hn24 : k ≤ 24 := by have := hok.2.1; omega
  have hm40 : l ≤ 40 := by have := hok.2.2.1; omega
  have HQ := Lib.hid (ptx_ok hc)
  have HNL := Lib.hid hnl
  have HOK := Lib.hid hok
  have HFB := Lib.hid hfb
  have HLB := Lib.hid hlb
  have kN : Kept (IsNet w1 A k c ns B l d ps) := ⟨h.below hB1⟩
  have kF : Kept (Ints w1 C l fs) := ⟨hf.below hB1⟩
  have kV : Kept (Ints w1 D k ls) := ⟨hv.below hB1⟩
  have kX : Kept (Box w1 w.heap.size #[.slice A k c, .slice B l d] 27) := ⟨bx1⟩
  have kY : Kept (Box w1 (w.heap.size + 1) #[.slice C l e, .slice D k f] 30) := ⟨by2⟩
  have kW : Kept (Below w.heap.size w w1) := ⟨hB1⟩
  have xl1 := bx1.lt
  have yl1 := by2.lt
  have x0 : w1.cell? ⟨w.heap.size, 0, none⟩ = some (.slice A k c) := bx1.cell 0
  have x1 : w1.cell? ⟨w.heap.size, 1, none⟩ = some (.slice B l d) := bx1.cell 1
  have y0 : w1.cell? ⟨w.heap.size + 1, 0, none⟩ = some (.slice C l e) := by2.cell 0
  have y1 : w1.cell? ⟨w.heap.size + 1, 1, none⟩ = some (.slice D k f) := by2.cell 1
  rw [hc]
  clear hc h hf hv hnl hml hok hfb hlb hB1 hV bx1 by2
  have kR0 : Kept (Below w1.heap.size w1 w1) := ⟨Below.refl _ _⟩
  go_wp2_with fail
  go_loopw [5, 6] (fun oo ii wr => ∃ j : Nat, j ≤ k ∧ ii = .int .i64 (j : Int) ∧ oo = .string (txN ns ls j) ∧ Kept (Below w1.heap.size w1 wr)) (fun _ ii _ => k - (intOf ii).toNat)
  case atStart => exact ⟨0, Nat.zero_le _, rfl, rfl, kR0⟩
  case round =>
    clear xl1 yl1 x0 x1 y0 y1
    obtain ⟨j, hj, rfl, rfl, kR⟩ := hrel
    clear kR0
    have zl := (kX.out.belowA kR.out).lt
    have ul := (kY.out.belowA kR.out).lt
    have z0 : wr.cell? ⟨w.heap.size, 0, none⟩ = some (.slice A k c) := (kX.out.belowA kR.out).cell 0
    have z1 : wr.cell? ⟨w.heap.size, 1, none⟩ = some (.slice B l d) := (kX.out.belowA kR.out).cell 1
    have u0 : wr.cell? ⟨w.heap.size + 1, 0, none⟩ = some (.slice C l e) := (kY.out.belowA kR.out).cell 0
    have u1 : wr.cell? ⟨w.heap.size + 1, 1, none⟩ = some (.slice D k f) := (kY.out.belowA kR.out).cell 1
    by_cases hlt : j < k
    case pos =>
      obtain ⟨bn, on, x, rfl, hbn, hx, _, c0, c1, c2⟩ := (kN.out.below kR.out).nodes.at_ hlt
      obtain ⟨bl, ol, rfl, hbl, cz⟩ := (kV.out.below kR.out).atD hlt
      have HST := Lib.hid (show txN ns ls (j + 1) = txN ns ls j ++ x.nm ++ ⟨#[61]⟩ ++ numB (ls.getD j 0) ++ ⟨#[10]⟩ by rw [txN_step, nmAt_at hx])
      have hns : x.nm.size ≤ 8 := by rw [← nmAt_at hx]; exact nmAt_size HOK.out j
      have hzz := bd_lv HLB.out j
      have hNs := num_sz (bd_lv HLB.out) j
      have hss := txN_sz HOK.out HLB.out (k := j) (by omega)
      obtain ⟨z, hz⟩ : ∃ y, ls.getD j 0 = y := ⟨_, rfl⟩
      rw [hz] at cz hzz hNs HST
      have HZZ := Lib.hid hzz
      clear hzz
      obtain ⟨N, hN⟩ : ∃ y, numB z = y := ⟨_, rfl⟩
      rw [hN] at hNs HST
      have HN := Lib.hid hN
      obtain ⟨s, hs⟩ : ∃ y, txN ns ls j = y := ⟨_, rfl⟩
      rw [hs] at HST hss
      rw [hs]
      obtain ⟨nx, hnx⟩ : ∃ y, x.nm = y := ⟨_, rfl⟩
      rw [hnx] at c0 hns HST
      clear hx hz hN hs hnx c1 c2
      have ca0 : ¬ 9223372036854775807 < s.size + nx.size := by omega
      have cb0 : ¬ 9223372036854775807 < (s).size + nx.size := by omega
      have ca1 : ¬ 9223372036854775807 < s.size + nx.size + 1 := by omega
      have cb1 : ¬ 9223372036854775807 < (s ++ nx).size + 1 := by simp only [ByteArray.size_append]; omega
      have ca2 : ¬ 9223372036854775807 < s.size + nx.size + 1 + N.size := by omega
      have cb2 : ¬ 9223372036854775807 < (s ++ nx ++ (⟨#[61]⟩ : ByteArray)).size + N.size := by simp only [ByteArray.size_append, show (⟨#[61]⟩ : ByteArray).size = 1 from rfl]; omega
      have ca3 : ¬ 9223372036854775807 < s.size + nx.size + 1 + N.size + 1 := by omega
      have cb3 : ¬ 9223372036854775807 < (s ++ nx ++ (⟨#[61]⟩ : ByteArray) ++ N).size + 1 := by simp only [ByteArray.size_append, show (⟨#[61]⟩ : ByteArray).size = 1 from rfl]; omega
      have i0 : (0 : Int) ≤ (j : Int) := by omega
      have i1 : (j : Int) < (k : Int) := by omega
      have i2 : ¬ (k : Int) ≤ (j : Int) := by omega
      have kR2 : Kept (Below w1.heap.size w1 wr.drew) := ⟨kR.out.drew⟩
      go_upto_region 7 with fail
      clear kR u0 z1
      go_region_held3 (fun w' => w.heap.size < w'.heap.size ∧ w.heap.size + 1 < w'.heap.size ∧ bn < w'.heap.size ∧ bl < w'.heap.size ∧ w'.cell? ⟨w.heap.size, 0, none⟩ = some (.slice (some ⟨bn, on, none⟩) k c) ∧ w'.cell? ⟨bn, on + j * 3, none⟩ = some (.string nx) ∧ w'.cell? ⟨w.heap.size + 1, 1, none⟩ = some (.slice (some ⟨bl, ol, none⟩) k f) ∧ w'.cell? ⟨bl, ol + j, none⟩ = some (.int .i64 z) ∧ Kept (Below w1.heap.size w1 w'))
        (first | (go_split_ands; exact ⟨by have := hbb.size; omega, by have := hbb.size; omega, by have := hbb.size; omega, by have := hbb.size; omega, (hbb.cell (by simp; omega)).trans (by assumption), (hbb.cell (by simp; omega)).trans (by assumption), (hbb.cell (by simp; omega)).trans (by assumption), (hbb.cell (by simp; omega)).trans (by assumption), ⟨bthen (Kept.out ‹Kept (Below w1.heap.size w1 _)›) hbb (Kept.out ‹Kept (Below w1.heap.size w1 _)›).size⟩⟩) | go_keep)
        (first | (go_at_call 31; go_split_ands; refine (sNum_any z _ HZZ.out.1 HZZ.out.2).mono ?_; rw [HN.out]; rintro e5 wb ⟨rfl, hbb⟩))
      rename_i hh
      obtain ⟨_, _, _, _, _, _, _, _, ⟨hRe⟩⟩ := hh
      clear zl ul z0 u1 c0 cz kR2
      go_wp2_with fail
      go_roundw
      case rel => exact ⟨j + 1, by omega, by go_num, by rw [HST.out], ⟨hRe⟩⟩
      case measure => simp [intOf]; omega
    case neg =>
    obtain rfl : j = k := by omega
    have i1 : ¬ (j : Int) < (j : Int) := by omega
    have hs0 := txN_sz HOK.out HLB.out (k := j) hn24
    obtain ⟨s0, hs0e⟩ : ∃ y, txN ns ls j = y := ⟨_, rfl⟩
    rw [hs0e] at HQ hs0
    rw [hs0e]
    clear hs0e
    go_wp2_with fail
    go_loopw [5, 7] (fun oo ii wr => ∃ i : Nat, i ≤ l ∧ ii = .int .i64 (i : Int) ∧ oo = .string (txP ns ps fs s0 i) ∧ Kept (Below w1.heap.size w1 wr)) (fun _ ii _ => l - (intOf ii).toNat)
    case atStart => exact ⟨0, Nat.zero_le _, rfl, rfl, kR⟩
    case round =>
      clear zl ul z0 z1 u0 u1 kR
      obtain ⟨i, hi, rfl, rfl, kR⟩ := hrel
      have zl := (kX.out.belowA kR.out).lt
      have ul := (kY.out.belowA kR.out).lt
      have z0 : wr.cell? ⟨w.heap.size, 0, none⟩ = some (.slice A j c) := (kX.out.belowA kR.out).cell 0
      have z1 : wr.cell? ⟨w.heap.size, 1, none⟩ = some (.slice B l d) := (kX.out.belowA kR.out).cell 1
      have u0 : wr.cell? ⟨w.heap.size + 1, 0, none⟩ = some (.slice C l e) := (kY.out.belowA kR.out).cell 0
      have u1 : wr.cell? ⟨w.heap.size + 1, 1, none⟩ = some (.slice D j f) := (kY.out.belowA kR.out).cell 1
      by_cases hlt : i < l
      case pos =>
        obtain ⟨bp, op, p, rfl, hbp, hpp, _, q0, q1, q2, q3, q4⟩ := (kN.out.below kR.out).pipes.at_ hlt
        obtain ⟨e1, e2, l1, l2, _, _, _⟩ := pipe_ok HOK.out hpp
        have HST := Lib.hid (txP_step ns ps fs s0 i)
        have hss := txP_sz HOK.out HFB.out hs0 (k := i) (by omega)
        obtain ⟨u, hu⟩ : ∃ y, efr (esOf ps) i = y := ⟨_, rfl⟩
        obtain ⟨v, hv⟩ : ∃ y, eto (esOf ps) i = y := ⟨_, rfl⟩
        rw [hu] at e1 l1 HST
        rw [hv] at e2 l2 HST
        rw [e1] at q0
        rw [e2] at q1
        rw [HNL.out] at l1 l2
        obtain ⟨bn, on, x, rfl, hbn, hx, _, c0, _, _⟩ := (kN.out).nodes.at_ l1
        obtain ⟨bn', on', x', hA', _, hx', _, c0', _, _⟩ := (kN.out).nodes.at_ l2
        obtain ⟨rfl, rfl⟩ : bn = bn' ∧ on = on' := by
          injection hA' with hA'
          injection hA' with a1 a2
          exact ⟨a1, a2⟩
        obtain ⟨bf, of, rfl, hbf, cz⟩ := kF.out.atD hlt
        have hns := nmAt_size HOK.out u
        have hns' := nmAt_size HOK.out v
        rw [nmAt_at hx] at hns HST
        rw [nmAt_at hx'] at hns' HST
        have hzz := bd_fl HFB.out i
        have hNs := num_sz (bd_fl HFB.out) i
        obtain ⟨z, hz⟩ : ∃ y, fs.getD i 0 = y := ⟨_, rfl⟩
        rw [hz] at cz hzz hNs HST
        have HZZ := Lib.hid hzz
        clear hzz
        obtain ⟨N, hN⟩ : ∃ y, numB z = y := ⟨_, rfl⟩
        rw [hN] at hNs HST
        have HN := Lib.hid hN
        obtain ⟨s, hs⟩ : ∃ y, txP ns ps fs s0 i = y := ⟨_, rfl⟩
        rw [hs] at HST hss
        rw [hs]
        obtain ⟨nx, hnx⟩ : ∃ y, x.nm = y := ⟨_, rfl⟩
        obtain ⟨nx', hnx'⟩ : ∃ y, x'.nm = y := ⟨_, rfl⟩
        rw [hnx] at c0 hns HST
        rw [hnx'] at c0' hns' HST
        clear hpp hx hx' hz hN hs e1 e2 hu hv hA' hnx hnx'
        have ca0 : ¬ 9223372036854775807 < s.size + nx.size := by omega
        have cb0 : ¬ 9223372036854775807 < (s).size + nx.size := by omega
        have ca1 : ¬ 9223372036854775807 < s.size + nx.size + 1 := by omega
        have cb1 : ¬ 9223372036854775807 < (s ++ nx).size + 1 := by simp only [ByteArray.size_append]; omega
        have ca2 : ¬ 9223372036854775807 < s.size + nx.size + 1 + nx'.size := by omega
        have cb2 : ¬ 9223372036854775807 < (s ++ nx ++ (⟨#[62]⟩ : ByteArray)).size + nx'.size := by simp only [ByteArray.size_append, show (⟨#[62]⟩ : ByteArray).size = 1 from rfl]; omega
        have ca3 : ¬ 9223372036854775807 < s.size + nx.size + 1 + nx'.size + 1 := by omega
        have cb3 : ¬ 9223372036854775807 < (s ++ nx ++ (⟨#[62]⟩ : ByteArray) ++ nx').size + 1 := by simp only [ByteArray.size_append, show (⟨#[62]⟩ : ByteArray).size = 1 from rfl]; omega
        have ca4 : ¬ 9223372036854775807 < s.size + nx.size + 1 + nx'.size + 1 + N.size := by omega
        have cb4 : ¬ 9223372036854775807 < (s ++ nx ++ (⟨#[62]⟩ : ByteArray) ++ nx' ++ (⟨#[61]⟩ : ByteArray)).size + N.size := by simp only [ByteArray.size_append, show (⟨#[61]⟩ : ByteArray).size = 1 from rfl, show (⟨#[62]⟩ : ByteArray).size = 1 from rfl]; omega
        have ca5 : ¬ 9223372036854775807 < s.size + nx.size + 1 + nx'.size + 1 + N.size + 1 := by omega
        have cb5 : ¬ 9223372036854775807 < (s ++ nx ++ (⟨#[62]⟩ : ByteArray) ++ nx' ++ (⟨#[61]⟩ : ByteArray) ++ N).size + 1 := by simp only [ByteArray.size_append, show (⟨#[61]⟩ : ByteArray).size = 1 from rfl, show (⟨#[62]⟩ : ByteArray).size = 1 from rfl]; omega
        have i0 : (0 : Int) ≤ (i : Int) := by omega
        have i1 : (i : Int) < (l : Int) := by omega
        have i2 : ¬ (l : Int) ≤ (i : Int) := by omega
        have iu0 : (0 : Int) ≤ (u : Int) := by omega
        have iu1 : (u : Int) < (j : Int) := by omega
        have iu2 : ¬ (j : Int) ≤ (u : Int) := by omega
        have iv0 : (0 : Int) ≤ (v : Int) := by omega
        have iv1 : (v : Int) < (j : Int) := by omega
        have iv2 : ¬ (j : Int) ≤ (v : Int) := by omega
        go_upto_region 12 with fail
        have bX := box_new wr #[.int .i64 (u : Int), .int .i64 (v : Int), .int .i64 p.k, .int .i64 p.v, .int .i64 p.l] 63
        have hV2 : Below wr.heap.size wr (wr.alloc (.cells #[.int .i64 (u : Int), .int .i64 (v : Int), .int .i64 p.k, .int .i64 p.v, .int .i64 p.l] 63)) := (Below.refl _ _).alloc (Nat.le_refl _) _
        generalize (wr.alloc (.cells #[.int .i64 (u : Int), .int .i64 (v : Int), .int .i64 p.k, .int .i64 p.v, .int .i64 p.l] 63)) = V2 at *
        clear q0 q1 q2 q3 q4 zl ul z0 z1 u0 u1
        have kR2 : Kept (Below w1.heap.size w1 V2.drew) := ⟨(bthen kR.out hV2 kR.out.size).drew⟩
        have hw1 := kR2.out.size
        have hw2 : V2.drew.heap.size = V2.heap.size := rfl
        have xl := bX.lt
        have v0 : V2.cell? ⟨wr.heap.size, 0, none⟩ = some (.int .i64 (u : Int)) := bX.cell 0
        have v1 : V2.cell? ⟨wr.heap.size, 1, none⟩ = some (.int .i64 (v : Int)) := bX.cell 1
        have v2 : V2.cell? ⟨w.heap.size, 0, none⟩ = some (.slice (some ⟨bn, on, none⟩) j c) := (kX.out.belowA kR2.out).cell 0
        have v3 : V2.cell? ⟨w.heap.size + 1, 0, none⟩ = some (.slice (some ⟨bf, of, none⟩) l e) := (kY.out.belowA kR2.out).cell 0
        have v4 : V2.cell? ⟨bn, on + u * 3, none⟩ = some (.string nx) := (kR2.out.cell (p := ⟨bn, on + u * 3, none⟩) hbn).trans c0
        have v5 : V2.cell? ⟨bn, on + v * 3, none⟩ = some (.string nx') := (kR2.out.cell (p := ⟨bn, on + v * 3, none⟩) hbn).trans c0'
        have v6 : V2.cell? ⟨bf, of + i, none⟩ = some (.int .i64 z) := (kR2.out.cell (p := ⟨bf, of + i, none⟩) hbf).trans cz
        have v7 : w.heap.size + 1 < V2.heap.size := (kY.out.belowA kR2.out).lt
        have v8 : w.heap.size < V2.heap.size := by omega
        have v9 : bn < V2.heap.size := by omega
        have v10 : bf < V2.heap.size := by omega
        clear kR bX hV2 hw1 hw2
        go_region_held3 (fun w' => wr.heap.size < w'.heap.size ∧ w.heap.size < w'.heap.size ∧ w.heap.size + 1 < w'.heap.size ∧ bn < w'.heap.size ∧ bf < w'.heap.size ∧ w'.cell? ⟨wr.heap.size, 0, none⟩ = some (.int .i64 (u : Int)) ∧ w'.cell? ⟨wr.heap.size, 1, none⟩ = some (.int .i64 (v : Int)) ∧ w'.cell? ⟨w.heap.size, 0, none⟩ = some (.slice (some ⟨bn, on, none⟩) j c) ∧ w'.cell? ⟨w.heap.size + 1, 0, none⟩ = some (.slice (some ⟨bf, of, none⟩) l e) ∧ w'.cell? ⟨bn, on + u * 3, none⟩ = some (.string nx) ∧ w'.cell? ⟨bn, on + v * 3, none⟩ = some (.string nx') ∧ w'.cell? ⟨bf, of + i, none⟩ = some (.int .i64 z) ∧ Kept (Below w1.heap.size w1 w'))
          (first | (go_split_ands; exact ⟨by have := hbb.size; omega, by have := hbb.size; omega, by have := hbb.size; omega, by have := hbb.size; omega, by have := hbb.size; omega, (hbb.cell (by simp; omega)).trans (by assumption), (hbb.cell (by simp; omega)).trans (by assumption), (hbb.cell (by simp; omega)).trans (by assumption), (hbb.cell (by simp; omega)).trans (by assumption), (hbb.cell (by simp; omega)).trans (by assumption), (hbb.cell (by simp; omega)).trans (by assumption), (hbb.cell (by simp; omega)).trans (by assumption), ⟨bthen (Kept.out ‹Kept (Below w1.heap.size w1 _)›) hbb (Kept.out ‹Kept (Below w1.heap.size w1 _)›).size⟩⟩) | go_keep)
          (first | (go_at_call 31; go_split_ands; refine (sNum_any z _ HZZ.out.1 HZZ.out.2).mono ?_; rw [HN.out]; rintro e5 wb ⟨rfl, hbb⟩))
        rename_i hh
        obtain ⟨_, _, _, _, _, _, _, _, _, _, _, _, ⟨hRe⟩⟩ := hh
        clear v0 v1 v2 v3 v4 v5 v6 v7 v8 v9 v10 kR2
        go_wp2_with fail
        go_roundw
        case rel => exact ⟨i + 1, by omega, by go_num, by rw [HST.out], ⟨hRe⟩⟩
        case measure => simp [intOf]; omega
      case neg =>
      obtain rfl : i = l := by omega
      have i1 : ¬ (i : Int) < (i : Int) := by omega
      go_wp2_with fail
      go_ret
      exact ⟨rsS HQ.out.symm, bthen kW.out kR.out kW.out.size⟩
end Go.Proofs.YtebefamekjjbcaaGreatDoor
set_option linter.unusedVariables false
set_option maxRecDepth 100000
namespace Go.Proofs.YtebefamekjjbcaaGreatDoor
open Go.ChangeShapes Go.WideShapes Go.ChangeAt Go.RowKit Go.Joins Go.Deep Go.Shelf
attribute [local go_sem ↓] Go.wp_at_zero Go.wp_at_succ

set_option maxHeartbeats 8000000 in
theorem ptx_any (A B C D : Option Addr) (n c m d l e k f : Nat) (ns : List Nd) (ps : List Pp) (fs ls : List Int) (w : World) (h : IsNet w A n c ns B m d ps) (hf : Ints w C l fs) (hv : Ints w D k ls) (hl : l ≤ 1048576) (hk : k ≤ 1048576) (hT : PowTab w) :
    Calls Tryz.prog 10 #[.agg #[.slice A n c, .slice B m d], .agg #[.slice C l e, .slice D k f]] w fun e w' => e = .returned (.string (ptx ns ps m n fs ls)) ∧ Below w.heap.size w w' := by
  have hV : Below w.heap.size w ((w.alloc (.cells #[.slice A n c, .slice B m d] 27)).alloc (.cells #[.slice C l e, .slice D k f] 30)) := ((Below.refl _ _).alloc (Nat.le_refl _) _).alloc (by simp) _
  have bx := (box_new w #[.slice A n c, .slice B m d] 27).alloc (.cells #[.slice C l e, .slice D k f] 30)
  have by1 := box_at (w.alloc (.cells #[.slice A n c, .slice B m d] 27)) #[.slice C l e, .slice D k f] 30 (g := w.heap.size + 1) (by simp)
  go_enter Tryz.func10, Tryz.ntmps10
  go_upto_region 1 with fail
  generalize ((w.alloc (.cells #[.slice A n c, .slice B m d] 27)).alloc (.cells #[.slice C l e, .slice D k f] 30)) = V at *
  have xl := bx.lt
  have x0 : V.cell? ⟨w.heap.size, 0, none⟩ = some (.slice A n c) := bx.cell 0
  have x1 : V.cell? ⟨w.heap.size, 1, none⟩ = some (.slice B m d) := bx.cell 1
  have yl := by1.lt
  have y0 : V.cell? ⟨w.heap.size + 1, 0, none⟩ = some (.slice C l e) := by1.cell 0
  have y1 : V.cell? ⟨w.heap.size + 1, 1, none⟩ = some (.slice D k f) := by1.cell 1
  go_wp2_with fail
  refine (codeQ_any _ _ _ _ _ _ _ _ _ _ _ _ ns ps fs ls _ (h.below hV) (hf.below hV) (hv.below hV) hl hk).mono ?_
  rintro e1 w1 ⟨rfl, hb1⟩
  have hB1 := bthen hV hb1 hV.size
  have bx1 := bx.belowA hb1
  have by2 := by1.belowA hb1
  clear x0 x1 xl y0 y1 yl hb1 bx by1
  rcases codeQ_in ns ps m n fs ls with ⟨hc, hok, hfb, hlb⟩ | hc | hc
  rotate_left
  all_goals try
    have HQ := Lib.hid (ptx_no hc (by decide))
    rw [hc]
    clear hc
    go_wp2_with fail
    go_ret
    exact ⟨rsS HQ.out.symm, hB1⟩
  obtain rfl : l = m := by rw [← hf.len, flB_len hfb]
  obtain rfl : k = n := by rw [← hv.len, lvB_len hlb]
  have hnl : ns.length = k := h.nodes.len
  have hml : ps.length = l := h.pipes.len
  have hn24 : k ≤ 24 := by have := hok.2.1; omega
  have hm40 : l ≤ 40 := by have := hok.2.2.1; omega
  have HQ := Lib.hid (ptx_ok hc)
  have HNL := Lib.hid hnl
  have HOK := Lib.hid hok
  have HFB := Lib.hid hfb
  have HLB := Lib.hid hlb
  have kN : Kept (IsNet w1 A k c ns B l d ps) := ⟨h.below hB1⟩
  have kF : Kept (Ints w1 C l fs) := ⟨hf.below hB1⟩
  have kV : Kept (Ints w1 D k ls) := ⟨hv.below hB1⟩
  have kX : Kept (Box w1 w.heap.size #[.slice A k c, .slice B l d] 27) := ⟨bx1⟩
  have kY : Kept (Box w1 (w.heap.size + 1) #[.slice C l e, .slice D k f] 30) := ⟨by2⟩
  have kW : Kept (Below w.heap.size w w1) := ⟨hB1⟩
  have kT : Kept (PowTab w1) := ⟨hT.below hB1⟩
  clear hT
  have xl1 := bx1.lt
  have yl1 := by2.lt
  have x0 : w1.cell? ⟨w.heap.size, 0, none⟩ = some (.slice A k c) := bx1.cell 0
  have x1 : w1.cell? ⟨w.heap.size, 1, none⟩ = some (.slice B l d) := bx1.cell 1
  have y0 : w1.cell? ⟨w.heap.size + 1, 0, none⟩ = some (.slice C l e) := by2.cell 0
  have y1 : w1.cell? ⟨w.heap.size + 1, 1, none⟩ = some (.slice D k f) := by2.cell 1
  rw [hc]
  clear hc h hf hv hnl hml hok hfb hlb hB1 hV bx1 by2
  have kB0 : Kept (Bld (w1.alloc (.cells #[.pointer none, .slice none 0 0] 54)) w1.heap.size ByteArray.empty) := ⟨bld_new w1⟩
  have kR0 : Kept (Below w1.heap.size w1 (w1.alloc (.cells #[.pointer none, .slice none 0 0] 54))) := ⟨(Below.refl _ _).alloc (Nat.le_refl _) _⟩
  go_upto_region 4 with fail
  generalize (w1.alloc (.cells #[.pointer none, .slice none 0 0] 54)) = w2 at *
  clear x0 x1 y0 y1
  have zl := (kX.out.belowA kR0.out).lt
  have ul := (kY.out.belowA kR0.out).lt
  have z0 : w2.cell? ⟨w.heap.size, 0, none⟩ = some (.slice A k c) := (kX.out.belowA kR0.out).cell 0
  have z1 : w2.cell? ⟨w.heap.size, 1, none⟩ = some (.slice B l d) := (kX.out.belowA kR0.out).cell 1
  have u0 : w2.cell? ⟨w.heap.size + 1, 0, none⟩ = some (.slice C l e) := (kY.out.belowA kR0.out).cell 0
  have u1 : w2.cell? ⟨w.heap.size + 1, 1, none⟩ = some (.slice D k f) := (kY.out.belowA kR0.out).cell 1
  go_wp2_with fail
  go_loopw [17] (fun ii wr => ∃ j : Nat, j ≤ k ∧ ii = .int .i64 (j : Int) ∧ Kept (Bld wr w1.heap.size (txN ns ls j)) ∧ Kept (Below w1.heap.size w1 wr)) (fun ii _ => k - (intOf ii).toNat)
  case atStart => exact ⟨0, Nat.zero_le _, rfl, kB0, kR0⟩
  case round =>
    clear zl ul z0 z1 u0 u1
    obtain ⟨j, hj, rfl, kB, kR⟩ := hrel
    clear kB0 kR0
    by_cases hlt : j < k
    case pos =>
      obtain ⟨bn, on, x, rfl, hbn, hx, _, c0, c1, c2⟩ := (kN.out.below kR.out).nodes.at_ hlt
      obtain ⟨bl, ol, rfl, hbl, cz⟩ := kV.out.atD hlt
      have HST := Lib.hid (show txN ns ls (j + 1) = txN ns ls j ++ (x.nm ++ ⟨#[61]⟩ ++ numB (ls.getD j 0) ++ ⟨#[10]⟩) by rw [txN, lnN, nmAt_at hx])
      have hns : x.nm.size ≤ 8 := by rw [← nmAt_at hx]; exact nmAt_size HOK.out j
      have hzz := bd_lv HLB.out j
      have hNs := num_sz (bd_lv HLB.out) j
      have hss := txN_sz HOK.out HLB.out (k := j) (by omega)
      obtain ⟨z, hz⟩ : ∃ y, ls.getD j 0 = y := ⟨_, rfl⟩
      rw [hz] at cz hzz hNs HST
      have HZZ := Lib.hid hzz
      clear hzz
      obtain ⟨N, hN⟩ : ∃ y, numB z = y := ⟨_, rfl⟩
      rw [hN] at hNs HST
      have HN := Lib.hid hN
      obtain ⟨s, hs⟩ : ∃ y, txN ns ls j = y := ⟨_, rfl⟩
      rw [hs] at kB HST hss
      clear hx hz hN hs
      have HSZ := Lib.hid (show s.size + (x.nm ++ (⟨#[61]⟩ : ByteArray) ++ N ++ (⟨#[10]⟩ : ByteArray)).size ≤ 140737488355328 by simp only [ByteArray.size_append]; simp only [show (⟨#[61]⟩ : ByteArray).size = 1 from rfl, show (⟨#[10]⟩ : ByteArray).size = 1 from rfl]; omega)
      have ca0 : ¬ 9223372036854775807 < x.nm.size + 1 := by omega
      have cb0 : ¬ 9223372036854775807 < (x.nm).size + 1 := by omega
      have ca1 : ¬ 9223372036854775807 < x.nm.size + 1 + N.size := by omega
      have cb1 : ¬ 9223372036854775807 < (x.nm ++ (⟨#[61]⟩ : ByteArray)).size + N.size := by simp only [ByteArray.size_append, show (⟨#[61]⟩ : ByteArray).size = 1 from rfl]; omega
      have ca2 : ¬ 9223372036854775807 < x.nm.size + 1 + N.size + 1 := by omega
      have cb2 : ¬ 9223372036854775807 < (x.nm ++ (⟨#[61]⟩ : ByteArray) ++ N).size + 1 := by simp only [ByteArray.size_append, show (⟨#[61]⟩ : ByteArray).size = 1 from rfl]; omega
      have i0 : (0 : Int) ≤ (j : Int) := by omega
      have i1 : (j : Int) < (k : Int) := by omega
      have i2 : ¬ (k : Int) ≤ (j : Int) := by omega
      go_upto_region 7 with fail
      have bX := box_new wr #[.string x.nm, .int .i64 x.lo, .int .i64 x.hi] 56
      have hV2 : Below wr.heap.size wr (wr.alloc (.cells #[.string x.nm, .int .i64 x.lo, .int .i64 x.hi] 56)) := (Below.refl _ _).alloc (Nat.le_refl _) _
      generalize (wr.alloc (.cells #[.string x.nm, .int .i64 x.lo, .int .i64 x.hi] 56)) = V2 at *
      clear c0 c1 c2
      have hbw := kB.out.lt
      have kR2 : Kept (Below w1.heap.size w1 V2.drew) := ⟨(bthen kR.out hV2 kR.out.size).drew⟩
      have kD : Kept (Bld V2.drew w1.heap.size s) := ⟨(kB.out.below hV2).drew⟩
      have kXb : Kept (Box V2.drew wr.heap.size #[.string x.nm, .int .i64 x.lo, .int .i64 x.hi] 56) := ⟨bX.drew⟩
      have xl := bX.lt
      have v0 : V2.cell? ⟨wr.heap.size, 0, none⟩ = some (.string x.nm) := bX.cell 0
      have v1 : V2.cell? ⟨w.heap.size + 1, 1, none⟩ = some (.slice (some ⟨bl, ol, none⟩) k f) := (kY.out.belowA kR2.out).cell 1
      have v2 : V2.cell? ⟨bl, ol + j, none⟩ = some (.int .i64 z) := (kR2.out.cell (p := ⟨bl, ol + j, none⟩) hbl).trans cz
      have v3 : w.heap.size + 1 < V2.heap.size := by omega
      have v4 : bl < V2.heap.size := by omega
      clear kR kB bX hV2
      go_region_held3 (fun w' => wr.heap.size < w'.heap.size ∧ w.heap.size + 1 < w'.heap.size ∧ bl < w'.heap.size ∧ w'.cell? ⟨wr.heap.size, 0, none⟩ = some (.string x.nm) ∧ w'.cell? ⟨w.heap.size + 1, 1, none⟩ = some (.slice (some ⟨bl, ol, none⟩) k f) ∧ w'.cell? ⟨bl, ol + j, none⟩ = some (.int .i64 z) ∧ Kept (Below w1.heap.size w1 w') ∧ Kept (Box w' wr.heap.size #[.string x.nm, .int .i64 x.lo, .int .i64 x.hi] 56))
        (first | (go_split_ands; exact ⟨by have := hbW.size; omega, by have := hbW.size; omega, by have := hbW.size; omega, (box_others (Kept.out ‹Kept (Box _ wr.heap.size _ _)›) hOK (by omega) (by decide)).cell 0, (hbW.cell (by simp; omega)).trans (by assumption), (hbW.cell (by simp; omega)).trans (by assumption), ⟨(Kept.out ‹Kept (Below w1.heap.size w1 _)›).trans hbW⟩, ⟨box_others (Kept.out ‹Kept (Box _ wr.heap.size _ _)›) hOK (by omega) (by decide)⟩⟩) | (go_split_ands; exact ⟨by have := hbb.size; omega, by have := hbb.size; omega, by have := hbb.size; omega, (hbb.cell (by simp; omega)).trans (by assumption), (hbb.cell (by simp; omega)).trans (by assumption), (hbb.cell (by simp; omega)).trans (by assumption), ⟨bthen (Kept.out ‹Kept (Below w1.heap.size w1 _)›) hbb (Kept.out ‹Kept (Below w1.heap.size w1 _)›).size⟩, ⟨(Kept.out ‹Kept (Box _ wr.heap.size _ _)›).belowA hbb⟩⟩) | go_keep)
        (first | (go_at_call 29; go_split_ands; refine (dec_any z _ HZZ.out.1 HZZ.out.2 (kT.out.below (Kept.out ‹Kept (Below w1.heap.size w1 _)›))).mono ?_; rw [HN.out]; rintro e5 wb ⟨rfl, hbb⟩) | (go_at_call 28; go_split_ands; refine (bld_write _ (kD.out.below hbb) HSZ.out).mono ?_; rintro e6 wc ⟨rfl, hBW, hbW, hOK⟩))
      rename_i hh
      obtain ⟨_, _, _, _, _, _, ⟨hRe⟩, _⟩ := hh
      clear v0 v1 v2 v3 v4 kXb kD kR2
      go_wp2_with fail
      go_roundw
      case rel => exact ⟨j + 1, by omega, by go_num, ⟨by rw [HST.out]; exact hBW⟩, ⟨hRe⟩⟩
      case measure => simp [intOf]; omega
    case neg =>
    obtain rfl : j = k := by omega
    have i1 : ¬ (j : Int) < (j : Int) := by omega
    have zl := (kX.out.belowA kR.out).lt
    have ul := (kY.out.belowA kR.out).lt
    have z0 : wr.cell? ⟨w.heap.size, 0, none⟩ = some (.slice A j c) := (kX.out.belowA kR.out).cell 0
    have z1 : wr.cell? ⟨w.heap.size, 1, none⟩ = some (.slice B l d) := (kX.out.belowA kR.out).cell 1
    have u0 : wr.cell? ⟨w.heap.size + 1, 0, none⟩ = some (.slice C l e) := (kY.out.belowA kR.out).cell 0
    have u1 : wr.cell? ⟨w.heap.size + 1, 1, none⟩ = some (.slice D j f) := (kY.out.belowA kR.out).cell 1
    have hs0 := txN_sz HOK.out HLB.out (k := j) hn24
    obtain ⟨s0, hs0e⟩ : ∃ y, txN ns ls j = y := ⟨_, rfl⟩
    rw [hs0e] at kB HQ hs0
    clear hs0e
    go_wp2_with fail
    go_loopw [38] (fun ii wr => ∃ i : Nat, i ≤ l ∧ ii = .int .i64 (i : Int) ∧ Kept (Bld wr w1.heap.size (txP ns ps fs s0 i)) ∧ Kept (Below w1.heap.size w1 wr)) (fun ii _ => l - (intOf ii).toNat)
    case atStart => exact ⟨0, Nat.zero_le _, rfl, kB, kR⟩
    case round =>
      rename_i wq _
      clear zl ul z0 z1 u0 u1 kB kR
      obtain ⟨i, hi, rfl, kB, kR⟩ := hrel
      by_cases hlt : i < l
      case pos =>
        obtain ⟨bp, op, p, rfl, hbp, hpp, _, q0, q1, q2, q3, q4⟩ := (kN.out.below kR.out).pipes.at_ hlt
        obtain ⟨e1, e2, l1, l2, _, _, _⟩ := pipe_ok HOK.out hpp
        have HLL1 := Lib.hid l1
        have HST := Lib.hid (show txP ns ps fs s0 (i + 1) = txP ns ps fs s0 i ++ (nmAt ns (efr (esOf ps) i) ++ ⟨#[62]⟩ ++ nmAt ns (eto (esOf ps) i) ++ ⟨#[61]⟩ ++ numB (fs.getD i 0) ++ ⟨#[10]⟩) by rw [txP, lnP])
        have hss := txP_sz HOK.out HFB.out hs0 (k := i) (by omega)
        obtain ⟨u, hu⟩ : ∃ y, efr (esOf ps) i = y := ⟨_, rfl⟩
        obtain ⟨v, hv⟩ : ∃ y, eto (esOf ps) i = y := ⟨_, rfl⟩
        rw [hu] at e1 l1 HST
        rw [hv] at e2 l2 HST
        rw [e1] at q0
        rw [e2] at q1
        rw [HNL.out] at l1 l2
        obtain ⟨bn, on, x, rfl, hbn, hx, _, c0, _, _⟩ := (kN.out).nodes.at_ l1
        obtain ⟨bn', on', x', hA', _, hx', _, c0', _, _⟩ := (kN.out).nodes.at_ l2
        obtain ⟨rfl, rfl⟩ : bn = bn' ∧ on = on' := by
          injection hA' with hA'
          injection hA' with a1 a2
          exact ⟨a1, a2⟩
        obtain ⟨bf, of, rfl, hbf, cz⟩ := kF.out.atD hlt
        have hns := nmAt_size HOK.out u
        have hns' := nmAt_size HOK.out v
        rw [nmAt_at hx] at hns HST
        rw [nmAt_at hx'] at hns' HST
        have hzz := bd_fl HFB.out i
        have hNs := num_sz (bd_fl HFB.out) i
        obtain ⟨z, hz⟩ : ∃ y, fs.getD i 0 = y := ⟨_, rfl⟩
        rw [hz] at cz hzz hNs HST
        have HZZ := Lib.hid hzz
        clear hzz
        obtain ⟨N, hN⟩ : ∃ y, numB z = y := ⟨_, rfl⟩
        rw [hN] at hNs HST
        have HN := Lib.hid hN
        obtain ⟨s, hs⟩ : ∃ y, txP ns ps fs s0 i = y := ⟨_, rfl⟩
        rw [hs] at kB HST hss
        obtain ⟨nx, hnx⟩ : ∃ y, x.nm = y := ⟨_, rfl⟩
        obtain ⟨nx', hnx'⟩ : ∃ y, x'.nm = y := ⟨_, rfl⟩
        rw [hnx] at c0 hns HST
        rw [hnx'] at c0' hns' HST
        clear hpp hx hx' hz hN hs e1 e2 hu hv hA' hnx hnx'
        have HSZ := Lib.hid (show s.size + (nx ++ (⟨#[62]⟩ : ByteArray) ++ nx' ++ (⟨#[61]⟩ : ByteArray) ++ N ++ (⟨#[10]⟩ : ByteArray)).size ≤ 140737488355328 by simp only [ByteArray.size_append]; simp only [show (⟨#[61]⟩ : ByteArray).size = 1 from rfl, show (⟨#[62]⟩ : ByteArray).size = 1 from rfl, show (⟨#[10]⟩ : ByteArray).size = 1 from rfl]; omega)
        have ca0 : ¬ 9223372036854775807 < nx.size + 1 := by omega
        have cb0 : ¬ 9223372036854775807 < (nx).size + 1 := by omega
        have ca1 : ¬ 9223372036854775807 < nx.size + 1 + nx'.size := by omega
        have cb1 : ¬ 9223372036854775807 < (nx ++ (⟨#[62]⟩ : ByteArray)).size + nx'.size := by simp only [ByteArray.size_append, show (⟨#[62]⟩ : ByteArray).size = 1 from rfl]; omega
        have ca2 : ¬ 9223372036854775807 < nx.size + 1 + nx'.size + 1 := by omega
        have cb2 : ¬ 9223372036854775807 < (nx ++ (⟨#[62]⟩ : ByteArray) ++ nx').size + 1 := by simp only [ByteArray.size_append, show (⟨#[62]⟩ : ByteArray).size = 1 from rfl]; omega
        have ca3 : ¬ 9223372036854775807 < nx.size + 1 + nx'.size + 1 + N.size := by omega
        have cb3 : ¬ 9223372036854775807 < (nx ++ (⟨#[62]⟩ : ByteArray) ++ nx' ++ (⟨#[61]⟩ : ByteArray)).size + N.size := by simp only [ByteArray.size_append, show (⟨#[61]⟩ : ByteArray).size = 1 from rfl, show (⟨#[62]⟩ : ByteArray).size = 1 from rfl]; omega
        have ca4 : ¬ 9223372036854775807 < nx.size + 1 + nx'.size + 1 + N.size + 1 := by omega
        have cb4 : ¬ 9223372036854775807 < (nx ++ (⟨#[62]⟩ : ByteArray) ++ nx' ++ (⟨#[61]⟩ : ByteArray) ++ N).size + 1 := by simp only [ByteArray.size_append, show (⟨#[61]⟩ : ByteArray).size = 1 from rfl, show (⟨#[62]⟩ : ByteArray).size = 1 from rfl]; omega
        have i0 : (0 : Int) ≤ (i : Int) := by omega
        have i1 : (i : Int) < (l : Int) := by omega
        have i2 : ¬ (l : Int) ≤ (i : Int) := by omega
        have iu0 : (0 : Int) ≤ (u : Int) := by omega
        have iu1 : (u : Int) < (j : Int) := by omega
        have iu2 : ¬ (j : Int) ≤ (u : Int) := by omega
        have iv0 : (0 : Int) ≤ (v : Int) := by omega
        have iv1 : (v : Int) < (j : Int) := by omega
        have iv2 : ¬ (j : Int) ≤ (v : Int) := by omega
        go_upto_region 12 with fail
        have bX := box_new wr #[.int .i64 (u : Int), .int .i64 (v : Int), .int .i64 p.k, .int .i64 p.v, .int .i64 p.l] 63
        have hV2 : Below wr.heap.size wr (wr.alloc (.cells #[.int .i64 (u : Int), .int .i64 (v : Int), .int .i64 p.k, .int .i64 p.v, .int .i64 p.l] 63)) := (Below.refl _ _).alloc (Nat.le_refl _) _
        generalize (wr.alloc (.cells #[.int .i64 (u : Int), .int .i64 (v : Int), .int .i64 p.k, .int .i64 p.v, .int .i64 p.l] 63)) = V2 at *
        clear q0 q1 q2 q3 q4
        have hbw := kB.out.lt
        have kR2 : Kept (Below w1.heap.size w1 V2.drew) := ⟨(bthen kR.out hV2 kR.out.size).drew⟩
        have kD : Kept (Bld V2.drew w1.heap.size s) := ⟨(kB.out.below hV2).drew⟩
        have kXb : Kept (Box V2.drew wr.heap.size #[.int .i64 (u : Int), .int .i64 (v : Int), .int .i64 p.k, .int .i64 p.v, .int .i64 p.l] 63) := ⟨bX.drew⟩
        have xl := bX.lt
        have v0 : V2.cell? ⟨wr.heap.size, 0, none⟩ = some (.int .i64 (u : Int)) := bX.cell 0
        have v1 : V2.cell? ⟨wr.heap.size, 1, none⟩ = some (.int .i64 (v : Int)) := bX.cell 1
        have v2 : V2.cell? ⟨w.heap.size, 0, none⟩ = some (.slice (some ⟨bn, on, none⟩) j c) := (kX.out.belowA kR2.out).cell 0
        have v3 : V2.cell? ⟨w.heap.size + 1, 0, none⟩ = some (.slice (some ⟨bf, of, none⟩) l e) := (kY.out.belowA kR2.out).cell 0
        have v4 : V2.cell? ⟨bn, on + u * 3, none⟩ = some (.string nx) := (kR2.out.cell (p := ⟨bn, on + u * 3, none⟩) hbn).trans c0
        have v5 : V2.cell? ⟨bn, on + v * 3, none⟩ = some (.string nx') := (kR2.out.cell (p := ⟨bn, on + v * 3, none⟩) hbn).trans c0'
        have v6 : V2.cell? ⟨bf, of + i, none⟩ = some (.int .i64 z) := (kR2.out.cell (p := ⟨bf, of + i, none⟩) hbf).trans cz
        have v7 : w.heap.size + 1 < V2.heap.size := by omega
        have v8 : w.heap.size < V2.heap.size := by omega
        have v9 : bn < V2.heap.size := by omega
        have v10 : bf < V2.heap.size := by omega
        clear kR kB bX hV2
        go_region_held3 (fun w' => wr.heap.size < w'.heap.size ∧ w.heap.size < w'.heap.size ∧ w.heap.size + 1 < w'.heap.size ∧ bn < w'.heap.size ∧ bf < w'.heap.size ∧ w'.cell? ⟨wr.heap.size, 0, none⟩ = some (.int .i64 (u : Int)) ∧ w'.cell? ⟨wr.heap.size, 1, none⟩ = some (.int .i64 (v : Int)) ∧ w'.cell? ⟨w.heap.size, 0, none⟩ = some (.slice (some ⟨bn, on, none⟩) j c) ∧ w'.cell? ⟨w.heap.size + 1, 0, none⟩ = some (.slice (some ⟨bf, of, none⟩) l e) ∧ w'.cell? ⟨bn, on + u * 3, none⟩ = some (.string nx) ∧ w'.cell? ⟨bn, on + v * 3, none⟩ = some (.string nx') ∧ w'.cell? ⟨bf, of + i, none⟩ = some (.int .i64 z) ∧ Kept (Below w1.heap.size w1 w') ∧ Kept (Box w' wr.heap.size #[.int .i64 (u : Int), .int .i64 (v : Int), .int .i64 p.k, .int .i64 p.v, .int .i64 p.l] 63))
          (first | (go_split_ands; exact ⟨by have := hbW.size; omega, by have := hbW.size; omega, by have := hbW.size; omega, by have := hbW.size; omega, by have := hbW.size; omega, (box_others (Kept.out ‹Kept (Box _ wr.heap.size _ _)›) hOK (by omega) (by decide)).cell 0, (box_others (Kept.out ‹Kept (Box _ wr.heap.size _ _)›) hOK (by omega) (by decide)).cell 1, (hbW.cell (by simp; omega)).trans (by assumption), (hbW.cell (by simp; omega)).trans (by assumption), (hbW.cell (by simp; omega)).trans (by assumption), (hbW.cell (by simp; omega)).trans (by assumption), (hbW.cell (by simp; omega)).trans (by assumption), ⟨(Kept.out ‹Kept (Below w1.heap.size w1 _)›).trans hbW⟩, ⟨box_others (Kept.out ‹Kept (Box _ wr.heap.size _ _)›) hOK (by omega) (by decide)⟩⟩) | (go_split_ands; exact ⟨by have := hbb.size; omega, by have := hbb.size; omega, by have := hbb.size; omega, by have := hbb.size; omega, by have := hbb.size; omega, (hbb.cell (by simp; omega)).trans (by assumption), (hbb.cell (by simp; omega)).trans (by assumption), (hbb.cell (by simp; omega)).trans (by assumption), (hbb.cell (by simp; omega)).trans (by assumption), (hbb.cell (by simp; omega)).trans (by assumption), (hbb.cell (by simp; omega)).trans (by assumption), (hbb.cell (by simp; omega)).trans (by assumption), ⟨bthen (Kept.out ‹Kept (Below w1.heap.size w1 _)›) hbb (Kept.out ‹Kept (Below w1.heap.size w1 _)›).size⟩, ⟨(Kept.out ‹Kept (Box _ wr.heap.size _ _)›).belowA hbb⟩⟩) | go_keep)
          (first | (go_at_call 29; go_split_ands; refine (dec_any z _ HZZ.out.1 HZZ.out.2 (kT.out.below (Kept.out ‹Kept (Below w1.heap.size w1 _)›))).mono ?_; rw [HN.out]; rintro e5 wb ⟨rfl, hbb⟩) | (go_at_call 28; go_split_ands; refine (bld_write _ (kD.out.below hbb) HSZ.out).mono ?_; rintro e6 wc ⟨rfl, hBW, hbW, hOK⟩))
        rename_i hh
        obtain ⟨_, _, _, _, _, _, _, _, _, _, _, _, ⟨hRe⟩, _⟩ := hh
        clear v0 v1 v2 v3 v4 v5 v6 v7 v8 v9 v10 kXb kD kR2
        go_wp2_with fail
        go_roundw
        case rel => exact ⟨i + 1, by omega, by go_num, ⟨by rw [HST.out]; exact hBW⟩, ⟨hRe⟩⟩
        case measure => simp [intOf]; omega
      case neg =>
      obtain rfl : i = l := by omega
      have i1 : ¬ (i : Int) < (i : Int) := by omega
      go_wp2_with fail
      refine (bld_text kB.out).mono ?_
      rintro e9 w9 ⟨rfl, hb9⟩
      go_wp2_with fail
      go_ret
      exact ⟨rsS HQ.out.symm, bthen kW.out (kR.out.trans hb9) kW.out.size⟩
end Go.Proofs.YtebefamekjjbcaaGreatDoor
