/- The draws of zeros and ones, of costs: what they do, by walks over their text. Condition: a code of at most 4096 bytes; at most 100 numbers to draw. -/
import Derived.Test.YtiofjnohdmminaaUDraw
set_option linter.unusedVariables false
set_option maxRecDepth 100000
namespace Go.Proofs.Ytiofjnohdmminaa
open Go.ChangeShapes Go.WideShapes Go.ChangeAt Go.RowKit Go.Joins Go.Deep
attribute [local go_sem ↓] Go.wp_at_zero Go.wp_at_succ

/-- A call draws a list of numbers. -/
def RetDI (w : World) (B : Nat) (A : Option Addr) (n c : Nat) (zs : List Int) (K : Nat) (e : Ending) (w' : World) : Prop :=
  ∃ (A2 : Option Addr) (c2 : Nat) (S : List Int), e = .returned (.slice A2 S.length c2) ∧ Own w' w.heap.size A2 S.length c2 S ∧ S.length ≤ K ∧ DS w w' B A n c zs
theorem retDI_of {w w' : World} {B : Nat} {A : Option Addr} {n c : Nat} {zs : List Int} {A2 : Option Addr} {m c2 : Nat} {S : List Int} {K : Nat} (ho : Own w' w.heap.size A2 m c2 S) (hm : m ≤ K) (hd : DS w w' B A n c zs) : RetDI w B A n c zs K (.returned (.slice A2 m c2)) w' := by
  obtain rfl : S.length = m := ho.len
  exact ⟨_, _, _, rfl, ho, hm, hd⟩
set_option maxHeartbeats 8000000 in
theorem drawCosts_any (B : Nat) (A : Option Addr) (n c : Nat) (zs : List Int) (M : Int) (w : World) (h : Src w B A n c zs) (hn : n ≤ 4096) (hM0 : 0 ≤ M) (hM : M ≤ 300) :
    Calls Try.prog 68 #[.pointer (some ⟨B, 0, none⟩), .int .i64 M] w (RetDI w B A n c zs 300) := by
  have hlt := h.lt
  have hd0 := DS.start h
  go_enter Try.func68, Try.ntmps68
  go_wp2_with fail
  go_loopw [1, 5] (fun nn st wr => ∃ (k : Nat) (m : Int) (A2 : Option Addr) (c1 : Nat) (S : List Int), 0 ≤ m ∧ (k : Int) + m = M ∧ nn = .int .i64 m ∧ st = .slice A2 k c1 ∧ Own wr w.heap.size A2 k c1 S ∧ DS w wr B A n c zs) (fun nn _ _ => (intOf nn).toNat)
  case atStart => exact ⟨0, M, _, _, [], hM0, by simp, rfl, rfl, own_empty _ _ (Nat.le_refl _), hd0.alloc _⟩
  case round =>
    obtain ⟨k, m, A2, c1, S, hm0, hkm, rfl, rfl, hown, hd⟩ := hrel
    have HK := Lib.hid hkm
    have hk100 : (k : Int) ≤ 300 := by omega
    have hm100 : m ≤ 300 := by omega
    clear hkm
    by_cases hp : 0 < m
    · go_wp2_with fail
      refine (next_any _ _ _ _ _ _ _ hd.2.1 hn (by omega) (by omega)).mono ?_
      rintro e w1 ⟨x, hx0, hx1, rfl, hs1, hg1⟩
      have hown1 := hd.own hown hg1
      have hd1 := hd.next hs1 hg1
      clear hd hown hs1 hg1
      go_wp2_with (at_builtin; refine wpList_push w1 rfl _ _ rfl w.heap.size _ _ _ _ (x - 24) rfl rfl hown1 (WalkArith.wf_i64 (by omega)) (by omega) hd1.size ?_; intro g c2 w2 hown2 hb2 _ _)
      go_roundw
      case rel => exact ⟨k + 1, m - 1, some ⟨g, 0, none⟩, c2, _, by omega, by have := HK.out; omega, rfl, rfl, hown2, hd1.belowN hb2⟩
      case measure => simp [intOf]; omega
    · have hm : m = 0 := by omega
      subst hm
      by_cases hk : 0 < k
      · go_wp2_with fail
        refine (next_any _ _ _ _ _ _ _ hd.2.1 hn (by omega) (by omega)).mono ?_
        rintro e w1 ⟨x, hx0, hx1, rfl, hs1, hg1⟩
        have hown1 := hd.own hown hg1
        have hd1 := hd.next hs1 hg1
        clear hd hown hs1 hg1
        cases t0 : (x == 0)
        · go_wp2_with fail
          go_ret
          exact retDI_of hown1 (by omega) hd1
        · go_wp2_with fail
          have hd2 := hd1.alloc (.cells #[.int .i64 1000000, .int .i64 1000001, .int .i64 (-1000001)] 2)
          have hown2 := hown1.alloc (.cells #[.int .i64 1000000, .int .i64 1000001, .int .i64 (-1000001)] 2)
          refine (next_any _ _ _ _ _ _ _ hd2.2.1 hn (by omega) (by omega)).mono ?_
          rintro e w3 ⟨j, hj0, hj1, rfl, hs3, hg3⟩
          obtain ⟨v, hvm, hv5⟩ := pickI [1000000, 1000001, -1000001] hg3 hd1.2.1.lt hj0 hj1 (by simp)
          have hvb := three_mem (lo := -9000000000) (hi := 9000000000) hvm (by omega) (by omega) (by omega)
          have hv : I64 v := WalkArith.wf_i64 (by omega)
          have hj3 : j < 3 := by omega
          have hown3 := hd2.own hown2 hg3
          have hd3 := hd2.next hs3 hg3
          obtain ⟨g, z', rfl, hBg, hgl, _, _, hcg, hfg⟩ := hown3.at_ hk
          have HO := Lib.hid (hown3.set_ 0 hv)
          have HD := Lib.hid hd3
          clear hd1 hd2 hown1 hown2 hs3 hg3 hvm hown3 hd3
          go_wp2_with fail
          go_ret
          exact retDI_of HO.out (by omega) (HD.out.set hBg _ _)
      · obtain rfl : k = 0 := by omega
        go_wp2_with fail
        go_ret
        exact retDI_of hown (by omega) hd
theorem two_mem {a b v lo hi : Int} (h : v ∈ [a, b]) (h1 : lo ≤ a ∧ a ≤ hi) (h2 : lo ≤ b ∧ b ≤ hi) : lo ≤ v ∧ v ≤ hi := by
  simp at h
  rcases h with rfl | rfl <;> assumption
set_option maxHeartbeats 8000000 in
theorem drawBits_any (B : Nat) (A : Option Addr) (n c : Nat) (zs : List Int) (M : Int) (w : World) (h : Src w B A n c zs) (hn : n ≤ 4096) (hM0 : 0 ≤ M) (hM : M ≤ 100) :
    Calls Try.prog 67 #[.pointer (some ⟨B, 0, none⟩), .int .i64 M] w (RetDI w B A n c zs 100) := by
  have hlt := h.lt
  have hd0 := DS.start h
  go_enter Try.func67, Try.ntmps67
  go_wp2_with fail
  go_loopw [1, 5] (fun nn st wr => ∃ (k : Nat) (m : Int) (A2 : Option Addr) (c1 : Nat) (S : List Int), 0 ≤ m ∧ (k : Int) + m = M ∧ nn = .int .i64 m ∧ st = .slice A2 k c1 ∧ Own wr w.heap.size A2 k c1 S ∧ DS w wr B A n c zs) (fun nn _ _ => (intOf nn).toNat)
  case atStart => exact ⟨0, M, _, _, [], hM0, by simp, rfl, rfl, own_empty _ _ (Nat.le_refl _), hd0.alloc _⟩
  case round =>
    obtain ⟨k, m, A2, c1, S, hm0, hkm, rfl, rfl, hown, hd⟩ := hrel
    have HK := Lib.hid hkm
    have hk100 : (k : Int) ≤ 100 := by omega
    have hm100 : m ≤ 100 := by omega
    clear hkm
    by_cases hp : 0 < m
    · by_cases hk : 0 < k
      · go_wp2_with fail
        refine (next_any _ _ _ _ _ _ _ hd.2.1 hn (by omega) (by omega)).mono ?_
        rintro e w1 ⟨x, hx0, hx1, rfl, hs1, hg1⟩
        have hown1 := hd.own hown hg1
        have hd1 := hd.next hs1 hg1
        clear hd hown hs1 hg1
        by_cases t0 : 0 < x
        · obtain ⟨g, z, rfl, hBg, hgl, hz, hz64, hcg, hfg⟩ := hown1.at_ (show k - 1 < k by omega)
          have e3 : ((k : Int) - 1).toNat = k - 1 := by omega
          have HZ := Lib.hid hz
          clear hz
          go_wp2_with (at_builtin; refine wpList_push w1 rfl _ _ rfl w.heap.size _ _ _ _ z rfl rfl hown1 hz64 (by omega) hd1.size ?_; intro g c2 w2 hown2 hb2 _ _)
          go_roundw
          case rel => exact ⟨k + 1, m - 1, _, c2, _, by omega, by have := HK.out; omega, rfl, rfl, hown2, hd1.belowN hb2⟩
          case measure => simp [intOf]; omega
        · go_wp2_with fail
          refine (next_any _ _ _ _ _ _ _ hd1.2.1 hn (by omega) (by omega)).mono ?_
          rintro e w3 ⟨y, hy0, hy1, rfl, hs3, hg3⟩
          have hown3 := hd1.own hown1 hg3
          have hd3 := hd1.next hs3 hg3
          clear hd1 hown1 hs3 hg3
          go_wp2_with (at_builtin; refine wpList_push w3 rfl _ _ rfl w.heap.size _ _ _ _ y rfl rfl hown3 (WalkArith.wf_i64 (by omega)) (by omega) hd3.size ?_; intro g c2 w2 hown2 hb2 _ _)
          go_roundw
          case rel => exact ⟨k + 1, m - 1, _, c2, _, by omega, by have := HK.out; omega, rfl, rfl, hown2, hd3.belowN hb2⟩
          case measure => simp [intOf]; omega
      · obtain rfl : k = 0 := by omega
        go_wp2_with fail
        refine (next_any _ _ _ _ _ _ _ hd.2.1 hn (by omega) (by omega)).mono ?_
        rintro e w3 ⟨y, hy0, hy1, rfl, hs3, hg3⟩
        have hown3 := hd.own hown hg3
        have hd3 := hd.next hs3 hg3
        clear hd hown hs3 hg3
        go_wp2_with (at_builtin; refine wpList_push w3 rfl _ _ rfl w.heap.size _ _ _ _ y rfl rfl hown3 (WalkArith.wf_i64 (by omega)) (by omega) hd3.size ?_; intro g c2 w2 hown2 hb2 _ _)
        go_roundw
        case rel => exact ⟨0 + 1, m - 1, _, c2, _, by omega, by have := HK.out; omega, rfl, rfl, hown2, hd3.belowN hb2⟩
        case measure => simp [intOf]; omega
    · have hm : m = 0 := by omega
      subst hm
      go_wp2_with fail
      refine (next_any _ _ _ _ _ _ _ hd.2.1 hn (by omega) (by omega)).mono ?_
      rintro e w1 ⟨x, hx0, hx1, rfl, hs1, hg1⟩
      have hown1 := hd.own hown hg1
      have hd1 := hd.next hs1 hg1
      clear hd hown hs1 hg1
      by_cases t0 : x = 0
      · have e0 : (x == 0) = true := by simp [t0]
        clear t0
        by_cases hk : 0 < k
        · go_wp2_with fail
          have hd2 := hd1.alloc (.cells #[.int .i64 (-1), .int .i64 2] 2)
          have hown2 := hown1.alloc (.cells #[.int .i64 (-1), .int .i64 2] 2)
          refine (next_any _ _ _ _ _ _ _ hd2.2.1 hn (by omega) (by omega)).mono ?_
          rintro e w3 ⟨j, hj0, hj1, rfl, hs3, hg3⟩
          obtain ⟨v, hvm, hv5⟩ := pickI [-1, 2] hg3 hd1.2.1.lt hj0 hj1 (by simp)
          have hvb := two_mem (lo := -9000000000) (hi := 9000000000) hvm (by omega) (by omega)
          have hv : I64 v := WalkArith.wf_i64 (by omega)
          have hj3 : j < 2 := by omega
          have hown3 := hd2.own hown2 hg3
          have hd3 := hd2.next hs3 hg3
          obtain ⟨g, z', rfl, hBg, hgl, _, _, hcg, hfg⟩ := hown3.at_ hk
          have HO := Lib.hid (hown3.set_ 0 hv)
          have HD := Lib.hid hd3
          clear hd1 hd2 hown1 hown2 hs3 hg3 hvm hown3 hd3
          go_wp2_with fail
          go_ret
          exact retDI_of HO.out (by omega) (HD.out.set hBg _ _)
        · obtain rfl : k = 0 := by omega
          go_wp2_with fail
          go_ret
          exact retDI_of hown1 (by omega) hd1
      · have e0 : (x == 0) = false := by simp [t0]
        clear t0
        by_cases t1 : x = 1
        · have e1 : (x == 1) = true := by simp [t1]
          clear t1
          go_wp2_with fail
          refine (next_any _ _ _ _ _ _ _ hd1.2.1 hn (by omega) (by omega)).mono ?_
          rintro e w3 ⟨j, hj0, hj1, rfl, hs3, hg3⟩
          have hd3 := hd1.next hs3 hg3
          clear hd1 hs3 hg3 hown1
          obtain ⟨N, hN⟩ := Int.eq_ofNat_of_zero_le (show 0 ≤ 48 + j by omega)
          have hmk := fun W => run_make_row' (P := Try.prog) 36 2 (.int .i64 0) 8 Try.underlying36 info_i64 rfl .i64 .i64 N (by omega) (by omega) W
          have hN50 : N ≤ 50 := by omega
          go_wp2_with fail
          go_ret
          exact retDI_of ((own_zeros w3 N (by omega)).mono hd3.size) (by omega) (hd3.alloc _)
        · have e1 : (x == 1) = false := by simp [t1]
          clear t1
          go_wp2_with fail
          go_ret
          exact retDI_of hown1 (by omega) hd1
end Go.Proofs.Ytiofjnohdmminaa
