/- What TightFaces (of the program and of the reference) does, by walks over its text. No condition but that the numbers fit their kind. -/
import Derived.Test.YtgchbajhceddnaaPush
import Derived.Test.YtgchbajhceddnaaPoss
set_option linter.unusedVariables false
set_option maxRecDepth 100000
namespace Go.Proofs.Ytgchbajhceddnaa
open Go.RowKit Go.Joins Go.Deep

/-- A call returns a slice of its own that reads as zs, and a number, and leaves what was there. -/
def RetInts2 (w : World) (zs : List Int) (k : Int) (e : Ending) (w' : World) : Prop :=
  ∃ A c, e = .returned (.tuple #[.slice A zs.length c, .int .i64 k]) ∧ Own w' w.heap.size A zs.length c zs ∧ Below w.heap.size w w'
theorem own_nil (w : World) (B : Nat) : Own w B none 0 0 [] := ⟨World.ownsRow_nil _ _ _ _, fun z hz => absurd hz List.not_mem_nil⟩
theorem own_empty (w : World) (B : Nat) (hB : B ≤ w.heap.size) : Own (w.alloc (.cells #[] 2)) B (some ⟨w.heap.size, 0, none⟩) 0 0 [] :=
  ⟨World.ownsRow_lit (size := 1) w #[] 0 hB (Nat.zero_le _) rfl, fun z hz => absurd hz List.not_mem_nil⟩
theorem retInts2_nil {w w' : World} (k : Int) (h : Below w.heap.size w w') : RetInts2 w [] k (.returned (.tuple #[.slice none 0 0, .int .i64 k])) w' := ⟨none, 0, rfl, own_nil _ _, h⟩

/-- The tight faces before k. -/
def tightTo (fs : List Fc) (q r : Int) : Nat → List Int
  | 0 => []
  | k + 1 => tightTo fs q r k ++ match fs[k]? with
    | none => []
    | some f => if f.p * q + f.q * r = f.r then [(k : Int)] else []
def tightOf (n : Nat) (fs : List Fc) (fu le q r : Int) : List Int := if pointCode n fs fu le q r = 0 then tightTo fs q r fs.length else []
theorem tightTo_le (fs : List Fc) (q r : Int) (k : Nat) : (tightTo fs q r k).length ≤ k := by
  induction k with
  | zero => simp [tightTo]
  | succ k ih =>
    rw [tightTo, List.length_append]
    split
    · simp; omega
    · split <;> simp <;> omega
theorem tight_yes {fs : List Fc} {q r : Int} {k : Nat} {f : Fc} (h : fs[k]? = some f) (ht : f.p * q + f.q * r = f.r) : tightTo fs q r k ++ [(k : Int)] = tightTo fs q r (k + 1) := by
  rw [tightTo, h]
  simp [ht]
theorem tight_no {fs : List Fc} {q r : Int} {k : Nat} {f : Fc} (h : fs[k]? = some f) (ht : ¬ f.p * q + f.q * r = f.r) : tightTo fs q r k = tightTo fs q r (k + 1) := by
  rw [tightTo, h]
  simp [ht]

set_option maxHeartbeats 8000000 in
theorem tight_any (A : Option Addr) (n c : Nat) (fs : List Fc) (fu le q r : Int) (w : World) (h : Faces w A n fs) (hn : n ≤ 9223372036854775807) :
    Calls Try.prog 29 #[.agg #[.slice A n c, .int .i64 fu, .int .i64 le], .int .i64 q, .int .i64 r] w (RetInts2 w (tightOf n fs fu le q r) (pointCode n fs fu le q r)) := by
  by_cases hp : pointCode n fs fu le q r = 0
  case neg =>
    have e1 : (pointCode n fs fu le q r != 0) = true := by simp [hp]
    have e2 : tightOf n fs fu le q r = [] := by simp [tightOf, hp]
    rw [e2]
    clear e2 hp
    have hI0 := h.alloc (.cells #[.slice A n c, .int .i64 fu, .int .i64 le] 32)
    have hw0 : Below w.heap.size w (w.alloc (.cells #[.slice A n c, .int .i64 fu, .int .i64 le] 32)) := (Below.refl _ _).alloc (Nat.le_refl _) _
    have hB0 : Below (w.alloc (.cells #[.slice A n c, .int .i64 fu, .int .i64 le] 32)).heap.size (w.alloc (.cells #[.slice A n c, .int .i64 fu, .int .i64 le] 32)) (w.alloc (.cells #[.slice A n c, .int .i64 fu, .int .i64 le] 32)) := Below.refl _ _
    go_enter Try.func29, Try.ntmps29
    go_wp2_with fail
    refine (checkPoint_any _ _ _ _ _ _ _ _ _ (hI0.below hB0) hn).mono ?_
    rintro e w1 ⟨rfl, hb1⟩
    have hB1 := bthen hB0 hb1 hB0.size
    obtain ⟨hc1, hf1⟩ := bcell hB1
    have hz1 : w.heap.size < w1.heap.size := by have := hB1.size; simp at this; omega
    go_wp2_with fail
    go_ret2
    exact retInts2_nil _ (bthen hw0 hB1 hw0.size)
  case pos =>
    obtain ⟨p1, p2⟩ := pointCode_ok hp
    have hpb := point_bd p2
    have hbd := comp_bd p1
    have e1 : (pointCode n fs fu le q r != 0) = false := by simp [hp]
    have hc := Lib.hid p1
    have hl := Lib.hid h.len
    have e2 : tightOf n fs fu le q r = tightTo fs q r fs.length := by simp [tightOf, hp]
    rw [e2]
    have hg := fun W hF => checkPoint_any A n c fs fu le q r W hF hn
    rw [hp] at hg ⊢
    have HG := Lib.hid hg
    clear hp p1 p2 e2 hg e1
    have hI0 := h.alloc (.cells #[.slice A n c, .int .i64 fu, .int .i64 le] 32)
    have hw0 : Below w.heap.size w (w.alloc (.cells #[.slice A n c, .int .i64 fu, .int .i64 le] 32)) := (Below.refl _ _).alloc (Nat.le_refl _) _
    have hB0 : Below (w.alloc (.cells #[.slice A n c, .int .i64 fu, .int .i64 le] 32)).heap.size (w.alloc (.cells #[.slice A n c, .int .i64 fu, .int .i64 le] 32)) (w.alloc (.cells #[.slice A n c, .int .i64 fu, .int .i64 le] 32)) := Below.refl _ _
    go_enter Try.func29, Try.ntmps29
    go_wp2_with fail
    refine (HG.out _ (hI0.below hB0)).mono ?_
    rintro e w1 ⟨rfl, hb1⟩
    have hB1 := bthen hB0 hb1 hB0.size
    obtain ⟨hc1, hf1⟩ := bcell hB1
    have hz1 : w.heap.size < w1.heap.size := by have := hB1.size; simp at this; omega
    go_wp2_with fail
    have hx0 : w1.cell? ⟨w.heap.size, 0, none⟩ = some (.slice A n c) := (hB1.cell (by simp)).trans (by simp)
    have hI := hI0.below hB1
    have hw1 := bthen hw0 hB1 hw0.size
    have hszl := hz1
    clear hc1 hf1 hz1 hB1 hb1
    go_loopw [9, 22] (fun ss ii wr => ∃ (k : Nat) (A2 : Option Addr) (m2 c2 : Nat), k ≤ n ∧ ii = .int .i64 k ∧ ss = .slice A2 m2 c2 ∧ Own wr w1.heap.size A2 m2 c2 (tightTo fs q r k) ∧ Below w1.heap.size w1 wr ∧ m2 ≤ k) (fun _ ii _ => n - (intOf ii).toNat)
    case atStart => exact ⟨0, none, 0, 0, Nat.zero_le _, rfl, rfl, own_nil _ _, Below.refl _ _, Nat.le_refl _⟩
    case round =>
      obtain ⟨k, A2, m2, c2, hk, rfl, rfl, hown, hb, hm2⟩ := hrel
      have hx0' := (hb.cell (p := ⟨w.heap.size, 0, none⟩) hszl).trans hx0
      by_cases hlt : k < n
      · obtain ⟨b, o, f, rfl, hbl, hf, hokf, hcp, hcq, hcr⟩ := (hI.below hb).at_ hlt
        have hfb := comp_face hc.out hf
        have hm1 := mul_bnd (a := f.p) (b := q) (X := 1000) (Y := 30000) (by omega) (by omega) (by omega) (by omega) (by omega)
        have hm3 := mul_bnd (a := f.q) (b := r) (X := 1000) (Y := 3000) (by omega) (by omega) (by omega) (by omega) (by omega)
        by_cases ht : f.p * q + f.q * r = f.r
        · have HS := Lib.hid (tight_yes hf ht)
          have hte : (f.p * q + f.q * r == f.r) = true := by simp [ht]
          clear hf hx0 ht
          generalize tightTo fs q r k = S at *
          have hsz1 : wr.heap.size + 1 = wr.heap.size + 1 := rfl
          clear hsz1
          go_wp2_with (at_builtin; refine wpList_pushH (wr.alloc _) rfl _ _ rfl w1.heap.size _ _ _ _ (k : Int) (wr.heap.size + 1) (by simp) rfl rfl (hown.alloc _) (WalkArith.wf_i64 (by omega)) (by omega) (by have := hb.size; simp; omega) ?_; intro g c3 w3 hown3 hb3 _ _)
          go_roundw
          case rel => exact ⟨k + 1, _, _, _, by omega, by go_num, rfl, HS.out ▸ hown3, (hb.alloc hb.size _).trans hb3, by omega⟩
          case measure => simp [intOf]; omega
        · have HS := Lib.hid (tight_no hf ht)
          have hte : (f.p * q + f.q * r == f.r) = false := by simp [ht]
          clear hf hx0 ht
          generalize tightTo fs q r k = S at *
          go_wp2_with fail
          go_roundw
          case rel => exact ⟨k + 1, _, _, _, by omega, by go_num, rfl, HS.out ▸ (hown.alloc _), hb.alloc hb.size _, by omega⟩
          case measure => simp [intOf]; omega
      · go_wp2_with fail
        go_ret2
        obtain rfl : k = n := by omega
        obtain rfl : fs.length = k := hl.out
        obtain rfl : (tightTo fs q r fs.length).length = m2 := hown.len
        exact ⟨_, _, rfl, hown.mono hw1.size, bthen hw1 hb hw1.size⟩
set_option maxHeartbeats 8000000 in
theorem sTight_any (A : Option Addr) (n c : Nat) (fs : List Fc) (fu le q r : Int) (w : World) (h : Faces w A n fs) (hn : n ≤ 9223372036854775807) :
    Calls Try.prog 28 #[.agg #[.slice A n c, .int .i64 fu, .int .i64 le], .int .i64 q, .int .i64 r] w (RetInts2 w (tightOf n fs fu le q r) (pointCode n fs fu le q r)) := by
  rcases (orB (orB trivial) : compB n fs fu le = false ∨ compB n fs fu le = true ∧ (pointB q r = false ∨ pointB q r = true ∧ True)) with h1 | ⟨h1, h2 | ⟨h2, _⟩⟩
  · have hp : pointCode n fs fu le q r = 1 := by simp [pointCode, h1]
    have e2 : tightOf n fs fu le q r = [] := by simp [tightOf, hp]
    rw [e2, hp]
    clear e2 hp
    have hI0 := h.alloc (.cells #[.slice A n c, .int .i64 fu, .int .i64 le] 32)
    have hw0 : Below w.heap.size w (w.alloc (.cells #[.slice A n c, .int .i64 fu, .int .i64 le] 32)) := (Below.refl _ _).alloc (Nat.le_refl _) _
    have hB0 : Below (w.alloc (.cells #[.slice A n c, .int .i64 fu, .int .i64 le] 32)).heap.size (w.alloc (.cells #[.slice A n c, .int .i64 fu, .int .i64 le] 32)) (w.alloc (.cells #[.slice A n c, .int .i64 fu, .int .i64 le] 32)) := Below.refl _ _
    go_enter Try.func28, Try.ntmps28
    go_wp2_with fail
    refine (sIsComp_any _ _ _ _ _ _ _ (hI0.below hB0) hn).mono ?_
    rintro e w1 ⟨rfl, hb1⟩
    have hB1 := bthen hB0 hb1 hB0.size
    obtain ⟨hc1, hf1⟩ := bcell hB1
    have hz1 : w.heap.size < w1.heap.size := by have := hB1.size; simp at this; omega
    go_wp2_with fail
    go_ret2
    exact retInts2_nil _ (bthen hw0 hB1 hw0.size)
  · have hp : pointCode n fs fu le q r = 2 := by simp [pointCode, h1, h2]
    have e2 : tightOf n fs fu le q r = [] := by simp [tightOf, hp]
    rw [e2, hp]
    clear e2 hp
    have hI0 := h.alloc (.cells #[.slice A n c, .int .i64 fu, .int .i64 le] 32)
    have hw0 : Below w.heap.size w (w.alloc (.cells #[.slice A n c, .int .i64 fu, .int .i64 le] 32)) := (Below.refl _ _).alloc (Nat.le_refl _) _
    have hB0 : Below (w.alloc (.cells #[.slice A n c, .int .i64 fu, .int .i64 le] 32)).heap.size (w.alloc (.cells #[.slice A n c, .int .i64 fu, .int .i64 le] 32)) (w.alloc (.cells #[.slice A n c, .int .i64 fu, .int .i64 le] 32)) := Below.refl _ _
    go_enter Try.func28, Try.ntmps28
    go_wp2_with fail
    refine (sIsComp_any _ _ _ _ _ _ _ (hI0.below hB0) hn).mono ?_
    rintro e w1 ⟨rfl, hb1⟩
    have hB1 := bthen hB0 hb1 hB0.size
    obtain ⟨hc1, hf1⟩ := bcell hB1
    have hz1 : w.heap.size < w1.heap.size := by have := hB1.size; simp at this; omega
    go_wp2_with (first | (go_at_call 54; refine (sPoint_any _ _ _).mono ?_; rintro e w' ⟨rfl, rfl⟩))
    go_ret2
    exact retInts2_nil _ (bthen hw0 hB1 hw0.size)
  · have hp : pointCode n fs fu le q r = 0 := by simp [pointCode, h1, h2]
    have hpb := point_bd h2
    have hbd := comp_bd h1
    have hc := Lib.hid h1
    have hl := Lib.hid h.len
    have e2 : tightOf n fs fu le q r = tightTo fs q r fs.length := by simp [tightOf, hp]
    rw [e2, hp]
    clear e2 hp
    have hI0 := h.alloc (.cells #[.slice A n c, .int .i64 fu, .int .i64 le] 32)
    have hw0 : Below w.heap.size w (w.alloc (.cells #[.slice A n c, .int .i64 fu, .int .i64 le] 32)) := (Below.refl _ _).alloc (Nat.le_refl _) _
    have hB0 : Below (w.alloc (.cells #[.slice A n c, .int .i64 fu, .int .i64 le] 32)).heap.size (w.alloc (.cells #[.slice A n c, .int .i64 fu, .int .i64 le] 32)) (w.alloc (.cells #[.slice A n c, .int .i64 fu, .int .i64 le] 32)) := Below.refl _ _
    go_enter Try.func28, Try.ntmps28
    go_wp2_with fail
    refine (sIsComp_any _ _ _ _ _ _ _ (hI0.below hB0) hn).mono ?_
    rintro e w1 ⟨rfl, hb1⟩
    have hB1 := bthen hB0 hb1 hB0.size
    obtain ⟨hc1, hf1⟩ := bcell hB1
    have hz1 : w.heap.size < w1.heap.size := by have := hB1.size; simp at this; omega
    go_wp2_with (first | (go_at_call 54; refine (sPoint_any _ _ _).mono ?_; rintro e w' ⟨rfl, rfl⟩))
    have hx0 : w1.cell? ⟨w.heap.size, 0, none⟩ = some (.slice A n c) := (hB1.cell (by simp)).trans (by simp)
    have hI := hI0.below hB1
    have hw1 := bthen hw0 hB1 hw0.size
    have hszl := hz1
    clear hc1 hf1 hz1 hB1 hb1
    go_loopw [8, 9] (fun ss ii wr => ∃ (k : Nat) (A2 : Option Addr) (m2 c2 : Nat), k ≤ n ∧ ii = .int .i64 k ∧ ss = .slice A2 m2 c2 ∧ Own wr w1.heap.size A2 m2 c2 (tightTo fs q r k) ∧ Below w1.heap.size w1 wr ∧ m2 ≤ k) (fun _ ii _ => n - (intOf ii).toNat)
    case atStart => exact ⟨0, _, 0, 0, Nat.zero_le _, rfl, rfl, own_empty _ _ (Nat.le_refl _), (Below.refl _ _).alloc (Nat.le_refl _) _, Nat.le_refl _⟩
    case round =>
      obtain ⟨k, A2, m2, c2, hk, rfl, rfl, hown, hb, hm2⟩ := hrel
      have hx0' := (hb.cell (p := ⟨w.heap.size, 0, none⟩) hszl).trans hx0
      by_cases hlt : k < n
      · obtain ⟨b, o, f, rfl, hbl, hf, hokf, hcp, hcq, hcr⟩ := (hI.below hb).at_ hlt
        have hfb := comp_face hc.out hf
        have hm1 := mul_bnd (a := f.p) (b := q) (X := 1000) (Y := 30000) (by omega) (by omega) (by omega) (by omega) (by omega)
        have hm3 := mul_bnd (a := f.q) (b := r) (X := 1000) (Y := 3000) (by omega) (by omega) (by omega) (by omega) (by omega)
        by_cases ht : f.p * q + f.q * r = f.r
        · have HS := Lib.hid (tight_yes hf ht)
          have hte : (f.p * q + f.q * r == f.r) = true := by simp [ht]
          clear hf hx0 ht
          generalize tightTo fs q r k = S at *
          have e0 : (0 : Int) ≤ (k : Int) := by omega
          have e1 : (k : Int) < (n : Int) := by omega
          have e2 : IntKind.i64.wrap (f.p * q) = f.p * q := IntWalk.i64_in _ (by omega)
          have e3 : IntKind.i64.wrap (f.q * r) = f.q * r := IntWalk.i64_in _ (by omega)
          have e4 : IntKind.i64.wrap (f.p * q + f.q * r) = f.p * q + f.q * r := IntWalk.i64_in _ (by omega)
          go_wp2_with fail
          go_quiet (fail)
          clear e0 e1 e2 e3 e4
          go_wp2_with (at_builtin; refine wpList_pushH (wr.drewN _) rfl _ _ rfl w1.heap.size _ _ _ _ (k : Int) _ rfl rfl rfl (hown.drewN _) (WalkArith.wf_i64 (by omega)) (by omega) (by exact hb.size) ?_; intro g c3 w3 hown3 hb3 _ _)
          go_roundw
          case rel => exact ⟨k + 1, _, _, _, by omega, by go_num, rfl, HS.out ▸ hown3, (below_drewN hb _).trans hb3, by omega⟩
          case measure => simp [intOf]; omega
        · have HS := Lib.hid (tight_no hf ht)
          have hte : (f.p * q + f.q * r == f.r) = false := by simp [ht]
          clear hf hx0 ht
          generalize tightTo fs q r k = S at *
          have e0 : (0 : Int) ≤ (k : Int) := by omega
          have e1 : (k : Int) < (n : Int) := by omega
          have e2 : IntKind.i64.wrap (f.p * q) = f.p * q := IntWalk.i64_in _ (by omega)
          have e3 : IntKind.i64.wrap (f.q * r) = f.q * r := IntWalk.i64_in _ (by omega)
          have e4 : IntKind.i64.wrap (f.p * q + f.q * r) = f.p * q + f.q * r := IntWalk.i64_in _ (by omega)
          go_wp2_with fail
          go_quiet (fail)
          clear e0 e1 e2 e3 e4
          go_wp2_with fail
          go_roundw
          case rel => exact ⟨k + 1, _, _, _, by omega, by go_num, rfl, HS.out ▸ (hown.drewN _), below_drewN hb _, by omega⟩
          case measure => simp [intOf]; omega
      · go_wp2_with fail
        go_ret2
        obtain rfl : k = n := by omega
        obtain rfl : fs.length = k := hl.out
        obtain rfl : (tightTo fs q r fs.length).length = m2 := hown.len
        exact ⟨_, _, rfl, hown.mono hw1.size, bthen hw1 hb hw1.size⟩
end Go.Proofs.Ytgchbajhceddnaa
