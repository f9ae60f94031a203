/- What (*planner).least does, by a walk over its text. Condition: a planner within its bounds, an hour of it, a state. -/
import Derived.Test.YtiofjnohdmminaaFollow
import Derived.StillTailTactics
import Derived.Deep.DeepCutAuto
set_option linter.unusedVariables false
set_option maxRecDepth 100000
namespace Go.Proofs.Ytiofjnohdmminaa
open Go.ChangeShapes Go.WideShapes Go.ChangeAt Go.RowKit Go.Joins Go.Deep
attribute [local go_sem ↓] Go.wp_at_zero Go.wp_at_succ

def LeastR (pb kb : Nat) (bm : Nat → Nat) (A C : Option Addr) (n ca cc ck : Nat) (s u d : Int) (cs ms : List Int) (j : Nat) (on long : Int) (w : World) (e : Ending) (w' : World) : Prop :=
  e = .returned (.int .i64 (VP (lst s u d (capO u d) ((cs.zip ms).drop j) on long))) ∧ Pln w' pb kb bm A C n ca cc ck s u d cs ms ∧ Tn (Mo bm n) w w'
def LeastOk (pb kb : Nat) (bm : Nat → Nat) (A C : Option Addr) (n ca cc ck : Nat) (s u d : Int) (cs ms : List Int) (j : Nat) : Prop := ∀ (on long : Int) (w : World), St on long → Pln w pb kb bm A C n ca cc ck s u d cs ms →
    Calls Try.prog 71 #[.pointer (some ⟨pb, 0, none⟩), .int .i64 j, .agg #[.int .i64 on, .int .i64 long]] w (LeastR pb kb bm A C n ca cc ck s u d cs ms j on long w)
set_option maxHeartbeats 8000000 in
theorem least_last {pb kb : Nat} {bm : Nat → Nat} {A C : Option Addr} {n ca cc ck : Nat} {s u d : Int} {cs ms : List Int} : LeastOk pb kb bm A C n ca cc ck s u d cs ms n := by
    intro on long w hst h
    have pl := h.box.lt
    have p3 : w.cell? ⟨pb, 3, none⟩ = some (.slice A n ca) := h.box.cell 3
    have he : VP (lst s u d (capO u d) ((cs.zip ms).drop n) on long) = 0 := by rw [h.end_]; rfl
    unfold LeastR
    rw [he]
    have hb : Below w.heap.size w (w.alloc (.cells #[.int .i64 on, .int .i64 long] 85)) := (Below.refl _ _).alloc (Nat.le_refl _) _
    have hres : Pln (w.alloc (.cells #[.int .i64 on, .int .i64 long] 85)) pb kb bm A C n ca cc ck s u d cs ms ∧ Tn (Mo bm n) w (w.alloc (.cells #[.int .i64 on, .int .i64 long] 85)) := ⟨h.below hb, Tn.of_below hb⟩
    clear he h hb
    go_enter Try.func71, Try.ntmps71
    go_wp2_with fail
    go_ret
    exact ⟨rfl, hres⟩
set_option maxHeartbeats 8000000 in
theorem least_step {pb kb : Nat} {bm : Nat → Nat} {A C : Option Addr} {n ca cc ck : Nat} {s u d : Int} {cs ms : List Int} {j : Nat} (hjn : j < n) (ih : Kept (LeastOk pb kb bm A C n ca cc ck s u d cs ms (j + 1))) : LeastOk pb kb bm A C n ca cc ck s u d cs ms j := by
    intro on long w hst h
    obtain ⟨c, m, hc, hm, hdr, hmem⟩ := h.at_ hjn
    have hj48 : j < 48 := by have := h.n48; omega
    have hb : Below w.heap.size w (w.alloc (.cells #[.int .i64 on, .int .i64 long] 85)) := (Below.refl _ _).alloc (Nat.le_refl _) _
    have hP := h.below hb
    have hTn : Tn (Mo bm n) w (w.alloc (.cells #[.int .i64 on, .int .i64 long] 85)) := Tn.of_below hb
    have bs := box_new w #[.int .i64 on, .int .i64 long] 85
    have p3 : w.cell? ⟨pb, 3, none⟩ = some (.slice A n ca) := h.box.cell 3
    have pl0 := h.box.lt
    have hne : ((j : Int) == (n : Int)) = false := by simp; omega
    go_enter Try.func71, Try.ntmps71
    go_upto_region 3 with fail
    generalize (w.alloc (.cells #[.int .i64 on, .int .i64 long] 85)) = W at *
    clear p3 pl0 hb
    obtain ⟨D, hown, hmemo, hfew⟩ := hP.sl j hjn
    have pl := hP.box.lt
    have p5 : W.cell? ⟨pb, 5, none⟩ = some (.slice (some ⟨kb, 0, none⟩) n ck) := hP.box.cell 5
    have kj : W.cell? ⟨kb, j, none⟩ = some (.map (some (bm j))) := hP.kn j hjn
    have kl_ := World.block_lt_of_cell? W _ kj
    have sl := bs.lt
    have s0 : W.cell? ⟨w.heap.size, 0, none⟩ = some (.int .i64 on) := bs.cell 0
    have s1 : W.cell? ⟨w.heap.size, 1, none⟩ = some (.int .i64 long) := bs.cell 1
    have j0 : (0 : Int) ≤ (j : Int) := by omega
    have j1 : (j : Int) < (n : Int) := by omega
    obtain ⟨v, ps, hrun, hv⟩ := hown.look_ok lawK Try.underlying83 (zeroE W) (plainElem_int Try.underlying2 (by decide)) hst.key
    obtain ⟨v', ps', hrun', hv'⟩ := hown.drew.look_ok lawK Try.underlying83 (zeroE W.drew) (plainElem_int Try.underlying2 (by decide)) hst.key
    obtain ⟨y, rfl, hy, _⟩ := plainElem_int_inv Try.underlying2 hv
    obtain ⟨y', rfl, hy', _⟩ := plainElem_int_inv Try.underlying2 hv'
    have hyD : D.atKey (kl on long) (.lit (.int .i64 0)) = .lit (.int .i64 y) := by injection hy
    have hyD' : D.atKey (kl on long) (.lit (.int .i64 0)) = .lit (.int .i64 y') := by injection hy'
    have hyy : y' = y := by
      rw [hyD] at hyD'
      injection hyD' with e
      injection e with _ e
      exact e.symm
    subst hyy
    clear hv hv' hy hy' hyD'
    unfold stV at hrun hrun'
    cases hhas : Maps.has D (kl on long)
    · rw [hhas] at hrun hrun'
      clear hyD hhas hown hmemo hfew
      have hP2 := hP.drew
      have hTn2 := hTn.trans (Tn.of_below (M := Mo bm n) ((Below.refl W.heap.size W).drew))
      have bs2 := bs.drew
      have hfit : Fits s u d ((c, m) :: (cs.zip ms).drop (j + 1)) := by have := h.fit.drop j; rwa [hdr] at this
      have HC := Lib.hid hc
      have HM := Lib.hid hm
      have HD := Lib.hid hdr
      have HF := Lib.hid hfit
      have HS := Lib.hid hst
      have HMM := Lib.hid hmem
      have HTN := Lib.hid hTn2
      clear hTn2
      have hsz2 : w.heap.size ≤ W.drew.heap.size := Nat.le_of_lt sl
      clear hP hTn bs h hmem hdr hc hm hfit hst
      go_region
      go_upto_region 6 with fail
      clear hrun hrun' p5 kj kl_ sl s0 s1 pl
      change Code.wp _ _ _ _ W.drew
      generalize W.drew = W2 at *
      go_wp2_with fail
      go_loopw [9, 36] (fun bb ii wr => ∃ k : Nat, k ≤ 2 ∧ ii = .int .i64 k ∧ bb = .int .i64 (VP (acc2 s u d c m ((cs.zip ms).drop (j + 1)) on long k)) ∧ Pln wr pb kb bm A C n ca cc ck s u d cs ms ∧ Tn (Mo bm n) W2 wr ∧ Box wr w.heap.size #[.int .i64 on, .int .i64 long] 85) (fun _ ii _ => 2 - (intOf ii).toNat)
      case atStart => exact ⟨0, by omega, rfl, rfl, hP2, Tn.refl _ _, bs2⟩
      case round =>
        clear hP2 bs2
        obtain ⟨k, hk, rfl, rfl, hP, hT, bs⟩ := hrel
        by_cases hlt : k < 2
        · have hx : (k : Int) = 0 ∨ (k : Int) = 1 := by omega
          have hnx := HS.out.nxt HF.out.hu HF.out.hd hx
          have hcall := follow_any wr hP hjn HC.out HM.out HS.out hx
          unfold stV at hcall
          have sl := bs.lt
          have s0 : wr.cell? ⟨w.heap.size, 0, none⟩ = some (.int .i64 on) := bs.cell 0
          have s1 : wr.cell? ⟨w.heap.size, 1, none⟩ = some (.int .i64 long) := bs.cell 1
          have pl := hP.box.lt
          by_cases hok : okS u d m on long k
          · rw [fol_yes hok] at hcall
            have hbd := (HF.out.drop 1).lst (capO u d) k (nxt (capO u d) on long k)
            have hsc := stepC_bd HF.out (c := c) (m := m) (on := on) (x := k) List.mem_cons_self
            have hst : stp s u d (capO u d) c m (lst s u d (capO u d) ((cs.zip ms).drop (j + 1))) on long k = (lst s u d (capO u d) ((cs.zip ms).drop (j + 1)) k (nxt (capO u d) on long k)).map fun r => stepC s c on k + r := by
              unfold stp
              rw [if_pos hok]
            simp only [List.drop_succ_cons, List.drop_zero] at hbd
            have hcl : ∀ W', Pln W' pb kb bm A C n ca cc ck s u d cs ms → Calls Try.prog 71 #[.pointer (some ⟨pb, 0, none⟩), .int .i64 ((j : Int) + 1), .agg #[.int .i64 (k : Int), .int .i64 (nxt (capO u d) on long k)]] W' (LeastR pb kb bm A C n ca cc ck s u d cs ms (j + 1) k (nxt (capO u d) on long k) W') := fun W' hW' => by
              have := ih.out k (nxt (capO u d) on long k) W' hnx hW'
              rwa [show ((j + 1 : Nat) : Int) = (j : Int) + 1 by omega] at this
            unfold LeastR at hcl
            generalize nxt (capO u d) on long k = nx at *
            generalize stepC s c on k = sc at *
            have hab := VP_bd (acc2_bd HF.out on long k)
            cases hh : lst s u d (capO u d) ((cs.zip ms).drop (j + 1)) k nx with
            | none =>
              rw [hh] at hst hcl
              have HA := Lib.hid (acc2_skip (s := s) (u := u) (d := d) (l := (cs.zip ms).drop (j + 1)) (on := on) (long := long) (k := k) hst)
              have hcl' : ∀ W', Pln W' pb kb bm A C n ca cc ck s u d cs ms → Calls Try.prog 71 #[.pointer (some ⟨pb, 0, none⟩), .int .i64 ((j : Int) + 1), .agg #[.int .i64 (k : Int), .int .i64 nx]] W' (fun e w' => e = .returned (.int .i64 1152921504606846976) ∧ Pln w' pb kb bm A C n ca cc ck s u d cs ms ∧ Tn (Mo bm n) W' w') := hcl
              have KC : Kept _ := ⟨hcall⟩
              have KL : Kept _ := ⟨hcl'⟩
              clear hst hh hcl hbd hok hnx hcall hcl' hx
              have kP : Kept (Pln wr pb kb bm A C n ca cc ck s u d cs ms) := ⟨hP⟩
              have kT : Kept (Tn (Mo bm n) W2 wr) := ⟨hT⟩
              have kS : Kept (Box wr w.heap.size #[.int .i64 on, .int .i64 long] 85) := ⟨bs⟩
              clear hP hT bs
              obtain ⟨a, ha⟩ : ∃ a, a = VP (acc2 s u d c m ((cs.zip ms).drop (j + 1)) on long k) := ⟨_, rfl⟩
              rw [← ha] at hab ⊢
              have HV := Lib.hid ha
              clear ha
              go_upto_region 12 with (go_at_call 72; refine KC.out.mono ?_; rintro e w1 ⟨rfl, hb1⟩; have hP1 := (kP.out.below hb1).below ((Below.refl _ _).alloc (Nat.le_refl _) (.cells #[.int .i64 (k : Int), .int .i64 nx] 85)))
              have b1 := box_new w1 #[.int .i64 (k : Int), .int .i64 nx] 85
              have hb1' : Below wr.heap.size wr (w1.alloc (.cells #[.int .i64 (k : Int), .int .i64 nx] 85)) := hb1.alloc hb1.size _
              clear s0 s1 sl pl
              generalize (w1.alloc (.cells #[.int .i64 (k : Int), .int .i64 nx] 85)) = w3 at *
              have l1 := b1.lt
              have n0 : w3.cell? ⟨w1.heap.size, 0, none⟩ = some (.int .i64 (k : Int)) := b1.cell 0
              have n1 : w3.cell? ⟨w1.heap.size, 1, none⟩ = some (.int .i64 nx) := b1.cell 1
              have kP1 : Kept (Pln w3 pb kb bm A C n ca cc ck s u d cs ms) := ⟨hP1⟩
              have kB : Kept (Below wr.heap.size wr w3) := ⟨hb1'⟩
              clear hP1 b1 hb1 hb1'
              go_wp2_with (go_at_call 71; refine (KL.out _ kP1.out).mono ?_; rintro e w4 ⟨rfl, hP3, hT3⟩)
              go_roundw
              case rel => exact ⟨k + 1, by omega, by go_num, by rw [HA.out, HV.out], hP3, kT.out.trans ((Tn.of_below kB.out).trans hT3), kS.out.tn ((Tn.of_below kB.out).trans hT3) (kP.out.noBox kS.out)⟩
              case measure => simp [intOf]; omega
            | some r =>
              rw [hh] at hbd
              have hrb := hbd r rfl
              rw [hh] at hst hcl
              have HA := Lib.hid (acc2_min (k := k) HF.out hst)
              have hcl' : ∀ W', Pln W' pb kb bm A C n ca cc ck s u d cs ms → Calls Try.prog 71 #[.pointer (some ⟨pb, 0, none⟩), .int .i64 ((j : Int) + 1), .agg #[.int .i64 (k : Int), .int .i64 nx]] W' (fun e w' => e = .returned (.int .i64 r) ∧ Pln w' pb kb bm A C n ca cc ck s u d cs ms ∧ Tn (Mo bm n) W' w') := hcl
              have KC : Kept _ := ⟨hcall⟩
              have KL : Kept _ := ⟨hcl'⟩
              clear hst hh hcl hbd hok hnx hcall hcl' hx
              have kP : Kept (Pln wr pb kb bm A C n ca cc ck s u d cs ms) := ⟨hP⟩
              have kT : Kept (Tn (Mo bm n) W2 wr) := ⟨hT⟩
              have kS : Kept (Box wr w.heap.size #[.int .i64 on, .int .i64 long] 85) := ⟨bs⟩
              clear hP hT bs
              obtain ⟨a, ha⟩ : ∃ a, a = VP (acc2 s u d c m ((cs.zip ms).drop (j + 1)) on long k) := ⟨_, rfl⟩
              rw [← ha] at hab HA ⊢
              have HV := Lib.hid ha
              clear ha
              go_upto_region 12 with (go_at_call 72; refine KC.out.mono ?_; rintro e w1 ⟨rfl, hb1⟩; have hP1 := (kP.out.below hb1).below ((Below.refl _ _).alloc (Nat.le_refl _) (.cells #[.int .i64 (k : Int), .int .i64 nx] 85)))
              have b1 := box_new w1 #[.int .i64 (k : Int), .int .i64 nx] 85
              have hb1' : Below wr.heap.size wr (w1.alloc (.cells #[.int .i64 (k : Int), .int .i64 nx] 85)) := hb1.alloc hb1.size _
              clear s0 s1 sl pl
              generalize (w1.alloc (.cells #[.int .i64 (k : Int), .int .i64 nx] 85)) = w3 at *
              have l1 := b1.lt
              have n0 : w3.cell? ⟨w1.heap.size, 0, none⟩ = some (.int .i64 (k : Int)) := b1.cell 0
              have n1 : w3.cell? ⟨w1.heap.size, 1, none⟩ = some (.int .i64 nx) := b1.cell 1
              have kP1 : Kept (Pln w3 pb kb bm A C n ca cc ck s u d cs ms) := ⟨hP1⟩
              have kB : Kept (Below wr.heap.size wr w3) := ⟨hb1'⟩
              clear hP1 b1 hb1 hb1'
              go_wp2_with (go_at_call 71; refine (KL.out _ kP1.out).mono ?_; rintro e w4 ⟨rfl, hP3, hT3⟩)
              all_goals
                go_roundw
                case rel => exact ⟨k + 1, by omega, by go_num, by rw [← HA.out]; congr 1; omega, hP3, kT.out.trans ((Tn.of_below kB.out).trans hT3), kS.out.tn ((Tn.of_below kB.out).trans hT3) (kP.out.noBox kS.out)⟩
                case measure => simp [intOf]; omega
          · rw [fol_no hok] at hcall
            have hst : stp s u d (capO u d) c m (lst s u d (capO u d) ((cs.zip ms).drop (j + 1))) on long k = none := by
              unfold stp
              rw [if_neg hok]
            have HA := Lib.hid (acc2_skip (s := s) (u := u) (d := d) (l := (cs.zip ms).drop (j + 1)) (on := on) (long := long) (k := k) hst)
            have KC : Kept _ := ⟨hcall⟩
            clear hst hok hnx hcall hx
            have kP : Kept (Pln wr pb kb bm A C n ca cc ck s u d cs ms) := ⟨hP⟩
            have kT : Kept (Tn (Mo bm n) W2 wr) := ⟨hT⟩
            have kS : Kept (Box wr w.heap.size #[.int .i64 on, .int .i64 long] 85) := ⟨bs⟩
            clear hP hT bs
            obtain ⟨a, ha⟩ : ∃ a, a = VP (acc2 s u d c m ((cs.zip ms).drop (j + 1)) on long k) := ⟨_, rfl⟩
            rw [← ha]
            have HV := Lib.hid ha
            clear ha
            go_wp2_with (go_at_call 72; refine KC.out.mono ?_; rintro e w1 ⟨rfl, hb1⟩; have kB : Kept (Below wr.heap.size wr (w1.alloc (.cells #[.int .i64 0, .int .i64 0] 85))) := ⟨hb1.alloc hb1.size _⟩)
            go_roundw
            case rel => exact ⟨k + 1, by omega, by go_num, by rw [HA.out, HV.out], kP.out.below kB.out, kT.out.trans (Tn.of_below kB.out), kS.out.belowA kB.out⟩
            case measure => simp [intOf]; omega
        · obtain rfl : k = 2 := by omega
          rw [acc2_two, ← HD.out]
          obtain ⟨D2, hown2, hmemo2, hfew2⟩ := hP.sl j hjn
          have hsz := hfew2.lt
          have htidy := hown2.tidy lawK
          have sl := bs.lt
          have s0 : wr.cell? ⟨w.heap.size, 0, none⟩ = some (.int .i64 on) := bs.cell 0
          have s1 : wr.cell? ⟨w.heap.size, 1, none⟩ = some (.int .i64 long) := bs.cell 1
          have pl := hP.box.lt
          have p5 : wr.cell? ⟨pb, 5, none⟩ = some (.slice (some ⟨kb, 0, none⟩) n ck) := hP.box.cell 5
          have kj : wr.cell? ⟨kb, j, none⟩ = some (.map (some (bm j))) := hP.kn j hjn
          have kl_ := World.block_lt_of_cell? wr _ kj
          have hvw : I64 (VP (lst s u d (capO u d) ((cs.zip ms).drop j) on long)) := by
            have := VP_bd (acc2_bd HF.out on long 2)
            rw [acc2_two, ← HD.out] at this
            exact WalkArith.wf_i64 (by omega)
          obtain ⟨a, ha⟩ : ∃ a, a = VP (lst s u d (capO u d) ((cs.zip ms).drop j) on long) := ⟨_, rfl⟩
          rw [← ha] at hvw ⊢
          have HV := Lib.hid ha
          clear ha
          have hown3 := hown2.drew
          have kP : Kept (Pln wr.drew pb kb bm A C n ca cc ck s u d cs ms) := ⟨hP.drew⟩
          have kT : Kept (Tn (Mo bm n) W2 wr.drew) := ⟨hT.trans (Tn.of_below ((Below.refl _ _).drew))⟩
          clear hP hT bs hown2
          go_upto_region 16 with fail
          go_still_tail 9, (by kernel_rfl)
          change wpList _ _ _ _ _ wr.drew
          generalize wr.drew = w3 at *
          go_wp2_with (at_mapUpdate; refine wpList_mapUpdate_own w3 rfl _ _ _ 83 rfl 85 2 lawK Try.underlying83 _ (bm j) (Maps.size D2) D2 rfl hown3 (by unfold maxLen; omega) _ _ (kl on long) rfl rfl HS.out.key _ [] (plainElem_int Try.underlying2 hvw) ?_; intro w4 hown4 hgrow4)
          go_ret
          obtain rfl := HV.out
          exact ⟨rfl, kP.out.stored hjn hgrow4 (Slot.store hmemo2 hfew2 htidy HS.out hown4), HTN.out.trans (kT.out.trans (Tn.of_grown hgrow4 ⟨j, hjn, rfl⟩))⟩
    · rw [hhas] at hrun hrun'
      have hval := hmemo on long hst hhas
      have e : y' = VP (lst s u d (capO u d) ((cs.zip ms).drop j) on long) := by
        rw [hyD] at hval
        injection hval with e
        injection e
      clear hyD hhas hval hmemo hfew hown
      have HE := Lib.hid e
      clear e
      have HP : Kept (Pln W pb kb bm A C n ca cc ck s u d cs ms) := ⟨hP⟩
      have HT : Kept (Tn (Mo bm n) w W) := ⟨hTn⟩
      clear hP hTn bs h hmem hdr hc hm hne hst
      go_region
      go_wp2_with fail
      go_ret
      obtain rfl := HE.out
      exact ⟨rfl, HP.out.drew, HT.out.trans (Tn.of_below ((Below.refl _ _).drew))⟩
theorem least_any {pb kb : Nat} {bm : Nat → Nat} {A C : Option Addr} {n ca cc ck : Nat} {s u d : Int} {cs ms : List Int} : ∀ f j : Nat, j + f = n → LeastOk pb kb bm A C n ca cc ck s u d cs ms j := by
  intro f
  induction f with
  | zero =>
    intro j hj
    obtain rfl : j = n := by omega
    exact least_last
  | succ f ih => exact fun j hj => least_step (by omega) ⟨ih (j + 1) (by omega)⟩
end Go.Proofs.Ytiofjnohdmminaa
