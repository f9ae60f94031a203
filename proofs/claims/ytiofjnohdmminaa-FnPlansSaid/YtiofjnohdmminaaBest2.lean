/- What bestPlan does: the walk. Conditions: within their bounds, 1 to 48 hours. -/
import Derived.Test.YtiofjnohdmminaaBest
set_option linter.unusedVariables false
set_option maxRecDepth 100000
namespace Go.Proofs.Ytiofjnohdmminaa
open Go.ChangeShapes Go.WideShapes Go.ChangeAt Go.RowKit Go.Joins Go.Deep
attribute [local go_sem ↓] Go.wp_at_zero Go.wp_at_succ

set_option maxHeartbeats 8000000 in
theorem bestPlan_any {A C : Option Addr} {n ca cc : Nat} {s u d : Int} {cs ms : List Int} (w : World) (ic : Ints w A n cs) (im : Ints w C n ms) (hf : Fits s u d (cs.zip ms)) (hn1 : 1 ≤ n) (hn48 : n ≤ 48) :
    Calls Try.prog 63 #[.agg #[.int .i64 s, .int .i64 u, .int .i64 d], .slice A n ca, .slice C n cc] w (RetPlan s u d cs ms w) := by
  have hmm := @run_makeMap Try.prog
  have bu := (box_new w #[.int .i64 s, .int .i64 u, .int .i64 d] 25).alloc (.cells #[.int .i64 s, .int .i64 u, .int .i64 d, .slice A n ca, .slice C n cc, .slice none 0 0] 82)
  have bp := box_at (w.alloc (.cells #[.int .i64 s, .int .i64 u, .int .i64 d] 25)) #[.int .i64 s, .int .i64 u, .int .i64 d, .slice A n ca, .slice C n cc, .slice none 0 0] 82 (g := w.heap.size + 1) (by simp)
  have hV : Below w.heap.size w ((w.alloc (.cells #[.int .i64 s, .int .i64 u, .int .i64 d] 25)).alloc (.cells #[.int .i64 s, .int .i64 u, .int .i64 d, .slice A n ca, .slice C n cc, .slice none 0 0] 82)) := ((Below.refl _ _).alloc (Nat.le_refl _) _).alloc (by simp) _
  have hsV : w.heap.size + 2 ≤ ((w.alloc (.cells #[.int .i64 s, .int .i64 u, .int .i64 d] 25)).alloc (.cells #[.int .i64 s, .int .i64 u, .int .i64 d, .slice A n ca, .slice C n cc, .slice none 0 0] 82)).heap.size := by simp
  go_enter Try.func63, Try.ntmps63
  go_upto_region 2 with fail
  generalize ((w.alloc (.cells #[.int .i64 s, .int .i64 u, .int .i64 d] 25)).alloc (.cells #[.int .i64 s, .int .i64 u, .int .i64 d, .slice A n ca, .slice C n cc, .slice none 0 0] 82)) = V at *
  go_wp2_with fail
  go_loopw [25] (fun ii wr => ∃ (k : Nat) (tA : Option Addr) (tc : Nat) (bl : List Nat), k ≤ n ∧ ii = .int .i64 k ∧ Box wr (w.heap.size + 1) #[.int .i64 s, .int .i64 u, .int .i64 d, .slice A n ca, .slice C n cc, .slice tA k tc] 82 ∧ Box wr w.heap.size #[.int .i64 s, .int .i64 u, .int .i64 d] 25 ∧
      MapsB wr V.heap.size tA k tc bl (fun j on long => lst s u d (capO u d) ((cs.zip ms).drop j) on long) ∧ Below w.heap.size w wr ∧ V.heap.size ≤ wr.heap.size) (fun ii _ => n - (intOf ii).toNat)
  case atStart => exact ⟨0, none, 0, [], Nat.zero_le _, rfl, bp, bu, ⟨⟨World.ownsRow_nil _ _ _ _, fun z hz => absurd hz List.not_mem_nil⟩, fun j b hb => by simp at hb, List.nodup_nil⟩, hV, Nat.le_refl _⟩
  case round =>
    clear bu bp
    obtain ⟨k, tA, tc, bl, hk, rfl, bp, bu, hM, hb, hsz⟩ := hrel
    by_cases hlt : k < n
    · have kM : Kept (MapsB wr V.heap.size tA k tc bl (fun j on long => lst s u d (capO u d) ((cs.zip ms).drop j) on long)) := ⟨hM⟩
      have kB : Kept (Below w.heap.size w wr) := ⟨hb⟩
      have kP : Kept (Box wr (w.heap.size + 1) #[.int .i64 s, .int .i64 u, .int .i64 d, .slice A n ca, .slice C n cc, .slice tA k tc] 82) := ⟨bp⟩
      have kU : Kept (Box wr w.heap.size #[.int .i64 s, .int .i64 u, .int .i64 d] 25) := ⟨bu⟩
      have pl := bp.lt
      have p5 : wr.cell? ⟨w.heap.size + 1, 5, none⟩ = some (.slice tA k tc) := bp.cell 5
      clear hM hb bp bu
      go_upto_region 5 with (at_builtin; refine wpList_pushR (enc := encM) (wr.alloc (.map #[] 0)) rfl _ _ rfl Try.underlying80 info_map rfl (by decide) (by decide) V.heap.size _ _ _ bl wr.heap.size #[.map (some wr.heap.size)] rfl (wr.heap.size + 1) (by simp) rfl rfl (kM.out.own.alloc _) rfl (by simp [encM, Value.oneCell']) (by omega) (by simp; omega) ?_; intro g' c2 w2 ho2 hb2 hg2 hg3; have bp2 := ((kP.out.alloc (.map #[] 0)).alloc (.cells #[.map (some wr.heap.size)] 83)).grown hg2 (box_row kM.out.own.1 (by omega)); have pl2 := bp2.lt; have pc2 : w2.cell? ⟨w.heap.size + 1, 5, none⟩ = some (.slice tA k tc) := bp2.cell 5; have pf2 := bp2.free 5)
      have bp3 := bp2.set 5 (.slice (some ⟨g', 0, none⟩) (k + 1) c2)
      have hM3 := (kM.out.push hsz rfl ho2 hg2).set (a := ⟨w.heap.size + 1, 5, none⟩) (by simp; omega) (.slice (some ⟨g', 0, none⟩) (k + 1) c2)
      have bu3 := (((kU.out.alloc (.map #[] 0)).alloc (.cells #[.map (some wr.heap.size)] 83)).grown hg2 (box_row kM.out.own.1 (by omega))).other (a := ⟨w.heap.size + 1, 5, none⟩) (by simp) (.slice (some ⟨g', 0, none⟩) (k + 1) c2)
      have hB3 : Below w.heap.size w (w2.setCell ⟨w.heap.size + 1, 5, none⟩ (.slice (some ⟨g', 0, none⟩) (k + 1) c2)) := (kB.out.trans (((Below.refl _ _).alloc (by omega) _).trans (hb2.mono (by omega)))).setCell (by simp) _
      have hs3 : V.heap.size ≤ (w2.setCell ⟨w.heap.size + 1, 5, none⟩ (.slice (some ⟨g', 0, none⟩) (k + 1) c2)).heap.size := by have := hb2.size; simp at this ⊢; omega
      clear pc2 pf2 pl2 bp2 p5 pl kP kU kB kM ho2 hb2 hg2
      generalize (w2.setCell ⟨w.heap.size + 1, 5, none⟩ (.slice (some ⟨g', 0, none⟩) (k + 1) c2)) = w3 at *
      go_wp2_with fail
      go_roundw
      case rel => exact ⟨k + 1, _, c2, _, by omega, by go_num, by simpa using bp3, bu3, hM3, hB3, hs3⟩
      case measure => simp [intOf]; omega
    · obtain rfl : k = n := by omega
      obtain ⟨kb, rfl, hkb, hkl⟩ := hM.own.form (by omega)
      have hP := hM.pln bp (ic.below hb) (im.below hb) hf
      have hMo : ∀ q, Mo (fun j => bl.getD j 0) k q → w.heap.size ≤ q := by
        rintro q ⟨j, hj, rfl⟩
        have hl := hM.own.len (by decide)
        have hbl : bl[j]? = some (bl.getD j 0) := by
          rw [List.getD_eq_getElem?_getD, List.getElem?_eq_getElem (by omega)]
          rfl
        have := (hM.sl j _ hbl).1
        show w.heap.size ≤ bl.getD j 0
        omega
      generalize (fun j => bl.getD j 0) = bm at hP hMo
      have HMo := Lib.hid hMo
      clear hMo
      clear hM bp hkb hkl hlt hmm hV
      obtain ⟨w1, rfl⟩ : ∃ w1 : World, w1 = wr := ⟨_, rfl⟩
      have hsw := hsz
      have ul := bu.lt
      have u2 : w1.cell? ⟨w.heap.size, 2, none⟩ = some (.int .i64 d) := bu.cell 2
      have hd := hf.hd
      have hPin := hP.pinned (by omega)
      have hP2 := hP.below ((Below.refl _ _).alloc (Nat.le_refl _) (.cells #[.int .i64 0, .int .i64 d] 85))
      have bs := box_new w1 #[.int .i64 0, .int .i64 d] 85
      have hB2 : Below w.heap.size w (w1.alloc (.cells #[.int .i64 0, .int .i64 d] 85)) := hb.alloc (by omega) _
      have hsz2 : w1.heap.size + 1 = (w1.alloc (.cells #[.int .i64 0, .int .i64 d] 85)).heap.size := by simp
      clear hP hb
      go_upto_region 7 with fail
      generalize (w1.alloc (.cells #[.int .i64 0, .int .i64 d] 85)) = w2 at *
      clear ul u2 bu
      have sl := bs.lt
      have s0 : w2.cell? ⟨w1.heap.size, 0, none⟩ = some (.int .i64 0) := bs.cell 0
      have s1 : w2.cell? ⟨w1.heap.size, 1, none⟩ = some (.int .i64 d) := bs.cell 1
      have pl := hP2.box.lt
      have hS0 : Kept (St 0 d) := ⟨⟨.inl rfl, hd.1, hd.2⟩⟩
      have kHf := Lib.hid hf
      have hcl : Calls Try.prog 71 #[.pointer (some ⟨w.heap.size + 1, 0, none⟩), .int .i64 0, .agg #[.int .i64 0, .int .i64 d]] w2 (LeastR (w.heap.size + 1) kb bm A C k ca cc tc s u d cs ms 0 0 d w2) := least_any k 0 (by omega) 0 d w2 hS0.out hP2
      unfold LeastR at hcl
      obtain ⟨v, hv⟩ : ∃ v, v = VP (lst s u d (capO u d) (cs.zip ms) 0 d) := ⟨_, rfl⟩
      rw [List.drop_zero, ← hv] at hcl
      have HV := Lib.hid hv
      clear hv
      have KC : Kept _ := ⟨hcl⟩
      have kP : Kept (Pln w2 (w.heap.size + 1) kb bm A C k ca cc tc s u d cs ms) := ⟨hP2⟩
      have kS : Kept (Box w2 w1.heap.size #[.int .i64 0, .int .i64 d] 85) := ⟨bs⟩
      have kB : Kept (Below w.heap.size w w2) := ⟨hB2⟩
      have KPin := Lib.hid hPin
      clear hcl hP2 bs hB2 hPin hf
      go_upto_region 8 with (go_at_call 71; refine KC.out.mono ?_; rintro e w3 ⟨rfl, hP3, hT3⟩)
      have hB3 : Below w.heap.size w w3 := kB.out.trans (hT3.below HMo.out kB.out.size)
      have hs3 : w2.heap.size ≤ w3.heap.size := hT3.size
      have bs3 := kS.out.tn hT3 (kP.out.noBox kS.out)
      have hbd := kHf.out.lst (capO u d) 0 d
      clear kP kS kB KC hT3 s0 s1 sl pl
      cases hl0 : lst s u d (capO u d) (cs.zip ms) 0 d with
      | none =>
        have hv1 : v = 1152921504606846976 := by rw [HV.out, hl0]; rfl
        have HL0 := Lib.hid hl0
        subst hv1
        clear hl0
        go_wp2_with fail
        go_ret3
        exact retPlan_none HL0.out hB3
      | some t =>
        have hv1 : v = t := by rw [HV.out, hl0]; rfl
        have ht := hbd t hl0
        have HL0 := Lib.hid hl0
        subst hv1
        clear hl0 hbd
        have hvn : (v == 1152921504606846976) = false := by simp; omega
        have hsb : w1.heap.size < w3.heap.size := by omega
        have hPl0 : Kept (lst s u d (capO u d) ((cs.zip ms).drop 0) 0 d ≠ none) := ⟨by rw [List.drop_zero, HL0.out]; simp⟩
        obtain ⟨wL, rfl⟩ : ∃ wL : World, wL = w3 := ⟨_, rfl⟩
        go_wp2_with fail
        go_loopw [12, 43] (fun oo ii wr => ∃ (q : Nat) (A2 : Option Addr) (c2 : Nat) (zs : List Int) (on long : Int), q ≤ k ∧ ii = .int .i64 q ∧ oo = .slice A2 q c2 ∧ Kept (St on long) ∧ Own wr wL.heap.size A2 q c2 zs ∧ Kept (zs ++ plan s u d (capO u d) ((cs.zip ms).drop q) on long = plan s u d (capO u d) (cs.zip ms) 0 d) ∧ Kept (lst s u d (capO u d) ((cs.zip ms).drop q) on long ≠ none) ∧
          Pln wr (w.heap.size + 1) kb bm A C k ca cc tc s u d cs ms ∧ Box wr w1.heap.size #[.int .i64 on, .int .i64 long] 85 ∧ Below w.heap.size w wr ∧ wL.heap.size ≤ wr.heap.size) (fun _ ii _ => k - (intOf ii).toNat)
        case atStart => exact ⟨0, none, 0, [], 0, d, Nat.zero_le _, rfl, rfl, hS0, ⟨World.ownsRow_nil _ _ _ _, fun z hz => absurd hz List.not_mem_nil⟩, ⟨by simp⟩, hPl0, hP3, bs3, hB3, Nat.le_refl _⟩
        case round =>
          clear hP3 bs3 hB3 hPl0
          obtain ⟨q, A2, c2, zs, on, long, hq, rfl, rfl, kS, hO, kZ, kL, hP, bs, hb, hsr⟩ := hrel
          by_cases hlt : q < k
          · obtain ⟨c, m, hc, hm, hdr, hmem⟩ := hP.at_ hlt
            have hfq : Fits s u d ((c, m) :: (cs.zip ms).drop (q + 1)) := by have := kHf.out.drop q; rwa [hdr] at this
            have hstep := plan_next (s := s) (u := u) (d := d) (cp := capO u d) (c := c) (m := m) (l := (cs.zip ms).drop (q + 1)) (on := on) (long := long) (by rw [← hdr]; exact kL.out)
            rw [← hdr] at hstep
            obtain ⟨tt, htt⟩ : ∃ tt, lst s u d (capO u d) ((cs.zip ms).drop q) on long = some tt := by
              cases hh : lst s u d (capO u d) ((cs.zip ms).drop q) on long with
              | none => exact absurd hh kL.out
              | some tt => exact ⟨tt, rfl⟩
            rw [htt] at hstep
            have htb : -1000000000 ≤ tt ∧ tt ≤ 1000000000 := (kHf.out.drop q).lst (capO u d) on long tt htt
            have hl2 : ∀ W', Pln W' (w.heap.size + 1) kb bm A C k ca cc tc s u d cs ms → Calls Try.prog 71 #[.pointer (some ⟨w.heap.size + 1, 0, none⟩), .int .i64 (q : Int), .agg #[.int .i64 on, .int .i64 long]] W' (fun e w' => e = .returned (.int .i64 tt) ∧ Pln w' (w.heap.size + 1) kb bm A C k ca cc tc s u d cs ms ∧ Tn (Mo bm k) W' w') := fun W' hW' => by
              have := least_any (k - q) q (by omega) on long W' kS.out hW'
              unfold LeastR at this
              rw [htt] at this
              exact this
            have KL2 : Kept _ := ⟨hl2⟩
            have HC := Lib.hid hc
            have HM := Lib.hid hm
            have HF := Lib.hid hfq
            have KST : Kept _ := ⟨hstep⟩
            clear hl2 hc hm hdr hmem hfq hstep htt
            have hq48 : q < 48 := by omega
            obtain ⟨wo, rfl⟩ : ∃ wo : World, wo = wr := ⟨_, rfl⟩
            go_wp2_with fail
            go_loopw [12, 46] (fun oo ii wr => ∃ x : Nat, x ≤ 1 ∧ ii = .int .i64 x ∧ oo = .slice A2 q c2 ∧ Kept (x = 1 → stp s u d (capO u d) c m (lst s u d (capO u d) ((cs.zip ms).drop (q + 1))) on long 0 ≠ some tt) ∧ Own wr wL.heap.size A2 q c2 zs ∧
              Pln wr (w.heap.size + 1) kb bm A C k ca cc tc s u d cs ms ∧ Box wr w1.heap.size #[.int .i64 on, .int .i64 long] 85 ∧ Below w.heap.size w wr ∧ wL.heap.size ≤ wr.heap.size) (fun _ ii _ => 2 - (intOf ii).toNat)
            case atStart => exact ⟨0, by omega, rfl, rfl, ⟨fun h => by omega⟩, hO, hP, bs, hb, hsr⟩
            case round =>
              clear hO hP bs hb
              obtain ⟨x, hx1, rfl, rfl, kX, hO, hP, bs, hb, hsr2⟩ := hrel
              have hx01 : (x : Int) = 0 ∨ (x : Int) = 1 := by omega
              have hnx := kS.out.nxt HF.out.hu HF.out.hd hx01
              have hcall := follow_any wr hP hlt HC.out HM.out kS.out hx01
              unfold stV at hcall
              have sl := bs.lt
              have s0 : wr.cell? ⟨w1.heap.size, 0, none⟩ = some (.int .i64 on) := bs.cell 0
              have s1 : wr.cell? ⟨w1.heap.size, 1, none⟩ = some (.int .i64 long) := bs.cell 1
              have pl := hP.box.lt
              by_cases hok : okS u d m on long x
              · rw [fol_yes hok] at hcall
                have hbd := (HF.out.drop 1).lst (capO u d) x (nxt (capO u d) on long x)
                have hsc := stepC_bd HF.out (c := c) (m := m) (on := on) (x := x) List.mem_cons_self
                have hst : stp s u d (capO u d) c m (lst s u d (capO u d) ((cs.zip ms).drop (q + 1))) on long x = (lst s u d (capO u d) ((cs.zip ms).drop (q + 1)) x (nxt (capO u d) on long x)).map fun r => stepC s c on x + r := by
                  unfold stp
                  rw [if_pos hok]
                simp only [List.drop_succ_cons, List.drop_zero] at hbd
                have hcl : ∀ W', Pln W' (w.heap.size + 1) kb bm A C k ca cc tc s u d cs ms → Calls Try.prog 71 #[.pointer (some ⟨w.heap.size + 1, 0, none⟩), .int .i64 ((q : Int) + 1), .agg #[.int .i64 (x : Int), .int .i64 (nxt (capO u d) on long x)]] W' (LeastR (w.heap.size + 1) kb bm A C k ca cc tc s u d cs ms (q + 1) x (nxt (capO u d) on long x) W') := fun W' hW' => by
                  have := least_any (k - (q + 1)) (q + 1) (by omega) x (nxt (capO u d) on long x) W' hnx hW'
                  rwa [show ((q + 1 : Nat) : Int) = (q : Int) + 1 by omega] at this
                unfold LeastR at hcl
                obtain ⟨nx, hnxe⟩ : ∃ nx, nx = nxt (capO u d) on long x := ⟨_, rfl⟩
                rw [← hnxe] at hcall hnx hbd hst hcl
                have HNX := Lib.hid hnxe
                clear hnxe
                generalize stepC s c on x = sc at *
                cases hh : lst s u d (capO u d) ((cs.zip ms).drop (q + 1)) x nx with
                | none =>
                rw [hh] at hst hcl
                have hno0 : stp s u d (capO u d) c m (lst s u d (capO u d) ((cs.zip ms).drop (q + 1))) on long 0 ≠ some tt := by
                  by_cases e : x = 1
                  · exact kX.out e
                  · obtain rfl : x = 0 := by omega
                    intro e2
                    rw [show ((0 : Nat) : Int) = 0 from rfl, e2] at hst
                    cases hst
                have hx0 : x = 0 := by
                  by_cases e : x = 1
                  · subst e
                    rcases KST.out with ⟨h1, _⟩ | ⟨_, h1, _⟩
                    · exact absurd h1 hno0
                    · rw [show ((1 : Nat) : Int) = 1 from rfl, h1] at hst
                      cases hst
                  · omega
                have KL1 : Kept (∀ W', Pln W' (w.heap.size + 1) kb bm A C k ca cc tc s u d cs ms → Calls Try.prog 71 #[.pointer (some ⟨w.heap.size + 1, 0, none⟩), .int .i64 ((q : Int) + 1), .agg #[.int .i64 (x : Int), .int .i64 nx]] W' (fun e w' => e = .returned (.int .i64 1152921504606846976) ∧ Pln w' (w.heap.size + 1) kb bm A C k ca cc tc s u d cs ms ∧ Tn (Mo bm k) W' w')) := ⟨hcl⟩
                have KNO := Lib.hid hno0
                have HX0 := Lib.hid hx0
                clear hst hh hcl hbd hok hnx hno0 hx0
                have KC : Kept _ := ⟨hcall⟩
                have kP : Kept (Pln wr (w.heap.size + 1) kb bm A C k ca cc tc s u d cs ms) := ⟨hP⟩
                have kO : Kept (Own wr wL.heap.size A2 q c2 zs) := ⟨hO⟩
                have kS2 : Kept (Box wr w1.heap.size #[.int .i64 on, .int .i64 long] 85) := ⟨bs⟩
                have kB : Kept (Below w.heap.size w wr) := ⟨hb⟩
                clear hcall hP hO bs hb hx01
                go_upto_region 18 with (go_at_call 72; refine KC.out.mono ?_; rintro e wf ⟨rfl, hbf⟩)
                have hnw : Below wr.heap.size wr (wf.alloc (.cells #[.int .i64 (x : Int), .int .i64 nx] 85)) := hbf.alloc hbf.size _
                have bn := box_new wf #[.int .i64 (x : Int), .int .i64 nx] 85
                have hsf := hbf.size
                clear hbf s0 s1 sl pl
                generalize (wf.alloc (.cells #[.int .i64 (x : Int), .int .i64 nx] 85)) = w3 at *
                have hP3 := kP.out.below hnw
                have bs3 := kS2.out.belowA hnw
                have hO3 := kO.out.below hnw
                have hB3 : Below w.heap.size w w3 := bthen kB.out hnw kB.out.size
                have hs3 := hnw.size
                have ln := bn.lt
                have n0 : w3.cell? ⟨wf.heap.size, 0, none⟩ = some (.int .i64 (x : Int)) := bn.cell 0
                have n1 : w3.cell? ⟨wf.heap.size, 1, none⟩ = some (.int .i64 nx) := bn.cell 1
                have kP3 : Kept (Pln w3 (w.heap.size + 1) kb bm A C k ca cc tc s u d cs ms) := ⟨hP3⟩
                have kS3 : Kept (Box w3 w1.heap.size #[.int .i64 on, .int .i64 long] 85) := ⟨bs3⟩
                have kO3 : Kept (Own w3 wL.heap.size A2 q c2 zs) := ⟨hO3⟩
                have kB3 : Kept (Below w.heap.size w w3) := ⟨hB3⟩
                have kN3 : Kept (Box w3 wf.heap.size #[.int .i64 (x : Int), .int .i64 nx] 85) := ⟨bn⟩
                clear hP3 bs3 hO3 hB3 bn hnw kP kS2 kB
                go_upto_region 20 with (go_at_call 71; refine (KL1.out _ kP3.out).mono ?_; rintro e w4 ⟨rfl, hP4, hT4⟩)
                have bs4 := kS3.out.tn hT4 (kP3.out.noBox kS3.out)
                have bn4 := kN3.out.tn hT4 (kP3.out.noBox kN3.out)
                have hO4 := kO3.out.tn hT4 (kP3.out.noOwn kO3.out)
                have hB4 : Below w.heap.size w w4 := kB3.out.trans (hT4.below HMo.out kB3.out.size)
                have hs4 := hT4.size
                clear kP3 kS3 kO3 kB3 kN3 hT4 n0 n1 ln
                have hno0 := KNO.out
                clear KNO
                have kP4 : Kept (Pln w4 (w.heap.size + 1) kb bm A C k ca cc tc s u d cs ms) := ⟨hP4⟩
                have kS4 : Kept (Box w4 w1.heap.size #[.int .i64 on, .int .i64 long] 85) := ⟨bs4⟩
                have kO4 : Kept (Own w4 wL.heap.size A2 q c2 zs) := ⟨hO4⟩
                have kB4 : Kept (Below w.heap.size w w4) := ⟨hB4⟩
                have KNO : Kept _ := ⟨hno0⟩
                clear hP4 bs4 hO4 hB4 bn4 hno0
                go_wp2_with fail
                go_roundw
                case rel => exact ⟨x + 1, by have := HX0.out; omega, by go_num, rfl, ⟨fun _ => KNO.out⟩, kO4.out, kP4.out, kS4.out, kB4.out, by omega⟩
                case measure => simp [intOf] <;> omega
                | some r =>
                rw [hh] at hst hcl hbd
                have hrb := hbd r rfl
                have KL1 : Kept (∀ W', Pln W' (w.heap.size + 1) kb bm A C k ca cc tc s u d cs ms → Calls Try.prog 71 #[.pointer (some ⟨w.heap.size + 1, 0, none⟩), .int .i64 ((q : Int) + 1), .agg #[.int .i64 (x : Int), .int .i64 nx]] W' (fun e w' => e = .returned (.int .i64 r) ∧ Pln w' (w.heap.size + 1) kb bm A C k ca cc tc s u d cs ms ∧ Tn (Mo bm k) W' w')) := ⟨hcl⟩
                have hst2 : stp s u d (capO u d) c m (lst s u d (capO u d) ((cs.zip ms).drop (q + 1))) on long x = some (sc + r) := hst
                have HH := Lib.hid hh
                have HNS : Kept (St x nx) := ⟨hnx⟩
                clear hst hh hcl hbd hok hnx
                have KC : Kept _ := ⟨hcall⟩
                have kP : Kept (Pln wr (w.heap.size + 1) kb bm A C k ca cc tc s u d cs ms) := ⟨hP⟩
                have kO : Kept (Own wr wL.heap.size A2 q c2 zs) := ⟨hO⟩
                have kS2 : Kept (Box wr w1.heap.size #[.int .i64 on, .int .i64 long] 85) := ⟨bs⟩
                have kB : Kept (Below w.heap.size w wr) := ⟨hb⟩
                clear hcall hP hO bs hb hx01
                by_cases hme : sc + r = tt
                · have hmb : (sc + r == tt) = true := by simp [hme]
                  have hx01 : (x : Int) = 0 ∨ (x : Int) = 1 := by omega
                  have hxI : I64 (x : Int) := WalkArith.wf_i64 (by omega)
                  have hplan : plan s u d (capO u d) ((cs.zip ms).drop q) on long = (x : Int) :: plan s u d (capO u d) ((cs.zip ms).drop (q + 1)) x nx := by
                    rw [hme] at hst2
                    rcases KST.out with ⟨h1, h2, _⟩ | ⟨h1, h3, h2, _⟩
                    · by_cases e : x = 1
                      · exact absurd h1 (kX.out e)
                      · obtain rfl : x = 0 := by omega
                        rw [h2, HNX.out]
                        rfl
                    · by_cases e : x = 1
                      · subst e
                        rw [h2, HNX.out]
                        rfl
                      · obtain rfl : x = 0 := by omega
                        exact absurd hst2 h1
                  have HPL := Lib.hid hplan
                  have HX01 := Lib.hid hx01
                  have hne : A2.map (·.block) ≠ some wr.heap.size → True := fun _ => trivial
                  clear hme hst2 hplan hx01 hne
                  go_upto_region 18 with (go_at_call 72; refine KC.out.mono ?_; rintro e wf ⟨rfl, hbf⟩)
                  have hnw : Below wr.heap.size wr (wf.alloc (.cells #[.int .i64 (x : Int), .int .i64 nx] 85)) := hbf.alloc hbf.size _
                  have bn := box_new wf #[.int .i64 (x : Int), .int .i64 nx] 85
                  have hsf := hbf.size
                  clear hbf s0 s1 sl pl
                  generalize (wf.alloc (.cells #[.int .i64 (x : Int), .int .i64 nx] 85)) = w3 at *
                  have hP3 := kP.out.below hnw
                  have bs3 := kS2.out.belowA hnw
                  have hO3 := kO.out.below hnw
                  have hB3 : Below w.heap.size w w3 := bthen kB.out hnw kB.out.size
                  have hs3 := hnw.size
                  have ln := bn.lt
                  have n0 : w3.cell? ⟨wf.heap.size, 0, none⟩ = some (.int .i64 (x : Int)) := bn.cell 0
                  have n1 : w3.cell? ⟨wf.heap.size, 1, none⟩ = some (.int .i64 nx) := bn.cell 1
                  have kP3 : Kept (Pln w3 (w.heap.size + 1) kb bm A C k ca cc tc s u d cs ms) := ⟨hP3⟩
                  have kS3 : Kept (Box w3 w1.heap.size #[.int .i64 on, .int .i64 long] 85) := ⟨bs3⟩
                  have kO3 : Kept (Own w3 wL.heap.size A2 q c2 zs) := ⟨hO3⟩
                  have kB3 : Kept (Below w.heap.size w w3) := ⟨hB3⟩
                  have kN3 : Kept (Box w3 wf.heap.size #[.int .i64 (x : Int), .int .i64 nx] 85) := ⟨bn⟩
                  clear hP3 bs3 hO3 hB3 bn hnw kP kS2 kB
                  go_upto_region 20 with (go_at_call 71; refine (KL1.out _ kP3.out).mono ?_; rintro e w4 ⟨rfl, hP4, hT4⟩)
                  have bs4 := kS3.out.tn hT4 (kP3.out.noBox kS3.out)
                  have bn4 := kN3.out.tn hT4 (kP3.out.noBox kN3.out)
                  have hO4 := kO3.out.tn hT4 (kP3.out.noOwn kO3.out)
                  have hB4 : Below w.heap.size w w4 := kB3.out.trans (hT4.below HMo.out kB3.out.size)
                  have hs4 := hT4.size
                  clear kP3 kS3 kO3 kB3 kN3 hT4 n0 n1 ln
                  have sl := bs4.lt
                  have s0 : w4.cell? ⟨w1.heap.size, 0, none⟩ = some (.int .i64 on) := bs4.cell 0
                  have s1 : w4.cell? ⟨w1.heap.size, 1, none⟩ = some (.int .i64 long) := bs4.cell 1
                  have kP4 : Kept (Pln w4 (w.heap.size + 1) kb bm A C k ca cc tc s u d cs ms) := ⟨hP4⟩
                  have kS4 : Kept (Box w4 w1.heap.size #[.int .i64 on, .int .i64 long] 85) := ⟨bs4⟩
                  have kO4 : Kept (Own w4 wL.heap.size A2 q c2 zs) := ⟨hO4⟩
                  have kB4 : Kept (Below w.heap.size w w4) := ⟨hB4⟩
                  have kN4 : Kept (Box w4 wf.heap.size #[.int .i64 (x : Int), .int .i64 nx] 85) := ⟨bn4⟩
                  clear hP4 bs4 hO4 hB4 bn4
                  go_upto_region 21 with (go_at_call 71; refine (KL2.out _ kP4.out).mono ?_; rintro e w5 ⟨rfl, hP5, hT5⟩)
                  have bs5 := kS4.out.tn hT5 (kP4.out.noBox kS4.out)
                  have bn5 := kN4.out.tn hT5 (kP4.out.noBox kN4.out)
                  have hO5 := kO4.out.tn hT5 (kP4.out.noOwn kO4.out)
                  have hB5 : Below w.heap.size w w5 := kB4.out.trans (hT5.below HMo.out kB4.out.size)
                  have hs5 := hT5.size
                  clear kP4 kS4 kO4 kB4 kN4 hT5 s0 s1 sl
                  have hnb : A2.map (·.block) ≠ some wf.heap.size := fun e => by
                    have := (kO.out.lt _ e).2
                    omega
                  have kP5 : Kept (Pln w5 (w.heap.size + 1) kb bm A C k ca cc tc s u d cs ms) := ⟨hP5⟩
                  have kS5 : Kept (Box w5 w1.heap.size #[.int .i64 on, .int .i64 long] 85) := ⟨bs5⟩
                  have kO5 : Kept (Own w5 wL.heap.size A2 q c2 zs) := ⟨hO5⟩
                  have kB5 : Kept (Below w.heap.size w w5) := ⟨hB5⟩
                  have kN5 : Kept (Box w5 wf.heap.size #[.int .i64 (x : Int), .int .i64 nx] 85) := ⟨bn5⟩
                  clear hP5 bs5 hO5 hB5 bn5
                  have hz5 : wL.heap.size ≤ w5.heap.size := by omega
                  go_upto_region 22 with (at_builtin; refine wpList_push w5 rfl _ _ rfl wL.heap.size _ _ _ _ _ rfl rfl kO5.out hxI (by omega) hz5 ?_; intro g c3 w6 hown6 hb6 hg6 _)
                  have bs6 := kS5.out.below hb6 (by omega)
                  have bn6 := (kN5.out.alloc (.cells #[.int .i64 (x : Int)] 2)).grown hg6 hnb
                  have hP6 := kP5.out.belowB KPin.out (hb6.mono (by omega))
                  have hB6 : Below w.heap.size w w6 := kB5.out.trans (hb6.mono (by omega))
                  have hs6 := hb6.size
                  have nl := bn6.lt
                  have n0 : w6.cell? ⟨wf.heap.size, 0, none⟩ = some (.int .i64 (x : Int)) := bn6.cell 0
                  have n1 : w6.cell? ⟨wf.heap.size, 1, none⟩ = some (.int .i64 nx) := bn6.cell 1
                  have sl := bs6.lt
                  have s0 : w6.cell? ⟨w1.heap.size, 0, none⟩ = some (.int .i64 on) := bs6.cell 0
                  have s1 : w6.cell? ⟨w1.heap.size, 1, none⟩ = some (.int .i64 long) := bs6.cell 1
                  have f0 := bs6.free 0
                  have f1 := bs6.free 1
                  have bs7 := (bs6.set 0 (.int .i64 (x : Int))).set 1 (.int .i64 nx)
                  have hbw : Below w1.heap.size w6 ((w6.setCell ⟨w1.heap.size, 0, none⟩ (.int .i64 (x : Int))).setCell ⟨w1.heap.size, 1, none⟩ (.int .i64 nx)) := ((Below.refl _ _).setCell (p := ⟨w1.heap.size, 0, none⟩) (Nat.le_refl _) _).setCell (p := ⟨w1.heap.size, 1, none⟩) (Nat.le_refl _) _
                  have hP7 := hP6.belowB KPin.out hbw
                  have hB7 := hB6.trans (hbw.mono (by omega))
                  have hO7 := hown6.same2 (w' := (w6.setCell ⟨w1.heap.size, 0, none⟩ (.int .i64 (x : Int))).setCell ⟨w1.heap.size, 1, none⟩ (.int .i64 nx)) (fun g' e => by
                    have hg' := (hown6.lt g' (by rw [e]; rfl)).1
                    rw [Below.heap_setCell _ _ _ _ (show g' ≠ w1.heap.size by omega), Below.heap_setCell _ _ _ _ (show g' ≠ w1.heap.size by omega)])
                  have hs7 := hbw.size
                  have kP7 : Kept _ := ⟨hP7⟩
                  have kB7 : Kept _ := ⟨hB7⟩
                  have kO7 : Kept _ := ⟨hO7⟩
                  have kS7 : Kept (Box ((w6.setCell ⟨w1.heap.size, 0, none⟩ (.int .i64 (x : Int))).setCell ⟨w1.heap.size, 1, none⟩ (.int .i64 nx)) w1.heap.size #[.int .i64 (x : Int), .int .i64 nx] 85) := ⟨by simpa using bs7⟩
                  clear hP7 hB7 hO7 bs7 hP6 hB6 bs6 bn6 hown6 hb6 hg6 hbw kP5 kS5 kO5 kB5 kN5
                  go_upto_region 24 with fail
                  generalize ((w6.setCell ⟨w1.heap.size, 0, none⟩ (.int .i64 (x : Int))).setCell ⟨w1.heap.size, 1, none⟩ (.int .i64 nx)) = w7 at *
                  clear n0 n1 nl s0 s1 sl f0 f1
                  go_wp2_with fail
                  exact ⟨⟨q + 1, some ⟨g, 0, none⟩, c3, zs ++ [(x : Int)], (x : Int), nx, by omega, by go_num, rfl, HNS, kO7.out, ⟨by rw [← kZ.out, HPL.out, List.append_assoc]; rfl⟩, ⟨by rw [HH.out]; simp⟩, kP7.out, kS7.out, kB7.out, by omega⟩, by simp [intOf]; omega⟩
                · have hmb : (sc + r == tt) = false := by simp [hme]
                  have hno0 : stp s u d (capO u d) c m (lst s u d (capO u d) ((cs.zip ms).drop (q + 1))) on long 0 ≠ some tt := by
                    by_cases e : x = 1
                    · exact kX.out e
                    · obtain rfl : x = 0 := by omega
                      intro e2
                      rw [show ((0 : Nat) : Int) = 0 from rfl, e2] at hst2
                      injection hst2 with e3
                      exact hme e3.symm
                  have hx0 : x = 0 := by
                    by_cases e : x = 1
                    · subst e
                      rcases KST.out with ⟨h1, _⟩ | ⟨_, h1, _⟩
                      · exact absurd h1 hno0
                      · rw [show ((1 : Nat) : Int) = 1 from rfl, h1] at hst2
                        injection hst2 with e3
                        exact absurd e3.symm hme
                    · omega
                  have KNO := Lib.hid hno0
                  have HX0 := Lib.hid hx0
                  clear hme hst2 hno0 hx0
                  go_upto_region 18 with (go_at_call 72; refine KC.out.mono ?_; rintro e wf ⟨rfl, hbf⟩)
                  have hnw : Below wr.heap.size wr (wf.alloc (.cells #[.int .i64 (x : Int), .int .i64 nx] 85)) := hbf.alloc hbf.size _
                  have bn := box_new wf #[.int .i64 (x : Int), .int .i64 nx] 85
                  have hsf := hbf.size
                  clear hbf s0 s1 sl pl
                  generalize (wf.alloc (.cells #[.int .i64 (x : Int), .int .i64 nx] 85)) = w3 at *
                  have hP3 := kP.out.below hnw
                  have bs3 := kS2.out.belowA hnw
                  have hO3 := kO.out.below hnw
                  have hB3 : Below w.heap.size w w3 := bthen kB.out hnw kB.out.size
                  have hs3 := hnw.size
                  have ln := bn.lt
                  have n0 : w3.cell? ⟨wf.heap.size, 0, none⟩ = some (.int .i64 (x : Int)) := bn.cell 0
                  have n1 : w3.cell? ⟨wf.heap.size, 1, none⟩ = some (.int .i64 nx) := bn.cell 1
                  have kP3 : Kept (Pln w3 (w.heap.size + 1) kb bm A C k ca cc tc s u d cs ms) := ⟨hP3⟩
                  have kS3 : Kept (Box w3 w1.heap.size #[.int .i64 on, .int .i64 long] 85) := ⟨bs3⟩
                  have kO3 : Kept (Own w3 wL.heap.size A2 q c2 zs) := ⟨hO3⟩
                  have kB3 : Kept (Below w.heap.size w w3) := ⟨hB3⟩
                  have kN3 : Kept (Box w3 wf.heap.size #[.int .i64 (x : Int), .int .i64 nx] 85) := ⟨bn⟩
                  clear hP3 bs3 hO3 hB3 bn hnw kP kS2 kB
                  go_upto_region 20 with (go_at_call 71; refine (KL1.out _ kP3.out).mono ?_; rintro e w4 ⟨rfl, hP4, hT4⟩)
                  have bs4 := kS3.out.tn hT4 (kP3.out.noBox kS3.out)
                  have bn4 := kN3.out.tn hT4 (kP3.out.noBox kN3.out)
                  have hO4 := kO3.out.tn hT4 (kP3.out.noOwn kO3.out)
                  have hB4 : Below w.heap.size w w4 := kB3.out.trans (hT4.below HMo.out kB3.out.size)
                  have hs4 := hT4.size
                  clear kP3 kS3 kO3 kB3 kN3 hT4 n0 n1 ln
                  have sl := bs4.lt
                  have s0 : w4.cell? ⟨w1.heap.size, 0, none⟩ = some (.int .i64 on) := bs4.cell 0
                  have s1 : w4.cell? ⟨w1.heap.size, 1, none⟩ = some (.int .i64 long) := bs4.cell 1
                  have kP4 : Kept (Pln w4 (w.heap.size + 1) kb bm A C k ca cc tc s u d cs ms) := ⟨hP4⟩
                  have kS4 : Kept (Box w4 w1.heap.size #[.int .i64 on, .int .i64 long] 85) := ⟨bs4⟩
                  have kO4 : Kept (Own w4 wL.heap.size A2 q c2 zs) := ⟨hO4⟩
                  have kB4 : Kept (Below w.heap.size w w4) := ⟨hB4⟩
                  have kN4 : Kept (Box w4 wf.heap.size #[.int .i64 (x : Int), .int .i64 nx] 85) := ⟨bn4⟩
                  clear hP4 bs4 hO4 hB4 bn4
                  go_upto_region 23 with (go_at_call 71; refine (KL2.out _ kP4.out).mono ?_; rintro e w5 ⟨rfl, hP5, hT5⟩)
                  have bs5 := kS4.out.tn hT5 (kP4.out.noBox kS4.out)
                  have bn5 := kN4.out.tn hT5 (kP4.out.noBox kN4.out)
                  have hO5 := kO4.out.tn hT5 (kP4.out.noOwn kO4.out)
                  have hB5 : Below w.heap.size w w5 := kB4.out.trans (hT5.below HMo.out kB4.out.size)
                  have hs5 := hT5.size
                  clear kP4 kS4 kO4 kB4 kN4 hT5 s0 s1 sl
                  have kP4 : Kept (Pln w5 (w.heap.size + 1) kb bm A C k ca cc tc s u d cs ms) := ⟨hP5⟩
                  have kS4 : Kept (Box w5 w1.heap.size #[.int .i64 on, .int .i64 long] 85) := ⟨bs5⟩
                  have kO4 : Kept (Own w5 wL.heap.size A2 q c2 zs) := ⟨hO5⟩
                  have kB4 : Kept (Below w.heap.size w w5) := ⟨hB5⟩
                  clear hP5 bs5 hO5 hB5 bn5
                  go_wp2_with fail
                  go_roundw
                  case rel => exact ⟨x + 1, by have := HX0.out; omega, by go_num, rfl, ⟨fun _ => KNO.out⟩, kO4.out, kP4.out, kS4.out, kB4.out, by omega⟩
                  case measure => simp [intOf] <;> omega
              · rw [fol_no hok] at hcall
                have hst : stp s u d (capO u d) c m (lst s u d (capO u d) ((cs.zip ms).drop (q + 1))) on long x = none := by
                  unfold stp
                  rw [if_neg hok]
                have hno0 : stp s u d (capO u d) c m (lst s u d (capO u d) ((cs.zip ms).drop (q + 1))) on long 0 ≠ some tt := by
                  by_cases e : x = 1
                  · exact kX.out e
                  · obtain rfl : x = 0 := by omega
                    intro e2
                    rw [show ((0 : Nat) : Int) = 0 from rfl, e2] at hst
                    cases hst
                have hx0 : x = 0 := by
                  by_cases e : x = 1
                  · subst e
                    rcases KST.out with ⟨h1, _⟩ | ⟨_, h1, _⟩
                    · exact absurd h1 hno0
                    · rw [show ((1 : Nat) : Int) = 1 from rfl, h1] at hst
                      cases hst
                  · omega
                have KNO : Kept _ := ⟨hno0⟩
                have HX0 := Lib.hid hx0
                clear hst hok hnx hno0 hx0
                have KC : Kept _ := ⟨hcall⟩
                have kP : Kept (Pln wr (w.heap.size + 1) kb bm A C k ca cc tc s u d cs ms) := ⟨hP⟩
                have kO : Kept (Own wr wL.heap.size A2 q c2 zs) := ⟨hO⟩
                have kS2 : Kept (Box wr w1.heap.size #[.int .i64 on, .int .i64 long] 85) := ⟨bs⟩
                have kB : Kept (Below w.heap.size w wr) := ⟨hb⟩
                clear hcall hP hO bs hb hx01
                go_upto_region 18 with (go_at_call 72; refine KC.out.mono ?_; rintro e wf ⟨rfl, hbf⟩)
                have hnw : Below wr.heap.size wr (wf.alloc (.cells #[.int .i64 0, .int .i64 0] 85)) := hbf.alloc hbf.size _
                have bn := box_new wf #[.int .i64 0, .int .i64 0] 85
                have hsf := hbf.size
                clear hbf s0 s1 sl pl
                generalize (wf.alloc (.cells #[.int .i64 0, .int .i64 0] 85)) = w3 at *
                have hP3 := kP.out.below hnw
                have bs3 := kS2.out.belowA hnw
                have hO3 := kO.out.below hnw
                have hB3 : Below w.heap.size w w3 := bthen kB.out hnw kB.out.size
                have hs3 := hnw.size
                have kP4 : Kept (Pln w3 (w.heap.size + 1) kb bm A C k ca cc tc s u d cs ms) := ⟨hP3⟩
                have kS4 : Kept (Box w3 w1.heap.size #[.int .i64 on, .int .i64 long] 85) := ⟨bs3⟩
                have kO4 : Kept (Own w3 wL.heap.size A2 q c2 zs) := ⟨hO3⟩
                have kB4 : Kept (Below w.heap.size w w3) := ⟨hB3⟩
                clear hP3 bs3 hO3 hB3 bn hnw kP kS2 kB kO
                go_wp2_with fail
                go_roundw
                case rel => exact ⟨x + 1, by have := HX0.out; omega, by go_num, rfl, ⟨fun _ => KNO.out⟩, kO4.out, kP4.out, kS4.out, kB4.out, by omega⟩
                case measure => simp [intOf] <;> omega
          · obtain rfl : q = k := by omega
            have hend := hP.end_
            have kO : Kept (Own wr wL.heap.size A2 q c2 zs) := ⟨hO⟩
            have kB : Kept (Below w.heap.size w wr) := ⟨hb⟩
            have hE : Kept _ := ⟨hend⟩
            clear hP bs hO hb hend
            go_wp2_with fail
            go_ret3
            have hz := kZ.out
            rw [hE.out, plan, List.append_nil] at hz
            exact retPlan_some HL0.out hz (kO.out.mono (by have := kB.out.size; omega)) kB.out
end Go.Proofs.Ytiofjnohdmminaa
