/- Structs appended to slices of the call's own, whole slices copied. Condition: lengths of at most 2^40. -/
import Derived.Test.YtiofjnohdmminaaPush
import Derived.Test.YtiofjnohdmminaaRecs
import Derived.Laws.AppendOwnNone
set_option linter.unusedVariables false
set_option maxRecDepth 100000
namespace Go.Proofs.Ytiofjnohdmminaa
open Go.RowKit Go.Joins

/-- append(s, ys...): the elements of a slice that reads as ys behind those of an owned one. -/
theorem wpList_catR {α : Type} {enc : α → List Value} {k bytes : Nat} {e t : TypeId} {z : Value} {ops : Array Oper} {rest : List Oper} {o : Oper} {a : Act} {Q : Exit → Act → World → Prop} (wr : World) (hgd : o.guard = none) (s x : Operand)
    (ho : o.op = .call { callee := .builtin .append, args := #[s, x], argTypes := #[t, t] }) (ht : Try.prog.underlying t = some (.slice e)) (hinfo : (Try.prog.info? e).map (fun i => (i.zero, i.size, i.bytes)) = some (some z, k, bytes)) (hzs : z.cells.size = k) (hk : 0 < k) (hby : bytes ≤ 64)
    (B : Nat) (A : Option Addr) (n c : Nat) (xs : List α) (A' : Option Addr) (m c' : Nat) (ys : List α) (hnil : A' = none → c' = 0) (hs : a.eval s = .slice A n c) (hx : a.eval x = .slice A' m c') (hown : OwnR enc k e wr B A n c xs) (hr : Recs enc k wr A' m ys)
    (hey : ∀ y ∈ ys, (enc y).length = k) (h1 : ∀ y ∈ ys, ∀ u ∈ enc y, u.oneCell' = true) (hn : n ≤ 1099511627776) (hm : m ≤ 1099511627776) (hB : B ≤ wr.heap.size)
    (h : ∀ A2 c2 w', OwnR enc k e w' B A2 (n + m) c2 (xs ++ ys) → Below B wr w' → wr.grownBy w' (A.map (·.block)) → (A = none ∨ A2 ≠ none) → wpList Try.prog ops Q rest (a.put o.dst (.slice A2 (n + m) c2)) w') :
    wpList Try.prog ops Q (o :: rest) a wr := by
  obtain ⟨i0, hi0, hz0, hz1, hz2⟩ := info_parts hinfo
  have hlt := hown.lt
  rcases A' with _ | ad
  · obtain rfl := hnil rfl
    obtain rfl : m = 0 := by
      rcases Nat.eq_zero_or_pos m with h0 | h0
      · exact h0
      · obtain ⟨b, o', e', _⟩ := hr.2 h0
        cases e'
    have hy : ys = [] := List.length_eq_zero_iff.1 hr.len
    subst hy
    refine wpList_append_own_none hgd s x t ho B e i0 k ht hi0 (.slice A n c) n (xs.flatMap enc) hs hown.1 hx ?_
    exact h A c wr (by simpa using hown) (Below.refl _ _) (World.grownBy.refl wr _) (by cases A <;> simp)
  · refine wpList_append_own _ hgd s x t ho B e i0 z k bytes ht hi0 hz0 hz1 hz2 hzs hk (.slice A n c) n (xs.flatMap enc) hs hown.1 ad m c' (ys.flatMap enc) hx (by rw [flat_len hey, hr.len]) ?_ ?_ (by unfold maxLen; omega) ?_ hB ?_
    · intro j u hj
      have hjl := (List.getElem?_eq_some_iff.1 hj).1
      rw [flat_len hey, hr.len] at hjl
      have hm0 : 0 < m := by
        rcases Nat.eq_zero_or_pos m with h0 | h0
        · subst h0; simp at hjl
        · exact h0
      obtain ⟨b, o', e', hb, hc⟩ := hr.2 hm0
      injection e' with e'
      subst e'
      have hq : j / k < m := Nat.div_lt_of_lt_mul (by rw [Nat.mul_comm]; exact hjl)
      have hr' : j % k < k := Nat.mod_lt _ hk
      have hyl : j / k < ys.length := by rw [hr.len]; exact hq
      have hy : ys[j / k]? = some ys[j / k] := List.getElem?_eq_getElem hyl
      have hev := hey _ (List.getElem_mem hyl)
      have hv : (enc ys[j / k])[j % k]? = some ((enc ys[j / k])[j % k]'(by omega)) := List.getElem?_eq_getElem (by omega)
      have hf := flat_at hey hy hv
      rw [Nat.div_add_mod'] at hf
      rw [hf] at hj
      injection hj with hj
      subst hj
      have := hc _ _ hy _ _ hv
      rw [Nat.add_assoc, Nat.div_add_mod'] at this
      have ea : (⟨b, o', none⟩ : Addr).add j = ⟨b, o' + j, none⟩ := by
        unfold Addr.add
        by_cases h1 : j = 0 <;> simp [h1]
      rw [ea]
      exact this
    · intro u hu
      obtain ⟨y, hy, hu⟩ := List.mem_flatMap.1 hu
      exact h1 y hy u hu
    · have : (n + m) * bytes ≤ (n + m) * 64 := Nat.mul_le_mul_left _ hby
      omega
    · intro v' w1 hown' hgrow hnn
      have hnone : A = none → m = 0 ∨ v' ≠ .slice none 0 0 := fun hA => by
        rcases Nat.eq_zero_or_pos m with h0 | h0
        · exact .inl h0
        · exact .inr fun hv => by have := (hnn.1 hv).2; omega
      rcases hown'.2 with ⟨e', h0⟩ | ⟨g, cap, cur, e', _⟩
      · have hm0 : n + m = 0 := h0
        subst e'
        have := h none 0 w1 ⟨by rw [List.flatMap_append, hm0]; rw [hm0] at hown'; exact hown', by
          intro y hy
          rcases List.mem_append.1 hy with hy | hy
          · exact hown.2 y hy
          · exact hey y hy⟩ (((Below.refl B wr)).grown hgrow hB (fun g hg => (hown.1.lt g hg).1)) (by cases A <;> exact hgrow) (.inl (by
            have := (hnn.1 rfl).1
            injection this))
        rwa [hm0] at this
      · subst e'
        refine h (some ⟨g, 0, none⟩) cap w1 ⟨by rw [List.flatMap_append]; exact hown', ?_⟩ (((Below.refl B wr)).grown hgrow hB (fun g hg => (hown.1.lt g hg).1)) (by cases A <;> exact hgrow) (.inr (by simp))
        intro y hy
        rcases List.mem_append.1 hy with hy | hy
        · exact hown.2 y hy
        · exact hey y hy
/-- append(s, x) of one struct. -/
theorem wpList_pushR {α : Type} {enc : α → List Value} {k bytes : Nat} {e t : TypeId} {z : Value} {ops : Array Oper} {rest : List Oper} {o : Oper} {a : Act} {Q : Exit → Act → World → Prop} (wr : World) (hgd : o.guard = none) (s x : Operand)
    (ho : o.op = .call { callee := .builtin .append, args := #[s, x], argTypes := #[t, t] }) (ht : Try.prog.underlying t = some (.slice e)) (hinfo : (Try.prog.info? e).map (fun i => (i.zero, i.size, i.bytes)) = some (some z, k, bytes)) (hzs : z.cells.size = k) (hk : 0 < k) (hby : bytes ≤ 64)
    (B : Nat) (A : Option Addr) (n c : Nat) (xs : List α) (y : α) (cs : Array Value) (hcs : cs.toList = enc y) (H : Nat) (hH : wr.heap.size = H) (hs : a.eval s = .slice A n c) (hx : a.eval x = .slice (some ⟨H, 0, none⟩) 1 1) (hown : OwnR enc k e wr B A n c xs)
    (hey : (enc y).length = k) (h1 : ∀ u ∈ enc y, u.oneCell' = true) (hn : n ≤ 1099511627776) (hB : B ≤ wr.heap.size)
    (h : ∀ g c2 w', OwnR enc k e w' B (some ⟨g, 0, none⟩) (n + 1) c2 (xs ++ [y]) → Below B wr w' → (wr.alloc (.cells cs e)).grownBy w' (A.map (·.block)) → B ≤ g → wpList Try.prog ops Q rest (a.put o.dst (.slice (some ⟨g, 0, none⟩) (n + 1) c2)) w') :
    wpList Try.prog ops Q (o :: rest) a (wr.alloc (.cells cs e)) := by
  subst hH
  have hrec : Recs enc k (wr.alloc (.cells cs e)) (some ⟨wr.heap.size, 0, none⟩) 1 [y] := by
    refine ⟨rfl, fun _ => ⟨wr.heap.size, 0, rfl, by simp, fun i x hx j v hv => ?_⟩⟩
    match i, hx with
    | 0, hx =>
      simp at hx
      subst hx
      rw [← hcs] at hv
      simp at hv
      simp [hv]
  refine wpList_catR (enc := enc) (wr.alloc (.cells cs e)) hgd s x ho ht hinfo hzs hk hby B A n c xs (some ⟨wr.heap.size, 0, none⟩) 1 1 [y] (fun h => by cases h) hs hx (hown.alloc _) hrec (fun y' hy => by simp at hy; subst hy; exact hey) (fun y' hy => by simp at hy; subst hy; exact h1) hn (by omega) (by simp; omega) ?_
  intro A2 c2 w' ho2 hb2 hg2 _
  obtain ⟨g, rfl, hg, _⟩ := ho2.form (by omega)
  exact h g c2 w' ho2 (((Below.refl B wr).alloc hB _).trans hb2) hg2 hg
theorem ownR_nil {α : Type} (enc : α → List Value) (k : Nat) (e : TypeId) (w : World) (B : Nat) : OwnR enc k e w B none 0 0 [] := ⟨World.ownsRow_nil _ _ _ _, fun z hz => absurd hz List.not_mem_nil⟩
theorem ownR_empty {α : Type} (enc : α → List Value) (k : Nat) (e : TypeId) (w : World) (B : Nat) (hB : B ≤ w.heap.size) : OwnR enc k e (w.alloc (.cells #[] e)) B (some ⟨w.heap.size, 0, none⟩) 0 0 [] :=
  ⟨World.ownsRow_lit (size := k) w #[] 0 hB (Nat.zero_le _) (by simp), fun z hz => absurd hz List.not_mem_nil⟩
end Go.Proofs.Ytiofjnohdmminaa
