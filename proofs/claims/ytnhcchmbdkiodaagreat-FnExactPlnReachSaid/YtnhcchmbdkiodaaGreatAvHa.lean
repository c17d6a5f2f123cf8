/- Engine, part 8a: the same, of memory. -/
import Derived.Test.YtnhcchmbdkiodaaGreatAvH
set_option linter.unusedVariables false
set_option linter.unusedSimpArgs false
set_option autoImplicit false
namespace Go.Av

mutual
theorem sub_rep {C : Cx} : ∀ (x y : AV) (v : Value) (F : Foot), Rep C x v F → sub x y → Rep C y v F
  | x, y, v, F, h, hs => by
    unfold sub at hs
    split at hs
    · obtain ⟨rfl, rfl⟩ := hs; exact h
    · subst hs; exact h
    · subst hs; exact h
    · subst hs; exact h
    · subst hs; exact h
    · subst hs; exact .inl ⟨h.1, rfl, h.2⟩
    · subst hs; exact ⟨⟨none, 0, h.1, Nat.le_refl _, Nat.zero_le _, trivial⟩, h.2⟩
    · obtain ⟨rfl, rfl⟩ := hs; exact h
    · obtain ⟨rfl, rfl⟩ := hs; exact h
    · rename_i l l'
      obtain ⟨cs, e, k⟩ := h
      exact ⟨cs, e, subL_rep l l' cs F k hs⟩
    · rename_i l l'
      obtain ⟨cs, e, k⟩ := h
      exact ⟨cs, e, subL_rep l l' cs F k hs⟩
    · rename_i t x t' y
      obtain ⟨rfl, hs⟩ := hs
      obtain ⟨u, e, k⟩ := h
      exact ⟨u, e, sub_rep x y u F k hs⟩
    · rename_i f l g l'
      obtain ⟨rfl, hs⟩ := hs
      obtain ⟨cs, e, k⟩ := h
      exact ⟨cs, e, subL_rep l l' cs F k hs⟩
    · exact h.2.2
    · subst hs; exact h
theorem subL_rep {C : Cx} : ∀ (l l' : List AV) (vs : List Value) (F : Foot), RepL C l vs F → subL l l' → RepL C l' vs F
  | [], [], vs, F, h, hs => h
  | x :: l, y :: l', vs, F, h, hs => by
    obtain ⟨v, us, F1, F2, e, h1, h2, h3⟩ := h
    exact ⟨v, us, F1, F2, e, sub_rep x y v F1 h1 hs.1, subL_rep l l' us F2 h2 hs.2, h3⟩
  | [], _ :: _, vs, F, h, hs => hs.elim
  | _ :: _, [], vs, F, h, hs => hs.elim
end
structure RC (ρ : Ren) (C C' : Cx) : Prop where
  ext : Ext C.pu C'.pu
  w : C'.w = C.w
  mu : ∀ o, o < C'.nx → C'.mu o = match lkR ρ o with
    | none => C.mu o
    | some none => default
    | some (some x) => C.mu x
mutual
theorem ren_rep {ρ : Ren} {C C' : Cx} (h : RC ρ C C') : ∀ (v : AV) (x : Value) (F : Foot), nbl ρ C'.nx v → Rep C (ren ρ v) x F → Rep C' v x F
  | .dead, x, F, hn, hr => hr
  | .int _ _, x, F, hn, hr => hr
  | .tt, x, F, hn, hr => hr
  | .ff, x, F, hn, hr => hr
  | .bool _, x, F, hn, hr => hr
  | .str _, x, F, hn, hr => hr
  | .agg l, x, F, hn, hr => by obtain ⟨cs, e, k⟩ := hr; exact ⟨cs, e, renL_rep h l cs F hn k⟩
  | .tup l, x, F, hn, hr => by obtain ⟨cs, e, k⟩ := hr; exact ⟨cs, e, renL_rep h l cs F hn k⟩
  | .sl a b c, x, F, hn, hr => (show Rep C'.pu (.sl a b c) x F from (show Rep C.pu (.sl a b c) x F from hr).mono h.ext _ _ _ (fun b _ => by show C'.w.heap[b]? = C.w.heap[b]?; rw [h.w]))
  | .own a b c, x, F, hn, hr => (show Rep C'.pu (.own a b c) x F from (show Rep C.pu (.own a b c) x F from hr).mono h.ext _ _ _ (fun b _ => by show C'.w.heap[b]? = C.w.heap[b]?; rw [h.w]))
  | .nils, x, F, hn, hr => hr
  | .os o, x, F, hn, hr => by
    have hm := h.mu o hn
    unfold ren at hr
    split at hr
    · rename_i e
      rw [e] at hm
      refine ⟨hn, ?_, hr.2.2⟩
      rw [hm]; exact hr.2.1
    · rename_i e
      rw [e] at hm
      refine ⟨hn, ?_, hr.2⟩
      rw [hm]; exact hr.1
    · rename_i y e
      rw [e] at hm
      refine ⟨hn, ?_, hr.2.2⟩
      rw [hm]; exact hr.2.1
  | .rp l, x, F, hn, hr => (show Rep C'.pu (.rp l) x F from (show Rep C.pu (.rp l) x F from hr).mono h.ext _ _ _ (fun b _ => by show C'.w.heap[b]? = C.w.heap[b]?; rw [h.w]))
  | .cp o i off, x, F, hn, hr => by
    have hm := h.mu o hn.1
    have hn2 := hn.2
    unfold ren at hr
    split at hr
    · rename_i e
      rw [e] at hm
      refine ⟨hn.1, ?_, hr.2.2⟩
      rw [hm]; exact hr.2.1
    · rename_i e
      rw [e] at hn2; exact hn2.elim
    · rename_i y e
      rw [e] at hm
      refine ⟨hn.1, ?_, hr.2.2⟩
      rw [hm]; exact hr.2.1
  | .nilp, x, F, hn, hr => hr
  | .fn f l, x, F, hn, hr => by obtain ⟨cs, e, k⟩ := hr; exact ⟨cs, e, renL_rep h l cs F hn k⟩
  | .nilfn, x, F, hn, hr => hr
  | .iface t y, x, F, hn, hr => by obtain ⟨u, e, k⟩ := hr; exact ⟨u, e, ren_rep h y u F hn k⟩
  | .nilif, x, F, hn, hr => hr
theorem renL_rep {ρ : Ren} {C C' : Cx} (h : RC ρ C C') : ∀ (l : List AV) (vs : List Value) (F : Foot), nblL ρ C'.nx l → RepL C (renL ρ l) vs F → RepL C' l vs F
  | [], vs, F, hn, hr => hr
  | x :: l, vs, F, hn, hr => by
    obtain ⟨v, us, F1, F2, e, h1, h2, h3⟩ := hr
    exact ⟨v, us, F1, F2, e, ren_rep h x v F1 hn.1 h1, renL_rep h l us F2 hn.2 h2, h3⟩
end
theorem renB_rep {ρ : Ren} {C C' : Cx} (h : RC ρ C C') {c : Array Value} : ∀ (l : List AV) (off : Nat) (F : Foot), nblL ρ C'.nx l → RepB C (renL ρ l) c off F → RepB C' l c off F
  | [], off, F, hn, hr => hr
  | x :: l, off, F, hn, hr => by
    obtain ⟨u, F1, F2, e, o1, h1, h2, h3⟩ := hr
    exact ⟨u, F1, F2, e, o1, ren_rep h x u F1 hn.1 h1, renB_rep h l (off + 1) F2 hn.2 h2, h3⟩
theorem subB_rep {C : Cx} {c : Array Value} : ∀ (l l' : List AV) (off : Nat) (F : Foot), RepB C l c off F → subL l l' → RepB C l' c off F
  | [], [], off, F, hr, hs => hr
  | x :: l, y :: l', off, F, hr, hs => by
    obtain ⟨u, F1, F2, e, o1, h1, h2, h3⟩ := hr
    exact ⟨u, F1, F2, e, o1, sub_rep x y u F1 h1 hs.1, subB_rep l l' (off + 1) F2 h2 hs.2, h3⟩
  | [], _ :: _, off, F, hr, hs => hs.elim
  | _ :: _, [], off, F, hr, hs => hs.elim
theorem subL_length : ∀ (l l' : List AV), subL l l' → l.length = l'.length
  | [], [], _ => rfl
  | _ :: l, _ :: l', h => congrArg (· + 1) (subL_length l l' h.2)
  | [], _ :: _, h => h.elim
  | _ :: _, [], h => h.elim
theorem renL_length (ρ : Ren) : ∀ (l : List AV), (renL ρ l).length = l.length
  | [] => rfl
  | _ :: l => congrArg (· + 1) (renL_length ρ l)
theorem leR_length {ρ : Ren} {N : Nat} : ∀ (l l' : List (List AV)), leR ρ N l l' → l.length = l'.length
  | [], [], _ => rfl
  | _ :: l, _ :: l', h => congrArg (· + 1) (leR_length l l' h.2.2)
  | [], _ :: _, h => h.elim
  | _ :: _, [], h => h.elim
theorem leR_rep {ρ : Ren} {C C' : Cx} (h : RC ρ C C') {e : Nat} {c : Array Value} : ∀ (l l' : List (List AV)) (off : Nat) (F : Foot), leR ρ C'.nx l l' → RepO C e l c off F → RepO C' e l' c off F
  | [], [], off, F, hl, hr => hr
  | r :: l, r' :: l', off, F, hl, hr => by
    obtain ⟨F1, F2, e1, h1, h2, h3⟩ := hr
    refine ⟨F1, F2, ?_, renB_rep h r' off F1 hl.1 (subB_rep _ _ _ _ h1 hl.2.1), leR_rep h l l' _ F2 hl.2.2 h2, h3⟩
    have := subL_length _ _ hl.2.1
    rw [renL_length] at this
    omega
  | [], _ :: _, off, F, hl, hr => hl.elim
  | _ :: _, [], off, F, hl, hr => hl.elim

theorem leOb_rep {ρ : Ren} {C C' : Cx} (h : RC ρ C C') {o o' : Nat} {ob ob' : Ob} {F : Foot} (ho : o' < C'.nx) (hm : C'.mu o' = C.mu o) (he : ob.e = ob'.e) (hr : match ob.g, ob'.g with
    | true, true => leR ρ C'.nx ob.rows ob'.rows
    | true, false => False
    | false, _ => ob.rows = ob'.rows) (hob : RepOb C o ob F) : RepOb C' o' ob' F := by
  have hlen : ob.rows.length = ob'.rows.length := by
    split at hr
    · exact leR_length _ _ hr
    · exact hr.elim
    · rw [hr]
  refine ⟨ho, ?_⟩
  rw [hm]
  rcases hob.2 with ⟨h1, h2, h3, h4, h5⟩ | ⟨b, c, t, FR, h1, h2, h3, h4, h5, h6, h7, h8, h9⟩
  · exact .inl ⟨h1, h2, h3, List.length_eq_zero_iff.1 (by rw [← hlen, h4]; rfl), h5⟩
  · rw [hlen] at h2 h4 h5
    rw [he] at h3 h7 h8
    refine .inr ⟨b, c, t, FR, h1, h2, h3, h4, h5, by rw [h.w]; exact h6, h7, ?_, h9⟩
    split at hr
    · rename_i e e'
      rw [e] at h8
      rw [e']
      exact leR_rep h _ _ _ _ hr h8
    · exact hr.elim
    · rename_i e
      rw [e] at h8
      rw [← hr]
      have h10 : RepO C'.pu ob'.e ob.rows c 0 FR := h8.mono h.ext _ _ _ _ _ (fun _ _ => by rw [show C'.pu.w = C'.w from rfl, h.w]; rfl)
      cases ob'.g with
      | false => exact h10
      | true => exact h10.mono (ext_sel C' false) _ _ _ _ _ (fun _ _ => rfl)
theorem leH_rep {ρ : Ren} {C C' : Cx} (h : RC ρ C C') : ∀ (l hp : Hp) (F : Foot), leH ρ C'.nx hp l → RepH C hp F → ∃ F', RepH C' l F' ∧ ∀ b, F' b ≤ F b
  | [], hp, F, hl, hh => ⟨fun _ => 0, fun _ => rfl, fun b => Nat.zero_le _⟩
  | (o', ob') :: l, hp, F, hl, hh => by
    obtain ⟨ho, hl⟩ := hl
    have hm := h.mu o' ho
    have take : ∀ o, C'.mu o' = C.mu o → leO ρ C'.nx hp o ob' (fun h => leH ρ C'.nx h l) → ∃ F', RepH C' ((o', ob') :: l) F' ∧ ∀ b, F' b ≤ F b := fun o hm hk => by
      unfold leO at hk
      split at hk
      · rename_i ob hob
        obtain ⟨k1, k3, k4⟩ := hk
        obtain ⟨G1, G2, m1, m2, m3⟩ := RepH.take hp F o ob hh hob
        obtain ⟨F', q1, q2⟩ := leH_rep h l _ G2 k4 m2
        exact ⟨fun b => G1 b + F' b, ⟨G1, F', leOb_rep h ho hm k1 k3 m1, q1, fun _ => rfl⟩, fun b => by have := m3 b; have := q2 b; simp; omega⟩
      · exact hk.elim
    split at hl
    · rename_i e
      rw [e] at hm
      obtain ⟨F', q1, q2⟩ := leH_rep h l _ F hl.2 hh
      refine ⟨F', ⟨fun _ => 0, F', ⟨ho, .inl ?_⟩, q1, fun b => by simp⟩, q2⟩
      rw [hm]
      exact ⟨rfl, rfl, rfl, hl.1, fun _ => rfl⟩
    · rename_i o e
      rw [e] at hm
      exact take o hm hl
    · rename_i e
      rw [e] at hm
      exact take o' hm hl
theorem leH_rest {ρ : Ren} {C C' : Cx} (h : RC ρ C C') : ∀ (l hp : Hp) (F : Foot), leH ρ C'.nx hp l → RepH C hp F → ∃ F' F'', RepH C' l F' ∧ RepH C (takeH ρ hp l) F'' ∧ ∀ b, F b = F' b + F'' b
  | [], hp, F, hl, hh => ⟨fun _ => 0, F, fun _ => rfl, hh, fun b => by simp⟩
  | (o', ob') :: l, hp, F, hl, hh => by
    obtain ⟨ho, hl⟩ := hl
    have hm := h.mu o' ho
    have take : ∀ o, C'.mu o' = C.mu o → leO ρ C'.nx hp o ob' (fun h => leH ρ C'.nx h l) → ∃ F' F'', RepH C' ((o', ob') :: l) F' ∧ RepH C (takeH ρ (remh hp o) l) F'' ∧ ∀ b, F b = F' b + F'' b := fun o hm hk => by
      unfold leO at hk
      split at hk
      · rename_i ob hob
        obtain ⟨k1, k3, k4⟩ := hk
        obtain ⟨G1, G2, m1, m2, m3⟩ := RepH.take hp F o ob hh hob
        obtain ⟨F', F'', q1, q2, q3⟩ := leH_rest h l _ G2 k4 m2
        exact ⟨fun b => G1 b + F' b, F'', ⟨G1, F', leOb_rep h ho hm k1 k3 m1, q1, fun _ => rfl⟩, q2, fun b => by have := m3 b; have := q3 b; simp; omega⟩
      · exact hk.elim
    simp only [takeH]
    split at hl
    · rename_i e
      rw [e] at hm
      first | simp only [e] | skip
      obtain ⟨F', F'', q1, q2, q3⟩ := leH_rest h l _ F hl.2 hh
      refine ⟨F', F'', ⟨fun _ => 0, F', ⟨ho, .inl ?_⟩, q1, fun b => by simp⟩, q2, q3⟩
      rw [hm]
      exact ⟨rfl, rfl, rfl, hl.1, fun _ => rfl⟩
    · rename_i o e
      rw [e] at hm
      first | simp only [e] | skip
      exact take o hm hl
    · rename_i e
      rw [e] at hm
      first | simp only [e] | skip
      exact take o' hm hl

/-! ### Names put on anew -/
structure MC (σ : Nat → Nat) (N : Nat) (C C' : Cx) : Prop where
  ext : Ext C.pu C'.pu
  w : C'.w = C.w
  mu : ∀ o, o < N → C'.mu (σ o) = C.mu o
  lt : ∀ o, o < N → σ o < C'.nx
mutual
theorem mapN_rep {σ : Nat → Nat} {N : Nat} {C C' : Cx} (h : MC σ N C C') : ∀ (v : AV) (x : Value) (F : Foot), blw N v → Rep C v x F → Rep C' (mapN σ v) x F
  | .dead, x, F, hn, hr => hr
  | .int _ _, x, F, hn, hr => hr
  | .tt, x, F, hn, hr => hr
  | .ff, x, F, hn, hr => hr
  | .bool _, x, F, hn, hr => hr
  | .str _, x, F, hn, hr => hr
  | .agg l, x, F, hn, hr => by obtain ⟨cs, e, k⟩ := hr; exact ⟨cs, e, mapNL_rep h l cs F hn k⟩
  | .tup l, x, F, hn, hr => by obtain ⟨cs, e, k⟩ := hr; exact ⟨cs, e, mapNL_rep h l cs F hn k⟩
  | .sl a b c, x, F, hn, hr => (show Rep C'.pu (.sl a b c) x F from (show Rep C.pu (.sl a b c) x F from hr).mono h.ext _ _ _ (fun b _ => by show C'.w.heap[b]? = C.w.heap[b]?; rw [h.w]))
  | .own a b c, x, F, hn, hr => (show Rep C'.pu (.own a b c) x F from (show Rep C.pu (.own a b c) x F from hr).mono h.ext _ _ _ (fun b _ => by show C'.w.heap[b]? = C.w.heap[b]?; rw [h.w]))
  | .nils, x, F, hn, hr => hr
  | .os o, x, F, hn, hr => by
    refine ⟨h.lt o hn, ?_, hr.2.2⟩
    rw [h.mu o hn]; exact hr.2.1
  | .rp l, x, F, hn, hr => (show Rep C'.pu (.rp l) x F from (show Rep C.pu (.rp l) x F from hr).mono h.ext _ _ _ (fun b _ => by show C'.w.heap[b]? = C.w.heap[b]?; rw [h.w]))
  | .cp o i off, x, F, hn, hr => by
    refine ⟨h.lt o hn, ?_, hr.2.2⟩
    rw [h.mu o hn]; exact hr.2.1
  | .nilp, x, F, hn, hr => hr
  | .fn f l, x, F, hn, hr => by obtain ⟨cs, e, k⟩ := hr; exact ⟨cs, e, mapNL_rep h l cs F hn k⟩
  | .nilfn, x, F, hn, hr => hr
  | .iface t y, x, F, hn, hr => by obtain ⟨u, e, k⟩ := hr; exact ⟨u, e, mapN_rep h y u F hn k⟩
  | .nilif, x, F, hn, hr => hr
theorem mapNL_rep {σ : Nat → Nat} {N : Nat} {C C' : Cx} (h : MC σ N C C') : ∀ (l : List AV) (vs : List Value) (F : Foot), blwL N l → RepL C l vs F → RepL C' (mapNL σ l) vs F
  | [], vs, F, hn, hr => hr
  | x :: l, vs, F, hn, hr => by
    obtain ⟨v, us, F1, F2, e, h1, h2, h3⟩ := hr
    exact ⟨v, us, F1, F2, e, mapN_rep h x v F1 hn.1 h1, mapNL_rep h l us F2 hn.2 h2, h3⟩
end
theorem mapNB_rep {σ : Nat → Nat} {N : Nat} {C C' : Cx} (h : MC σ N C C') {c : Array Value} : ∀ (l : List AV) (off : Nat) (F : Foot), blwL N l → RepB C l c off F → RepB C' (mapNL σ l) c off F
  | [], off, F, hn, hr => hr
  | x :: l, off, F, hn, hr => by
    obtain ⟨u, F1, F2, e, o1, h1, h2, h3⟩ := hr
    exact ⟨u, F1, F2, e, o1, mapN_rep h x u F1 hn.1 h1, mapNB_rep h l (off + 1) F2 hn.2 h2, h3⟩
theorem mapNL_length (σ : Nat → Nat) : ∀ (l : List AV), (mapNL σ l).length = l.length
  | [] => rfl
  | _ :: l => congrArg (· + 1) (mapNL_length σ l)
theorem mapNR_length (σ : Nat → Nat) : ∀ (l : List (List AV)), (mapNR σ l).length = l.length
  | [] => rfl
  | _ :: l => congrArg (· + 1) (mapNR_length σ l)
theorem mapNR_rep {σ : Nat → Nat} {N : Nat} {C C' : Cx} (h : MC σ N C C') {e : Nat} {c : Array Value} : ∀ (l : List (List AV)) (off : Nat) (F : Foot), blwR N l → RepO C e l c off F → RepO C' e (mapNR σ l) c off F
  | [], off, F, hn, hr => hr
  | r :: l, off, F, hn, hr => by
    obtain ⟨F1, F2, e1, h1, h2, h3⟩ := hr
    exact ⟨F1, F2, by rw [mapNL_length]; exact e1, mapNB_rep h r off F1 hn.1 h1, mapNR_rep h l _ F2 hn.2 h2, h3⟩
theorem mapO_rep {σ : Nat → Nat} {N : Nat} {C C' : Cx} (h : MC σ N C C') {o : Nat} {ob : Ob} {F : Foot} (ho : o < N) (hb : match ob.g with
    | true => blwR N ob.rows
    | false => True) (hr : RepOb C o ob F) : RepOb C' (σ o) (mapO σ ob) F := by
  refine ⟨h.lt o ho, ?_⟩
  rw [h.mu o ho]
  obtain ⟨e, rows, d, g⟩ := ob
  cases g with
  | true =>
    rcases hr.2 with ⟨h1, h2, h3, h4, h5⟩ | ⟨b, c, t, FR, h1, h2, h3, h4, h5, h6, h7, h8, h9⟩
    · simp only at h4
      subst h4
      exact .inl ⟨h1, h2, h3, rfl, h5⟩
    · exact .inr ⟨b, c, t, FR, h1, by simp only [mapO, mapNR_length]; exact h2, h3, by simp only [mapO, mapNR_length]; exact h4, by simp only [mapO, mapNR_length]; exact h5, by rw [h.w]; exact h6, h7, mapNR_rep h _ _ _ hb h8, h9⟩
  | false =>
    rcases hr.2 with h1 | ⟨b, c, t, FR, h1, h2, h3, h4, h5, h6, h7, h8, h9⟩
    · exact .inl h1
    · exact .inr ⟨b, c, t, FR, h1, h2, h3, h4, h5, by rw [h.w]; exact h6, h7, h8.mono h.ext _ _ _ _ _ (fun _ _ => by rw [show C'.pu.w = C'.w from rfl, h.w]; rfl), h9⟩
theorem mapH_rep {σ : Nat → Nat} {N : Nat} {C C' : Cx} (h : MC σ N C C') : ∀ (l : Hp) (F : Foot), blwH N l → RepH C l F → RepH C' (mapH σ l) F
  | [], F, hn, hr => hr
  | (o, ob) :: l, F, hn, hr => by
    obtain ⟨F1, F2, h1, h2, h3⟩ := hr
    exact ⟨F1, F2, mapO_rep h hn.1 hn.2.1 h1, mapH_rep h l F2 hn.2.2 h2, h3⟩
theorem fullR_at {ρ : Ren} {nx : Nat} : ∀ (n : Nat), fullR ρ nx n → ∀ o, o < n → ∃ x, lkR ρ o = some (some x) ∧ x < nx
  | n + 1, h, o, ho => by
    by_cases e : o = n
    · subst e
      have h1 := h.1
      split at h1
      · rename_i x hx; exact ⟨x, hx, h1⟩
      · exact h1.elim
    · exact fullR_at n h.2 o (by omega)
theorem keysR_at {n : Nat} : ∀ (ρ : Ren), keysR n ρ → ∀ o, n ≤ o → lkR ρ o = none
  | [], h, o, ho => rfl
  | (m, x) :: r, h, o, ho => by
    rw [lkR]
    cases hb : Nat.beq m o with
    | true => have := Nat.eq_of_beq_eq_true hb; have := h.1; omega
    | false => exact keysR_at r h.2 o ho
end Go.Av
