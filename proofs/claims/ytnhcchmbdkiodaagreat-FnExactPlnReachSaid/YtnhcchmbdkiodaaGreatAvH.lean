/- Engine, part 8: each operation does in memory what the evaluator says. -/
import Derived.Test.YtnhcchmbdkiodaaGreatAvG
set_option linter.unusedVariables false
set_option linter.unusedSimpArgs false
set_option autoImplicit false
namespace Go.Av

theorem cells_rep {C : Cx} {a : AV} {v : Value} {l : List AV} (h : Rep C a v (fun _ => 0)) (e : a.cells? = some l) : RepL C l v.cells.toList (fun _ => 0) := by
  have one : ∀ (x : AV), Rep C x v (fun _ => 0) → v.cells = #[v] → RepL C [x] v.cells.toList (fun _ => 0) := fun x hx hv => by
    rw [hv]; exact ⟨v, [], _, _, rfl, hx, ⟨rfl, fun _ => rfl⟩, fun _ => rfl⟩
  cases a <;> simp only [AV.cells?, Option.some.injEq, reduceCtorEq] at e
  case agg l' =>
    subst e
    obtain ⟨cs, rfl, h⟩ := h
    simpa [Value.cells] using h
  case own e' rows d =>
    subst e
    refine one _ h ?_
    rcases h with h | ⟨b, cap, c, t, FR, h1, _⟩
    · rw [h.1]; rfl
    · rw [h1]; rfl
  case sl => subst e; refine one _ h ?_; obtain ⟨⟨a, cap, h1, _⟩, _⟩ := h; rw [h1]; rfl
  case rp => subst e; refine one _ h ?_; obtain ⟨⟨ad, h1, _⟩, _⟩ := h; rw [h1]; rfl
  case os => subst e; refine one _ h ?_; rw [h.2.1]; rfl
  case cp => subst e; refine one _ h ?_; obtain ⟨_, ⟨b, _, h1⟩, _⟩ := h; rw [h1]; rfl
  case fn => subst e; refine one _ h ?_; obtain ⟨cs, h1, _⟩ := h; rw [h1]; rfl
  case iface => subst e; refine one _ h ?_; obtain ⟨u, h1, _⟩ := h; rw [h1]; rfl
  all_goals (subst e; refine one _ h ?_; rw [h.1]; rfl)
theorem one_rep {C : Cx} {a : AV} {v : Value} {F : Foot} (h : Rep C a v F) (e : a.one = true) : v.oneCell' = true := by
  cases a <;> simp only [AV.one, Bool.false_eq_true] at e
  case own e' rows d =>
    rcases h with h | ⟨b, cap, c, t, FR, h1, _⟩
    · rw [h.1]; rfl
    · rw [h1]; rfl
  case sl => obtain ⟨⟨a, cap, h1, _⟩, _⟩ := h; rw [h1]; rfl
  case rp => obtain ⟨⟨ad, h1, _⟩, _⟩ := h; rw [h1]; rfl
  case os => rw [h.2.1]; rfl
  case cp => obtain ⟨_, ⟨b, _, h1⟩, _⟩ := h; rw [h1]; rfl
  case fn => obtain ⟨cs, h1, _⟩ := h; rw [h1]; rfl
  case iface => obtain ⟨u, h1, _⟩ := h; rw [h1]; rfl
  all_goals (rw [h.1]; rfl)
theorem all_one_rep {C : Cx} : ∀ (l : List AV) (vs : List Value) (F : Foot), RepL C l vs F → l.all AV.one = true → ∀ v ∈ vs, v.oneCell' = true
  | [], vs, F, h, e => by obtain ⟨rfl, _⟩ := h; simp
  | x :: l, vs, F, h, e => by
    obtain ⟨v, vs', F1, F2, rfl, h1, h2, h3⟩ := h
    simp only [List.all_cons, Bool.and_eq_true] at e
    intro u hu
    rcases List.mem_cons.1 hu with rfl | hu
    · exact one_rep h1 e.1
    · exact all_one_rep l vs' F2 h2 e.2 u hu

theorem own_of {C : Cx} {o : Nat} {ob : Ob} {F : Foot} {v : Value} (hg : ob.g = false) (h : RepOb C o ob F) (hv : Rep C (.os o) v (fun _ => 0)) : Rep C (.own ob.e ob.rows ob.d) v F := by
  obtain ⟨_, hv, _⟩ := hv
  rcases h with ⟨h0, ⟨h1, h2, h3, h4, h5⟩ | ⟨b, c, t, FR, h1, h2, h3, h4, h5, h6, h7, h8, h9⟩⟩
  · refine .inl ⟨?_, h4, h5⟩
    rw [hv, h1, h2, h3]; rfl
  · rw [hg] at h8
    refine .inr ⟨b, (C.mu o).cap, c, t, FR, ?_, h4, h5, h6, h7, h8, h9⟩
    rw [hv, h1, h2]; rfl
theorem absC_sound' {C : Cx} : ∀ (l : List AV) (hp : Hp) (F0 F : Foot) (vs : List Value), RepL C l vs F0 → RepH C hp F →
    ∃ F1 F2 : Foot, RepL C (absC hp l).1 vs F1 ∧ RepH C (absC hp l).2 F2 ∧ ∀ b, F0 b + F b = F1 b + F2 b
  | [], hp, F0, F, vs, h, hh => ⟨F0, F, h, hh, fun b => rfl⟩
  | x :: l, hp, F0, F, vs, h, hh => by
    obtain ⟨v, vs', F1, F2, rfl, h1, h2, h3⟩ := h
    have plain : absC hp (x :: l) = (x :: (absC hp l).1, (absC hp l).2) → ∃ G1 G2 : Foot, RepL C (absC hp (x :: l)).1 (v :: vs') G1 ∧ RepH C (absC hp (x :: l)).2 G2 ∧ ∀ b, F0 b + F b = G1 b + G2 b := fun e => by
      obtain ⟨G1, G2, k1, k2, k3⟩ := absC_sound' l hp F2 F vs' h2 hh
      rw [e]
      exact ⟨fun b => F1 b + G1 b, G2, ⟨v, vs', _, _, rfl, h1, k1, fun b => rfl⟩, k2, fun b => by have := h3 b; have := k3 b; simp; omega⟩
    cases x with
    | os o =>
      cases hg : geth hp o with
      | none => exact plain (by simp only [absC, hg])
      | some ob =>
        cases hq : ob.g with
        | true => exact plain (by simp only [absC, hg, hq])
        | false =>
        obtain ⟨G1, G2, m1, m2, m3⟩ := RepH.take hp F o ob hh hg
        obtain ⟨H1, H2, k1, k2, k3⟩ := absC_sound' l (remh hp o) F2 G2 vs' h2 m2
        have hz : Z F1 := h1.2.2
        have h1' := h1.foot (F' := fun _ => 0) (fun b => (hz b).symm)
        simp only [absC, hg, hq]
        exact ⟨fun b => G1 b + H1 b, H2, ⟨v, vs', G1, H1, rfl, own_of hq m1 h1', k1, fun _ => rfl⟩, k2, fun b => by have := h3 b; have := hz b; have := m3 b; have := k3 b; simp; omega⟩
    | _ => exact plain rfl
theorem absC_sound {C : Cx} (l : List AV) (hp : Hp) (F : Foot) (vs : List Value) (h : RepL C l vs (fun _ => 0)) (hh : RepH C hp F) :
    ∃ F1 F2 : Foot, RepL C (absC hp l).1 vs F1 ∧ RepH C (absC hp l).2 F2 ∧ ∀ b, F b = F1 b + F2 b := by
  obtain ⟨F1, F2, k1, k2, k3⟩ := absC_sound' l hp _ F vs h hh
  exact ⟨F1, F2, k1, k2, fun b => by have := k3 b; simp at this; omega⟩
theorem absC_length : ∀ (l : List AV) (hp : Hp), (absC hp l).1.length = l.length
  | [], hp => rfl
  | x :: l, hp => by
    have plain : absC hp (x :: l) = (x :: (absC hp l).1, (absC hp l).2) → (absC hp (x :: l)).1.length = (x :: l).length := fun e => by
      rw [e]; simp [absC_length l hp]
    cases x with
    | os o =>
      cases hg : geth hp o with
      | none => exact plain (by simp only [absC, hg])
      | some ob =>
        cases hq : ob.g with
        | true => exact plain (by simp only [absC, hg, hq])
        | false => simp only [absC, hg, hq]; simp [absC_length l (remh hp o)]
    | _ => exact plain rfl

/-- One row made of a list of values. -/
theorem RepO.single {C : Cx} {l : List AV} {vs : List Value} {F : Foot} (h : RepL C l vs F) (ho : ∀ v ∈ vs, v.oneCell' = true) : RepO C l.length [l] vs.toArray 0 F :=
  ⟨F, fun _ => 0, rfl, RepB.of_list l vs 0 F (fun j v hj => by simpa using hj) ho h, fun _ => rfl, fun b => by simp⟩

mutual
theorem pu_zero {C : Cx} : ∀ (a : AV) (v : Value) (F : Foot), Rep C a v F → a.pu = true → Z F
  | .dead, v, F, h, e => h
  | .int _ _, v, F, h, e => h.2.2
  | .tt, v, F, h, e => h.2
  | .ff, v, F, h, e => h.2
  | .bool _, v, F, h, e => h.2
  | .str _, v, F, h, e => h.2.2
  | .agg l, v, F, h, e => by obtain ⟨cs, _, h⟩ := h; exact puL_zero l cs F h e
  | .tup l, v, F, h, e => by obtain ⟨cs, _, h⟩ := h; exact puL_zero l cs F h e
  | .sl _ _ _, v, F, h, e => h.2
  | .own _ _ _, v, F, h, e => by simp [AV.pu] at e
  | .nils, v, F, h, e => h.2
  | .os o, v, F, h, e => h.2.2
  | .rp _, v, F, h, e => h.2
  | .cp _ _ _, v, F, h, e => h.2.2
  | .nilp, v, F, h, e => h.2
  | .fn _ l, v, F, h, e => by obtain ⟨cs, _, h⟩ := h; exact puL_zero l cs F h e
  | .nilfn, v, F, h, e => h.2
  | .iface _ x, v, F, h, e => by obtain ⟨u, _, h⟩ := h; exact pu_zero x u F h e
  | .nilif, v, F, h, e => h.2
theorem puL_zero {C : Cx} : ∀ (l : List AV) (vs : List Value) (F : Foot), RepL C l vs F → puL l = true → Z F
  | [], vs, F, h, e => h.2
  | x :: l, vs, F, h, e => by
    obtain ⟨v, vs', F1, F2, rfl, h1, h2, h3⟩ := h
    simp only [puL, Bool.and_eq_true] at e
    intro b
    rw [h3, pu_zero x v F1 h1 e.1 b, puL_zero l vs' F2 h2 e.2 b]
end

mutual
/-- What names no object reads the same whatever the objects are. -/
theorem np_rep {C C' : Cx} (hx : Ext C.pu C') : ∀ (a : AV) (v : Value) (F : Foot), Rep C a v F → (∀ b, F b ≠ 0 → C'.w.heap[b]? = C.w.heap[b]?) → a.np = true → Rep C' a v F
  | .dead, v, F, h, k, e => h
  | .int _ _, v, F, h, k, e => h
  | .tt, v, F, h, k, e => h
  | .ff, v, F, h, k, e => h
  | .bool _, v, F, h, k, e => h
  | .str _, v, F, h, k, e => h
  | .agg l, v, F, h, k, e => by obtain ⟨cs, r, h⟩ := h; exact ⟨cs, r, npL_rep hx l cs F h k e⟩
  | .tup l, v, F, h, k, e => by obtain ⟨cs, r, h⟩ := h; exact ⟨cs, r, npL_rep hx l cs F h k e⟩
  | .sl x y z, v, F, h, k, e => (show Rep C.pu (.sl x y z) v F from h).mono hx _ _ _ k
  | .own x y z, v, F, h, k, e => (show Rep C.pu (.own x y z) v F from h).mono hx _ _ _ k
  | .nils, v, F, h, k, e => h
  | .os _, v, F, h, k, e => by simp [AV.np] at e
  | .rp x, v, F, h, k, e => (show Rep C.pu (.rp x) v F from h).mono hx _ _ _ k
  | .cp _ _ _, v, F, h, k, e => by simp [AV.np] at e
  | .nilp, v, F, h, k, e => h
  | .fn _ l, v, F, h, k, e => by obtain ⟨cs, r, h⟩ := h; exact ⟨cs, r, npL_rep hx l cs F h k e⟩
  | .nilfn, v, F, h, k, e => h
  | .iface _ x, v, F, h, k, e => by obtain ⟨u, r, h⟩ := h; exact ⟨u, r, np_rep hx x u F h k e⟩
  | .nilif, v, F, h, k, e => h
theorem npL_rep {C C' : Cx} (hx : Ext C.pu C') : ∀ (l : List AV) (vs : List Value) (F : Foot), RepL C l vs F → (∀ b, F b ≠ 0 → C'.w.heap[b]? = C.w.heap[b]?) → npL l = true → RepL C' l vs F
  | [], vs, F, h, k, e => h
  | x :: l, vs, F, h, k, e => by
    obtain ⟨v, vs', F1, F2, r, h1, h2, h3⟩ := h
    simp only [npL, Bool.and_eq_true] at e
    exact ⟨v, vs', F1, F2, r, np_rep hx x v F1 h1 (fun b hb => k b (by have := h3 b; omega)) e.1, npL_rep hx l vs' F2 h2 (fun b hb => k b (by have := h3 b; omega)) e.2, h3⟩
end
theorem npL_sel {C : Cx} {l : List AV} {vs : List Value} {F : Foot} (g : Bool) (h : RepL C l vs F) (e : (g || npL l) = true) : RepL (C.sel g) l vs F := by
  cases g with
  | true => exact h
  | false => exact npL_rep ⟨fun _ h => h, fun _ _ => rfl, Nat.le_refl _, fun _ _ => rfl⟩ l vs F h (fun _ _ => rfl) e
/-! ### Results of calls -/
/-- What a result makes of the heads: more objects, whose blocks are those of the result. -/
structure Inst (C C' : Cx) (n' : Nat) (hp' : Hp) (F : Foot) : Prop where
  nx : C'.nx = n'
  le : C.nx ≤ C'.nx
  mu : ∀ o, o < C.nx → C'.mu o = C.mu o
  w : C'.w = C.w
  ok : C'.ok = C.ok
  hp : RepH C' hp' F
theorem RepH.app {C : Cx} : ∀ (h h' : Hp) (F F' : Foot), RepH C h F → RepH C h' F' → RepH C (h ++ h') (fun b => F b + F' b)
  | [], h', F, F', k, k' => by
    have : (fun b => F b + F' b) = F' := funext fun b => by rw [k b]; omega
    rw [this]; exact k'
  | (o, ob) :: h, h', F, F', k, k' => by
    obtain ⟨F1, F2, k1, k2, k3⟩ := k
    exact ⟨F1, fun b => F2 b + F' b, k1, RepH.app h h' F2 F' k2 k', fun b => by have := k3 b; simp; omega⟩
theorem Inst.ext {C C' : Cx} {n' : Nat} {hp' : Hp} {F : Foot} (h : Inst C C' n' hp' F) : Ext C C' := ⟨fun b hb => by rw [h.ok]; exact hb, fun b _ => by rw [h.w], h.le, h.mu⟩
theorem Inst.refl (C : Cx) {F : Foot} (h : Z F) : Inst C C C.nx [] F := ⟨rfl, Nat.le_refl _, fun _ _ => rfl, rfl, rfl, h⟩
theorem Inst.trans {C C1 C2 : Cx} {n1 n2 : Nat} {h1 h2 : Hp} {F1 F2 F : Foot} (a : Inst C C1 n1 h1 F1) (b : Inst C1 C2 n2 h2 F2) (e : ∀ x, F x = F1 x + F2 x) : Inst C C2 n2 (h1 ++ h2) F where
  nx := b.nx
  le := Nat.le_trans a.le b.le
  mu o ho := (b.mu o (Nat.lt_of_lt_of_le ho a.le)).trans (a.mu o ho)
  w := b.w.trans a.w
  ok := b.ok.trans a.ok
  hp := by
    have : F = fun x => F1 x + F2 x := funext e
    rw [this]
    exact RepH.app _ _ _ _ (RepH.mono b.ext _ _ a.hp (fun x _ => by rw [b.w])) b.hp
/-- One slice of one's own gets a head. -/
theorem inst_own {C : Cx} {e : Nat} {rows : List (List AV)} {d : List AV} {v : Value} {F : Foot} (h : Rep C (.own e rows d) v F) :
    ∃ C', Inst C C' (C.nx + 1) [(C.nx, ⟨e, rows, d, false⟩)] F ∧ Rep C' (.os C.nx) v (fun _ => 0) := by
  rcases h with ⟨h1, h2, h3⟩ | ⟨b, cap, c, t, FR, h1, h2, h3, h4, h5, h6, h7⟩
  · let C' : Cx := ⟨C.w, C.ok, updMu C.mu C.nx ⟨none, 0, 0, e⟩, C.nx + 1⟩
    refine ⟨C', ⟨rfl, by simp [C'], fun o ho => by simp only [C', updMu]; rw [if_neg (by omega)], rfl, rfl, ⟨F, fun _ => 0, ⟨by simp [C'], .inl ⟨by simp [C', updMu], by simp [C', updMu], by simp [C', updMu], h2, h3⟩⟩, fun _ => rfl, fun b => by simp⟩⟩, by simp [C'], ?_, fun _ => rfl⟩
    rw [h1]; simp [C', updMu]
  · let C' : Cx := ⟨C.w, C.ok, updMu C.mu C.nx ⟨some b, rows.length, cap, e⟩, C.nx + 1⟩
    refine ⟨C', ⟨rfl, by simp [C'], fun o ho => by simp only [C', updMu]; rw [if_neg (by omega)], rfl, rfl, ⟨F, fun _ => 0, ⟨by simp [C'], .inr ⟨b, c, t, FR, by simp [C', updMu], by simp [C', updMu], by simp [C', updMu], by simpa [C', updMu] using h2, h3, h4, by simpa [C', updMu] using h5, h6, h7⟩⟩, fun _ => rfl, fun b => by simp⟩⟩, by simp [C'], ?_, fun _ => rfl⟩
    rw [h1]; simp [C', updMu]
theorem instC_sound : ∀ (l : List AV) (C : Cx) (vs : List Value) (F : Foot), RepL C l vs F → l.all AV.top = true →
    ∃ C', Inst C C' (instC C.nx l).2.2 (instC C.nx l).2.1 F ∧ RepL C' (instC C.nx l).1 vs (fun _ => 0)
  | [], C, vs, F, h, _ => ⟨C, Inst.refl C h.2, h.1, fun _ => rfl⟩
  | x :: l, C, vs, F, h, hq => by
    obtain ⟨v, us, F1, F2, rfl, h1, h2, h3⟩ := h
    simp only [List.all_cons, Bool.and_eq_true] at hq
    have plain : instC C.nx (x :: l) = (x :: (instC C.nx l).1, (instC C.nx l).2.1, (instC C.nx l).2.2) → Z F1 → ∃ C', Inst C C' (instC C.nx (x :: l)).2.2 (instC C.nx (x :: l)).2.1 F ∧ RepL C' (instC C.nx (x :: l)).1 (v :: us) (fun _ => 0) := fun e hz => by
      obtain ⟨C', k1, k2⟩ := instC_sound l C us F2 h2 hq.2
      rw [e]
      have : F = F2 := funext fun b => by have := h3 b; have := hz b; omega
      subst this
      refine ⟨C', k1, v, us, _, _, rfl, ?_, k2, fun _ => rfl⟩
      exact (h1.foot (F' := fun _ => 0) (fun b => (hz b).symm)).mono k1.ext _ _ _ (fun b hb => absurd rfl hb)
    by_cases ho : ∃ e r d, x = .own e r d
    · obtain ⟨e, r, d, rfl⟩ := ho
      obtain ⟨C1, k1, k2⟩ := inst_own h1
      have h2' := h2.mono k1.ext _ _ _ (fun b _ => by rw [k1.w])
      obtain ⟨C2, m1, m2⟩ := instC_sound l C1 us F2 h2' hq.2
      rw [k1.nx] at m1 m2
      exact ⟨C2, k1.trans m1 h3, v, us, _, _, rfl, k2.mono m1.ext _ _ _ (fun b hb => absurd rfl hb), m2, fun _ => rfl⟩
    · have hp : x.pu = true := by
        have := hq.1
        cases x with
        | own e r d => exact absurd ⟨e, r, d, rfl⟩ ho
        | _ => exact this
      have hz := pu_zero x v F1 h1 hp
      cases x with
      | own e r d => exact absurd ⟨e, r, d, rfl⟩ ho
      | _ => exact plain rfl hz
theorem instV_sound {C : Cx} (x : AV) (v : Value) (F : Foot) (h : Rep C x v F) (hq : x.top1 = true) :
    ∃ C', Inst C C' (instV C.nx x).2.2 (instV C.nx x).2.1 F ∧ Rep C' (instV C.nx x).1 v (fun _ => 0) := by
  have plain : instV C.nx x = (x, [], C.nx) → x.pu = true → ∃ C', Inst C C' (instV C.nx x).2.2 (instV C.nx x).2.1 F ∧ Rep C' (instV C.nx x).1 v (fun _ => 0) := fun e hp => by
    have hz := pu_zero x v F h hp
    rw [e]
    exact ⟨C, Inst.refl C hz, h.foot (fun b => (hz b).symm)⟩
  cases x with
  | agg l =>
    obtain ⟨cs, rfl, hL⟩ := h
    obtain ⟨C', k1, k2⟩ := instC_sound l C cs F hL hq
    exact ⟨C', k1, cs, rfl, k2⟩
  | own e rows d => exact inst_own h
  | _ => exact plain rfl hq
theorem instT_sound : ∀ (l : List AV) (C : Cx) (vs : List Value) (F : Foot), RepL C l vs F → l.all AV.top1 = true →
    ∃ C', Inst C C' (instT C.nx l).2.2 (instT C.nx l).2.1 F ∧ RepL C' (instT C.nx l).1 vs (fun _ => 0)
  | [], C, vs, F, h, _ => ⟨C, Inst.refl C h.2, h.1, fun _ => rfl⟩
  | x :: l, C, vs, F, h, hq => by
    obtain ⟨v, us, F1, F2, rfl, h1, h2, h3⟩ := h
    simp only [List.all_cons, Bool.and_eq_true] at hq
    obtain ⟨C1, k1, k2⟩ := instV_sound x v F1 h1 hq.1
    have h2' := h2.mono k1.ext _ _ _ (fun b _ => by rw [k1.w])
    obtain ⟨C2, m1, m2⟩ := instT_sound l C1 us F2 h2' hq.2
    rw [k1.nx] at m1 m2
    exact ⟨C2, k1.trans m1 h3, v, us, _, _, rfl, k2.mono m1.ext _ _ _ (fun b hb => absurd rfl hb), m2, fun _ => rfl⟩
theorem inst_sound {C : Cx} (x : AV) (v : Value) (F : Foot) (h : Rep C x v F) (hq : x.top2 = true) :
    ∃ C', Inst C C' (inst C.nx x).2.2 (inst C.nx x).2.1 F ∧ Rep C' (inst C.nx x).1 v (fun _ => 0) := by
  cases x with
  | tup l =>
    obtain ⟨cs, rfl, hL⟩ := h
    obtain ⟨C', k1, k2⟩ := instT_sound l C cs F hL hq
    exact ⟨C', k1, cs, rfl, k2⟩
  | _ => exact instV_sound _ v F h hq

end Go.Av
