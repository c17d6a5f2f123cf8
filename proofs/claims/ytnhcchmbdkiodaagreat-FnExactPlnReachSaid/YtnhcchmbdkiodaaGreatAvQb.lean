/- Engine, part 18b: regions that draw their order and only read the objects. -/
import Derived.Test.YtnhcchmbdkiodaaGreatAvQ
set_option linter.unusedVariables false
set_option linter.unusedSimpArgs false
set_option autoImplicit false
namespace Go.Av
variable {P : Program}

/-- An operation that may read an object, and makes none. -/
def hst (P : Program) [Known P] (op : Op) (s : St) (K : AV → Prop) : Prop := match op with
  | .load t a => match tyT P t, s.ev a with
    | some (g, n), .cp o i off => match geth s.hp o with
      | some ob => i < ob.rows.length ∧ 0 < n ∧ off + n ≤ ob.e ∧ puL (((ob.rows.getD i ob.d).drop off).take n) = true ∧ K (packT g (((ob.rows.getD i ob.d).drop off).take n))
      | none => False
    | _, _ => pst P (.load t a) s K
  | .indexAddr t x i => match elT P t, s.ev x, s.ev i with
    | some (_, e, _), .os o, .int _ j => match geth s.hp o with
      | some ob => e = ob.e ∧ 0 ≤ j ∧ j < ob.rows.length ∧ K (.cp o j.toNat 0)
      | none => False
    | _, _, _ => pst P (.indexAddr t x i) s K
  | op => pst P op s K
theorem hst_out [Known P] {op : Op} {s : St} {K : AV → Prop} (h : hst P op s K) : ∃ v, K v ∧ ∀ (s' : St) (K' : St → AV → Prop), (∀ x ∈ op.operands, s'.ev x = s.ev x) → s'.hp = s.hp → K' s' v → stp P op s' K' := by
  have gen : ∀ op, pst P op s K → ∃ v, K v ∧ ∀ (s' : St) (K' : St → AV → Prop), (∀ x ∈ op.operands, s'.ev x = s.ev x) → s'.hp = s.hp → K' s' v → stp P op s' K' := fun op h => by
    obtain ⟨v, h1, h2⟩ := pst_out h
    exact ⟨v, h1, fun s' K' he _ hk => h2 s' K' he hk⟩
  cases op with
  | load t a =>
    simp only [hst] at h
    split at h
    · rename_i g n o i off ht ha
      split at h
      · rename_i ob hob
        obtain ⟨h1, h2, h3, h4, h5⟩ := h
        refine ⟨_, h5, fun s' K' he hh hk => ?_⟩
        simp only [stp, ht, he a (by simp [Op.operands]), ha, hh, hob, h4]
        exact ⟨h1, h2, h3, hk⟩
      · exact h.elim
    · exact gen _ h
  | indexAddr t x i =>
    simp only [hst] at h
    split at h
    · rename_i g e b o k j ht hx hi
      split at h
      · rename_i ob hob
        obtain ⟨h1, h2, h3, h4⟩ := h
        refine ⟨_, h4, fun s' K' he hh hk => ?_⟩
        simp only [stp, ht, he x (by simp [Op.operands]), he i (by simp [Op.operands]), hx, hi, hh, hob]
        exact ⟨h1, h2, h3, hk⟩
      · exact h.elim
    · exact gen _ h
  | _ => exact gen _ h

def aOpH (P : Program) [Known P] (ops : List Oper) (o : Oper) (s : St) (K : St → Prop) : Prop := match gvl ops s o with
  | none => False
  | some true => ∃ v, (∀ K' : St → AV → Prop, K' s v → stp P o.op s K') ∧ K (s.put o.dst v)
  | some false => K (s.put o.dst (.tup []))
theorem aOpH_congr [Known P] {ops : Array Oper} {o : Oper} {s s' : St} {K K' : St → Prop} (ht : ∀ t ∈ o.looksAt ops, gtm s'.tm t = gtm s.tm t) (hh : s'.hp = s.hp) (hn : s'.nx = s.nx)
    (hK : ∀ v, K (s.put o.dst v) → K' (s'.put o.dst v)) (h : aOpH P ops.toList o s K) : aOpH P ops.toList o s' K' := by
  obtain ⟨tm, hp, nx⟩ := s
  obtain ⟨tm', hp', nx'⟩ := s'
  simp only at hh hn
  subst hh hn
  unfold aOpH at h ⊢
  rw [looks_gvl ht]
  split at h
  · exact h.elim
  · obtain ⟨v, h1, h2⟩ := h
    refine ⟨v, fun K2 hk => ?_, hK _ h2⟩
    exact stp_congr (K := fun s1 v1 => s1 = ⟨tm, hp', nx'⟩ ∧ v1 = v) (looks_ev ht) (fun hp1 nx1 v1 hk1 => by
      obtain ⟨e1, e2⟩ := hk1
      obtain ⟨e3, e4⟩ : hp1 = hp' ∧ nx1 = nx' := by injection e1 with _ a b; exact ⟨a, b⟩
      subst e2 e3 e4; exact hk) (h1 _ ⟨rfl, rfl⟩)
  · exact hK _ h
theorem aOpH_mono [Known P] {ops : Array Oper} {o : Oper} {s : St} {K K' : St → Prop} (hK : ∀ s, K s → K' s) (h : aOpH P ops.toList o s K) : aOpH P ops.toList o s K' := aOpH_congr (fun _ _ => rfl) rfl rfl (fun _ hk => hK _ hk) h
theorem aOpH_eqv [Known P] {ops : Array Oper} {o : Oper} {s s' : St} {K : St → Prop} (hi : EqI K) (e : Eqv s s') (h : aOpH P ops.toList o s K) : aOpH P ops.toList o s' K :=
  aOpH_congr (fun t _ => e.tm t) e.hp e.nx (fun v hk => hi _ _ (Eqv.put e _ _) hk) h
def PYh (P : Program) [Known P] (ops : Array Oper) (o : Oper) (s : St) (v : AV) : Prop := ∀ s', (∀ t ∈ o.looksAt ops, gtm s'.tm t = gtm s.tm t) → s'.hp = s.hp → ∀ K : St → Prop, K (s'.put o.dst v) → aOpH P ops.toList o s' K
theorem put_hp (s : St) (d : Option Tmp) (v : AV) : (s.put d v).hp = s.hp ∧ (s.put d v).nx = s.nx := by cases d <;> exact ⟨rfl, rfl⟩
def wAnyH (P : Program) [Known P] (md : Region.Mode) (ops : Array Oper) (k : St → Prop) : Nat → Array Bool → St → Prop
  | 0, listed, s => Region.ready md ops listed = [] ∧ k s
  | f + 1, listed, s => (Region.ready md ops listed = [] → k s) ∧ ∀ i ∈ Region.ready md ops listed, ∀ o, ops[i]? = some o → aOpH P ops.toList o s (wAnyH P md ops k f (listed.setIfInBounds i true))
theorem wAnyH_eqv [Known P] {md : Region.Mode} {ops : Array Oper} {k : St → Prop} (hk : EqI k) : ∀ (f : Nat) (listed : Array Bool), EqI (wAnyH P md ops k f listed)
  | 0, listed => fun s s' e h => ⟨h.1, hk s s' e h.2⟩
  | f + 1, listed => fun s s' e h => ⟨fun hr => hk s s' e (h.1 hr), fun i hi o ho => aOpH_eqv (wAnyH_eqv hk f _) e (h.2 i hi o ho)⟩
theorem wAnyH_any [Known P] {md : Region.Mode} {ops : Array Oper} {k : St → Prop} : ∀ (f : Nat) (listed : Array Bool) (s : St), wAnyH P md ops k f listed s → wAny P md ops k f listed s
  | 0, listed, s, h => h
  | f + 1, listed, s, h => ⟨h.1, fun i hi o ho => by
    have := h.2 i hi o ho
    unfold aOpH at this
    unfold aOp
    cases hg : gvl ops.toList s o with
    | none => rw [hg] at this; exact this.elim
    | some g =>
      rw [hg] at this
      cases g with
      | true =>
        obtain ⟨v, h1, h2⟩ := this
        exact h1 (fun s v => wAny P md ops k f (listed.setIfInBounds i true) (s.put o.dst v)) (wAnyH_any f _ _ h2)
      | false => exact wAnyH_any f _ _ this⟩
theorem aOp_putH [Known P] {md : Region.Mode} {ops : Array Oper} {oi oj : Oper} {s : St} {v : AV} {K : St → Prop} (hap : oi.apart ops oj = true) (hy : PYh P ops oi s v) (hK : EqI K) (h : aOpH P ops.toList oj (s.put oi.dst v) K) :
    aOpH P ops.toList oj s (fun s1 => PYh P ops oi s1 v ∧ K (s1.put oi.dst v)) := by
  obtain ⟨h1, h2, h3⟩ := Oper.apart_spec hap
  refine aOpH_congr (s := s.put oi.dst v) (fun t ht => (looks_put h1 t ht).symm) (put_hp _ _ _).1.symm (put_hp _ _ _).2.symm (fun u hk => ⟨?_, ?_⟩) h
  · intro s2 e2 eh
    exact hy s2 (fun t ht => (e2 t ht).trans (looks_put h3 t ht)) (eh.trans (put_hp _ _ _).1)
  · exact hK _ _ (put_comm _ v u h2) hk
theorem wAny_firstH [Known P] {md : Region.Mode} {ops : Array Oper} {k : St → Prop} (hk : EqI k) {i : Nat} {oi : Oper} {v : AV} (hi : ops[i]? = some oi) :
    ∀ (fuel : Nat) (listed : Array Bool) (s : St),
      (∀ j oj, ops[j]? = some oj → j ≠ i → listed.getD j true = false → (∀ e ∈ oj.after, Region.binds md e = true → e.on ≠ i) → oi.apart ops oj = true) →
      i ∈ Region.ready md ops listed → PYh P ops oi s v →
      wAnyH P md ops k fuel (listed.setIfInBounds i true) (s.put oi.dst v) → wAnyH P md ops k (fuel + 1) listed s := by
  intro fuel
  induction fuel with
  | zero =>
    intro listed s _ hr hy H
    refine ⟨fun h => (by rw [h] at hr; cases hr), fun j hj o ho => ?_⟩
    by_cases hji : j = i
    · subst hji
      obtain rfl : oi = o := Option.some.inj (hi.symm.trans ho)
      exact hy s (fun _ _ => rfl) rfl _ H
    · have := ready_mono hj hji
      rw [H.1] at this
      cases this
  | succ fuel ih =>
    intro listed s hfree hr hy H
    refine ⟨fun h => (by rw [h] at hr; cases hr), fun j hj oj hoj => ?_⟩
    by_cases hji : j = i
    · subst hji
      obtain rfl : oi = oj := Option.some.inj (hi.symm.trans hoj)
      exact hy s (fun _ _ => rfl) rfl _ H
    · have h1 := H.2 j (ready_mono hj hji) oj hoj
      obtain ⟨hjun, oj', hoj', hall⟩ := mem_ready.1 hj
      obtain rfl : oj = oj' := Option.some.inj (hoj.symm.trans hoj')
      have hnot : ∀ e ∈ oj.after, Region.binds md e = true → e.on ≠ i := fun e he hb heq => by
        have h1 := hall e he hb
        have h0 := (mem_ready.1 hr).1
        rw [heq] at h1
        rcases Nat.lt_or_ge i listed.size with h' | h'
        · simp [h'] at h0 h1; rw [h0] at h1; cases h1
        · simp [Array.getElem?_eq_none h'] at h1
      have h2 := aOp_putH (md := md) (hfree j oj hoj hji hjun hnot) hy (wAnyH_eqv hk _ _) h1
      have hfree' : ∀ k ok, ops[k]? = some ok → k ≠ i → (listed.setIfInBounds j true).getD k true = false →
          (∀ e ∈ ok.after, Region.binds md e = true → e.on ≠ i) → oi.apart ops ok = true := fun k ok hk hki hun hno => by
        refine hfree k ok hk hki ?_ hno
        by_cases hjk : j = k
        · subst hjk; exact hjun
        · rw [getD_set_ne true hjk] at hun; exact hun
      refine aOpH_mono (fun s' h3 => ih (listed.setIfInBounds j true) s' hfree' (ready_mono hr (Ne.symm hji)) h3.1 ?_) h2
      rw [Array.setIfInBounds_comm _ _ hji]
      exact h3.2
def goH (P : Program) [Known P] (o : Oper) (K : St → Prop) (g : Bool) (s : St) : Prop := match g with
  | true => hst P o.op s (fun v => K (s.put o.dst v))
  | false => K (s.put o.dst (.tup []))
theorem goH_py [Known P] {ops : Array Oper} {o : Oper} {s : St} {K : St → Prop} {g : Bool} (hg : gvl ops.toList s o = some g) (h : goH P o K g s) : ∃ v, PYh P ops o s v ∧ K (s.put o.dst v) := by
  cases g with
  | true =>
    have h : hst P o.op s (fun v => K (s.put o.dst v)) := h
    obtain ⟨v, h1, h2⟩ := hst_out h
    refine ⟨v, fun s' e eh K' hk => ?_, h1⟩
    unfold aOpH
    rw [looks_gvl e, hg]
    exact ⟨v, fun K2 hk2 => h2 s' _ (looks_ev e) eh hk2, hk⟩
  | false =>
    refine ⟨.tup [], fun s' e eh K' hk => ?_, h⟩
    unfold aOpH
    rw [looks_gvl e, hg]
    exact hk
/-- All operations in this order, each apart from those that are left. -/
def okH (md : Region.Mode) (ops : Array Oper) : List Nat → Nat → Array Bool → Bool
  | [], _, listed => (Region.ready md ops listed).isEmpty
  | i :: t, f + 1, listed => (Region.ready md ops listed).contains i && Region.free md ops listed i && okH md ops t f (listed.setIfInBounds i true)
  | _, _, _ => false
def wth (P : Program) [Known P] (ops : List Oper) (k : St → Prop) : List Nat → St → Prop
  | [], s => k s
  | i :: t, s => match ops[i]? with
    | some o => gOp ops o s (goH P o (wth P ops k t))
    | none => False
theorem wth_sound [Known P] {md : Region.Mode} {ops : Array Oper} {k k' : St → Prop} (hk : EqI k') (hkk : ∀ s, k s → k' s) : ∀ (T : List Nat) (f : Nat) (listed : Array Bool) (s : St), wth P ops.toList k T s →
    okH md ops T f listed = true → wAnyH P md ops k' f listed s
  | [], f, listed, s, h, ho => by
    have hr : Region.ready md ops listed = [] := by unfold okH at ho; simpa using ho
    cases f with
    | zero => exact ⟨hr, hkk _ h⟩
    | succ f => exact ⟨fun _ => hkk _ h, fun i hi => by rw [hr] at hi; cases hi⟩
  | i :: t, f, listed, s, h, ho => by
    cases f with
    | zero => simp [okH] at ho
    | succ f =>
      simp only [okH, Bool.and_eq_true] at ho
      obtain ⟨⟨h1, h2⟩, h3⟩ := ho
      simp only [wth] at h
      split at h
      · rename_i o hoi
        have hoi' : ops[i]? = some o := by simpa using hoi
        obtain ⟨g, s', hg, he, hgo⟩ := gOp_sound h
        have hg' : gvl ops.toList s' o = some g := by rw [looks_gvl (ops := ops) (fun t _ => he.tm t)]; exact hg
        obtain ⟨v, hy, hK⟩ := goH_py hg' hgo
        have := wth_sound hk hkk t f (listed.setIfInBounds i true) _ hK h3
        exact wAnyH_eqv hk _ _ _ _ he.symm (wAny_firstH hk hoi' f listed s' (Region.free_spec hoi' h2) (by simpa using h1) hy this)
      · exact h.elim
theorem region_soundH [Known P] {B : Base P} {ops : Array Oper} {Q : Exit → Act → World → Prop} {n : Nat} {k : St → Prop} {id : Nat} (hQ : ∀ s a w, a.tmps.size = n → Rel B s a w → k s → Q .normal a w) (hfit : ops.toList.all (fitOp n) = true)
    (hm : P.follows .mixedOrders = true) (T : List Nat) (hT : okH .any ops T ops.size (Array.replicate ops.size false) = true) {s : St} {a : Act} {w : World} (hs : a.tmps.size = n) (hr : Rel B s a { w with drawn := w.drawn + 1 }) (h : wth P ops.toList k T s) :
    (Code.region id ops true).wp P Q a w := by
  refine wp_region_any hm ?_
  have hk : EqI (fun s => ∃ s', Eqv s s' ∧ k s') := fun s s' e ⟨s2, e2, h2⟩ => ⟨s2, e.symm.trans e2, h2⟩
  exact wAny_sound (fun s a w h1 h2 ⟨s', e, h3⟩ => hQ s' a w h1 (h2.eqv e) h3) hfit _ _ s a _ hs hr (wAnyH_any _ _ _ (wth_sound hk (fun s h => ⟨s, Eqv.refl _, h⟩) T _ _ s h hT))
end Go.Av
