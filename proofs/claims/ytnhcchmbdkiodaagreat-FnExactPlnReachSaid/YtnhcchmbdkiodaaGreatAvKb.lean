/- Engine, part 11b: values made of parts; indices; interfaces. -/
import Derived.Test.YtnhcchmbdkiodaaGreatAvK
set_option linter.unusedVariables false
set_option linter.unusedSimpArgs false
set_option autoImplicit false
namespace Go.Av
variable {P : Program} [Known P] {B : Base P} {o : Oper} {s : St} {a : Act} {w : World} {K : St → AV → Prop}

theorem y_index {t : TypeId} {x i : Operand} (e : o.op = .index t x i) (hx0 : okO x = true) (hi0 : okO i = true) (hr : Rel B s a w) (h : stp P (.index t x i) s K) : Yields P o a w (Out B a K) := by
  obtain ⟨mu, F, c⟩ := hr
  simp only [stp] at h
  have hx := c.ev x hx0
  have hi := c.ev i hi0
  split at h
  · rename_i n l k j h1 h2 h3
    rw [h2] at hx
    rw [h3] at hi
    obtain ⟨h4, h5, h6, h7⟩ := h
    obtain ⟨cs, hv, hL⟩ := hx
    obtain ⟨el, hu, ht⟩ := arT_spec h1
    have hlen := RepL.length _ _ _ hL
    obtain ⟨u, q1, q2⟩ := repL_get l cs j.toNat hL (by omega)
    refine y_val (x := u) ?_ c q2 h7
    obtain ⟨t1, t2⟩ := tyT_run ht w
    simp only [execOp, e, hv, hi.1, Instr.index, asIntOf, underlying, Sem.run_bind, run_program, Result.andThen_ok, hu, Sem.run_pure, Sem.run_ite, h4, h5, and_self, if_true, t2, part, t1, Bool.false_eq_true, if_false, Nat.mul_one]
    rw [show cs.toArray[j.toNat]? = some u by simpa using q1]
    simp
  · rename_i n m l k j h1 h2 h3
    rw [h2] at hx
    rw [h3] at hi
    obtain ⟨h4, h5, h6, h7⟩ := h
    obtain ⟨cs, hv, hL⟩ := hx
    obtain ⟨el, hu, ht⟩ := arT_spec h1
    obtain ⟨t1, t2⟩ := tyT_run ht w
    refine y_val (v := .agg ((l.drop (j.toNat * m)).take m)) (x := .agg ((cs.drop (j.toNat * m)).take m).toArray) ?_ c ⟨_, rfl, RepL.take m _ _ (repL_drop _ _ _ hL)⟩ h7
    simp only [execOp, e, hv, hi.1, Instr.index, asIntOf, underlying, Sem.run_bind, run_program, Result.andThen_ok, hu, Sem.run_pure, Sem.run_ite, h4, h5, and_self, if_true, t2, part, t1]
    congr 3
    rw [← Array.toList_inj]
    simp [List.extract_eq_take_drop]
  · rename_i b k j h1 h2 h3
    rw [h2] at hx
    rw [h3] at hi
    obtain ⟨h4, h5, h6, h7⟩ := h
    have hu := lkT_str h4
    refine y_val (x := .int .u8 (b.data.getD j.toNat 0).toNat) ?_ c (rep_int (by rw [wrap_iff]; simp only [IntKind.bits, IntKind.signed, Bool.false_eq_true, if_false]; have := (b.data.getD j.toNat 0).toNat_lt; omega)) h7
    have hlt : j.toNat < b.size := by omega
    have : b[j.toNat]? = some (b.data.getD j.toNat 0) := by
      rw [getElem?_pos b j.toNat hlt]
      have hl2 : j.toNat < b.data.size := hlt
      simp only [Array.getD, hl2, dif_pos]
      rfl
    simp only [execOp, e, hx.1, hi.1, Instr.index, asIntOf, underlying, Sem.run_bind, run_program, Result.andThen_ok, hu, Sem.run_pure, h5, if_true, this]
  · exact h.elim

theorem ncT_spec {P : Program} {t : TypeId} (h : ncT P t = true) : ∃ d, P.underlying t = some d ∧ ∀ ms, d ≠ .interface ms := by
  unfold ncT at h
  split at h
  · simp at h
  · rename_i d hne hd; exact ⟨d, hd, fun ms e => hne ms e⟩
  · simp at h
theorem y_makeInterface {t : TypeId} {x : Operand} (e : o.op = .makeInterface t x) (hx0 : okO x = true) (hr : Rel B s a w) (h : stp P (.makeInterface t x) s K) : Yields P o a w (Out B a K) := by
  obtain ⟨mu, F, c⟩ := hr
  simp only [stp] at h
  obtain ⟨d, hu, hne⟩ := ncT_spec h.1
  refine y_val (v := .iface t (s.ev x)) (x := .iface t (a.eval x)) ?_ c ⟨_, rfl, c.ev x hx0⟩ h.2
  cases d <;> first | (simp [execOp, e, Instr.makeInterface, underlying, hu]; done) | exact absurd rfl (hne _)
theorem y_makeFunc {fn : Fn} {first caps : Array Operand} (e : o.op = .makeFunc fn first caps) (hc0 : caps.toList.all okO = true) (hr : Rel B s a w) (h : stp P (.makeFunc fn first caps) s K) : Yields P o a w (Out B a K) := by
  obtain ⟨mu, F, c⟩ := hr
  cases fn <;> simp only [stp] at h
  rename_i f
  have hf : first = #[] := by rw [← Array.toList_inj]; exact h.1
  refine y_val (v := .fn f (caps.toList.map s.ev)) (x := .func (.func f) #[] (caps.toList.map a.eval).toArray) ?_ c ⟨_, rfl, repL_map c _ hc0⟩ h.2
  subst hf
  simp only [execOp, e, Instr.makeFunc, Sem.run_bind, Sem.run_pure, Result.andThen_ok]
  congr 2
  rw [show caps.map a.eval = (caps.toList.map a.eval).toArray by rw [← Array.toList_inj]; simp]
  simp
theorem zeroA_run {P : Program} {t : TypeId} {z : AV} (h : zeroA P t = some z) : ∃ v, (∀ w, (zeroValue t).run P w = .ok v w) ∧ (∀ C : Cx, Rep C z v (fun _ => 0)) := by
  unfold zeroA at h
  split at h
  · rename_i i hi
    split at h
    · rename_i v hz
      cases hok : okV 3 v with
      | false => rw [hok] at h; simp at h
      | true =>
        rw [hok] at h
        simp only [cond_true, Option.some.injEq] at h
        subst h
        exact ⟨v, fun w => by simp [zeroValue, typeInfo, hi, hz], fun C => nbV_rep (rep_ofVal 3 v hok)⟩
    · simp at h
  · simp at h
theorem y_typeAssert {xt t : TypeId} {x : Operand} (e : o.op = .typeAssert x xt t true) (hx0 : okO x = true) (hr : Rel B s a w) (h : stp P (.typeAssert x xt t true) s K) : Yields P o a w (Out B a K) := by
  obtain ⟨mu, F, c⟩ := hr
  simp only [stp] at h
  have hx := c.ev x hx0
  have pair : ∀ (v : AV) (u : Value) (b : Bool) (q : AV), q = (if b then .tt else .ff) → Rep (cx B w mu F s.nx) v u (fun _ => 0) → Rep (cx B w mu F s.nx) (.tup [v, q]) (.tuple #[u, .bool b]) (fun _ => 0) := fun v u b q hq hv => by
    refine ⟨[u, .bool b], rfl, u, _, fun _ => 0, fun _ => 0, rfl, hv, ⟨.bool b, _, fun _ => 0, fun _ => 0, rfl, ?_, ⟨rfl, fun _ => rfl⟩, fun _ => rfl⟩, fun _ => rfl⟩
    subst hq; cases b <;> exact ⟨rfl, fun _ => rfl⟩
  split at h
  · rename_i t' v hv
    rw [hv] at hx
    obtain ⟨u, hxv, hu⟩ := hx
    obtain ⟨d, hd, hne⟩ := ncT_spec h.1
    have h2 := h.2
    cases hb : Nat.beq t' t with
    | true =>
      rw [hb] at h2
      obtain rfl := Nat.eq_of_beq_eq_true hb
      refine y_val (x := .tuple #[u, .bool true]) ?_ c (pair v u true _ rfl hu) h2
      cases d <;> first | (simp [execOp, e, hxv, Instr.typeAssert, underlying, hd]; done) | exact absurd rfl (hne _)
    | false =>
      rw [hb] at h2
      simp only at h2
      have hne' : ¬ t' = t := fun e => by rw [e, Nat.beq_refl] at hb; cases hb
      split at h2
      · rename_i z hz
        obtain ⟨z', hz1, hz2⟩ := zeroA_run hz
        refine y_val (x := .tuple #[z', .bool false]) ?_ c (pair _ z' false _ rfl (hz2 _)) h2
        cases d <;> first | (simp [execOp, e, hxv, Instr.typeAssert, underlying, hd, hne', hz1]; done) | exact absurd rfl (hne _)
      · exact h2.elim
  · rename_i hv
    rw [hv] at hx
    obtain ⟨d, hd, hne⟩ := ncT_spec h.1
    have h2 := h.2
    split at h2
    · rename_i z hz
      obtain ⟨z', hz1, hz2⟩ := zeroA_run hz
      refine y_val (x := .tuple #[z', .bool false]) ?_ c (pair _ z' false _ rfl (hz2 _)) h2
      cases d <;> first | (simp [execOp, e, hx.1, Instr.typeAssert, underlying, hd, hz1]; done) | exact absurd rfl (hne _)
    · exact h2.elim
  · exact h.elim
end Go.Av
