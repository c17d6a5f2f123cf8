/- Engine, part 10b: operations on values. -/
import Derived.Laws.StructEq
import Derived.Test.YtnhcchmbdkiodaaGreatAvJ
import Derived.Laws.BytesString
import Derived.Laws.IdiomStrings
set_option linter.unusedVariables false
set_option linter.unusedSimpArgs false
set_option autoImplicit false
namespace Go.Av
variable {P : Program} [Known P] {B : Base P} {o : Oper} {s : St} {a : Act} {w : World} {K : St → AV → Prop}

theorem itT_run {P : Program} {t : TypeId} (h : itT P t = true) : ∃ ms, P.underlying t = some (.interface ms) := by
  unfold itT at h
  split at h
  · rename_i ms hm; exact ⟨ms, hm⟩
  · simp at h
theorem rep_tt {C : Cx} : Rep C .tt (.bool true) (fun _ => 0) := ⟨rfl, fun _ => rfl⟩
theorem rep_ff {C : Cx} : Rep C .ff (.bool false) (fun _ => 0) := ⟨rfl, fun _ => rfl⟩
theorem equal_if {P : Program} {t : TypeId} (h : itT P t = true) (w : World) : (Op.equal t .nilIface .nilIface).run P w = .ok true w ∧ (∀ {t' u}, (Op.equal t .nilIface (.iface t' u)).run P w = .ok false w) ∧ (∀ {t' u}, (Op.equal t (.iface t' u) .nilIface).run P w = .ok false w) := by
  obtain ⟨ms, hms⟩ := itT_run h
  have hu : (underlying t).run P w = .ok (.interface ms) w := by simp [underlying, hms]
  have h1 : ∀ d, (Op.equalIn (d + 1) t .nilIface .nilIface).run P w = .ok true w := fun d => by
    simp only [Op.equalIn, Sem.run_bind, hu, Result.andThen_ok, Sem.run_pure]
  have h2 : ∀ d t' u, (Op.equalIn (d + 1) t .nilIface (.iface t' u)).run P w = .ok false w := fun d t' u => by
    simp only [Op.equalIn, Sem.run_bind, hu, Result.andThen_ok, Sem.run_pure]
  have h3 : ∀ d t' u, (Op.equalIn (d + 1) t (.iface t' u) .nilIface).run P w = .ok false w := fun d t' u => by
    simp only [Op.equalIn, Sem.run_bind, hu, Result.andThen_ok, Sem.run_pure]
  exact ⟨h1 9999, fun {t' u} => h2 9999 t' u, fun {t' u} => h3 9999 t' u⟩
theorem guard_nil {P : Program} {x y : Operand} (op : BinOp) (t : TypeId) (h : (isC x || isC y) = true) : (eqGuard op t x y .nilIface .nilIface).run P w = .ok () w := by
  cases x <;> cases y <;> first
    | (cases op <;> rfl)
    | (simp [isC] at h)
theorem boo_rep {C : Cx} {a : AV} {v : Value} {F : Foot} {b : Bool} (h : Rep C a v F) (e : boo a = some b) : v = .bool b := by
  cases a <;> simp only [boo, Option.some.injEq, reduceCtorEq] at e <;> subst e <;> exact h.1
theorem bolT_run {P : Program} {t : TypeId} (h : bolT P t = true) : P.underlying t = some .bool := by
  unfold bolT at h
  split at h
  · assumption
  · simp at h
theorem intT_run {P : Program} {t : TypeId} {k : IntKind} (h : intT P t = some k) : P.underlying t = some (.int k) := by
  unfold intT at h
  split at h
  · rename_i k' hk; rw [hk]; simp at h; rw [h]
  · simp at h
theorem eqK_run {P : Program} [Known P] {w : World} {d : Nat} {xs ys : List Value} : ∀ (fs : List Field) (j : Nat) (l l' : List AV) (us us' : List Value) (K : Bool → Prop), flatF P j fs = true → l.length = fs.length → (∀ i u, us[i]? = some u → xs[j + i]? = some u) → (∀ i u, us'[i]? = some u → ys[j + i]? = some u) →
    (∃ C : Cx, RepL C l us (fun _ => 0)) → (∃ C : Cx, RepL C l' us' (fun _ => 0)) → eqK l l' K → ∃ b, K b ∧ (Op.eqFields (d + 1) xs.toArray ys.toArray fs).run P w = .ok b w
  | [], j, l, l', us, us', K, hf, hl, hx, hy, hL, hL', h => by
    obtain rfl : l = [] := List.length_eq_zero_iff.1 hl
    cases l' with
    | nil => exact ⟨_, h, rfl⟩
    | cons y l' => simp [eqK] at h
  | f :: fs, j, l, l', us, us', K, hf, hl, hx, hy, ⟨C, hL⟩, ⟨C', hL'⟩, h => by
    unfold eqK at h
    split at h
    · simp at hl
    · rename_i k x l k' y l'
      obtain ⟨rfl, h⟩ := h
      simp only [flatF, Bool.and_eq_true] at hf
      obtain ⟨⟨⟨⟨h1, h2⟩, h3⟩, h4⟩, h5⟩ := hf
      have h3 := Nat.eq_of_beq_eq_true h3
      split at h2 <;> first | cases h2 | skip
      rename_i ki hki
      split at h4 <;> first | cases h4 | skip
      rename_i ht
      obtain ⟨u, us1, F1, F2, rfl, r1, r2, r3⟩ := hL
      obtain ⟨u', us1', F1', F2', rfl, r1', r2', r3'⟩ := hL'
      obtain ⟨rfl, rfl⟩ := zero_split r3
      obtain ⟨rfl, rfl⟩ := zero_split r3'
      obtain ⟨b, hb, hrun⟩ := eqK_run fs (j + 1) l l' us1 us1' _ h5 (by simpa using hl) (fun i u hi => by have := hx (i + 1) u (by simpa using hi); rwa [show j + 1 + i = j + (i + 1) by omega]) (fun i u hi => by have := hy (i + 1) u (by simpa using hi); rwa [show j + 1 + i = j + (i + 1) by omega]) ⟨C, r2⟩ ⟨C', r2'⟩ h
      have ex := hx 0 u rfl
      have ey := hy 0 u' rfl
      have e1 : u = .int k x := r1.1
      have e2 : u' = .int k y := r1'.1
      subst e1; subst e2
      have lx : j < xs.length := (List.getElem?_eq_some_iff.1 ex).1
      have ly : j < ys.length := (List.getElem?_eq_some_iff.1 ey).1
      have px : (part f.type xs.toArray f.offset).run P w = .ok (.int k x) w := by
        rw [part_run ht (by decide) (by omega)]
        simp only [Bool.false_eq_true, if_false, h3]
        rw [List.take_one, List.head?_drop, show xs[j]? = some (.int k x) from ex]; rfl
      have py : (part f.type ys.toArray f.offset).run P w = .ok (.int k y) w := by
        rw [part_run ht (by decide) (by omega)]
        simp only [Bool.false_eq_true, if_false, h3]
        rw [List.take_one, List.head?_drop, show ys[j]? = some (.int k y) from ey]; rfl
      have hne : f.name ≠ "_" := by simpa using h1
      have hint := run_equalIn_int (P := P) (w := w) d f.type k ki x y (intT_run hki)
      refine ⟨_, hb, ?_⟩
      simp only [Op.eqFields, hne, ne_eq, not_false_eq_true, if_true, Sem.run_bind, px, py, hint, Result.andThen_ok]
      by_cases q : x = y
      · subst q
        simp only [beq_self_eq_true, Bool.not_true, Bool.false_eq_true, if_false, decide_true, Bool.true_and]
        exact hrun
      · have : (x == y) = false := by simpa using q
        simp only [this, Bool.not_false, if_true, Sem.run_pure, q, decide_false, Bool.false_and]
    · exact h.elim
theorem y_binOp {op : BinOp} {t yt : TypeId} {x y : Operand} (e : o.op = .binOp op t x y yt) (hx0 : okO x = true) (hy0 : okO y = true) (hr : Rel B s a w) (h : stp P (.binOp op t x y yt) s K) : Yields P o a w (Out B a K) := by
  obtain ⟨mu, F, c⟩ := hr
  simp only [stp] at h
  have hx := c.ev x hx0
  have hy := c.ev y hy0
  unfold bin at h
  split at h
  · rename_i k n k' m h1 h2
    rw [h1] at hx
    rw [h2] at hy
    obtain ⟨hx, hxw, _⟩ := hx
    obtain ⟨hy, _⟩ := hy
    obtain ⟨v, u, r1, r2, r3, r4⟩ := binI_run (P := P) (w := w) hxw h
    refine y_val (v := v) (x := u) ?_ c (r3 _) r4
    have hg : (eqGuard op t x y (.int k n) (.int k' m)).run P w = .ok () w := by
      unfold eqGuard; cases op <;> rfl
    simp only [execOp, e, hx, hy, Sem.run_bind, hg, Result.andThen_ok, r2, r1, Sem.run_pure]
  · rename_i n m h1 h2
    rw [h1] at hx
    rw [h2] at hy
    obtain ⟨hx, hxs, _⟩ := hx
    obtain ⟨hy, hys, _⟩ := hy
    have hg : (eqGuard op t x y (.string n) (.string m)).run P w = .ok () w := by
      unfold eqGuard; cases op <;> rfl
    cases op <;> simp only at h
    case add =>
      refine y_val (v := .str (n ++ m)) (x := .string (n ++ m)) ?_ c ⟨rfl, by rw [ByteArray.size_append]; exact h.1, fun _ => rfl⟩ h.2
      have : ¬ (((n.size + m.size : Nat) : Int) > IntKind.i64.max) := by have := h.1; unfold lim at this; simp only [IntKind.max, IntKind.bits, IntKind.signed]; simp; omega
      simp only [execOp, e, hx, hy, Sem.run_bind, hg, Result.andThen_ok, binOp, Op.stringOp, this, if_false, Sem.run_pure]
    case eql => exact y_val (v := .bool (decide (n = m))) (x := .bool (decide (n = m))) (by simp only [execOp, e, hx, hy, Sem.run_bind, hg, Result.andThen_ok, binOp, Op.stringOp, toList_inj, Sem.run_pure]) c rep_bool h
    case neq => exact y_val (v := .bool (!decide (n = m))) (x := .bool (!decide (n = m))) (by simp only [execOp, e, hx, hy, Sem.run_bind, hg, Result.andThen_ok, binOp, Op.stringOp, toList_inj, Sem.run_pure]) c rep_bool h
  · rename_i h1 h2
    obtain ⟨hit, hcc, h⟩ := h
    rw [h1] at hx
    rw [h2] at hy
    have hg := guard_nil (P := P) (w := w) op t hcc
    cases op <;> simp only at h
    case eql => exact y_val (v := .tt) (x := .bool true) (by simp only [execOp, e, hx.1, hy.1, Sem.run_bind, hg, Result.andThen_ok, binOp, (equal_if hit w).1, Sem.run_pure]) c rep_tt h
    case neq => exact y_val (v := .ff) (x := .bool false) (by simp only [execOp, e, hx.1, hy.1, Sem.run_bind, hg, Result.andThen_ok, binOp, (equal_if hit w).1, Sem.run_pure]; rfl) c rep_ff h
  · rename_i t' v h1 h2
    obtain ⟨hit, h⟩ := h
    rw [h1] at hx
    rw [h2] at hy
    obtain ⟨u, hyv, _⟩ := hy
    have hg : (eqGuard op t x y .nilIface (.iface t' u)).run P w = .ok () w := by
      unfold eqGuard; cases op <;> rfl
    cases op <;> simp only at h
    case eql => exact y_val (v := .ff) (x := .bool false) (by simp only [execOp, e, hx.1, hyv, Sem.run_bind, hg, Result.andThen_ok, binOp, (equal_if hit w).2.1, Sem.run_pure]) c rep_ff h
    case neq => exact y_val (v := .tt) (x := .bool true) (by simp only [execOp, e, hx.1, hyv, Sem.run_bind, hg, Result.andThen_ok, binOp, (equal_if hit w).2.1, Sem.run_pure]; rfl) c rep_tt h
  · rename_i t' v h1 h2
    obtain ⟨hit, h⟩ := h
    rw [h1] at hx
    rw [h2] at hy
    obtain ⟨u, hxv, _⟩ := hx
    have hg : (eqGuard op t x y (.iface t' u) .nilIface).run P w = .ok () w := by
      unfold eqGuard; cases op <;> rfl
    cases op <;> simp only at h
    case eql => exact y_val (v := .ff) (x := .bool false) (by simp only [execOp, e, hxv, hy.1, Sem.run_bind, hg, Result.andThen_ok, binOp, (equal_if hit w).2.2, Sem.run_pure]) c rep_ff h
    case neq => exact y_val (v := .tt) (x := .bool true) (by simp only [execOp, e, hxv, hy.1, Sem.run_bind, hg, Result.andThen_ok, binOp, (equal_if hit w).2.2, Sem.run_pure]; rfl) c rep_tt h
  · rename_i l l' h1 h2
    obtain ⟨hfl, h⟩ := h
    rw [h1] at hx
    rw [h2] at hy
    obtain ⟨cs, hxv, hL⟩ := hx
    obtain ⟨cs', hyv, hL'⟩ := hy
    unfold flatT at hfl
    split at hfl
    · rename_i fs hu
      simp only [Bool.and_eq_true, Bool.not_eq_true'] at hfl
      obtain ⟨⟨⟨g1, g2⟩, g3⟩, g4⟩ := hfl
      have g1 := Nat.eq_of_beq_eq_true g1
      have hfo : P.fieldsOf t = fs := by unfold Program.fieldsOf; rw [hu]
      have hg := run_eqGuard_agg (P := P) w op t x y cs.toArray cs'.toArray g3
      have main : ∀ K', eqK l l' K' → ∃ b, K' b ∧ (Op.equalIn 10000 t (.agg cs.toArray) (.agg cs'.toArray)).run P w = .ok b w := fun K' hk => by
        obtain ⟨b, hb, hr⟩ := eqK_run (P := P) (w := w) (d := 9998) (xs := cs) (ys := cs') fs.toList 0 l l' cs cs' K' g4 g1.symm (fun i u hi => by simpa using hi) (fun i u hi => by simpa using hi) ⟨_, hL⟩ ⟨_, hL'⟩ hk
        refine ⟨b, hb, ?_⟩
        rw [run_equalIn_struct (P := P) w 9999 t _ _ (by rw [hfo]; exact hu) g2, hfo]
        exact hr
      cases op <;> simp only at h
      case eql =>
        obtain ⟨b, hb, hr⟩ := main _ h
        exact y_val (v := .bool b) (x := .bool b) (by simp only [execOp, e, hxv, hyv, Sem.run_bind, hg, Result.andThen_ok, run_eql_struct, hr, Sem.run_pure]) c rep_bool hb
      case neq =>
        obtain ⟨b, hb, hr⟩ := main _ h
        exact y_val (v := .bool (!b)) (x := .bool (!b)) (by simp only [execOp, e, hxv, hyv, Sem.run_bind, hg, Result.andThen_ok, run_neq_struct, hr, Sem.run_pure]) c rep_bool hb
    · cases hfl
  · split at h
    · rename_i p q h1 h2
      obtain ⟨hb, h⟩ := h
      have ex := boo_rep hx h1
      have ey := boo_rep hy h2
      have hu := bolT_run hb
      have heq : (Op.equal t (.bool p) (.bool q)).run P w = .ok (p == q) w := by
        have : (underlying t).run P w = .ok .bool w := by simp [underlying, hu]
        have h9 : ∀ d, (Op.equalIn (d + 1) t (.bool p) (.bool q)).run P w = .ok (p == q) w := fun d => by
          simp only [Op.equalIn, Sem.run_bind, this, Result.andThen_ok, Sem.run_pure]
        exact h9 9999
      have hg : (eqGuard op t x y (.bool p) (.bool q)).run P w = .ok () w := by
        unfold eqGuard; cases op <;> rfl
      cases op <;> simp only at h
      case eql => exact y_val (v := .bool (p == q)) (x := .bool (p == q)) (by simp only [execOp, e, ex, ey, Sem.run_bind, hg, Result.andThen_ok, binOp, heq, Sem.run_pure]) c rep_bool h
      case neq => exact y_val (v := .bool (!(p == q))) (x := .bool (!(p == q))) (by simp only [execOp, e, ex, ey, Sem.run_bind, hg, Result.andThen_ok, binOp, heq, Sem.run_pure]) c rep_bool h
    · exact h.elim

theorem y_not {t : TypeId} {x : Operand} (e : o.op = .unOp .not t x) (hx0 : okO x = true) (hr : Rel B s a w) (h : stp P (.unOp .not t x) s K) : Yields P o a w (Out B a K) := by
  obtain ⟨mu, F, c⟩ := hr
  simp only [stp] at h
  have hx := c.ev x hx0
  split at h <;> rename_i h1
  · rw [h1] at hx; exact y_val (v := .ff) (x := .bool false) (by simp [execOp, e, hx.1, Op.unary]) c ⟨rfl, fun _ => rfl⟩ h
  · rw [h1] at hx; exact y_val (v := .tt) (x := .bool true) (by simp [execOp, e, hx.1, Op.unary]) c ⟨rfl, fun _ => rfl⟩ h
  · rename_i b; rw [h1] at hx; exact y_val (v := .bool (!b)) (x := .bool (!b)) (by simp [execOp, e, hx.1, Op.unary]) c rep_bool h
  · exact h.elim
theorem y_neg {t : TypeId} {x : Operand} (e : o.op = .unOp .neg t x) (hx0 : okO x = true) (hr : Rel B s a w) (h : stp P (.unOp .neg t x) s K) : Yields P o a w (Out B a K) := by
  obtain ⟨mu, F, c⟩ := hr
  simp only [stp] at h
  have hx := c.ev x hx0
  split at h
  · rename_i k n h1
    rw [h1] at hx
    obtain ⟨v, q1, q2⟩ := numK_run h
    exact y_val (x := .int k (k.wrap (0 - n))) (by simp [execOp, e, hx.1, Op.unary, Op.intArith]) c (q1 _) q2
  · exact h.elim
theorem y_pick {x y z : Operand} (e : o.op = .pick x y z) (hx0 : okO x = true) (hy0 : okO y = true) (hz0 : okO z = true) (hr : Rel B s a w) (h : stp P (.pick x y z) s K) : Yields P o a w (Out B a K) := by
  obtain ⟨mu, F, c⟩ := hr
  simp only [stp] at h
  have hx := c.ev x hx0
  split at h <;> rename_i h1
  · rw [h1] at hx; exact y_val (x := a.eval y) (by simp [execOp, e, hx.1, asBool]) c (c.ev y hy0) h
  · rw [h1] at hx; exact y_val (x := a.eval z) (by simp [execOp, e, hx.1, asBool]) c (c.ev z hz0) h
  · rename_i b
    rw [h1] at hx
    cases b with
    | true => exact y_val (x := a.eval y) (by simp [execOp, e, hx.1, asBool]) c (c.ev y hy0) (h.t rfl)
    | false => exact y_val (x := a.eval z) (by simp [execOp, e, hx.1, asBool]) c (c.ev z hz0) (h.f rfl)
  · exact h.elim

theorem lkT_slice {P : Program} {t : TypeId} (h : lkT P t = 1) : ∃ e, P.underlying t = some (.slice e) := by
  unfold lkT at h
  split at h
  · rename_i e he; exact ⟨e, he⟩
  · simp at h
  · simp at h
theorem lkT_str {P : Program} {t : TypeId} (h : lkT P t = 2) : P.underlying t = some .string := by
  unfold lkT at h
  split at h
  · simp at h
  · rename_i he; exact he
  · simp at h
theorem fits_wrap {k k' : IntKind} {n : Int} (h : k.wrap n = n) (hf : fitsK k k' = true) : k'.wrap n = n := by
  cases k <;> cases k' <;> simp only [fitsK, Bool.false_eq_true] at hf <;> (rw [wrap_iff] at h ⊢; simp only [IntKind.bits, IntKind.signed, Bool.false_eq_true, if_false, if_true] at h ⊢; omega)
theorem byT_run {P : Program} {t : TypeId} (h : byT P t = true) : ∃ e, P.underlying t = some (.slice e) ∧ P.underlying e = some (.int .u8) := by
  unfold byT at h
  split at h
  · rename_i e he
    split at h
    · rename_i h2; exact ⟨e, he, h2⟩
    · cases h
  · cases h
theorem y_convert {src dst : TypeId} {x : Operand} (e : o.op = .convert src dst x) (hx0 : okO x = true) (hsrc : (P.underlying src).isSome = true) (hr : Rel B s a w) (h : stp P (.convert src dst x) s K) : Yields P o a w (Out B a K) := by
  obtain ⟨mu, F, c⟩ := hr
  simp only [stp] at h
  obtain ⟨_, h⟩ := h
  have hx := c.ev x hx0
  obtain ⟨ds, hds⟩ := Option.isSome_iff_exists.1 hsrc
  split at h
  · rename_i _ _ _ k' k n h1 h2
    rw [h2] at hx
    obtain ⟨hv, hw, _⟩ := hx
    have hu := intT_run h1
    refine y_val (v := .int k' (convK k k' n)) (x := .int k' (k'.wrap n)) (by cases ds <;> simp [execOp, e, hv, convert, underlying, hds, hu, Conv.intToInt]) c ?_ h
    unfold convK
    cases hf : fitsK k k' with
    | true => simp only; rw [fits_wrap hw hf]; exact rep_int (fits_wrap hw hf)
    | false => simp only; exact rep_int (wrap_wrap _ _)
  · rename_i b h1 h2 h3
    rw [h3] at hx
    have hu := lkT_str h2
    exact y_val (v := .str b) (x := .string b) (by cases ds <;> simp [execOp, e, hx.1, convert, underlying, hds, hu]) c ⟨rfl, hx.2.1, fun _ => rfl⟩ h
  · rename_i rows d h1 h2 h3
    rw [h3] at hx
    obtain ⟨hb, hall, h⟩ := h
    obtain ⟨⟨ad, cap, hv, hcap, hlim, hR⟩, _⟩ := hx
    have hu := lkT_str h2
    obtain ⟨el, hs1, hs2⟩ := byT_run hb
    have hsz : (⟨(rows.map cB).toArray⟩ : ByteArray).size = rows.length := by show (rows.map cB).toArray.size = _; simp
    refine y_val (v := .str ⟨(rows.map cB).toArray⟩) (x := .string ⟨(rows.map cB).toArray⟩) ?_ c ⟨rfl, by rw [hsz]; exact hlim, fun _ => rfl⟩ h
    simp only [execOp, e, hv, Sem.run_bind]
    cases ad with
    | none =>
      have hr0 : rows = [] := by
        cases rows with
        | nil => rfl
        | cons r l => obtain ⟨⟨ad, q, _⟩, _⟩ := hR; cases q
      subst hr0
      rw [run_convert_bytes_string _ _ _ el none _ _ hs1 hs2 hu]
      simp [Conv.bytesToString]; rfl
    | some ad =>
      have hcell : ∀ j (hj : j < (rows.map cB).length), w.cell? (ad.add j) = some (.int .u8 ((rows.map cB)[j].toNat : Int)) := fun j hj => by
        have hj' : j < rows.length := by simpa using hj
        obtain ⟨ad', he, hl, hA⟩ := RepR.at_ rows (some ad) 0 j rows[j] hR (List.getElem?_eq_getElem hj')
        obtain rfl := Option.some.inj he
        have hB := List.all_eq_true.1 hall rows[j] (List.getElem_mem hj')
        rw [List.getElem_map]
        generalize rows[j] = r at *
        unfold isB at hB
        split at hB
        · rename_i n
          obtain ⟨⟨_, u, hc, _, hu2, hw, _⟩, _⟩ := hA
          subst hu2
          rw [Nat.zero_add, Nat.mul_one] at hc
          have hc' : w.cell? (ad.add j) = some (.int .u8 n) := hc
          rw [hc']
          have h9 := (wrap_iff .u8 n).1 hw
          simp [IntKind.signed, IntKind.bits] at h9
          simp only [cB, UInt8.toNat_ofNat', Option.some.injEq, Value.int.injEq, true_and]
          omega
        · cases hB
      have := run_convert_bytes_back (P := P) w src dst el ad cap (rows.map cB) hs1 hs2 hu hcell
      rw [List.length_map] at this
      rw [this]; rfl
  · rename_i o1 h1 h2 h3
    rw [h3] at hx
    split at h
    · rename_i ob hob
      obtain ⟨he1, hg1, hb, hall, h⟩ := h
      obtain ⟨hlt, hv, _⟩ := hx
      have hu := lkT_str h2
      obtain ⟨el, hs1, hs2⟩ := byT_run hb
      obtain ⟨G1, G2, m1, m2, m3⟩ := RepH.take s.hp F o1 ob c.hp hob
      obtain ⟨oe, orows, od, og⟩ := ob
      simp only at he1 hg1 hall h
      subst he1 hg1
      have hsz : (⟨(orows.map cB).toArray⟩ : ByteArray).size = orows.length := by show (orows.map cB).toArray.size = _; simp
      rcases m1.2 with ⟨q1, q2, q3, q4, q5⟩ | ⟨b, cc, t, FR, q1, q2, q3, q4, q5, q6, q7, q8, q9⟩
      · simp only at q4
        subst q4
        refine y_val (v := .str ⟨#[]⟩) (x := .string ⟨#[]⟩) ?_ c ⟨rfl, Nat.zero_le _, fun _ => rfl⟩ h
        rw [q1, q2, q3] at hv
        simp only [execOp, e, hv, Sem.run_bind, Option.map_none]
        rw [run_convert_bytes_string _ _ _ el none _ _ hs1 hs2 hu]
        simp [Conv.bytesToString]; rfl
      · refine y_val (v := .str ⟨(orows.map cB).toArray⟩) (x := .string ⟨(orows.map cB).toArray⟩) ?_ c ⟨rfl, by rw [hsz]; exact q5, fun _ => rfl⟩ h
        rw [q1, q2] at hv
        simp only at q8
        simp only [execOp, e, hv, Sem.run_bind, Option.map_some]
        have hcell : ∀ j (hj : j < (orows.map cB).length), w.cell? ((⟨b, 0, none⟩ : Addr).add j) = some (.int .u8 ((orows.map cB)[j].toNat : Int)) := fun j hj => by
          have hj' : j < orows.length := by simpa using hj
          obtain ⟨r1, F1, F2, r2, r3, _⟩ := RepO.focus _ 0 FR j _ q8 (List.getElem?_eq_getElem hj')
          have hB := List.all_eq_true.1 hall orows[j] (List.getElem_mem hj')
          rw [List.getElem_map]
          generalize orows[j] = r at *
          unfold isB at hB
          split at hB
          · rename_i n
            obtain ⟨u, G3, G4, hc, _, hu2, _⟩ := r2
            have hu3 : u = .int .u8 n := hu2.1
            have hw : IntKind.u8.wrap n = n := hu2.2.1
            subst hu3
            rw [Nat.zero_add, Nat.mul_one] at hc
            rw [add_none, Nat.zero_add, cell_heap (w := w) q6, hc]
            have h9 := (wrap_iff .u8 n).1 hw
            simp [IntKind.signed, IntKind.bits] at h9
            simp only [cB, UInt8.toNat_ofNat', Option.some.injEq, Value.int.injEq, true_and]
            omega
          · cases hB
        have := run_convert_bytes_back (P := P) w src dst el ⟨b, 0, none⟩ (mu o1).cap (orows.map cB) hs1 hs2 hu hcell
        rw [List.length_map] at this
        show ((convert src dst (.slice (some ⟨b, 0, none⟩) orows.length (mu o1).cap)).run P w).andThen _ = _
        rw [this]; rfl
    · exact h.elim
  · exact h.elim
end Go.Av
