/- Engine, part 10: addresses, numbers, tests. -/
import Derived.Test.YtnhcchmbdkiodaaGreatAvI
import Derived.Laws.Strings
set_option linter.unusedVariables false
set_option linter.unusedSimpArgs false
set_option autoImplicit false
namespace Go.Av
variable {P : Program} [Known P] {B : Base P} {o : Oper} {s : St} {a : Act} {w : World} {K : St → AV → Prop}

theorem y_val {v : AV} {x : Value} (hrun : (execOp a.eval o).run P w = .ok (.value x) w) {mu : Nat → Hdr} {F : Foot} (c : Core B s a w mu F) (hv : Rep (cx B w mu F s.nx) v x (fun _ => 0)) (h : K s v) : Yields P o a w (Out B a K) :=
  yields_of hrun ⟨s, v, h, mu, F, c, hv⟩

theorem y_nilCheck {x : Operand} (e : o.op = .nilCheck x) (hx0 : okO x = true) (hr : Rel B s a w) (h : stp P (.nilCheck x) s K) : Yields P o a w (Out B a K) := by
  obtain ⟨mu, F, c⟩ := hr
  simp only [stp] at h
  have hx := c.ev x hx0
  split at h
  · rename_i l hl
    rw [hl] at hx
    have hx2 := hx
    obtain ⟨⟨ad, hv, hA⟩, _⟩ := hx
    exact y_val (x := a.eval x) (by simp [execOp, e, hv]) c hx2 h
  · rename_i i_o i off hl
    rw [hl] at hx
    have hx2 := hx
    obtain ⟨_, ⟨b, hb, hv⟩, _⟩ := hx
    exact y_val (x := a.eval x) (by simp [execOp, e, hv]) c hx2 h
  · rename_i f l hl
    rw [hl] at hx
    have hx2 := hx
    obtain ⟨cs, hv, hL⟩ := hx
    exact y_val (x := a.eval x) (by simp [execOp, e, hv]) c hx2 h
  · exact h.elim

theorem fldT_spec {P : Program} {t : TypeId} {f off n : Nat} {g : Bool} (h : fldT P t f = some (off, g, n)) : ∃ fs x, P.underlying t = some (.struct fs) ∧ fs[f]? = some x ∧ x.offset = off ∧ tyT P x.type = some (g, n) ∧ n ≠ 0 := by
  unfold fldT at h
  split at h
  · rename_i fs hu
    split at h
    · rename_i x hx
      split at h
      · rename_i g' n' ht
        cases hn : Nat.beq n' 0 with
        | true => rw [hn] at h; simp at h
        | false =>
          rw [hn] at h
          obtain ⟨rfl, rfl, rfl⟩ : x.offset = off ∧ g' = g ∧ n' = n := by simpa using h
          exact ⟨fs, x, hu, hx, rfl, ht, fun h0 => by subst h0; simp at hn⟩
      · simp at h
    · simp at h
  · simp at h
theorem fldT_run {t : TypeId} {f off n : Nat} {g : Bool} (h : fldT P t f = some (off, g, n)) (ad : Addr) (w : World) : (Instr.fieldAt t (.pointer (some ad)) f).run P w = .ok (.pointer (some (ad.add off))) w := by
  obtain ⟨fs, x, hu, hx, rfl, ht, hne⟩ := fldT_spec h
  simp [Instr.fieldAt, underlying, hu, hx, Instr.sureAddr, fieldPlace, (tyT_run ht w).2, hne]
theorem y_fieldAddr {t : TypeId} {x : Operand} {f : Nat} (e : o.op = .fieldAddr t x f) (hx0 : okO x = true) (hr : Rel B s a w) (h : stp P (.fieldAddr t x f) s K) : Yields P o a w (Out B a K) := by
  obtain ⟨mu, F, c⟩ := hr
  simp only [stp] at h
  have hx := c.ev x hx0
  split at h
  · rename_i off g n hf
    split at h
    · rename_i l hl
      rw [hl] at hx
      obtain ⟨⟨ad, hv, hA⟩, _⟩ := hx
      refine y_val (x := .pointer (some (ad.add off))) (by simp [execOp, e, hv, fldT_run hf]) c ?_ h
      exact ⟨⟨_, rfl, (RepA.shift _ ad off 0).1 (by simpa using RepA.drop off l ad 0 hA)⟩, fun _ => rfl⟩
    · rename_i i_o i off' hl
      rw [hl] at hx
      obtain ⟨hlt, ⟨b, hb, hv⟩, _⟩ := hx
      refine y_val (v := .cp i_o i (off' + off)) (x := .pointer (some ⟨b, i * (mu i_o).e + (off' + off), none⟩)) ?_ c ⟨hlt, ⟨b, hb, rfl⟩, fun _ => rfl⟩ h
      rw [show i * (mu i_o).e + (off' + off) = i * (mu i_o).e + off' + off by omega, ← add_none]
      simp only [execOp, e, hv, Sem.run_bind, fldT_run hf]; rfl
    · exact h.elim
  · exact h.elim

theorem repL_drop {C : Cx} : ∀ (k : Nat) (l : List AV) (us : List Value), RepL C l us (fun _ => 0) → RepL C (l.drop k) (us.drop k) (fun _ => 0)
  | 0, l, us, h => h
  | k + 1, [], us, h => by obtain ⟨rfl, _⟩ := h; exact ⟨by simp, fun _ => rfl⟩
  | k + 1, x :: l, us, h => by
    obtain ⟨v, vs', F1, F2, rfl, h1, h2, h3⟩ := h
    obtain ⟨rfl, rfl⟩ := zero_split h3
    exact repL_drop k l vs' h2
theorem part_run {t n : Nat} {g : Bool} (ht : tyT P t = some (g, n)) {cs : List Value} {off : Nat} (hn : 0 < n) (hl : off + n ≤ cs.length) (w : World) :
    (part t cs.toArray off).run P w = .ok (if g then .agg ((cs.drop off).take n).toArray else ((cs.drop off).take n).headD undef) w := by
  obtain ⟨h1, h2⟩ := tyT_run ht w
  cases g with
  | true =>
    simp only [part, Sem.run_bind, h1, Result.andThen_ok, if_true, h2, Sem.run_pure]
    congr 2
    rw [← Array.toList_inj]
    simp [List.extract_eq_take_drop]
  | false =>
    have hlt : off < cs.length := by omega
    simp only [part, Sem.run_bind, h1, Result.andThen_ok, Bool.false_eq_true, if_false]
    rw [show cs.toArray[off]? = some (cs[off]) by simp [hlt]]
    simp only [Sem.run_pure]
    congr 1
    obtain ⟨m, rfl⟩ : ∃ m, n = m + 1 := ⟨n - 1, by omega⟩
    rw [List.drop_eq_getElem_cons hlt]
    rfl
theorem y_field {t : TypeId} {x : Operand} {f : Nat} (e : o.op = .field t x f) (hx0 : okO x = true) (hr : Rel B s a w) (h : stp P (.field t x f) s K) : Yields P o a w (Out B a K) := by
  obtain ⟨mu, F, c⟩ := hr
  simp only [stp] at h
  have hx := c.ev x hx0
  split at h
  · rename_i off g n l hf hl
    rw [hl] at hx
    obtain ⟨cs, hv, hL⟩ := hx
    obtain ⟨fs, y, hu, hy, rfl, ht, hne⟩ := fldT_spec hf
    have hlen := RepL.length _ _ _ hL
    refine y_val (x := if g then .agg ((cs.drop y.offset).take n).toArray else ((cs.drop y.offset).take n).headD undef) ?_ c (packT_rep (RepL.take n _ _ (repL_drop y.offset _ _ hL)) (by rw [List.length_take, List.length_drop]; omega)) h.2
    simp only [execOp, e, hv, Instr.field, underlying, Sem.run_bind, run_program, Result.andThen_ok, hu, Sem.run_pure, hy, asAgg, part_run ht (Nat.pos_of_ne_zero hne) (by rw [hlen]; exact h.1)]
  · exact h.elim

theorem elT_slice {P : Program} {t e : Nat} {g : Bool} {by_ : Nat} (h : elT P t = some (g, e, by_)) : ∃ el, P.underlying t = some (.slice el) ∧ tyT P el = some (g, e) ∧ P.bytesOf el = by_ ∧ e ≠ 0 := by
  unfold elT at h
  split at h
  · rename_i el hu
    split at h
    · rename_i g' n' ht
      cases hn : Nat.beq n' 0 with
      | true => rw [hn] at h; simp at h
      | false =>
        rw [hn] at h
        obtain ⟨rfl, rfl, rfl⟩ : g' = g ∧ n' = e ∧ P.bytesOf el = by_ := by simpa using h
        exact ⟨el, hu, ht, rfl, fun h0 => by subst h0; simp at hn⟩
    · simp at h
  · simp at h
theorem indexAt_run {t e : Nat} {g : Bool} {by_ : Nat} (h : elT P t = some (g, e, by_)) {ad : Addr} {n cap : Nat} {k : IntKind} {j : Int} (h0 : 0 ≤ j) (h1 : j < n) (w : World) :
    (Instr.indexAt t (.slice (some ad) n cap) (.int k j)).run P w = .ok (.pointer (some (ad.add (j.toNat * e)))) w := by
  obtain ⟨el, hu, ht, _, _⟩ := elT_slice h
  simp [Instr.indexAt, asIntOf, underlying, hu, h0, h1, (tyT_run ht w).2]
theorem arT_spec {P : Program} {t n m : Nat} {g : Bool} (h : arT P t = some (n, g, m)) : ∃ e, P.underlying t = some (.array n e) ∧ tyT P e = some (g, m) := by
  unfold arT at h
  split at h
  · rename_i n' e hu
    split at h
    · rename_i g' k ht
      obtain ⟨rfl, rfl, rfl⟩ : n' = n ∧ g' = g ∧ k = m := by simpa using h
      exact ⟨e, hu, ht⟩
    · simp at h
  · simp at h
theorem y_indexAddr {t : TypeId} {x i : Operand} (e : o.op = .indexAddr t x i) (hx0 : okO x = true) (hi0 : okO i = true) (hr : Rel B s a w) (h : stp P (.indexAddr t x i) s K) : Yields P o a w (Out B a K) := by
  obtain ⟨mu, F, c⟩ := hr
  simp only [stp] at h
  have hx := c.ev x hx0
  have hi := c.ev i hi0
  split at h
  · rename_i g n by_ he
    split at h
    · rename_i e' rows d k j hl hj
      obtain ⟨h1, h2, h3, h4⟩ := h
      subst h1
      rw [hl] at hx
      rw [hj] at hi
      obtain ⟨⟨ad, cap, hv, k1, k2, k3⟩, _⟩ := hx
      obtain ⟨hiv, _⟩ := hi
      obtain ⟨ad', r1, r2, r3⟩ := RepR.at_ rows ad 0 j.toNat _ k3 (getD_some (d := d) (by omega))
      subst r1
      refine y_val (x := .pointer (some (ad'.add (j.toNat * n)))) (by simp only [execOp, e, hv, hiv, Sem.run_bind, indexAt_run he h2 h3]; rfl) c ?_ h4
      exact ⟨⟨_, rfl, (RepA.shift _ ad' _ 0).1 (by simpa using r3)⟩, fun _ => rfl⟩
    · rename_i i_o k j hl hj
      split at h
      · rename_i ob hob
        obtain ⟨h1, h2, h3, h4⟩ := h
        subst h1
        rw [hl] at hx
        rw [hj] at hi
        obtain ⟨hiv, _⟩ := hi
        obtain ⟨hlt, hv, _⟩ := hx
        obtain ⟨G1, G2, m1, m2, m3⟩ := RepH.take s.hp F _ ob c.hp hob
        obtain ⟨b, cc, tt, FR, q1, q2, q3, q4, q5, q6, q7, q8, q9⟩ := m1.rows (by omega)
        refine y_val (v := .cp i_o j.toNat 0) (x := .pointer (some ⟨b, j.toNat * (mu i_o).e + 0, none⟩)) ?_ c ⟨hlt, ⟨b, q1, rfl⟩, fun _ => rfl⟩ h4
        have q3' : (mu i_o).e = ob.e := q3
        have q2' : (mu i_o).len = ob.rows.length := q2
        have q1' : (mu i_o).b = some b := q1
        have hv' : a.eval x = .slice (some ⟨b, 0, none⟩) ob.rows.length (mu i_o).cap := by rw [hv, q1, q2]; rfl
        simp only [execOp, e, hv', hiv, Sem.run_bind, indexAt_run he h2 h3, q3']
        rw [add_none]
        simp
      · exact h.elim
    · exact h.elim
  · split at h
    · rename_i n g sz i_o r off k j hat hl hj
      obtain ⟨h2, h3, h4⟩ := h
      obtain ⟨el, hu, ht⟩ := arT_spec hat
      rw [hl] at hx
      rw [hj] at hi
      obtain ⟨hiv, _⟩ := hi
      obtain ⟨hlt, ⟨b, hb, hv⟩, _⟩ := hx
      refine y_val (v := .cp i_o r (off + j.toNat * sz)) (x := .pointer (some ⟨b, r * (mu i_o).e + (off + j.toNat * sz), none⟩)) ?_ c ⟨hlt, ⟨b, hb, rfl⟩, fun _ => rfl⟩ h4
      have e2 : (⟨b, r * (mu i_o).e + (off + j.toNat * sz), none⟩ : Addr) = Addr.add ⟨b, r * (mu i_o).e + off, none⟩ (j.toNat * sz) := by rw [add_none, Nat.add_assoc]
      rw [e2]
      simp only [execOp, e, hv, hiv]
      simp [Instr.indexAt, asIntOf, underlying, hu, Instr.sureAddr, h2, h3, (tyT_run ht w).2]
      rfl
    · rename_i n g sz l k j hat hl hj
      obtain ⟨h2, h3, h4⟩ := h
      obtain ⟨el, hu, ht⟩ := arT_spec hat
      rw [hl] at hx
      rw [hj] at hi
      obtain ⟨hiv, _⟩ := hi
      obtain ⟨⟨ad, hv, hA⟩, _⟩ := hx
      refine y_val (v := .rp (l.drop (j.toNat * sz))) (x := .pointer (some (ad.add (j.toNat * sz)))) ?_ c ⟨⟨_, rfl, (RepA.shift _ ad _ 0).1 (by simpa using RepA.drop (j.toNat * sz) l ad 0 hA)⟩, fun _ => rfl⟩ h4
      simp only [execOp, e, hv, hiv]
      simp [Instr.indexAt, asIntOf, underlying, hu, Instr.sureAddr, h2, h3, (tyT_run ht w).2]
    · exact h.elim

theorem wrap_i64 {x : Int} (h : In64 x) : IntKind.i64.wrap x = x := by
  unfold In64 at h
  simp only [IntKind.wrap, IntKind.bits, IntKind.signed, Bool.true_and, ge_iff_le, decide_eq_true_eq]
  omega
theorem wrap_wrap (k : IntKind) (x : Int) : k.wrap (k.wrap x) = k.wrap x := by
  cases k <;> simp only [IntKind.wrap, IntKind.bits, IntKind.signed, Bool.true_and, Bool.false_and, Bool.false_eq_true, if_false, ge_iff_le, decide_eq_true_eq] <;> omega
theorem wrap_iff (k : IntKind) (x : Int) : k.wrap x = x ↔ (if k.signed then -(2 ^ (k.bits - 1) : Int) ≤ x ∧ x < 2 ^ (k.bits - 1) else 0 ≤ x ∧ x < 2 ^ k.bits) := by
  cases k <;> simp only [IntKind.wrap, IntKind.bits, IntKind.signed, Bool.true_and, Bool.false_and, Bool.false_eq_true, if_false, if_true, ge_iff_le, decide_eq_true_eq] <;> omega
theorem in64_of {x : Int} (h : IntKind.i64.wrap x = x) : In64 x := by
  have := (wrap_iff _ _).1 h
  simp only [IntKind.bits, IntKind.signed, if_true] at this
  unfold In64; omega
theorem toList_inj {x y : ByteArray} : (x.toList == y.toList) = decide (x = y) := by
  have hl : ∀ x : ByteArray, x.toList = x.data.toList := ByteArray.toList_eq
  rw [hl, hl, Bool.eq_iff_iff]
  simp only [beq_iff_eq, decide_eq_true_eq]
  constructor
  · intro h
    cases x; cases y
    simp only [ByteArray.mk.injEq]
    exact Array.toList_inj.1 h
  · rintro rfl; rfl

theorem rep_bool {C : Cx} {b : Bool} : Rep C (.bool b) (.bool b) (fun _ => 0) := ⟨rfl, fun _ => rfl⟩
theorem numK_run {k : IntKind} {x : Int} {K : AV → Prop} (h : numK k x K) : ∃ v, (∀ C : Cx, Rep C v (.int k (k.wrap x)) (fun _ => 0)) ∧ K v := by
  cases k <;> simp only [numK] at h
  case i64 => exact ⟨_, fun C => by rw [wrap_i64 h.1]; exact rep_int (wrap_i64 h.1), h.2⟩
  all_goals exact ⟨_, fun C => rep_int (wrap_wrap _ _), h⟩
theorem tmod_wrap {k : IntKind} {x y : Int} (h : k.wrap x = x) : k.wrap (x.tmod y) = x.tmod y := by
  rw [wrap_iff] at h ⊢
  have h1 : (x.tmod y).natAbs ≤ x.natAbs := by rw [Int.natAbs_tmod]; exact Nat.mod_le _ _
  have h2 : 0 ≤ x → 0 ≤ x.tmod y := fun h => Int.tmod_nonneg _ h
  have h3 : x ≤ 0 → x.tmod y ≤ 0 := fun h => by
    have := Int.tmod_nonneg (a := -x) y (by omega)
    rw [Int.neg_tmod] at this; omega
  cases k <;> simp only [IntKind.bits, IntKind.signed, Bool.false_eq_true, if_false, if_true] at h ⊢ <;> omega
theorem fdiv_wrap {k : IntKind} {x : Int} {n : Nat} (h : k.wrap x = x) : k.wrap (x.fdiv (2 ^ n)) = x.fdiv (2 ^ n) := by
  rw [wrap_iff] at h ⊢
  have hp : (0 : Int) < 2 ^ n := Int.pow_pos (by omega)
  rw [Int.fdiv_eq_ediv_of_nonneg _ (Int.le_of_lt hp)]
  have h1 : 0 ≤ x → 0 ≤ x / 2 ^ n ∧ x / 2 ^ n ≤ x := fun h => ⟨Int.ediv_nonneg h (Int.le_of_lt hp), Int.ediv_le_self _ h⟩
  have h2 : x < 0 → x ≤ x / 2 ^ n ∧ x / 2 ^ n < 0 := fun h => by
    refine ⟨?_, Int.ediv_neg_of_neg_of_pos h hp⟩
    have h4 : x * 2 ^ n ≤ x * 1 := Int.mul_le_mul_of_nonpos_left (by omega) (by omega)
    have := Int.le_ediv_of_mul_le hp (by rw [Int.mul_one] at h4; exact h4)
    exact this
  cases k <;> simp only [IntKind.bits, IntKind.signed, Bool.false_eq_true, if_false, if_true] at h ⊢ <;> (rcases Int.lt_or_le x 0 with hx | hx <;> (first | (have := h1 hx; omega) | (have := h2 hx; omega)))
theorem binI_run {P : Program} {op : BinOp} {k k' : IntKind} {x y : Int} {K : AV → Prop} (hx : k.wrap x = x) (h : binI op k x k' y K) : ∃ v u, (binOp op 0 (.int k x) (.int k' y)).run P w = .ok u w ∧ (∀ t, binOp op t (.int k x) (.int k' y) = binOp op 0 (.int k x) (.int k' y)) ∧ (∀ C : Cx, Rep C v u (fun _ => 0)) ∧ K v := by
  cases op <;> simp only [binI] at h
  case add => obtain ⟨rfl, h⟩ := h; obtain ⟨v, h1, h2⟩ := numK_run h; exact ⟨v, _, by simp [binOp, Op.intArith], fun _ => rfl, h1, h2⟩
  case sub => obtain ⟨rfl, h⟩ := h; obtain ⟨v, h1, h2⟩ := numK_run h; exact ⟨v, _, by simp [binOp, Op.intArith], fun _ => rfl, h1, h2⟩
  case mul => obtain ⟨rfl, h⟩ := h; obtain ⟨v, h1, h2⟩ := numK_run h; exact ⟨v, _, by simp [binOp, Op.intArith], fun _ => rfl, h1, h2⟩
  case quo => obtain ⟨rfl, h0, h⟩ := h; obtain ⟨v, h1, h2⟩ := numK_run h; exact ⟨v, _, by simp [binOp, Op.intDiv, h0], fun _ => rfl, h1, h2⟩
  case rem => obtain ⟨rfl, h0, h⟩ := h; exact ⟨_, _, by simp [binOp, Op.intDiv, h0], fun _ => rfl, fun C => rep_int (tmod_wrap hx), h⟩
  case and => obtain ⟨rfl, h⟩ := h; exact ⟨_, _, by simp [binOp, Op.intBits], fun _ => rfl, fun C => rep_int (wrap_wrap _ _), h⟩
  case or => obtain ⟨rfl, h⟩ := h; exact ⟨_, _, by simp [binOp, Op.intBits], fun _ => rfl, fun C => rep_int (wrap_wrap _ _), h⟩
  case xor => obtain ⟨rfl, h⟩ := h; exact ⟨_, _, by simp [binOp, Op.intBits], fun _ => rfl, fun C => rep_int (wrap_wrap _ _), h⟩
  case andNot => obtain ⟨rfl, h⟩ := h; exact ⟨_, _, by simp [binOp, Op.intBits], fun _ => rfl, fun C => rep_int (wrap_wrap _ _), h⟩
  case shl => exact ⟨_, _, by simp [binOp, Op.shift, show ¬ y < 0 by omega], fun _ => rfl, fun C => rep_int (wrap_wrap _ _), h.2⟩
  case shr => exact ⟨_, _, by simp [binOp, Op.shift, show ¬ y < 0 by omega], fun _ => rfl, fun C => rep_int (fdiv_wrap hx), h.2⟩
  case eql => obtain ⟨rfl, h⟩ := h; exact ⟨_, _, by simp [binOp, Op.intCmp]; rfl, fun _ => rfl, fun C => rep_bool, h⟩
  case neq => obtain ⟨rfl, h⟩ := h; exact ⟨_, _, by simp [binOp, Op.intCmp]; rfl, fun _ => rfl, fun C => rep_bool, h⟩
  case lss => obtain ⟨rfl, h⟩ := h; exact ⟨_, _, by simp [binOp, Op.intCmp], fun _ => rfl, fun C => rep_bool, h⟩
  case leq => obtain ⟨rfl, h⟩ := h; exact ⟨_, _, by simp [binOp, Op.intCmp], fun _ => rfl, fun C => rep_bool, h⟩
  case gtr => obtain ⟨rfl, h⟩ := h; exact ⟨_, _, by simp [binOp, Op.intCmp], fun _ => rfl, fun C => rep_bool, h⟩
  case geq => obtain ⟨rfl, h⟩ := h; exact ⟨_, _, by simp [binOp, Op.intCmp], fun _ => rfl, fun C => rep_bool, h⟩
end Go.Av
