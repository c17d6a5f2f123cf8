/- Engine, part 12: regions, code, functions. -/
import Derived.Test.YtnhcchmbdkiodaaGreatAvKe
set_option linter.unusedVariables false
set_option linter.unusedSimpArgs false
set_option autoImplicit false
namespace Go.Av
variable {P : Program}

/-- The constants among its operands are as they should be. -/
def okOo : Option Operand → Bool
  | none => true
  | some x => okO x
def okP : Op → Bool
  | .move x | .assign x | .box _ x | .load _ x | .nilCheck x | .unOp _ _ x | .makeInterface _ x | .extract x _ => okO x
  | .fieldAddr _ x _ | .field _ x _ | .convert _ _ x | .typeAssert x _ _ _ => okO x
  | .pick x y z => okO x && okO y && okO z
  | .store _ x y | .indexAddr _ x y | .index _ x y | .binOp _ _ x y _ | .makeSlice _ x y => okO x && okO y
  | .slice _ x lo hi _ => okO x && okOo lo && okOo hi
  | .build _ ps | .buildSlice _ _ ps => ps.toList.all fun p => okO p.2
  | .makeFunc _ _ caps => caps.toList.all okO
  | .call c => c.args.toList.all okO && (match c.callee with
    | .value f => okO f
    | .invoke r _ => okO r
    | _ => true)
  | _ => true
theorem stp_sound [Known P] {B : Base P} {o : Oper} {s : St} {a : Act} {w : World} {K : St → AV → Prop} (ho : okP o.op = true) (h : stp P o.op s K) (hr : Rel B s a w) : Yields P o a w (Out B a K) := by
  obtain ⟨dst, op, ty, pos, after, guard⟩ := o
  simp only at h ho
  cases op with
  | move x => exact yields_of (v := a.eval x) (w' := w) (by simp [execOp]) (y_ev ho hr h)
  | assign x => exact yields_of (v := a.eval x) (w' := w) (by simp [execOp]) (y_ev ho hr h)
  | pick x y z => simp only [okP, Bool.and_eq_true] at ho; exact y_pick rfl ho.1.1 ho.1.2 ho.2 hr h
  | alloc t => exact y_alloc rfl hr h
  | box t x => exact y_box rfl ho hr h
  | build t ps => exact y_build rfl (fun p hp => List.all_eq_true.1 ho p hp) hr h
  | buildSlice t n ps => exact y_buildSlice rfl (fun p hp => List.all_eq_true.1 ho p hp) hr h
  | load t x => exact y_load rfl ho hr h
  | store t p x => simp only [okP, Bool.and_eq_true] at ho; exact y_store rfl ho.1 ho.2 hr h
  | nilCheck x => exact y_nilCheck rfl ho hr h
  | fieldAddr t x f => exact y_fieldAddr rfl ho hr h
  | field t x f => exact y_field rfl ho hr h
  | indexAddr t x i => simp only [okP, Bool.and_eq_true] at ho; exact y_indexAddr rfl ho.1 ho.2 hr h
  | index t x i => simp only [okP, Bool.and_eq_true] at ho; exact y_index rfl ho.1 ho.2 hr h
  | slice t x lo hi mx =>
    simp only [okP, Bool.and_eq_true] at ho
    cases mx with
    | some _ => exact h.elim
    | none => exact y_slice rfl ho.1.1 (fun y hy => by have := ho.1.2; rw [hy] at this; exact this) (fun y hy => by have := ho.2; rw [hy] at this; exact this) hr h
  | binOp op t x y yt => simp only [okP, Bool.and_eq_true] at ho; exact y_binOp rfl ho.1 ho.2 hr h
  | unOp op t x => cases op with
    | not => exact y_not rfl ho hr h
    | neg => exact y_neg rfl ho hr h
    | _ => exact h.elim
  | convert src dst x => exact y_convert rfl ho h.1 hr h
  | makeSlice t n c => simp only [okP, Bool.and_eq_true] at ho; exact y_makeSlice rfl ho.1 ho.2 hr h
  | makeInterface t x => exact y_makeInterface rfl ho hr h
  | makeFunc fn first caps => exact y_makeFunc rfl ho hr h
  | typeAssert x xt t ok => cases ok with
    | true => exact y_typeAssert rfl ho hr h
    | false => exact h.elim
  | call cl =>
    simp only [okP, Bool.and_eq_true] at ho
    cases hc : cl.callee with
    | value f => rw [hc] at ho; exact y_callv rfl hc ho.2 ho.1 hr h
    | invoke r name => rw [hc] at ho; exact y_invoke rfl hc ho.2 ho.1 hr h
    | builtin b => cases b with
      | len => exact y_len rfl hc ho.1 hr h
      | append => exact y_append rfl hc ho.1 hr h
      | copy => exact y_copy rfl hc ho.1 hr h
      | min => exact y_min rfl hc ho.1 hr h
      | _ => simp only [stp, hc] at h
  | extract x i => exact y_extract rfl ho hr h
  | _ => exact h.elim

/-! ### Regions in the order of the text -/
def dstOf : List Oper → Nat → Option Tmp
  | [], _ => none
  | o :: _, 0 => o.dst
  | _ :: r, n + 1 => dstOf r n
theorem dstOf_eq : ∀ (l : List Oper) (j : Nat), dstOf l j = (l[j]?).bind (·.dst)
  | [], j => by simp [dstOf]
  | o :: l, 0 => rfl
  | o :: l, j + 1 => by simpa [dstOf] using dstOf_eq l j
/-- One operation that is wanted or not. -/
def stg (P : Program) [Known P] (go : Bool) (o : Oper) (s : St) (K : St → AV → Prop) : Prop := match go with
  | true => stp P o.op s K
  | false => K s (.tup [])
def wops (P : Program) [Known P] : List Oper → List Oper → St → (St → Prop) → Prop
  | [], _, s, k => k s
  | o :: r, ops, s, k => match o.guard with
    | none => stp P o.op s (fun s v => wops P r ops (s.put o.dst v) k)
    | some (j, x) => match dstOf ops j with
      | none => False
      | some t => match gtm s.tm t with
        | .tt => stg P x o s (fun s v => wops P r ops (s.put o.dst v) k)
        | .ff => stg P (!x) o s (fun s v => wops P r ops (s.put o.dst v) k)
        | .bool b => If b (stg P x o (s.put (some t) .tt) (fun s v => wops P r ops (s.put o.dst v) k)) (stg P (!x) o (s.put (some t) .ff) (fun s v => wops P r ops (s.put o.dst v) k))
        | .tup _ => stg P false o s (fun s v => wops P r ops (s.put o.dst v) k)
        | _ => False
def fitOp (n : Nat) (o : Oper) : Bool := (match o.dst with
  | some d => Nat.blt d n
  | none => true) && okP o.op
theorem put_size (a : Act) (d : Option Tmp) (v : Value) : (a.put d v).tmps.size = a.tmps.size := by
  cases d <;> simp [Act.put]

theorem wanted_of {ops : Array Oper} {a : Act} {j t : Nat} {x b : Bool} (hd : ((ops[j]?).bind (·.dst)) = some t) (ht : t < a.tmps.size) (hv : a.tmps.getD t undef = .bool b) (o : Oper) (hg : o.guard = some (j, x)) :
    Region.wanted o (yielded ops a.tmps) = (b == x) := by
  have h1 : a.tmps[t]? = some (.bool b) := by
    rw [Array.getElem?_eq_getElem ht]
    simp only [Array.getD, ht, dif_pos] at hv
    exact congrArg some hv
  unfold Region.wanted yielded
  rw [hg]
  simp only [hd, Option.bind_some, h1]
  cases b <;> cases x <;> rfl

theorem wanted_tup {ops : Array Oper} {a : Act} {j t : Nat} {x : Bool} {c : Array Value} (hd : ((ops[j]?).bind (·.dst)) = some t) (ht : t < a.tmps.size) (hv : a.tmps.getD t undef = .tuple c) (o : Oper) (hg : o.guard = some (j, x)) :
    Region.wanted o (yielded ops a.tmps) = false := by
  have h1 : a.tmps[t]? = some (.tuple c) := by
    rw [Array.getElem?_eq_getElem ht]
    simp only [Array.getD, ht, dif_pos] at hv
    exact congrArg some hv
  unfold Region.wanted yielded
  rw [hg]
  simp only [hd, Option.bind_some, h1]
  rfl

/-- A test known one way or the other. -/
theorem Rel.known [Known P] {B : Base P} {s : St} {a : Act} {w : World} (h : Rel B s a w) {t : Nat} (ht : t < a.tmps.size) {b : Bool} (hv : a.tmps.getD t undef = .bool b) (v : AV) (hq : v = if b then .tt else .ff) : Rel B (s.put (some t) v) a w := by
  obtain ⟨mu, F, c⟩ := h
  refine ⟨mu, F, c.defers, c.nx, c.mub, c.os, c.tape, c.output, c.size, c.old, c.one, c.blk, fun u => ?_, c.hp⟩
  simp only [St.put, gtm]
  cases hb : Nat.beq t u with
  | false => exact c.tm u
  | true =>
    obtain rfl := Nat.eq_of_beq_eq_true hb
    subst hq
    cases b with
    | true => exact ⟨hv, fun _ => rfl⟩
    | false => exact ⟨hv, fun _ => rfl⟩

theorem wpOps_step {ops : Array Oper} {Q : Exit → Act → World → Prop} {i : Nat} {rest : List Nat} {a : Act} {w : World} {o : Oper} (ho : ops[i]? = some o)
    (h : if Region.wanted o (yielded ops a.tmps) then o.wp P a w (wpOps P ops Q rest) Q else wpOps P ops Q rest (a.put o.dst undef) w) : wpOps P ops Q (i :: rest) a w := by
  simp only [wpOps, ho]
  split
  · rename_i hw; rw [if_pos hw] at h; exact .inl h
  · rename_i hw; rw [if_neg hw] at h; exact h
theorem wops_sound [Known P] {B : Base P} {ops : Array Oper} {Q : Exit → Act → World → Prop} {n : Nat} {k : St → Prop} (hQ : ∀ s a w, a.tmps.size = n → Rel B s a w → k s → Q .normal a w) (hfit : ops.toList.all (fitOp n) = true) :
    ∀ (l : List Oper) (i : Nat) (s : St) (a : Act) (w : World), (∀ j, l[j]? = ops[i + j]?) → a.tmps.size = n → Rel B s a w → wops P l ops.toList s k → wpOps P ops Q ((List.range l.length).map (i + ·)) a w
  | [], i, s, a, w, hl, hs, hr, h => hQ s a w hs hr h
  | o :: l, i, s, a, w, hl, hs, hr, h => by
    have h0 : ops[i]? = some o := by simpa using (hl 0).symm
    have hrange : (List.range (o :: l).length).map (i + ·) = i :: (List.range l.length).map (i + 1 + ·) := by
      rw [List.length_cons, List.range_succ_eq_map, List.map_cons, List.map_map]
      simp only [Nat.add_zero, List.cons.injEq, true_and]
      apply List.map_congr_left; intro x _; simp; omega
    rw [hrange]
    have hl' : ∀ j, l[j]? = ops[i + 1 + j]? := fun j => by have := hl (j + 1); simpa [Nat.add_assoc, Nat.add_comm 1 j] using this
    have hmem : o ∈ ops.toList := by
      obtain ⟨hi, he⟩ := Array.getElem?_eq_some_iff.1 h0
      exact he ▸ Array.getElem_mem_toList hi
    have hfo := List.all_eq_true.1 hfit o hmem
    have hd : ∀ t, o.dst = some t → t < a.tmps.size := fun t ht => by
      unfold fitOp at hfo; rw [ht, Bool.and_eq_true] at hfo; rw [hs]; exact Nat.le_of_ble_eq_true hfo.1
    have hok : okP o.op = true := by unfold fitOp at hfo; rw [Bool.and_eq_true] at hfo; exact hfo.2
    have go : ∀ (s' : St), Rel B s' a w → stp P o.op s' (fun s v => wops P l ops.toList (s.put o.dst v) k) → o.wp P a w (wpOps P ops Q ((List.range l.length).map (i + 1 + ·))) Q := fun s' hr' h' =>
      (stp_sound hok h' hr').wp fun v w' ⟨s1, v1, hk, hrv⟩ => wops_sound hQ hfit l (i + 1) _ _ w' hl' (by rw [put_size]; exact hs) (hrv.put o.dst hd) hk
    have skip : ∀ (s' : St), Rel B s' a w → wops P l ops.toList (s'.put o.dst (.tup [])) k → wpOps P ops Q ((List.range l.length).map (i + 1 + ·)) (a.put o.dst undef) w := fun s' hr' h' =>
      wops_sound hQ hfit l (i + 1) _ _ w hl' (by rw [put_size]; exact hs) (hr'.skip.put o.dst hd) h'
    refine wpOps_step h0 ?_
    simp only [wops] at h
    split at h
    · rename_i hg
      have hw : Region.wanted o (yielded ops a.tmps) = true := by unfold Region.wanted; rw [hg]
      rw [if_pos hw]; exact go s hr h
    · rename_i j x hg
      split at h
      · exact h.elim
      · rename_i t ht
        rw [dstOf_eq] at ht
        have hd' : ((ops[j]?).bind (·.dst)) = some t := by simpa using ht
        have htl : t < a.tmps.size := by
          rw [hs]
          cases hj : ops[j]? with
          | none => rw [hj] at hd'; simp at hd'
          | some oj =>
            rw [hj] at hd'
            have hm : oj ∈ ops.toList := by
              obtain ⟨hi, he⟩ := Array.getElem?_eq_some_iff.1 hj
              exact he ▸ Array.getElem_mem_toList hi
            have := List.all_eq_true.1 hfit oj hm
            unfold fitOp at this
            have hd'' : oj.dst = some t := by simpa using hd'
            rw [hd'', Bool.and_eq_true] at this; exact Nat.le_of_ble_eq_true this.1
        obtain ⟨mu, F, c⟩ := hr
        have htm := c.tm t
        have hr : Rel B s a w := ⟨mu, F, c⟩
        have stgo : ∀ (s' : St) (b : Bool), Rel B s' a w → a.tmps.getD t undef = .bool b → stg P (b == x) o s' (fun s v => wops P l ops.toList (s.put o.dst v) k) →
            if Region.wanted o (yielded ops a.tmps) then o.wp P a w (wpOps P ops Q ((List.range l.length).map (i + 1 + ·))) Q else wpOps P ops Q ((List.range l.length).map (i + 1 + ·)) (a.put o.dst undef) w := fun s' b hr' hb h' => by
          rw [wanted_of hd' htl hb o hg]
          cases hbx : (b == x) with
          | true => rw [hbx] at h'; simp only [if_true]; exact go s' hr' h'
          | false => rw [hbx] at h'; simp only [Bool.false_eq_true, if_false]; exact skip s' hr' h'
        split at h
        · rename_i hv
          rw [hv] at htm
          refine stgo s true hr htm.1 ?_
          cases x <;> exact h
        · rename_i hv
          rw [hv] at htm
          refine stgo s false hr htm.1 ?_
          cases x <;> exact h
        · rename_i b hv
          rw [hv] at htm
          cases b with
          | true =>
            refine stgo _ true (hr.known htl htm.1 .tt rfl) htm.1 ?_
            have := h.t rfl
            cases x <;> exact this
          | false =>
            refine stgo _ false (hr.known htl htm.1 .ff rfl) htm.1 ?_
            have := h.f rfl
            cases x <;> exact this
        · rename_i l hv
          rw [hv] at htm
          obtain ⟨cs, htm, _⟩ := htm
          rw [wanted_tup hd' htl htm o hg]
          simp only [Bool.false_eq_true, if_false]
          exact skip s hr h
        · exact h.elim

end Go.Av
