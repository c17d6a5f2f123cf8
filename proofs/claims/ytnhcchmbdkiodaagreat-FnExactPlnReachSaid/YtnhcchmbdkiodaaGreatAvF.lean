/- Engine, part 6: each operation does in memory what the evaluator says. -/
import Derived.Test.YtnhcchmbdkiodaaGreatAvS
import Derived.Laws.Tables
import Derived.Deep.MidRow
set_option linter.unusedVariables false
set_option linter.unusedSimpArgs false
set_option autoImplicit false
namespace Go.Av

/-- The operation yields a value and a world that are so; a call returns such. -/
def Yields (P : Program) [Known P] (o : Oper) (a : Act) (w : World) (R : Value → World → Prop) : Prop :=
  match (execOp a.eval o).run P w with
  | .ok (.value v) w' => R v w'
  | .ok .skip w' => R undef w'
  | .ok (.enter f args) w' => Calls P f args w' (fun e w'' => ∃ v, e = .returned v ∧ R v w'')
  | _ => False
theorem Yields.wp {P : Program} [Known P] {o : Oper} {a : Act} {w : World} {R : Value → World → Prop} (h : Yields P o a w R) {next : Act → World → Prop} {Q : Exit → Act → World → Prop}
    (hn : ∀ v w', R v w' → next (a.put o.dst v) w') : o.wp P a w next Q := by
  unfold Yields at h
  unfold Oper.wp
  split at h
  · rename_i v w' e; rw [e]; exact hn _ _ h
  · rename_i w' e; rw [e]; exact hn _ _ h
  · rename_i f args w' e; rw [e, Oper.upon_enter]
    exact h.mono fun e w'' ⟨v, he, hv⟩ => by subst he; exact hn _ _ hv
  · exact h.elim

theorem add_add (a : Addr) (m n : Nat) : (a.add m).add n = a.add (m + n) := by
  unfold Addr.add
  by_cases h : m = 0
  · subst h; simp
  · by_cases h' : n = 0
    · subst h'; simp [h]
    · rw [if_neg h', if_neg h, if_neg (by omega)]; simp; omega
theorem add_block (a : Addr) (m : Nat) : (a.add m).block = a.block := by unfold Addr.add; split <;> rfl
theorem add_none (b o n : Nat) : (⟨b, o, none⟩ : Addr).add n = ⟨b, o + n, none⟩ := by unfold Addr.add; split <;> simp_all

theorem RepA.shift {C : Cx} : ∀ (l : List AV) (ad : Addr) (m j : Nat), RepA C l ad (m + j) ↔ RepA C l (ad.add m) j
  | [], ad, m, j => Iff.rfl
  | x :: l, ad, m, j => by
    simp only [RepA]
    rw [add_block, add_add, show m + j + 1 = m + (j + 1) by omega, RepA.shift l ad m (j + 1)]
theorem RepA.drop {C : Cx} : ∀ (k : Nat) (l : List AV) (ad : Addr) (j : Nat), RepA C l ad j → RepA C (l.drop k) ad (j + k)
  | 0, l, ad, j, h => by simpa using h
  | k + 1, [], ad, j, h => trivial
  | k + 1, x :: l, ad, j, h => by
    rw [List.drop_succ_cons, show j + (k + 1) = j + 1 + k by omega]
    exact RepA.drop k l ad (j + 1) h.2
theorem RepR.at_ {C : Cx} {e : Nat} : ∀ (l : List (List AV)) (a : Option Addr) (i j : Nat) (r : List AV), RepR C e l a i → l[j]? = some r → ∃ ad, a = some ad ∧ r.length = e ∧ RepA C r ad ((i + j) * e)
  | [], a, i, j, r, h, hj => by simp at hj
  | x :: l, a, i, 0, r, h, hj => by
    obtain rfl : x = r := by simpa using hj
    simpa using h.1
  | x :: l, a, i, j + 1, r, h, hj => by
    have := RepR.at_ l a (i + 1) j r h.2 (by simpa using hj)
    rwa [show i + 1 + j = i + (j + 1) by omega] at this
theorem ext_pu (C : Cx) : Ext C.pu C := ⟨fun _ h => h, fun _ _ => rfl, Nat.zero_le _, fun o h => absurd h (Nat.not_lt_zero _)⟩
theorem ext_sel (C : Cx) : ∀ g, Ext (C.sel g) C
  | true => ⟨fun _ h => h, fun _ _ => rfl, Nat.le_refl _, fun _ _ => rfl⟩
  | false => ext_pu C
theorem zero_split {F1 F2 : Foot} (h : ∀ b, (fun _ => 0 : Foot) b = F1 b + F2 b) : F1 = (fun _ => 0) ∧ F2 = fun _ => 0 := by
  refine ⟨funext fun b => ?_, funext fun b => ?_⟩ <;> (have h' : 0 = F1 b + F2 b := h b; omega)
/-- The cells that lie there, as values. -/
theorem RepA.vals {C : Cx} : ∀ (l : List AV) (ad : Addr) (j : Nat), RepA C l ad j → ∃ us : List Value, RepL C l us (fun _ => 0) ∧ us.length = l.length ∧ (∀ i u, us[i]? = some u → C.w.cell? (ad.add (j + i)) = some u) ∧ ∀ u ∈ us, u.oneCell' = true
  | [], ad, j, h => ⟨[], ⟨rfl, fun _ => rfl⟩, rfl, fun i u hi => by simp at hi, fun u hu => by simp at hu⟩
  | x :: l, ad, j, h => by
    obtain ⟨⟨h0, u, h1, o1, h2⟩, h3⟩ := h
    obtain ⟨us, k1, k2, k3, k4⟩ := RepA.vals l ad (j + 1) h3
    refine ⟨u :: us, ⟨u, us, _, _, rfl, h2, k1, fun _ => rfl⟩, by simp [k2], fun i v hi => ?_, fun v hv => (List.mem_cons.1 hv).elim (fun e => e ▸ o1) (k4 v)⟩
    cases i with
    | zero => simp at hi; subst hi; exact h1
    | succ i => rw [show j + (i + 1) = j + 1 + i by omega]; exact k3 i v (by simpa using hi)
theorem RepL.take {C : Cx} : ∀ (k : Nat) (l : List AV) (us : List Value), RepL C l us (fun _ => 0) → RepL C (l.take k) (us.take k) (fun _ => 0)
  | 0, l, us, h => ⟨by simp, fun _ => rfl⟩
  | k + 1, [], us, h => by obtain ⟨rfl, _⟩ := h; exact ⟨by simp, fun _ => rfl⟩
  | k + 1, x :: l, us, h => by
    obtain ⟨v, vs', F1, F2, rfl, h1, h2, h3⟩ := h
    obtain ⟨rfl, rfl⟩ := zero_split h3
    exact ⟨v, vs'.take k, _, _, by simp, h1, RepL.take k l vs' h2, fun _ => rfl⟩

theorem tyT_run {P : Program} [Known P] {t : TypeId} {g : Bool} {n : Nat} (h : tyT P t = some (g, n)) (w : World) :
    (isAgg t).run P w = .ok g w ∧ (sizeOf t).run P w = .ok n w := by
  unfold tyT at h
  split at h
  · rename_i d hd
    split at h
    · rename_i i hi
      obtain ⟨rfl, rfl⟩ : rowD d = g ∧ i.size = n := by simpa using h
      refine ⟨?_, by simp [sizeOf, typeInfo, hi]⟩
      cases d <;> simp [isAgg, underlying, hd, rowD]
    · simp at h
  · simp at h
theorem loadVar_run {P : Program} [Known P] {t : TypeId} {g : Bool} {n : Nat} (h : tyT P t = some (g, n)) {w : World} {ad : Addr} {us : List Value} (hl : us.length = n) (hn : 0 < n)
    (hc : ∀ i u, us[i]? = some u → w.cell? (ad.add i) = some u) : (loadVar t ad).run P w = .ok (if g then .agg us.toArray else us.headD undef) w := by
  obtain ⟨h1, h2⟩ := tyT_run h w
  cases g with
  | true =>
    subst hl
    have := run_loadCells_list (P := P) w ad us hc
    simp [loadVar, h1, h2, this]
  | false =>
    cases us with
    | nil => simp at hl; omega
    | cons u us =>
      have := hc 0 u rfl
      rw [show ad.add 0 = ad from rfl] at this
      simp [loadVar, h1, this]
theorem packT_rep {C : Cx} {g : Bool} {l : List AV} {us : List Value} (h : RepL C l us (fun _ => 0)) (hn : 0 < l.length) : Rep C (packT g l) (if g then .agg us.toArray else us.headD undef) (fun _ => 0) := by
  cases g with
  | true => exact ⟨us, rfl, h⟩
  | false =>
    cases l with
    | nil => simp at hn
    | cons x l =>
      obtain ⟨v, vs', F1, F2, rfl, h1, h2, h3⟩ := h
      obtain ⟨rfl, rfl⟩ := zero_split h3
      exact h1
end Go.Av
