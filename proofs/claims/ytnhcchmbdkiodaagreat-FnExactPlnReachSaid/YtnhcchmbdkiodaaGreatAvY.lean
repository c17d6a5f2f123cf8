/- Engine, part 22: methods behind interfaces. -/
import Derived.Test.YtnhcchmbdkiodaaGreatAvX
set_option linter.unusedVariables false
set_option linter.unusedSimpArgs false
set_option autoImplicit false
namespace Go.Av
variable {P : Program}

def npT (P : Program) [Known P] (t : TypeId) : Bool := match P.underlying t with
  | some (.pointer _) => false
  | some _ => true
  | none => false
def fnpT (P : Program) [Known P] (t : TypeId) (i : Nat) : Bool := match P.underlying t with
  | some (.struct fs) => match fs[i]? with
    | some x => npT P x.type
    | none => false
  | _ => false
/-- A type's method by its name: its function, and the field through which it is promoted. -/
def mthT (P : Program) [Known P] (t : TypeId) (name : String) : Option (FuncId × Option Nat) := match P.info? t with
  | some i => match i.methods.find? (·.name == name) with
    | some m => match m.func, m.path.toList with
      | some (f, false), [] => bif npT P t then some (f, none) else none
      | some (f, false), [st] => bif Nat.beq st.struct t && !st.deref && fnpT P t st.index then some (f, some st.index) else none
      | _, _ => none
    | none => none
  | none => none
theorem npT_spec [Known P] {t : TypeId} (h : npT P t = true) : ∃ d, P.underlying t = some d ∧ ∀ e, d ≠ .pointer e := by
  unfold npT at h
  split at h
  · cases h
  · rename_i d hn hd
    exact ⟨_, by assumption, fun e he => by subst he; simp_all⟩
  · cases h
theorem receiver_run [Known P] {t : TypeId} (h : npT P t = true) (v : Value) (nm : Option String) (w : World) : (receiverAt t (.val v) false nm).run P w = .ok v w := by
  obtain ⟨d, hd, hn⟩ := npT_spec h
  simp only [receiverAt, underlying, Sem.run_bind, run_program, Result.andThen_ok, hd, Sem.run_pure]
  cases d <;> first | (exact absurd rfl (hn _)) | rfl
theorem meth_of [Known P] {t : TypeId} {name : String} {f : FuncId} {v : AV} (h : mthT P t name = some (f, none)) (en : Enters P f) : Meth P t name f v v := by
  intro C u hu
  refine ⟨u, hu, fun args w => ?_⟩
  unfold mthT at h
  split at h
  · rename_i i hi
    split at h
    · rename_i m hm
      split at h
      · rename_i g hf hp
        cases hn : npT P t with
        | false => rw [hn] at h; simp at h
        | true =>
          rw [hn] at h
          simp only [cond_true, Option.some.injEq, Prod.mk.injEq, and_true] at h
          obtain rfl := h
          obtain ⟨k, hsz⟩ : ∃ k, P.types.size + Made.depth = k + 1 := ⟨P.types.size + 99, rfl⟩
          simp only [callMethod, Sem.run_bind, run_program, Result.andThen_ok, hsz, method, typeInfo, hi, Sem.run_pure, hm, hp, follow, hf, receiver_run hn]
          exact en _ _
      · rename_i st hf hp
        cases hb : (Nat.beq st.struct t && !st.deref && fnpT P t st.index) <;> rw [hb] at h <;> simp at h
      · cases h
    · cases h
  · cases h
theorem meth_promo [Known P] {t : TypeId} {name : String} {f i off n : Nat} {l : List AV} (h : mthT P t name = some (f, some i)) (hfl : fldT P t i = some (off, true, n)) (en : Enters P f) (hl : off + n ≤ l.length) : Meth P t name f (.agg l) (.agg ((l.drop off).take n)) := by
  rintro C _ ⟨cs, rfl, hL⟩
  have hlen := RepL.length _ _ _ hL
  refine ⟨.agg ((cs.drop off).take n).toArray, ⟨_, rfl, RepL.take n _ _ (repL_drop off _ _ hL)⟩, fun args w => ?_⟩
  unfold mthT at h
  split at h
  · rename_i ti hi
    split at h
    · rename_i m hm
      split at h
      · rename_i g hf hp
        cases hn : npT P t <;> rw [hn] at h <;> simp at h
      · rename_i g st hf hp
        cases hb : (Nat.beq st.struct t && !st.deref && fnpT P t st.index) with
        | false => rw [hb] at h; simp at h
        | true =>
          rw [hb] at h
          simp only [cond_true, Option.some.injEq, Prod.mk.injEq] at h
          obtain ⟨rfl, rfl⟩ := h
          simp only [Bool.and_eq_true, Bool.not_eq_true'] at hb
          obtain ⟨⟨h1, h2⟩, h3⟩ := hb
          have h1 := Nat.eq_of_beq_eq_true h1
          obtain ⟨fs, y, hu, hy, rfl, ht, hne⟩ := fldT_spec hfl
          unfold fnpT at h3
          rw [hu] at h3
          simp only [hy] at h3
          obtain ⟨k, hsz⟩ : ∃ k, P.types.size + Made.depth = k + 1 := ⟨P.types.size + 99, rfl⟩
          simp only [callMethod, Sem.run_bind, run_program, Result.andThen_ok, hsz, method, typeInfo, hi, Sem.run_pure, hm, hp, follow, h1, underlying, hu, hy, h2, Bool.false_eq_true, if_false, hf, part_run ht (Nat.pos_of_ne_zero hne) (by rw [hlen]; exact hl), receiver_run h3, if_true]
          exact en _ _
      · cases h
    · cases h
  · cases h
end Go.Av
