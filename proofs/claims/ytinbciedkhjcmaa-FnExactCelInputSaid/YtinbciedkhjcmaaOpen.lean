/- Helper: what a parameter reads as, laid open into the print's kinds. -/
import Derived.Test.YtinbciedkhjcmaaProg
import Derived.Test.YtinbciedkhjcmaaWMore
import Derived.ProofKit
import Derived.OpenShut
import Derived.Deep.Slices
namespace Go.Proofs.Ytinbciedkhjcmaa.Opn
open Go.RowKit Go.Proofs.YtinbciedkhjcmaaW.PrintWords
open Go.ChangeShapes Go.WideShapes Go.ChangeAt
set_option linter.unusedVariables false

/-- Whatever reads as a datum of the type T is told by the kind d, and φ holds of it. -/
def Opens {α : Type} (P : Program) (T : TypeId) (d : Kd α) (φ : α → Prop) : Prop :=
  ∀ (H : Type) (enc : TypeId × Value → H) (W : World) (fuel : Nat) (cs : List Value) (x : DataW H × List MemPlace),
    DataW.trod enc P W 0 (fun _ => true) true fuel T cs = some x → ∃ y : α, d.K W y cs ∧ φ y

theorem opens_int {P : Program} {T : TypeId} {k : IntKind} (ht : P.underlying T = some (.int k)) : Opens P T (Kd.int k) (fun x => (Lit.int k x).wf = true) := by
  intro H enc W fuel cs x h
  obtain ⟨n, rfl, _, hw⟩ := DataW.trod_int ht h
  exact ⟨n, rfl, hw⟩
theorem opens_bool {P : Program} {T : TypeId} (ht : P.underlying T = some .bool) : Opens P T Kd.bool (fun _ => True) := by
  intro H enc W fuel cs x h
  obtain ⟨b, rfl, _⟩ := DataW.trod_bool ht h
  exact ⟨b, rfl, trivial⟩
theorem opens_string {P : Program} {T : TypeId} (ht : P.underlying T = some .string) : Opens P T Kd.string (fun s => s.size ≤ maxLen) := by
  intro H enc W fuel cs x h
  obtain ⟨s, rfl, _, hs⟩ := DataW.trod_string ht h
  exact ⟨s, rfl, hs⟩

theorem cells_len {w : World} {base : Nat} {a : Addr} {n : Nat} {cs : List Value} (h : w.cells? base a n = some cs) : cs.length = n := by
  unfold World.cells? at h
  split at h
  · have := mapM_some_length h
    simpa using this
  · cases h
theorem cells_at {w : World} {base : Nat} {a : Addr} {n : Nat} {cs : List Value} (h : w.cells? base a n = some cs) (i : Nat) (u : Value) (hu : cs[i]? = some u) : w.cell? (a.add i) = some u := by
  have hl := cells_len h
  have hi : i < n := by rw [← hl]; exact (List.getElem?_eq_some_iff.1 hu).1
  unfold World.cells? at h
  split at h
  · have := mapM_some_get h i i (by simp [hi])
    rw [this]; exact hu
  · cases h

theorem opens_slice {α : Type} {P : Program} {t e E : TypeId} {d : Kd α} {φ : α → Prop} (ht : P.underlying t = some (.slice e)) (hc : P.cellsOf e = d.sz) (hd : Opens P e d φ) :
    Opens P t (Kd.slice E d) (fun l => l.length ≤ maxLen ∧ ∀ x ∈ l, φ x) := by
  intro H enc W fuel cs x h
  rcases Go.Deep.open_slice ht h with ⟨rfl, _⟩ | ⟨a, len, cap, m, n, D, Pl, rfl, _, hl, hm, hmeq, _, hel⟩
  · exact ⟨[], ⟨none, 0, rfl, Nat.le_refl _, Kd.C_nil d W⟩, by simp, by simp⟩
  · have hlm : len ≤ m := by rw [hmeq]; simpa using hl
    have hex : ∀ i : Fin len, ∃ y : α, φ y ∧ ∃ c : List Value, c.length = d.sz ∧ d.K W y c ∧ ∀ j u, c[j]? = some u → W.cell? (a.add (i.1 * d.sz + j)) = some u := by
      intro i
      obtain ⟨c, h1, h2⟩ := hel i.1 (by omega)
      obtain ⟨y, hy, hp⟩ := hd H enc W n c _ h2
      refine ⟨y, hp, c, by rw [cells_len h1, hc], hy, fun j u hu => ?_⟩
      have := cells_at h1 j u hu
      rwa [Go.Deep.add_add, hc] at this
    let f : Fin len → α := fun i => Classical.choose (hex i)
    have hf : ∀ i : Fin len, φ (f i) ∧ ∃ c : List Value, c.length = d.sz ∧ d.K W (f i) c ∧ ∀ j u, c[j]? = some u → W.cell? (a.add (i.1 * d.sz + j)) = some u := fun i => Classical.choose_spec (hex i)
    have hlen : (List.ofFn f).length = len := List.length_ofFn
    refine ⟨List.ofFn f, ⟨some a, cap, by rw [hlen], by rw [hlen]; exact hl, ?_⟩, by rw [hlen]; omega, ?_⟩
    · refine ⟨rfl, by rw [hlen]; unfold maxLen at hm; omega, fun _ => ⟨a, rfl, fun j p hj => ?_⟩⟩
      have hjl : j < len := by have := (List.getElem?_eq_some_iff.1 hj).1; omega
      have hpf : p = f ⟨j, hjl⟩ := by
        rw [List.getElem?_eq_getElem (by omega)] at hj
        simpa using (Option.some.inj hj).symm
      obtain ⟨_, c, h1, h2, h3⟩ := hf ⟨j, hjl⟩
      exact ⟨c, h1, by rw [hpf]; exact h2, h3⟩
    · intro x hx
      obtain ⟨i, rfl⟩ := List.mem_ofFn.1 hx
      exact (hf i).1

theorem cut_at (cs : List Value) (a n : Nat) : cs.drop a = (cs.drop a).take n ++ cs.drop (a + n) := by
  rw [← List.drop_drop]; exact (List.take_append_drop n _).symm

/-- A field. -/
theorem opens_field {α : Type} {P : Program} {T : TypeId} {d : Kd α} {φ : α → Prop} (hd : Opens P T d φ) {H : Type} {enc : TypeId × Value → H} {W : World} {n : Nat} {cs : List Value} {xs : List (DataW H × List MemPlace)} {i k : Nat} (hl : xs.length = k) (hi : i < k)
    (h : DataW.trod enc P W 0 (fun _ => true) true n T cs = xs[i]?) : ∃ y : α, d.K W y cs ∧ φ y := by
  rw [List.getElem?_eq_getElem (by omega)] at h
  exact hd H enc W n cs _ h

end Go.Proofs.Ytinbciedkhjcmaa.Opn
