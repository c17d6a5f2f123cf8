/- Tables of the library that a row lays: what its condition says of them, as the known globals ask it. -/
import Derived.Test.YtiaokhgfolbhnaaDoorAvW
import Derived.Lib.LaidTab
import Derived.LaidHandle
namespace Go.Av
open Go Go.Lib
theorem laid_data {P : Program} {l : List (String × DataW Unit)} {W : World} (h : laidMetH P l W) : laidMet P (l.filter fun x => x.2.handleName?.isNone) W := by
  unfold laidMetH at h
  split at h
  · rename_i e
    rw [List.filter_eq_self.2]
    · exact h
    · intro a ha
      have := List.filter_eq_nil_iff.1 e a ha
      cases hq : a.2.handleName? <;> simp_all
  · exact h.1
theorem laid_mem {P : Program} {w : World} {n : String} {d : DataW Unit} : ∀ {l : List (String × DataW Unit)} {ps : List MemPlace}, DataW.LaidVars P w l ps → (n, d) ∈ l →
    ∃ g t cs fuel p, P.globalNamed n = some g ∧ (P.globals[g]?).map (·.type) = some t ∧ w.var? P n = some cs ∧ DataW.trod (fun _ => ()) P w 0 (fun _ => true) false fuel t cs.toList = some (d, p) := by
  intro l
  induction l with
  | nil => intro _ _ h; cases h
  | cons x r ih =>
    obtain ⟨n', d'⟩ := x
    intro ps h hm
    obtain ⟨g, t, cs, fuel, p, q, h1, h2, h3, h4, h5, _⟩ := h
    cases hm with
    | head => exact ⟨g, t, cs, fuel, p, h1, h2, h3, h4⟩
    | tail _ hm => exact ih h5 hm
theorem tab_of_laid {P : Program} {l : List (String × DataW Unit)} {W : World} {name : String} {k : IntKind} {zs : List Int} {g : Nat} {t e : TypeId} {n : Nat}
    (hg : P.globalNamed name = some g) (hty : (P.globals[g]?).map (·.type) = some t) (ht : P.underlying t = some (.array n e)) (he : P.underlying e = some (.int k)) (hce : P.cellsOf e = 1) (hct : P.cellsOf t = n)
    (hm : (name, tabData k zs) ∈ l) (h : laidMetH P l W) : ∃ t z, W.heap[g]? = some (.cells (zs.map fun z => Value.int k z).toArray t z) := by
  obtain ⟨g', t', cs, fuel, p, hg', ht', hvar, hd⟩ := laid_mem (laid_data h).choose_spec.1 (List.mem_filter.2 ⟨hm, rfl⟩)
  obtain rfl := Option.some.inj (hg.symm.trans hg')
  obtain rfl := Option.some.inj (hty.symm.trans ht')
  have e2 := cells_of_tab ht he hce hct hd
  simp only [World.var?, hg, Option.bind_some] at hvar
  split at hvar
  · rename_i c a z hz
    obtain rfl := Option.some.inj hvar
    exact ⟨_, _, by rw [hz, ← e2]⟩
  · cases hvar
/-- The same of a type's handle: the one listed. -/
theorem handle_of_laid {P : Program} {d : DataW Unit} {W : World} {vn : String} {name : List UInt8} {g u tx k : Nat} (hd : d.handleName? = some name) (hf : d.funcsIn? = none) (hg : P.globalNamed vn = some g) (hrt : (P.cutTypes.find? (·.1 == "internal/reflectlite.rtype")).map (·.2) = some u)
    (hn : P.types.size = k) (hone : ((List.range k).filter fun t => P.rowNamed t name) = [tx]) (h : laidMetH P [(vn, d)] W) : ∃ t z, W.heap[g]? = some (.cells #[.iface u (.agg #[typeHandle P tx])] t z) := by
  have h' : handlesMet P [(vn, d)] W := by
    have e : ([(vn, d)].filter fun x => x.2.handleName?.isSome) = [(vn, d)] := by simp [hd]
    unfold laidMetH at h
    rw [e] at h
    exact h.2
  have hx := h' _ (List.mem_singleton.2 rfl)
  simp only [hf] at hx
  obtain ⟨name', u', ty, e1, e2, e3, e4, e5⟩ := hx
  obtain rfl := Option.some.inj (hd.symm.trans e1)
  obtain rfl := Option.some.inj (hrt.symm.trans e2)
  have hm : ty ∈ (List.range k).filter fun t => P.rowNamed t name := List.mem_filter.2 ⟨List.mem_range.2 (by rw [← hn]; exact e3), e4⟩
  rw [hone] at hm
  obtain rfl := List.mem_singleton.1 hm
  simp only [World.var?, hg, Option.bind_some] at e5
  split at e5
  · rename_i c a z hz
    obtain rfl := Option.some.inj e5
    exact ⟨_, _, hz⟩
  · cases e5
end Go.Av
