/- Helper: short words for the closing steps that recur in the walks (their proofs are tried where they are used). -/
import Derived.Test.YtinbciedkhjcmaaWMore
namespace Go.Proofs.YtinbciedkhjcmaaW.PrintMore
open Go.RowKit Go.Proofs.YtinbciedkhjcmaaW.PrintWords Go.Proofs.YtinbciedkhjcmaaW.PrintLast
set_option linter.unusedVariables false

/-- The world is still as it was below the call's own blocks. -/
theorem hb_ {p : Prop} (h : p := by repeat (first | (with_reducible first | exact HB.out | apply below_alloc | apply pw_below_drewN | apply below_drew1 | refine below_set ?_ (Aside0.out (by with_reducible assumption))) | exact HB.out)) : p := h
/-- A box is what it was. -/
theorem bk_ {p : Prop} (h : p := by (with_reducible repeat (first | refine blk_drewN ?_ _ | refine blk_drew ?_ | refine blk_alloc ?_ _)); exact Aside0.out (by with_reducible assumption)) : p := h
/-- A new box lies behind the old ones. -/
theorem hg_ {p : Prop} (h : p := by rw [hg]; exact below_size hb_) : p := h
theorem nl_ {p : Prop} (h : p := by rw [hg]; exact Nat.ne_of_lt (blk_lt bk_)) : p := h
theorem ng_ {p : Prop} (h : p := by rw [hg]; exact Nat.ne_of_gt (blk_lt bk_)) : p := h
theorem ml_ {p : Prop} (h : p := by (try simp only [List.map_toArray, List.map_cons, List.map_nil]); first | done | rfl | (simp only [List.length_drop, List.length_take]; rfl)) : p := h
theorem as_ {p : Prop} (h : p := by first | (with_reducible assumption) | assumption) : p := h
theorem rs_ {p : Prop} (h : p := by first | rfl | (simp; done) | (simp [*]; done)) : p := h
theorem kr_ {p : Prop} (h : p := by (with_reducible repeat (first | apply Kd.R_alloc | apply Kd.R_drewN | apply Kd.R_drew)); exact Aside0.out (by with_reducible assumption)) : p := h

section
variable {P : Program} {ops : Array Oper} {rest : List Oper} {o : Oper} {a : Act} {Q : Exit → Act → World → Prop}
/-- A box, with all that is to be shown ahead. -/
theorem bx_ {W : World} {N : Tmp} {cs : Array Value} {t : TypeId}
    (h : ∀ g, g = W.heap.size → ∀ w1, w1.heap[g]? = some (.cells cs t (0, 0)) → Below W.heap.size W w1 → wpList P ops Q rest (a.put o.dst (.pointer (some ⟨g, 0, none⟩))) w1)
    (hd : o.dst = some N := by rfl) (hgd : o.guard = none := by rfl)
    (hrun : (execOp a.eval o).run P W = .ok (.value (.pointer (some ⟨W.heap.size, 0, none⟩))) (W.alloc (.cells cs t (0, 0))) := by first | (go_simp; done) | (go_simp; rfl)) :
    wpList P ops Q (o :: rest) a W := box_event hgd hd hrun h
end
end Go.Proofs.YtinbciedkhjcmaaW.PrintMore
