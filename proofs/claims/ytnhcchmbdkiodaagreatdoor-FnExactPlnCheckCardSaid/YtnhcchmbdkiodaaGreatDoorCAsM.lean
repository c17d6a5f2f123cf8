/- errors.As as a promise of the engine. -/
import Derived.Test.YtnhcchmbdkiodaaGreatDoorCAs
set_option maxRecDepth 100000
set_option linter.unusedSimpArgs false
set_option linter.unusedVariables false
namespace Go.Proofs.YtnhcchmbdkiodaaGreatDoor.As
open Go Go.Av Go.RowKit Go.Extern.Stop Go.Stop Go.Extern Go.Proofs
/-- errors.As, in the engine's words: at an error that is a fault. -/
theorem asM {P : Program} [Known P] (hP : P = Tryz.prog) (hk : (0, #[Value.iface 143 (.agg #[.pointer (some ⟨1, 61, none⟩)])]) ∈ Known.tab P) (c k a b : Int) :
    FunM P 20 1 [.iface 65 (.agg [.int .i64 c, .int .i64 k]), .iface 67 (.cp 0 0 0)] [(0, ⟨2, [[.int .i64 a, .int .i64 b]], [], true⟩)] (.bool true) [(0, ⟨2, [[.int .i64 c, .int .i64 k]], [], true⟩)] := by
  subst hP
  refine ⟨Go.Av.enters_of Tryz.func20 (by kernel_rfl) (by kernel_rfl), fun B vs hBn hF hFb hargs hh => ?_⟩
  obtain ⟨v1, r1, F1, G1, rfl, ⟨u1, rfl, cs1, rfl, hcs⟩, ⟨v2, r2, F2, G2, rfl, ⟨u2, rfl, hlt, ⟨bt, hmb, rfl⟩, _⟩, ⟨rfl, _⟩, _⟩, _⟩ := hargs
  obtain ⟨x1, s1, _, _, rfl, ⟨rfl, hc, _⟩, ⟨x2, s2, _, _, rfl, ⟨rfl, hkk, _⟩, ⟨rfl, _⟩, _⟩, _⟩ := hcs
  obtain ⟨H1, H2, hob, hz, hsum⟩ := hh
  obtain ⟨b', cc, tt, FR, q1, q2, q3, q4, q5, q6, q7, q8, q9⟩ := hob.rows (by simp)
  obtain rfl : bt = b' := Option.some.inj (hmb.symm.trans q1)
  obtain ⟨t, z, hg⟩ := B.gx.at_ _ hk
  have hcc : 2 ≤ cc.size := by
    rw [q7]
    have : 1 ≤ (B.mu 0).cap := q4
    show 2 ≤ (B.mu 0).cap * 2
    omega
  have hb1 : B.F bt ≠ 0 := by rw [hsum, q9]; simp
  have q6' : B.w.heap[bt]? = some (.cells cc tt (0, 0)) := q6
  have hh := as_hit c k bt cc tt B.w (by simp only [World.cell?, hg]; rfl) q6' hcc
  have hadr : (⟨bt, 0 * ((cx B B.w B.mu B.F 1).mu 0).e + 0, none⟩ : Addr) = ⟨bt, 0, none⟩ := by simp
  rw [hadr]
  refine hh.mono fun e w' ⟨he, hw⟩ => ?_
  subst hw
  have hbl : bt < B.w.heap.size := (Array.getElem?_eq_some_iff.1 q6').1
  have hD : (wD B.w bt (.int .i64 c) (.int .i64 k)).heap = (((B.w.heap.push (.cells #[.pointer (some ⟨bt, 0, none⟩)] 67)).push (.cells #[.pointer (some ⟨1, 67, none⟩), .pointer (some ⟨B.w.heap.size, 0, none⟩), .int .u64 150] 101)).push (.cells #[.pointer (some ⟨1, 67, none⟩), .pointer (some ⟨B.w.heap.size, 0, none⟩), .int .u64 150] 101)).push (.cells #[.int .i64 c, .int .i64 k] 65) := rfl
  have hDs : (wD B.w bt (.int .i64 c) (.int .i64 k)).heap.size = B.w.heap.size + 4 := by rw [hD]; simp
  have hDo : ∀ y, y < B.w.heap.size → (wD B.w bt (.int .i64 c) (.int .i64 k)).heap[y]? = B.w.heap[y]? := fun y hy => by
    rw [hD, Array.getElem?_push_lt (by simp; omega), Array.getElem_push_lt (by simp; omega), Array.getElem_push_lt (by simp; omega), Array.getElem_push_lt hy]
    exact (Array.getElem?_eq_getElem hy).symm
  obtain ⟨s1, s2, s3, s4⟩ := setCells_same [.int .i64 c, .int .i64 k] (wD B.w bt (.int .i64 c) (.int .i64 k)) bt 0
  have hset := setCells_heap [.int .i64 c, .int .i64 k] (wD B.w bt (.int .i64 c) (.int .i64 k)) bt 0 cc tt (0, 0) ((hDo bt hbl).trans q6')
  have hw0 : (wr cc 0 [.int .i64 c, .int .i64 k])[0]? = some (Value.int .i64 c) := by
    have := wr_in [.int .i64 c, .int .i64 k] cc 0 0 (.int .i64 c) (by simpa using hcc) rfl
    simpa using this
  have hw1 : (wr cc 0 [.int .i64 c, .int .i64 k])[1]? = some (Value.int .i64 k) := by
    have := wr_in [.int .i64 c, .int .i64 k] cc 0 1 (.int .i64 k) (by simpa using hcc) rfl
    simpa using this
  let F' : Foot := fun x => if x = bt then 1 else 0
  refine ⟨_, _, ⟨rfl, rfl⟩, _, B.mu, 1, F', fun _ => 0, F', he, by omega, fun _ _ => rfl, ⟨s1, s2, s3, ?_, fun y hy hy0 => ?_, fun y => ?_, fun y hy => ?_⟩, fun _ => by simp [F'], ⟨rfl, fun _ => rfl⟩, ?_⟩
  · rw [s4, hDs]; omega
  · rw [setCells_other _ _ _ _ _ (fun e => hb1 (by rw [← e]; exact hy0)), hDo y hy]
  · show (if y = bt then 1 else 0) ≤ 1
    split <;> omega
  · have : y = bt := Classical.byContradiction fun h => hy (if_neg h)
    subst this
    exact ⟨by rw [s4, hDs]; omega, .inr hb1⟩
  · refine ⟨F', fun _ => 0, ⟨by show 0 < 1; omega, .inr ⟨bt, _, tt, fun _ => 0, q1, q2, q3, q4, q5, hset, by rw [wr_size]; exact q7, ?_, fun x => rfl⟩⟩, fun _ => rfl, fun x => rfl⟩
    exact ⟨fun _ => 0, fun _ => 0, rfl, ⟨_, fun _ => 0, fun _ => 0, hw0, rfl, ⟨rfl, hc, fun _ => rfl⟩, ⟨_, fun _ => 0, fun _ => 0, hw1, rfl, ⟨rfl, hkk, fun _ => rfl⟩, fun _ => rfl, fun _ => rfl⟩, fun _ => rfl⟩, fun _ => rfl, fun _ => rfl⟩
/-- errors.As at no error. -/
theorem asN {P : Program} [Known P] (hP : P = Tryz.prog) (a b : Int) :
    FunM P 20 1 [.nilif, .iface 67 (.cp 0 0 0)] [(0, ⟨2, [[.int .i64 a, .int .i64 b]], [], true⟩)] (.bool false) [(0, ⟨2, [[.int .i64 a, .int .i64 b]], [], true⟩)] := by
  subst hP
  refine ⟨Go.Av.enters_of Tryz.func20 (by kernel_rfl) (by kernel_rfl), fun B vs hBn hF hFb hargs hh => ?_⟩
  obtain ⟨v1, r1, F1, G1, rfl, ⟨rfl, _⟩, ⟨v2, r2, F2, G2, rfl, _, ⟨rfl, _⟩, _⟩, _⟩ := hargs
  refine (as_nil v2 B.w).mono fun e w' ⟨he, hw⟩ => ?_
  subst hw
  exact ⟨_, _, ⟨rfl, rfl⟩, _, B.mu, 1, B.F, fun _ => 0, B.F, he, by omega, fun _ _ => rfl, ⟨rfl, rfl, rfl, Nat.le_refl _, fun _ _ _ => rfl, hF, fun y hy => ⟨hFb y hy, .inr hy⟩⟩, fun _ => by simp, ⟨rfl, fun _ => rfl⟩, hh⟩
end Go.Proofs.YtnhcchmbdkiodaaGreatDoor.As
