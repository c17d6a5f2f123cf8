/- The law FnExactCodOk, from its printed contract. -/
import Derived.Test.YtffbdnnmpopieaaC16
import Derived.Test.YtffbdnnmpopieaaCCodL
import Derived.Test.YtffbdnnmpopieaaOpen
namespace Go.Proofs.Ytffbdnnmpopieaa.ACodOk
open Go.RowKit Go.Proofs.YtffbdnnmpopieaaW.PrintWords Go.Proofs.Ytffbdnnmpopieaa.C
set_option linter.unusedVariables false
open Go.ChangeShapes Go.WideShapes Go.ChangeAt
theorem csz76 : Try.prog.cellsOf 76 = 4 := by kernel_rfl
theorem csz3 : Try.prog.cellsOf 3 = 1 := by kernel_rfl
def phi76 (z_ : S76) : Prop := ((Lit.int .i64 z_.f0).wf = true ∧ (Lit.int .i64 z_.f1).wf = true ∧ (Lit.int .i64 z_.f2).wf = true ∧ (Lit.int .i64 z_.f3).wf = true)
theorem opens76 : Opn.Opens Try.prog 76 k76 (fun z_ => phi76 z_) := by
  intro H enc W fuel cs x h
  obtain ⟨xs, m, _, _, hl, hxl, hf⟩ := DataW.trod_struct Try.underlying76 h
  have hxl' : xs.length = 4 := hxl
  have hl' : cs.length = 4 := hl.trans csz76
  obtain ⟨y0, k0_, p0⟩ := Opn.opens_field (Opn.opens_int Try.underlying3) hxl' (by decide) (hf 0 _ rfl)
  replace k0_ : ((Kd.int .i64)).K W y0 ((cs.drop 0).take 1) := by have h_ : ((Kd.int .i64)).K W y0 ((cs.drop 0).take (Try.prog.cellsOf 3)) := k0_; rw [csz3] at h_; exact h_
  obtain ⟨y1, k1_, p1⟩ := Opn.opens_field (Opn.opens_int Try.underlying3) hxl' (by decide) (hf 1 _ rfl)
  replace k1_ : ((Kd.int .i64)).K W y1 ((cs.drop 1).take 1) := by have h_ : ((Kd.int .i64)).K W y1 ((cs.drop 1).take (Try.prog.cellsOf 3)) := k1_; rw [csz3] at h_; exact h_
  obtain ⟨y2, k2_, p2⟩ := Opn.opens_field (Opn.opens_int Try.underlying3) hxl' (by decide) (hf 2 _ rfl)
  replace k2_ : ((Kd.int .i64)).K W y2 ((cs.drop 2).take 1) := by have h_ : ((Kd.int .i64)).K W y2 ((cs.drop 2).take (Try.prog.cellsOf 3)) := k2_; rw [csz3] at h_; exact h_
  obtain ⟨y3, k3_, p3⟩ := Opn.opens_field (Opn.opens_int Try.underlying3) hxl' (by decide) (hf 3 _ rfl)
  replace k3_ : ((Kd.int .i64)).K W y3 ((cs.drop 3).take 1) := by have h_ : ((Kd.int .i64)).K W y3 ((cs.drop 3).take (Try.prog.cellsOf 3)) := k3_; rw [csz3] at h_; exact h_
  rw [List.take_of_length_le (by simp [hl'])] at k3_
  exact ⟨⟨y0, y1, y2, y3⟩, ⟨(cs.drop 0).take 1, cs.drop 1, Opn.cut_at cs 0 1, k0_, ⟨(cs.drop 1).take 1, cs.drop 2, Opn.cut_at cs 1 1, k1_, ⟨(cs.drop 2).take 1, cs.drop 3, Opn.cut_at cs 2 1, k2_, k3_⟩⟩⟩, ⟨p0, p1, p2, p3⟩⟩
def phi44 (z_ : List (S76)) : Prop := (z_.length ≤ maxLen ∧ ∀ y_ ∈ z_, phi76 y_)
theorem opens44 : Opn.Opens Try.prog 44 (Kd.slice 76 k76) (fun z_ => phi44 z_) := Opn.opens_slice Try.underlying44 csz76 opens76
theorem con (a : Option Addr) (len cap : Nat) (x0 : List S76) (W : World) (hx0 : (Kd.slice 76 k76).K W x0 [.slice a len cap]) (hp0 : phi44 x0) :
    Calls Try.prog 12 #[.slice a len cap] W fun e w' => e = .returned (.bool true) ∧ Below W.heap.size W w' := by
  obtain ⟨A, c, hc, hle, hC⟩ := hx0
  injection hc with h1 _
  injection h1 with e1 e2 e3
  subst e1 e2 e3
  obtain ⟨k, hk⟩ := CCodL.law x0 hp0.1
  exact laws_FnExactCodOk.calls k a cap x0 true W hC hle hk ⟨rfl⟩
end Go.Proofs.Ytffbdnnmpopieaa.ACodOk
