/- What a label parameter reads as; marks as bits. -/
import Derived.Test.YtffbdnnmpopieaaOpen
namespace Go.Proofs.Ytffbdnnmpopieaa.LblP
open Go.RowKit Go.Proofs.YtffbdnnmpopieaaW.PrintWords
open Go.ChangeShapes Go.WideShapes Go.ChangeAt
set_option linter.unusedVariables false
theorem csz23 : Try.prog.cellsOf 23 = 2 := by kernel_rfl
theorem csz3 : Try.prog.cellsOf 3 = 1 := by kernel_rfl
theorem opens23 : Opn.Opens Try.prog 23 (Kd.pair (Kd.int .i64) (Kd.int .i64)) (fun z_ => ((Lit.int .i64 z_.1).wf = true ∧ (Lit.int .i64 z_.2).wf = true)) := by
  intro H enc W fuel cs x h
  obtain ⟨xs, m, _, _, hl, hxl, hf⟩ := DataW.trod_struct Try.underlying23 h
  have hxl' : xs.length = 2 := hxl
  have hl' : cs.length = 2 := hl.trans csz23
  obtain ⟨y0, k0_, p0⟩ := Opn.opens_field (Opn.opens_int Try.underlying3) hxl' (by decide) (hf 0 _ rfl)
  replace k0_ : ((Kd.int .i64)).K W y0 ((cs.drop 0).take 1) := by have h_ : ((Kd.int .i64)).K W y0 ((cs.drop 0).take (Try.prog.cellsOf 3)) := k0_; rw [csz3] at h_; exact h_
  obtain ⟨y1, k1_, p1⟩ := Opn.opens_field (Opn.opens_int Try.underlying3) hxl' (by decide) (hf 1 _ rfl)
  replace k1_ : ((Kd.int .i64)).K W y1 ((cs.drop 1).take 1) := by have h_ : ((Kd.int .i64)).K W y1 ((cs.drop 1).take (Try.prog.cellsOf 3)) := k1_; rw [csz3] at h_; exact h_
  rw [List.take_of_length_le (by simp [hl'])] at k1_
  exact ⟨⟨y0, y1⟩, ⟨(cs.drop 0).take 1, cs.drop 1, Opn.cut_at cs 0 1, k0_, k1_⟩, ⟨p0, p1⟩⟩
abbrev kl : Kd (Int × Int) := Kd.pair (Kd.int .i64) (Kd.int .i64)
theorem agg_of {cs : Array Value} {x : Int × Int} {W : World} (hx : kl.K W x (Value.cells (.agg cs)).toList) : cs = #[.int .i64 x.1, .int .i64 x.2] := by
  obtain ⟨_, _, hc, rfl, rfl⟩ := hx
  have h : cs.toList = [.int .i64 x.1, .int .i64 x.2] := hc
  rw [← Array.toList_inj]; exact h
theorem fin16 (a : Int) (h0 : 0 ≤ a) (h1 : a ≤ 15) : ∃ i : Fin 16, a = (i.val : Int) := ⟨⟨a.toNat, by omega⟩, by simp only; omega⟩
theorem within16 : ∀ a b : Fin 16, (Go.bits .or .i64 (a.val : Int) (b.val : Int) == (b.val : Int)) = (Go.bits .andNot .i64 (a.val : Int) (b.val : Int) == 0) := by decide +kernel
theorem within (a b : Int) (a0 : 0 ≤ a) (a1 : a ≤ 15) (b0 : 0 ≤ b) (b1 : b ≤ 15) : (Go.bits .or .i64 a b == b) = (Go.bits .andNot .i64 a b == 0) := by
  obtain ⟨i, rfl⟩ := fin16 a a0 a1
  obtain ⟨j, rfl⟩ := fin16 b b0 b1
  exact within16 i j
end Go.Proofs.Ytffbdnnmpopieaa.LblP
