/- The law FnExactCelInput, from its printed contract. -/
import Derived.Test.YtinbciedkhjcmaaZ23
import Derived.Test.YtinbciedkhjcmaaZCelL
import Derived.Test.YtinbciedkhjcmaaOpen
namespace Go.Proofs.Ytinbciedkhjcmaa.ACelInput
open Go.RowKit Go.Proofs.YtinbciedkhjcmaaW.PrintWords Go.Proofs.Ytinbciedkhjcmaa.Z
set_option linter.unusedVariables false
open Go.ChangeShapes Go.WideShapes Go.ChangeAt
theorem csz3 : Try.prog.cellsOf 3 = 1 := by kernel_rfl
theorem csz24 : Try.prog.cellsOf 24 = 4 := by kernel_rfl
theorem csz22 : Try.prog.cellsOf 22 = 1 := by kernel_rfl
theorem csz5 : Try.prog.cellsOf 5 = 1 := by kernel_rfl
theorem csz27 : Try.prog.cellsOf 27 = 5 := by kernel_rfl
theorem csz25 : Try.prog.cellsOf 25 = 1 := by kernel_rfl
def phi22 (z_ : List (Int)) : Prop := (z_.length ≤ maxLen ∧ ∀ y_ ∈ z_, (Lit.int .i64 y_).wf = true)
theorem opens22 : Opn.Opens Try.prog 22 (Kd.slice 3 (Kd.int .i64)) (fun z_ => phi22 z_) := Opn.opens_slice Try.underlying22 csz3 (Opn.opens_int Try.underlying3)
def phi24 (z_ : (Int) × (List (Int)) × (List (Int)) × (Int)) : Prop := ((Lit.int .i64 z_.1).wf = true ∧ phi22 z_.2.1 ∧ phi22 z_.2.2.1 ∧ (Lit.int .i64 z_.2.2.2).wf = true)
theorem opens24 : Opn.Opens Try.prog 24 (Kd.pair (Kd.int .i64) (Kd.pair (Kd.slice 3 (Kd.int .i64)) (Kd.pair (Kd.slice 3 (Kd.int .i64)) (Kd.int .i64)))) (fun z_ => phi24 z_) := by
  intro H enc W fuel cs x h
  obtain ⟨xs, m, _, _, hl, hxl, hf⟩ := DataW.trod_struct Try.underlying24 h
  have hxl' : xs.length = 4 := hxl
  have hl' : cs.length = 4 := hl.trans csz24
  obtain ⟨y0, k0_, p0⟩ := Opn.opens_field (Opn.opens_int Try.underlying3) hxl' (by decide) (hf 0 _ rfl)
  replace k0_ : ((Kd.int .i64)).K W y0 ((cs.drop 0).take 1) := by have h_ : ((Kd.int .i64)).K W y0 ((cs.drop 0).take (Try.prog.cellsOf 3)) := k0_; rw [csz3] at h_; exact h_
  obtain ⟨y1, k1_, p1⟩ := Opn.opens_field opens22 hxl' (by decide) (hf 1 _ rfl)
  replace k1_ : ((Kd.slice 3 (Kd.int .i64))).K W y1 ((cs.drop 1).take 1) := by have h_ : ((Kd.slice 3 (Kd.int .i64))).K W y1 ((cs.drop 1).take (Try.prog.cellsOf 22)) := k1_; rw [csz22] at h_; exact h_
  obtain ⟨y2, k2_, p2⟩ := Opn.opens_field opens22 hxl' (by decide) (hf 2 _ rfl)
  replace k2_ : ((Kd.slice 3 (Kd.int .i64))).K W y2 ((cs.drop 2).take 1) := by have h_ : ((Kd.slice 3 (Kd.int .i64))).K W y2 ((cs.drop 2).take (Try.prog.cellsOf 22)) := k2_; rw [csz22] at h_; exact h_
  obtain ⟨y3, k3_, p3⟩ := Opn.opens_field (Opn.opens_int Try.underlying3) hxl' (by decide) (hf 3 _ rfl)
  replace k3_ : ((Kd.int .i64)).K W y3 ((cs.drop 3).take 1) := by have h_ : ((Kd.int .i64)).K W y3 ((cs.drop 3).take (Try.prog.cellsOf 3)) := k3_; rw [csz3] at h_; exact h_
  rw [List.take_of_length_le (by simp [hl'])] at k3_
  exact ⟨⟨y0, y1, y2, y3⟩, ⟨(cs.drop 0).take 1, cs.drop 1, Opn.cut_at cs 0 1, k0_, ⟨(cs.drop 1).take 1, cs.drop 2, Opn.cut_at cs 1 1, k1_, ⟨(cs.drop 2).take 1, cs.drop 3, Opn.cut_at cs 2 1, k2_, k3_⟩⟩⟩, ⟨p0, p1, p2, p3⟩⟩
def phi25 (z_ : List (Int)) : Prop := (z_.length ≤ maxLen ∧ ∀ y_ ∈ z_, (Lit.int .u8 y_).wf = true)
theorem opens25 : Opn.Opens Try.prog 25 (Kd.slice 5 (Kd.int .u8)) (fun z_ => phi25 z_) := Opn.opens_slice Try.underlying25 csz5 (Opn.opens_int Try.underlying5)
def phi27 (z_ : ((Int) × (List (Int)) × (List (Int)) × (Int)) × (List (Int))) : Prop := (phi24 z_.1 ∧ phi25 z_.2)
theorem opens27 : Opn.Opens Try.prog 27 (Kd.pair (Kd.pair (Kd.int .i64) (Kd.pair (Kd.slice 3 (Kd.int .i64)) (Kd.pair (Kd.slice 3 (Kd.int .i64)) (Kd.int .i64)))) (Kd.slice 5 (Kd.int .u8))) (fun z_ => phi27 z_) := by
  intro H enc W fuel cs x h
  obtain ⟨xs, m, _, _, hl, hxl, hf⟩ := DataW.trod_struct Try.underlying27 h
  have hxl' : xs.length = 2 := hxl
  have hl' : cs.length = 5 := hl.trans csz27
  obtain ⟨y0, k0_, p0⟩ := Opn.opens_field opens24 hxl' (by decide) (hf 0 _ rfl)
  replace k0_ : ((Kd.pair (Kd.int .i64) (Kd.pair (Kd.slice 3 (Kd.int .i64)) (Kd.pair (Kd.slice 3 (Kd.int .i64)) (Kd.int .i64))))).K W y0 ((cs.drop 0).take 4) := by have h_ : ((Kd.pair (Kd.int .i64) (Kd.pair (Kd.slice 3 (Kd.int .i64)) (Kd.pair (Kd.slice 3 (Kd.int .i64)) (Kd.int .i64))))).K W y0 ((cs.drop 0).take (Try.prog.cellsOf 24)) := k0_; rw [csz24] at h_; exact h_
  obtain ⟨y1, k1_, p1⟩ := Opn.opens_field opens25 hxl' (by decide) (hf 1 _ rfl)
  replace k1_ : ((Kd.slice 5 (Kd.int .u8))).K W y1 ((cs.drop 4).take 1) := by have h_ : ((Kd.slice 5 (Kd.int .u8))).K W y1 ((cs.drop 4).take (Try.prog.cellsOf 25)) := k1_; rw [csz25] at h_; exact h_
  rw [List.take_of_length_le (by simp [hl'])] at k1_
  exact ⟨⟨y0, y1⟩, ⟨(cs.drop 0).take 4, cs.drop 4, Opn.cut_at cs 0 4, k0_, k1_⟩, ⟨p0, p1⟩⟩
abbrev I := Kd.int .i64
abbrev L := Kd.slice 3 (Kd.int .i64)
abbrev kc : Kd ((Int × List Int × List Int × Int) × List Int) := Kd.pair (Kd.pair I (Kd.pair L (Kd.pair L I))) (Kd.slice 5 (Kd.int .u8))
theorem con (cs0 : Array Value) (x0 : (Int × List Int × List Int × Int) × List Int) (x1 : Int) (W : World) (hx0 : kc.K W x0 (Value.cells (.agg cs0)).toList) (hp0 : phi27 x0) (hp1 : (Lit.int .i64 x1).wf = true) :
    Calls Try.prog 3 #[.agg cs0, .int .i64 x1] W fun e w' => e = .returned (.bool true) ∧ Below W.heap.size W w' := by
  obtain ⟨⟨a, l1, l2, b⟩, l4⟩ := x0
  obtain ⟨c1, c2, hc, ⟨_, _, rfl, rfl, _, _, rfl, ⟨A1, cp1, rfl, hle1, hC1⟩, _, _, rfl, ⟨A2, cp2, rfl, hle2, hC2⟩, rfl⟩, ⟨A4, cp4, rfl, hle4, hC4⟩⟩ := hx0
  obtain rfl : cs0 = #[.int .i64 a, .slice A1 l1.length cp1, .slice A2 l2.length cp2, .int .i64 b, .slice A4 l4.length cp4] := by rw [← Array.toList_inj]; exact hc
  obtain ⟨k, hk⟩ := ZCelL.law a l1 l2 b l4 x1 hp0.1.2.1.1 hp0.1.2.2.1.1 hp0.2.1
  exact laws_FnExactCelInput.calls k a A1 cp1 l1 A2 cp2 l2 b A4 cp4 l4 x1 true W hC1 hle1 hC2 hle2 hC4 hle4 hk ⟨rfl⟩
end Go.Proofs.Ytinbciedkhjcmaa.ACelInput
