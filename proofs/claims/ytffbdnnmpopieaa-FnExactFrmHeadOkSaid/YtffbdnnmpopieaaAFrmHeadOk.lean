/- The law FnExactFrmHeadOk, from its printed contract. -/
import Derived.Test.YtffbdnnmpopieaaE5
import Derived.Test.YtffbdnnmpopieaaEHeadL
import Derived.Test.YtffbdnnmpopieaaOpen
namespace Go.Proofs.Ytffbdnnmpopieaa.AFrmHeadOk
open Go.RowKit Go.Proofs.YtffbdnnmpopieaaW.PrintWords Go.Proofs.Ytffbdnnmpopieaa.E
set_option linter.unusedVariables false
open Go.ChangeShapes Go.WideShapes Go.ChangeAt
theorem csz36 : Try.prog.cellsOf 36 = 8 := by kernel_rfl
theorem csz3 : Try.prog.cellsOf 3 = 1 := by kernel_rfl
def phi36 (z_ : (Int) × (Int) × (Int) × (Int) × (Int) × (Int) × (Int) × (Int)) : Prop := ((Lit.int .i64 z_.1).wf = true ∧ (Lit.int .i64 z_.2.1).wf = true ∧ (Lit.int .i64 z_.2.2.1).wf = true ∧ (Lit.int .i64 z_.2.2.2.1).wf = true ∧ (Lit.int .i64 z_.2.2.2.2.1).wf = true ∧ (Lit.int .i64 z_.2.2.2.2.2.1).wf = true ∧ (Lit.int .i64 z_.2.2.2.2.2.2.1).wf = true ∧ (Lit.int .i64 z_.2.2.2.2.2.2.2).wf = true)
theorem opens36 : Opn.Opens Try.prog 36 (Kd.pair (Kd.int .i64) (Kd.pair (Kd.int .i64) (Kd.pair (Kd.int .i64) (Kd.pair (Kd.int .i64) (Kd.pair (Kd.int .i64) (Kd.pair (Kd.int .i64) (Kd.pair (Kd.int .i64) (Kd.int .i64)))))))) (fun z_ => phi36 z_) := by
  intro H enc W fuel cs x h
  obtain ⟨xs, m, _, _, hl, hxl, hf⟩ := DataW.trod_struct Try.underlying36 h
  have hxl' : xs.length = 8 := hxl
  have hl' : cs.length = 8 := hl.trans csz36
  obtain ⟨y0, k0_, p0⟩ := Opn.opens_field (Opn.opens_int Try.underlying3) hxl' (by decide) (hf 0 _ rfl)
  replace k0_ : ((Kd.int .i64)).K W y0 ((cs.drop 0).take 1) := by have h_ : ((Kd.int .i64)).K W y0 ((cs.drop 0).take (Try.prog.cellsOf 3)) := k0_; rw [csz3] at h_; exact h_
  obtain ⟨y1, k1_, p1⟩ := Opn.opens_field (Opn.opens_int Try.underlying3) hxl' (by decide) (hf 1 _ rfl)
  replace k1_ : ((Kd.int .i64)).K W y1 ((cs.drop 1).take 1) := by have h_ : ((Kd.int .i64)).K W y1 ((cs.drop 1).take (Try.prog.cellsOf 3)) := k1_; rw [csz3] at h_; exact h_
  obtain ⟨y2, k2_, p2⟩ := Opn.opens_field (Opn.opens_int Try.underlying3) hxl' (by decide) (hf 2 _ rfl)
  replace k2_ : ((Kd.int .i64)).K W y2 ((cs.drop 2).take 1) := by have h_ : ((Kd.int .i64)).K W y2 ((cs.drop 2).take (Try.prog.cellsOf 3)) := k2_; rw [csz3] at h_; exact h_
  obtain ⟨y3, k3_, p3⟩ := Opn.opens_field (Opn.opens_int Try.underlying3) hxl' (by decide) (hf 3 _ rfl)
  replace k3_ : ((Kd.int .i64)).K W y3 ((cs.drop 3).take 1) := by have h_ : ((Kd.int .i64)).K W y3 ((cs.drop 3).take (Try.prog.cellsOf 3)) := k3_; rw [csz3] at h_; exact h_
  obtain ⟨y4, k4_, p4⟩ := Opn.opens_field (Opn.opens_int Try.underlying3) hxl' (by decide) (hf 4 _ rfl)
  replace k4_ : ((Kd.int .i64)).K W y4 ((cs.drop 4).take 1) := by have h_ : ((Kd.int .i64)).K W y4 ((cs.drop 4).take (Try.prog.cellsOf 3)) := k4_; rw [csz3] at h_; exact h_
  obtain ⟨y5, k5_, p5⟩ := Opn.opens_field (Opn.opens_int Try.underlying3) hxl' (by decide) (hf 5 _ rfl)
  replace k5_ : ((Kd.int .i64)).K W y5 ((cs.drop 5).take 1) := by have h_ : ((Kd.int .i64)).K W y5 ((cs.drop 5).take (Try.prog.cellsOf 3)) := k5_; rw [csz3] at h_; exact h_
  obtain ⟨y6, k6_, p6⟩ := Opn.opens_field (Opn.opens_int Try.underlying3) hxl' (by decide) (hf 6 _ rfl)
  replace k6_ : ((Kd.int .i64)).K W y6 ((cs.drop 6).take 1) := by have h_ : ((Kd.int .i64)).K W y6 ((cs.drop 6).take (Try.prog.cellsOf 3)) := k6_; rw [csz3] at h_; exact h_
  obtain ⟨y7, k7_, p7⟩ := Opn.opens_field (Opn.opens_int Try.underlying3) hxl' (by decide) (hf 7 _ rfl)
  replace k7_ : ((Kd.int .i64)).K W y7 ((cs.drop 7).take 1) := by have h_ : ((Kd.int .i64)).K W y7 ((cs.drop 7).take (Try.prog.cellsOf 3)) := k7_; rw [csz3] at h_; exact h_
  rw [List.take_of_length_le (by simp [hl'])] at k7_
  exact ⟨⟨y0, y1, y2, y3, y4, y5, y6, y7⟩, ⟨(cs.drop 0).take 1, cs.drop 1, Opn.cut_at cs 0 1, k0_, ⟨(cs.drop 1).take 1, cs.drop 2, Opn.cut_at cs 1 1, k1_, ⟨(cs.drop 2).take 1, cs.drop 3, Opn.cut_at cs 2 1, k2_, ⟨(cs.drop 3).take 1, cs.drop 4, Opn.cut_at cs 3 1, k3_, ⟨(cs.drop 4).take 1, cs.drop 5, Opn.cut_at cs 4 1, k4_, ⟨(cs.drop 5).take 1, cs.drop 6, Opn.cut_at cs 5 1, k5_, ⟨(cs.drop 6).take 1, cs.drop 7, Opn.cut_at cs 6 1, k6_, k7_⟩⟩⟩⟩⟩⟩⟩, ⟨p0, p1, p2, p3, p4, p5, p6, p7⟩⟩
abbrev I := Kd.int .i64
abbrev kh : Kd (Int × Int × Int × Int × Int × Int × Int × Int) := Kd.pair I (Kd.pair I (Kd.pair I (Kd.pair I (Kd.pair I (Kd.pair I (Kd.pair I I))))))
theorem agg_of {cs : Array Value} {x : Int × Int × Int × Int × Int × Int × Int × Int} {W : World} (hx : kh.K W x (Value.cells (.agg cs)).toList) :
    cs = #[.int .i64 x.1, .int .i64 x.2.1, .int .i64 x.2.2.1, .int .i64 x.2.2.2.1, .int .i64 x.2.2.2.2.1, .int .i64 x.2.2.2.2.2.1, .int .i64 x.2.2.2.2.2.2.1, .int .i64 x.2.2.2.2.2.2.2] := by
  obtain ⟨_, _, hc, rfl, _, _, rfl, rfl, _, _, rfl, rfl, _, _, rfl, rfl, _, _, rfl, rfl, _, _, rfl, rfl, _, _, rfl, rfl, rfl⟩ := hx
  rw [← Array.toList_inj]; exact hc
theorem con (cs0 : Array Value) (x0 : Int × Int × Int × Int × Int × Int × Int × Int) (W : World) (hx0 : kh.K W x0 (Value.cells (.agg cs0)).toList) (hp0 : phi36 x0) :
    Calls Try.prog 8 #[.agg cs0] W fun e w' => e = .returned (.bool true) ∧ Below W.heap.size W w' := by
  obtain rfl := agg_of hx0
  refine laws_FnExactFrmHeadOk.calls 2 _ _ _ _ _ _ _ _ true W ?_ ⟨rfl⟩
  simp only [laws_FnExactFrmHeadOk.f, laws_toFrmHead.f, EHeadL.spec_head, impl_FrmHeadOk.f, Option.bind_some]
  simp
end Go.Proofs.Ytffbdnnmpopieaa.AFrmHeadOk
