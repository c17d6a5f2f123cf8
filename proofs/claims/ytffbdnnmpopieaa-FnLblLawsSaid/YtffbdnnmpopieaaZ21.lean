-- Text written for this claim by the session's program wip/xprint.py over the kit's print. Not trusted: the checker reads it.
import Derived.Test.YtffbdnnmpopieaaZ0
import Derived.Test.YtffbdnnmpopieaaZ15
import Derived.Test.YtffbdnnmpopieaaZ17
import Derived.Test.YtffbdnnmpopieaaZ18
namespace Go.Proofs.Ytffbdnnmpopieaa.Z
open Go.RowKit Go.Proofs.YtffbdnnmpopieaaW.PrintWords Go.Proofs.YtffbdnnmpopieaaW.PrintLast Go.Proofs.YtffbdnnmpopieaaW.PrintMore
attribute [local go_sem] max2_int min2_int max_two min_two max_three min_three max_four min_four   -- for this text's walks alone
set_option linter.unusedVariables false
set_option linter.unusedSimpArgs false

/-! ### spec_DrawLblCommon: function 28 -/
def spec_DrawLblCommon.f (k : Nat) (l0 : List Int) : Option (Int × Int × Int × Int) := (spec_l30Open.f l0).bind fun bt279 => ((spec_l30Label.f k bt279.1 bt279.2).bind fun bt282 => ((spec_l30Near.f k bt279.1 bt282.2.2 bt282.1 bt282.2.1).bind fun bt286 => (some (bt282.1, bt282.2.1, bt286.1, bt286.2.1))))
theorem spec_DrawLblCommon.mono : ∀ a0 k, LeO (spec_DrawLblCommon.f k a0) (spec_DrawLblCommon.f (k + 1) a0) := by
  intro a0 k
  unfold spec_DrawLblCommon.f
  repeat' first
      | (with_reducible exact spec_l30Label.mono _ _ _)
      | (with_reducible exact spec_l30Near.mono _ _ _ _ _)
      | (with_reducible exact LeO.refl _)
      | (with_reducible exact LeO.none _)
      | (with_reducible refine LeO.ite ?_ ?_)
      | (with_reducible refine LeO.bind ?_ (fun _ => ?_))
      | exact spec_l30Label.mono _ _ _
      | exact spec_l30Near.mono _ _ _ _ _
      | exact LeO.none _
      | refine LeO.ite ?_ ?_
      | refine LeO.bind ?_ (fun _ => ?_)
set_option maxHeartbeats 8000000 in
set_option maxRecDepth 100000 in
theorem spec_DrawLblCommon.calls (k : Nat) (A0 : Option Addr) (c0 : Nat) (l0 : List Int) (r1 : Int) (r2 : Int) (r3 : Int) (r4 : Int) (w : World) (hr0 : Kd.C (Kd.int .u8) w A0 l0.length l0) (hc0 : l0.length ≤ c0) (h : spec_DrawLblCommon.f k l0 = some (r1, r2, r3, r4)) :
    Calls Try.prog 28 #[.slice A0 l0.length c0] w fun e w' => e = .returned (.tuple #[.agg #[.int .i64 r1, .int .i64 r2], .agg #[.int .i64 r3, .int .i64 r4]]) ∧ Below w.heap.size w w' := by
  have hu25 := Try.underlying25
  have HR0 := Aside0.mk hr0
  have HC0 := Aside0.mk hc0
  clear hr0 hc0
  have HB := Aside0.mk (Below.refl w.heap.size w)
  have H : ((spec_l30Open.f l0).bind fun bt279 => ((spec_l30Label.f k bt279.1 bt279.2).bind fun bt282 => ((spec_l30Near.f k bt279.1 bt282.2.2 bt282.1 bt282.2.1).bind fun bt286 => (some (bt282.1, bt282.2.1, bt286.1, bt286.2.1))))) = some (r1, r2, r3, r4) := h
  clear h
  replace H := Option.bind_eq_some_iff.mp H
  obtain ⟨⟨t279, t280⟩, A20, H⟩ := H
  replace H : ((spec_l30Label.f k t279 t280).bind fun bt282 => ((spec_l30Near.f k t279 bt282.2.2 bt282.1 bt282.2.1).bind fun bt286 => (some (bt282.1, bt282.2.1, bt286.1, bt286.2.1)))) = some (r1, r2, r3, r4) := H
  have A2 := Aside0.mk A20
  clear A20
  replace H := Option.bind_eq_some_iff.mp H
  obtain ⟨⟨t282, t283, t284⟩, A30, H⟩ := H
  replace H : ((spec_l30Near.f k t279 t284 t282 t283).bind fun bt286 => (some (t282, t283, bt286.1, bt286.2.1))) = some (r1, r2, r3, r4) := H
  have A3 := Aside0.mk A30
  clear A30
  replace H := Option.bind_eq_some_iff.mp H
  obtain ⟨⟨t286, t287, t288⟩, A40, H⟩ := H
  replace H : (some (t282, t283, t286, t287)) = some (r1, r2, r3, r4) := H
  have A4 := Aside0.mk A40
  clear A40
  simp only [Option.some.injEq, Prod.mk.injEq] at H
  obtain ⟨rfl, rfl, rfl, rfl⟩ := H
  go_enter Try.func28, Try.ntmps28
  try go_wp2_with (first | ((with_reducible refine gate_dst (N := 2) rfl ?_); refine bx_ (N := 2) (cs := #[.int .i64 0, .int .i64 0]) (t := 25) ?_; intro gb277 hg w5 hbox hb; have n0_ := Aside0.mk (below_step hb_ hb); have n1_ := Aside0.mk (hbox); have n2_ := Aside0.mk ((hg_ : w.heap.size ≤ gb277)); have n3_ := Aside0.mk ((hg_ : w.heap.size ≤ gb277)); clear HB; have HB := n0_; have BK277 := n1_; have GW277 := n2_; have GE277 := n3_; clear n0_ n1_ n2_ n3_; clear hb hbox hg) | ((with_reducible refine gate_dst (N := 3) rfl ?_); refine bx_ (N := 3) (cs := #[.int .i64 0, .int .i64 0]) (t := 25) ?_; intro gb278 hg w6 hbox hb; have n0_ := Aside0.mk (blk_below (g := gb277) (o := .cells #[.int .i64 0, .int .i64 0] 25 (0, 0)) bk_ hb); have n1_ := Aside0.mk (below_step hb_ hb); have n2_ := Aside0.mk (hbox); have n3_ := Aside0.mk ((hg_ : w.heap.size ≤ gb278)); have n4_ := Aside0.mk ((hg_ : w.heap.size ≤ gb278)); have n5_ := Aside0.mk ((nl_ : gb277 ≠ gb278)); have n6_ := Aside0.mk ((ng_ : gb278 ≠ gb277)); clear BK277; clear HB; have BK277 := n0_; have HB := n1_; have BK278 := n2_; have GW278 := n3_; have GE278 := n4_; have NB277_278 := n5_; have NB278_277 := n6_; clear n0_ n1_ n2_ n3_ n4_ n5_ n6_; clear hb hbox hg) | ((with_reducible refine gate_callee (f := 49) rfl ?_); refine goesL_ (some 7) rfl rfl Try.func49 (by kernel_rfl) rfl #[.slice A0 l0.length c0] rfl ml_ ?_; (with_reducible refine (spec_l30Open.calls _ _ l0 t279 t280 w _ ?side1 ?side2 ?side3 A2.out).mono ?_); (case side1 => repeat (first | (with_reducible first | exact HB.out | apply below_alloc | apply pw_below_drewN | apply below_drew1 | refine below_set ?_ GE277.out | refine below_set ?_ GE278.out) | exact HB.out)); (case side2 => exact HR0.out); (case side3 => exact HC0.out); rintro e w7 ⟨g281, rfl, hi, hb, hb2⟩; refine ⟨_, rfl, ?_⟩; have n0_ := Aside0.mk (blk_below (g := gb277) (o := .cells #[.int .i64 0, .int .i64 0] 25 (0, 0)) bk_ hb2); have n1_ := Aside0.mk (blk_below (g := gb278) (o := .cells #[.int .i64 0, .int .i64 0] 25 (0, 0)) bk_ hb2); have n2_ := Aside0.mk (hb); have n3_ := Aside0.mk (hi); have n4_ := Aside0.mk (IsS79.ne_blk hi (blk_below (g := gb277) (o := .cells #[.int .i64 0, .int .i64 0] 25 (0, 0)) bk_ hb2) (by decide)); have n5_ := Aside0.mk (Ne.symm (IsS79.ne_blk hi (blk_below (g := gb277) (o := .cells #[.int .i64 0, .int .i64 0] 25 (0, 0)) bk_ hb2) (by decide))); have n6_ := Aside0.mk (IsS79.ne_blk hi (blk_below (g := gb278) (o := .cells #[.int .i64 0, .int .i64 0] 25 (0, 0)) bk_ hb2) (by decide)); have n7_ := Aside0.mk (Ne.symm (IsS79.ne_blk hi (blk_below (g := gb278) (o := .cells #[.int .i64 0, .int .i64 0] 25 (0, 0)) bk_ hb2) (by decide))); clear BK277; clear BK278; clear HB; have BK277 := n0_; have BK278 := n1_; have HB := n2_; have HI281 := n3_; have NB281_277 := n4_; have NB277_281 := n5_; have NB281_278 := n6_; have NB278_281 := n7_; clear n0_ n1_ n2_ n3_ n4_ n5_ n6_ n7_; (try clear hb); (try clear hb2); (try clear hk); (try clear hi)) | ((with_reducible refine gate_callee (f := 50) rfl ?_); refine goesL_ (some 9) rfl rfl Try.func50 (by kernel_rfl) rfl #[.pointer (some ⟨g281, 0, none⟩)] rfl ml_ ?_; (with_reducible refine (spec_l30Label.calls k g281 t279 t280 t282 t283 t284 w _ ?side1 ?side2 A3.out).mono ?_); (case side1 => repeat (first | (with_reducible first | exact HI281.out | apply IsS79.alloc | apply IsS79.drewN | apply IsS79.drew | apply IsS79.set_1 | refine IsS79.far ?_ NB281_277.out _ | refine IsS79.far ?_ NB281_278.out _) | exact HI281.out)); (case side2 => repeat (first | (with_reducible first | exact HB.out | apply below_alloc | apply pw_below_drewN | apply below_drew1 | refine below_set ?_ (IsS79.ge HI281.out) | refine below_set ?_ GE277.out | refine below_set ?_ GE278.out) | exact HB.out)); rintro e w8 ⟨rfl, hi, hb, hk⟩; refine ⟨_, rfl, ?_⟩; have n0_ := Aside0.mk (KeepBut.blk hk (g' := gb277) (o := .cells #[.int .i64 0, .int .i64 0] 25 (0, 0)) bk_ NB277_281.out (by simp)); have n1_ := Aside0.mk (KeepBut.blk hk (g' := gb278) (o := .cells #[.int .i64 0, .int .i64 0] 25 (0, 0)) bk_ NB278_281.out (by simp)); have n2_ := Aside0.mk (hb); have n3_ := Aside0.mk (hi); clear BK277; clear BK278; clear HB; clear HI281; have BK277 := n0_; have BK278 := n1_; have HB := n2_; have HI281 := n3_; clear n0_ n1_ n2_ n3_; (try clear hb); (try clear hb2); (try clear hk); (try clear hi)) | ((with_reducible refine gate_dst (N := 5) rfl ?_); refine bx_ (N := 5) (cs := #[.int .i64 0, .int .i64 0]) (t := 25) ?_; intro gb285 hg w9 hbox hb; have n0_ := Aside0.mk (blk_below (g := gb277) (o := .cells #[.int .i64 0, .int .i64 0] 25 (0, 0)) bk_ hb); have n1_ := Aside0.mk (blk_below (g := gb278) (o := .cells #[.int .i64 0, .int .i64 0] 25 (0, 0)) bk_ hb); have n2_ := Aside0.mk (IsS79.below (by repeat (first | (with_reducible first | exact HI281.out | apply IsS79.alloc | apply IsS79.drewN | apply IsS79.drew | apply IsS79.set_1 | refine IsS79.far ?_ NB281_277.out _ | refine IsS79.far ?_ NB281_278.out _) | exact HI281.out)) hb); have n3_ := Aside0.mk (below_step (by repeat (first | (with_reducible first | exact HB.out | apply below_alloc | apply pw_below_drewN | apply below_drew1 | refine below_set ?_ (IsS79.ge HI281.out) | refine below_set ?_ GE277.out | refine below_set ?_ GE278.out) | exact HB.out)) hb); have n4_ := Aside0.mk (hbox); have n5_ := Aside0.mk ((by rw [hg]; exact (below_size (by repeat (first | (with_reducible first | exact HB.out | apply below_alloc | apply pw_below_drewN | apply below_drew1 | refine below_set ?_ (IsS79.ge HI281.out) | refine below_set ?_ GE277.out | refine below_set ?_ GE278.out) | exact HB.out))) : w.heap.size ≤ gb285)); have n6_ := Aside0.mk ((by rw [hg]; exact (below_size (by repeat (first | (with_reducible first | exact HB.out | apply below_alloc | apply pw_below_drewN | apply below_drew1 | refine below_set ?_ (IsS79.ge HI281.out) | refine below_set ?_ GE277.out | refine below_set ?_ GE278.out) | exact HB.out))) : w.heap.size ≤ gb285)); have n7_ := Aside0.mk ((nl_ : gb277 ≠ gb285)); have n8_ := Aside0.mk ((ng_ : gb285 ≠ gb277)); have n9_ := Aside0.mk ((nl_ : gb278 ≠ gb285)); have n10_ := Aside0.mk ((ng_ : gb285 ≠ gb278)); have n11_ := Aside0.mk ((by rw [hg]; exact Nat.ne_of_lt (IsS79.lt (show IsS79 w _ g281 t279 t284 from by repeat (first | (with_reducible first | exact HI281.out | apply IsS79.alloc | apply IsS79.drewN | apply IsS79.drew | apply IsS79.set_1 | refine IsS79.far ?_ NB281_277.out _ | refine IsS79.far ?_ NB281_278.out _) | exact HI281.out))) : g281 ≠ gb285)); have n12_ := Aside0.mk ((by rw [hg]; exact Nat.ne_of_gt (IsS79.lt (show IsS79 w _ g281 t279 t284 from by repeat (first | (with_reducible first | exact HI281.out | apply IsS79.alloc | apply IsS79.drewN | apply IsS79.drew | apply IsS79.set_1 | refine IsS79.far ?_ NB281_277.out _ | refine IsS79.far ?_ NB281_278.out _) | exact HI281.out))) : gb285 ≠ g281)); clear BK277; clear BK278; clear HI281; clear HB; have BK277 := n0_; have BK278 := n1_; have HI281 := n2_; have HB := n3_; have BK285 := n4_; have GW285 := n5_; have GE285 := n6_; have NB277_285 := n7_; have NB285_277 := n8_; have NB278_285 := n9_; have NB285_278 := n10_; have NB281_285 := n11_; have NB285_281 := n12_; clear n0_ n1_ n2_ n3_ n4_ n5_ n6_ n7_ n8_ n9_ n10_ n11_ n12_; clear hb hbox hg; have hnb10 := NB285_277.out; have hnc10 := NB277_285.out; have hnb11 := NB285_278.out; have hnc11 := NB278_285.out; have hnb12 := NB285_281.out; have hnc12 := NB281_285.out; have hcz13_0 : w9.cell? ⟨gb285, 0, none⟩ = some (.int .i64 0) := (blk_cell BK285.out 0).trans rfl; have hcz13_1 : w9.cell? ⟨gb285, 1, none⟩ = some (.int .i64 0) := (blk_cell BK285.out 1).trans rfl; have hfz13_0 := blk_frozen BK285.out 0; have hfz13_1 := blk_frozen BK285.out 1))
  have n0_ : Aside0 (((w9.setCell ⟨gb285, 0, none⟩ (.int .i64 t282)).setCell ⟨gb285, 1, none⟩ (.int .i64 t283)).heap[gb277]? = some (.cells #[.int .i64 0, .int .i64 0] 25 (0, 0))) := ⟨by (with_reducible repeat (first | refine blk_drewN ?_ _ | refine blk_drew ?_ | refine blk_alloc ?_ _)); refine blk_far ?_ NB277_285.out _; (with_reducible repeat (first | refine blk_drewN ?_ _ | refine blk_drew ?_ | refine blk_alloc ?_ _)); refine blk_far ?_ NB277_285.out _; (with_reducible repeat (first | refine blk_drewN ?_ _ | refine blk_drew ?_ | refine blk_alloc ?_ _)); exact BK277.out⟩
  have n1_ : Aside0 (((w9.setCell ⟨gb285, 0, none⟩ (.int .i64 t282)).setCell ⟨gb285, 1, none⟩ (.int .i64 t283)).heap[gb278]? = some (.cells #[.int .i64 0, .int .i64 0] 25 (0, 0))) := ⟨by (with_reducible repeat (first | refine blk_drewN ?_ _ | refine blk_drew ?_ | refine blk_alloc ?_ _)); refine blk_far ?_ NB278_285.out _; (with_reducible repeat (first | refine blk_drewN ?_ _ | refine blk_drew ?_ | refine blk_alloc ?_ _)); refine blk_far ?_ NB278_285.out _; (with_reducible repeat (first | refine blk_drewN ?_ _ | refine blk_drew ?_ | refine blk_alloc ?_ _)); exact BK278.out⟩
  have n2_ : Aside0 (((w9.setCell ⟨gb285, 0, none⟩ (.int .i64 t282)).setCell ⟨gb285, 1, none⟩ (.int .i64 t283)).heap[gb285]? = some (.cells #[.int .i64 t282, .int .i64 t283] 25 (0, 0))) := ⟨by (with_reducible repeat (first | refine blk_drewN ?_ _ | refine blk_drew ?_ | refine blk_alloc ?_ _)); refine blk_put (cs := #[.int .i64 t282, .int .i64 0]) ?_ 1 _ rfl; (with_reducible repeat (first | refine blk_drewN ?_ _ | refine blk_drew ?_ | refine blk_alloc ?_ _)); refine blk_put (cs := #[.int .i64 0, .int .i64 0]) ?_ 0 _ rfl; (with_reducible repeat (first | refine blk_drewN ?_ _ | refine blk_drew ?_ | refine blk_alloc ?_ _)); exact BK285.out⟩
  have n3_ : Aside0 (IsS79 w ((w9.setCell ⟨gb285, 0, none⟩ (.int .i64 t282)).setCell ⟨gb285, 1, none⟩ (.int .i64 t283)) g281 t279 t284) := ⟨by repeat (first | (with_reducible first | exact HI281.out | apply IsS79.alloc | apply IsS79.drewN | apply IsS79.drew | apply IsS79.set_1 | refine IsS79.far ?_ NB281_277.out _ | refine IsS79.far ?_ NB281_278.out _ | refine IsS79.far ?_ NB281_285.out _) | exact HI281.out)⟩
  have n4_ : Aside0 (Below w.heap.size w ((w9.setCell ⟨gb285, 0, none⟩ (.int .i64 t282)).setCell ⟨gb285, 1, none⟩ (.int .i64 t283))) := ⟨by repeat (first | (with_reducible first | exact HB.out | apply below_alloc | apply pw_below_drewN | apply below_drew1 | refine below_set ?_ (IsS79.ge HI281.out) | refine below_set ?_ GE277.out | refine below_set ?_ GE278.out | refine below_set ?_ GE285.out) | exact HB.out)⟩
  (try clear BK277)
  (try clear BK278)
  (try clear BK285)
  (try clear HI281)
  (try clear HB)
  generalize ((w9.setCell ⟨gb285, 0, none⟩ (.int .i64 t282)).setCell ⟨gb285, 1, none⟩ (.int .i64 t283)) = w14 at n0_ n1_ n2_ n3_ n4_ ⊢
  have BK277 := n0_
  have BK278 := n1_
  have BK285 := n2_
  have HI281 := n3_
  have HB := n4_
  clear n0_ n1_ n2_ n3_ n4_
  have n0_ := Aside0.mk (blk_drew BK277.out)
  have n1_ := Aside0.mk (blk_drew BK278.out)
  have n2_ := Aside0.mk (blk_drew BK285.out)
  have n3_ := Aside0.mk (IsS79.drew HI281.out)
  have n4_ := Aside0.mk (below_drew1 HB.out)
  clear BK277
  clear BK278
  clear BK285
  clear HI281
  clear HB
  have BK277 := n0_
  have BK278 := n1_
  have BK285 := n2_
  have HI281 := n3_
  have HB := n4_
  clear n0_ n1_ n2_ n3_ n4_
  refine start_ (n := 6) (S := fun w' => w'.cell? ⟨gb285, 0, none⟩ = some (.int .i64 t282) ∧ w'.cell? ⟨gb285, 1, none⟩ = some (.int .i64 t283)) (ds := []) #[false, false, false, false, false, false] (by kernel_rfl) rfl rfl ⟨(blk_cell BK285.out 0).trans rfl, (blk_cell BK285.out 1).trans rfl⟩ (fun hHeld => ?_)
  generalize w14.drew = w15 at BK277 BK278 BK285 HI281 HB hHeld ⊢
  refine pure_ (i := 1) (N := some 11) (v := ?_) (a' := ?_) #[false, true, false, false, false, false] rfl rfl (by kernel_rfl) (fun _ _ _ h => h) (Or.inl ⟨by rfl, ?_⟩) ?_ ?_
  rotate_left
  · intro w'
    go_simp
    with_reducible rfl
  rotate_left
  · simp only [Act.put, List.setIfInBounds_toArray, List.set_cons_zero, List.set_cons_succ, i64_w, i32_w]
    rfl
  refine take_ (i := 0) (N := some 10) (v := ?_) (a' := ?_) #[true, true, false, false, false, false] rfl rfl (by kernel_rfl) (fun _ _ _ h => h) (Or.inl ⟨by rfl, ?_⟩) hHeld ?_ ?_
  rotate_left
  · rintro w' ⟨s0, s1⟩
    go_simp
    with_reducible rfl
  rotate_left
  · simp only [Act.put, List.setIfInBounds_toArray, List.set_cons_zero, List.set_cons_succ, i64_w, i32_w]
    rfl
  refine take_ (i := 2) (N := some 12) (v := ?_) (a' := ?_) #[true, true, true, false, false, false] rfl rfl (by kernel_rfl) (fun _ _ _ h => h) (Or.inl ⟨by rfl, ?_⟩) hHeld ?_ ?_
  rotate_left
  · rintro w' ⟨s0, s1⟩
    go_simp
    with_reducible rfl
  rotate_left
  · simp only [Act.put, List.setIfInBounds_toArray, List.set_cons_zero, List.set_cons_succ, i64_w, i32_w]
    rfl
  refine one_ (i := 3) (N := some 13) #[true, true, true, true, false, false] rfl rfl (by kernel_rfl) (by decide) (fun K hK => ?_)
  refine goes_ Try.func51 (by kernel_rfl) rfl #[.pointer (some ⟨g281, 0, none⟩), .agg #[.int .i64 t282, .int .i64 t283]] (by rfl) rfl rfl ml_ ?_
  with_reducible refine (spec_l30Near.calls k g281 t279 t284 t282 t283 t286 t287 t288 w _ ?side1 ?side2 A4.out).mono ?_
  (case side1 => repeat (first | (with_reducible first | exact HI281.out | apply IsS79.alloc | apply IsS79.drewN | apply IsS79.drew | apply IsS79.set_1 | refine IsS79.far ?_ NB281_277.out _ | refine IsS79.far ?_ NB281_278.out _ | refine IsS79.far ?_ NB281_285.out _) | exact HI281.out))
  (case side2 => repeat (first | (with_reducible first | exact HB.out | apply below_alloc | apply pw_below_drewN | apply below_drew1 | refine below_set ?_ (IsS79.ge HI281.out) | refine below_set ?_ GE277.out | refine below_set ?_ GE278.out | refine below_set ?_ GE285.out) | exact HB.out))
  rintro e w16 ⟨rfl, hi, hb, hk⟩
  refine ⟨_, rfl, ?_⟩
  have n0_ := Aside0.mk (KeepBut.blk hk (g' := gb277) (o := .cells #[.int .i64 0, .int .i64 0] 25 (0, 0)) bk_ NB277_281.out (by simp))
  have n1_ := Aside0.mk (KeepBut.blk hk (g' := gb278) (o := .cells #[.int .i64 0, .int .i64 0] 25 (0, 0)) bk_ NB278_281.out (by simp))
  have n2_ := Aside0.mk (KeepBut.blk hk (g' := gb285) (o := .cells #[.int .i64 t282, .int .i64 t283] 25 (0, 0)) bk_ NB285_281.out (by simp))
  have n3_ := Aside0.mk (hb)
  have n4_ := Aside0.mk (hi)
  clear BK277
  clear BK278
  clear BK285
  clear HB
  clear HI281
  have BK277 := n0_
  have BK278 := n1_
  have BK285 := n2_
  have HB := n3_
  have HI281 := n4_
  clear n0_ n1_ n2_ n3_ n4_
  (try clear hb)
  (try clear hb2)
  (try clear hk)
  (try clear hi)
  refine hK.out _ _ ⟨(blk_cell BK285.out 0).trans rfl, (blk_cell BK285.out 1).trans rfl⟩ (fun hHeld => ?_)
  clear hK K
  refine norm_ (a' := ?_) ?_ ?_
  rotate_left
  · show Act.put _ (some 13) _ = _
    simp only [Act.put, List.setIfInBounds_toArray, List.set_cons_zero, List.set_cons_succ, i64_w, i32_w]
    rfl
  refine one_ (i := 4) (N := none) #[true, true, true, true, true, false] rfl rfl (by kernel_rfl) (by decide) (fun K hK => ?_)
  have hs17 : w16.cell? ⟨gb277, 0, none⟩ = some (.int .i64 0) := (blk_cell BK277.out 0).trans rfl
  have hfs17 := blk_frozen BK277.out 0
  have hns17_1 := NB278_277.out
  have hns17_2 := NB285_277.out
  have hms17_1 := NB277_278.out
  have hms17_2 := NB277_285.out
  have hs18 : w16.cell? ⟨gb277, 1, none⟩ = some (.int .i64 0) := (blk_cell BK277.out 1).trans rfl
  have hfs18 := blk_frozen BK277.out 1
  have hns18_1 := NB278_277.out
  have hns18_2 := NB285_277.out
  have hms18_1 := NB277_278.out
  have hms18_2 := NB277_285.out
  refine skip_ (w1 := ?_) (by rfl) rfl ?_ ?_
  rotate_left
  · go_simp
    rfl
  refine hK.out _ _ ⟨((cell_far (p := ⟨gb277, _, none⟩) NB285_277.out _).trans (((cell_far (p := ⟨gb277, _, none⟩) NB285_277.out _).trans (hHeld.1)))), ((cell_far (p := ⟨gb277, _, none⟩) NB285_277.out _).trans (((cell_far (p := ⟨gb277, _, none⟩) NB285_277.out _).trans (hHeld.2))))⟩ (fun hHeld => ?_)
  clear hK K
  refine one_ (i := 5) (N := none) #[true, true, true, true, true, true] rfl rfl (by kernel_rfl) (by decide) (fun K hK => ?_)
  have hs19 : w16.cell? ⟨gb278, 0, none⟩ = some (.int .i64 0) := (blk_cell BK278.out 0).trans rfl
  have hfs19 := blk_frozen BK278.out 0
  have hns19_0 := NB277_278.out
  have hns19_2 := NB285_278.out
  have hms19_0 := NB278_277.out
  have hms19_2 := NB278_285.out
  have hs20 : w16.cell? ⟨gb278, 1, none⟩ = some (.int .i64 0) := (blk_cell BK278.out 1).trans rfl
  have hfs20 := blk_frozen BK278.out 1
  have hns20_0 := NB277_278.out
  have hns20_2 := NB285_278.out
  have hms20_0 := NB278_277.out
  have hms20_2 := NB278_285.out
  refine skip_ (w1 := ?_) (by rfl) rfl ?_ ?_
  rotate_left
  · go_simp
    rfl
  refine hK.out _ _ ⟨((cell_far (p := ⟨gb278, _, none⟩) NB285_278.out _).trans (((cell_far (p := ⟨gb278, _, none⟩) NB285_278.out _).trans (hHeld.1)))), ((cell_far (p := ⟨gb278, _, none⟩) NB285_278.out _).trans (((cell_far (p := ⟨gb278, _, none⟩) NB285_278.out _).trans (hHeld.2))))⟩ (fun hHeld => ?_)
  clear hK K
  refine done_ (by kernel_rfl) ?_
  try go_wp2
  refine bodyPost_ret (results_cc rfl _ _ gb277 gb278 25 25 #[.int .i64 t282, .int .i64 t283] #[.int .i64 t286, .int .i64 t287] (0, 0) (0, 0) _ _ rfl (by (with_reducible repeat (first | refine blk_drewN ?_ _ | refine blk_drew ?_ | refine blk_alloc ?_ _)); refine blk_far ?_ NB277_278.out _; (with_reducible repeat (first | refine blk_drewN ?_ _ | refine blk_drew ?_ | refine blk_alloc ?_ _)); refine blk_far ?_ NB277_278.out _; (with_reducible repeat (first | refine blk_drewN ?_ _ | refine blk_drew ?_ | refine blk_alloc ?_ _)); refine blk_put (cs := #[.int .i64 t282, .int .i64 0]) ?_ 1 _ rfl; (with_reducible repeat (first | refine blk_drewN ?_ _ | refine blk_drew ?_ | refine blk_alloc ?_ _)); refine blk_put (cs := #[.int .i64 0, .int .i64 0]) ?_ 0 _ rfl; (with_reducible repeat (first | refine blk_drewN ?_ _ | refine blk_drew ?_ | refine blk_alloc ?_ _)); exact BK277.out) Try.underlying25 rfl (by kernel_rfl) rfl (by (with_reducible repeat (first | refine blk_drewN ?_ _ | refine blk_drew ?_ | refine blk_alloc ?_ _)); refine blk_put (cs := #[.int .i64 t286, .int .i64 0]) ?_ 1 _ rfl; (with_reducible repeat (first | refine blk_drewN ?_ _ | refine blk_drew ?_ | refine blk_alloc ?_ _)); refine blk_put (cs := #[.int .i64 0, .int .i64 0]) ?_ 0 _ rfl; (with_reducible repeat (first | refine blk_drewN ?_ _ | refine blk_drew ?_ | refine blk_alloc ?_ _)); refine blk_far ?_ NB278_277.out _; (with_reducible repeat (first | refine blk_drewN ?_ _ | refine blk_drew ?_ | refine blk_alloc ?_ _)); refine blk_far ?_ NB278_277.out _; (with_reducible repeat (first | refine blk_drewN ?_ _ | refine blk_drew ?_ | refine blk_alloc ?_ _)); exact BK278.out) Try.underlying25 rfl (by kernel_rfl)) rfl ?_
  exact ⟨by first | rfl | (simp [errW_none, errW_some] <;> rfl) | (simp [*, errW_none, errW_some] <;> rfl), by repeat (first | (with_reducible first | exact HB.out | apply below_alloc | apply pw_below_drewN | apply below_drew1 | refine below_set ?_ (IsS79.ge HI281.out) | refine below_set ?_ GE277.out | refine below_set ?_ GE278.out | refine below_set ?_ GE285.out) | exact HB.out)⟩

end Go.Proofs.Ytffbdnnmpopieaa.Z
