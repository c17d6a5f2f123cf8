-- Text written for this claim by the session's program wip/xprint.py over the kit's print. Not trusted: the checker reads it.
import Derived.Test.YtffbdnnmpopieaaY0
import Derived.Test.YtffbdnnmpopieaaY10
import Derived.Test.YtffbdnnmpopieaaY12
import Derived.Test.YtffbdnnmpopieaaY13
namespace Go.Proofs.Ytffbdnnmpopieaa.Y
open Go.RowKit Go.Proofs.YtffbdnnmpopieaaW.PrintWords Go.Proofs.YtffbdnnmpopieaaW.PrintLast Go.Proofs.YtffbdnnmpopieaaW.PrintMore
attribute [local go_sem] max2_int min2_int max_two min_two max_three min_three max_four min_four   -- for this text's walks alone
set_option linter.unusedVariables false
set_option linter.unusedSimpArgs false

/-! ### spec_DrawLblBoth: function 29 -/
def spec_DrawLblBoth.f (k : Nat) (l0 : List Int) : Option (Int × Int × Int × Int) := (spec_l30Open.f l0).bind fun bt179 => ((spec_l30Label.f k bt179.1 bt179.2).bind fun bt182 => ((spec_l30Near.f k bt179.1 bt182.2.2 bt182.1 bt182.2.1).bind fun bt186 => (some (bt182.1, bt182.2.1, bt186.1, bt186.2.1))))
theorem spec_DrawLblBoth.mono : ∀ a0 k, LeO (spec_DrawLblBoth.f k a0) (spec_DrawLblBoth.f (k + 1) a0) := by
  intro a0 k
  unfold spec_DrawLblBoth.f
  repeat' first
      | (with_reducible exact spec_l30Label.mono _ _ _)
      | (with_reducible exact spec_l30Near.mono _ _ _ _ _)
      | (with_reducible exact LeO.refl _)
      | (with_reducible exact LeO.none _)
      | (with_reducible refine LeO.ite ?_ ?_)
      | (with_reducible refine LeO.bind ?_ (fun _ => ?_))
      | exact spec_l30Label.mono _ _ _
      | exact spec_l30Near.mono _ _ _ _ _
      | exact LeO.none _
      | refine LeO.ite ?_ ?_
      | refine LeO.bind ?_ (fun _ => ?_)
set_option maxHeartbeats 8000000 in
set_option maxRecDepth 100000 in
theorem spec_DrawLblBoth.calls (k : Nat) (A0 : Option Addr) (c0 : Nat) (l0 : List Int) (r1 : Int) (r2 : Int) (r3 : Int) (r4 : Int) (w : World) (hr0 : Kd.C (Kd.int .u8) w A0 l0.length l0) (hc0 : l0.length ≤ c0) (h : spec_DrawLblBoth.f k l0 = some (r1, r2, r3, r4)) :
    Calls Try.prog 29 #[.slice A0 l0.length c0] w fun e w' => e = .returned (.tuple #[.agg #[.int .i64 r1, .int .i64 r2], .agg #[.int .i64 r3, .int .i64 r4]]) ∧ Below w.heap.size w w' := by
  have hu25 := Try.underlying25
  have HR0 := Aside0.mk hr0
  have HC0 := Aside0.mk hc0
  clear hr0 hc0
  have HB := Aside0.mk (Below.refl w.heap.size w)
  have H : ((spec_l30Open.f l0).bind fun bt179 => ((spec_l30Label.f k bt179.1 bt179.2).bind fun bt182 => ((spec_l30Near.f k bt179.1 bt182.2.2 bt182.1 bt182.2.1).bind fun bt186 => (some (bt182.1, bt182.2.1, bt186.1, bt186.2.1))))) = some (r1, r2, r3, r4) := h
  clear h
  replace H := Option.bind_eq_some_iff.mp H
  obtain ⟨⟨t179, t180⟩, A20, H⟩ := H
  replace H : ((spec_l30Label.f k t179 t180).bind fun bt182 => ((spec_l30Near.f k t179 bt182.2.2 bt182.1 bt182.2.1).bind fun bt186 => (some (bt182.1, bt182.2.1, bt186.1, bt186.2.1)))) = some (r1, r2, r3, r4) := H
  have A2 := Aside0.mk A20
  clear A20
  replace H := Option.bind_eq_some_iff.mp H
  obtain ⟨⟨t182, t183, t184⟩, A30, H⟩ := H
  replace H : ((spec_l30Near.f k t179 t184 t182 t183).bind fun bt186 => (some (t182, t183, bt186.1, bt186.2.1))) = some (r1, r2, r3, r4) := H
  have A3 := Aside0.mk A30
  clear A30
  replace H := Option.bind_eq_some_iff.mp H
  obtain ⟨⟨t186, t187, t188⟩, A40, H⟩ := H
  replace H : (some (t182, t183, t186, t187)) = some (r1, r2, r3, r4) := H
  have A4 := Aside0.mk A40
  clear A40
  simp only [Option.some.injEq, Prod.mk.injEq] at H
  obtain ⟨rfl, rfl, rfl, rfl⟩ := H
  go_enter Try.func29, Try.ntmps29
  try go_wp2_with (first | ((with_reducible refine gate_dst (N := 2) rfl ?_); refine bx_ (N := 2) (cs := #[.int .i64 0, .int .i64 0]) (t := 25) ?_; intro gb177 hg w5 hbox hb; have n0_ := Aside0.mk (below_step hb_ hb); have n1_ := Aside0.mk (hbox); have n2_ := Aside0.mk ((hg_ : w.heap.size ≤ gb177)); have n3_ := Aside0.mk ((hg_ : w.heap.size ≤ gb177)); clear HB; have HB := n0_; have BK177 := n1_; have GW177 := n2_; have GE177 := n3_; clear n0_ n1_ n2_ n3_; clear hb hbox hg) | ((with_reducible refine gate_dst (N := 3) rfl ?_); refine bx_ (N := 3) (cs := #[.int .i64 0, .int .i64 0]) (t := 25) ?_; intro gb178 hg w6 hbox hb; have n0_ := Aside0.mk (blk_below (g := gb177) (o := .cells #[.int .i64 0, .int .i64 0] 25 (0, 0)) bk_ hb); have n1_ := Aside0.mk (below_step hb_ hb); have n2_ := Aside0.mk (hbox); have n3_ := Aside0.mk ((hg_ : w.heap.size ≤ gb178)); have n4_ := Aside0.mk ((hg_ : w.heap.size ≤ gb178)); have n5_ := Aside0.mk ((nl_ : gb177 ≠ gb178)); have n6_ := Aside0.mk ((ng_ : gb178 ≠ gb177)); clear BK177; clear HB; have BK177 := n0_; have HB := n1_; have BK178 := n2_; have GW178 := n3_; have GE178 := n4_; have NB177_178 := n5_; have NB178_177 := n6_; clear n0_ n1_ n2_ n3_ n4_ n5_ n6_; clear hb hbox hg) | ((with_reducible refine gate_callee (f := 49) rfl ?_); refine goesL_ (some 7) rfl rfl Try.func49 (by kernel_rfl) rfl #[.slice A0 l0.length c0] rfl ml_ ?_; (with_reducible refine (spec_l30Open.calls _ _ l0 t179 t180 w _ ?side1 ?side2 ?side3 A2.out).mono ?_); (case side1 => repeat (first | (with_reducible first | exact HB.out | apply below_alloc | apply pw_below_drewN | apply below_drew1 | refine below_set ?_ GE177.out | refine below_set ?_ GE178.out) | exact HB.out)); (case side2 => exact HR0.out); (case side3 => exact HC0.out); rintro e w7 ⟨g181, rfl, hi, hb, hb2⟩; refine ⟨_, rfl, ?_⟩; have n0_ := Aside0.mk (blk_below (g := gb177) (o := .cells #[.int .i64 0, .int .i64 0] 25 (0, 0)) bk_ hb2); have n1_ := Aside0.mk (blk_below (g := gb178) (o := .cells #[.int .i64 0, .int .i64 0] 25 (0, 0)) bk_ hb2); have n2_ := Aside0.mk (hb); have n3_ := Aside0.mk (hi); have n4_ := Aside0.mk (IsS79.ne_blk hi (blk_below (g := gb177) (o := .cells #[.int .i64 0, .int .i64 0] 25 (0, 0)) bk_ hb2) (by decide)); have n5_ := Aside0.mk (Ne.symm (IsS79.ne_blk hi (blk_below (g := gb177) (o := .cells #[.int .i64 0, .int .i64 0] 25 (0, 0)) bk_ hb2) (by decide))); have n6_ := Aside0.mk (IsS79.ne_blk hi (blk_below (g := gb178) (o := .cells #[.int .i64 0, .int .i64 0] 25 (0, 0)) bk_ hb2) (by decide)); have n7_ := Aside0.mk (Ne.symm (IsS79.ne_blk hi (blk_below (g := gb178) (o := .cells #[.int .i64 0, .int .i64 0] 25 (0, 0)) bk_ hb2) (by decide))); clear BK177; clear BK178; clear HB; have BK177 := n0_; have BK178 := n1_; have HB := n2_; have HI181 := n3_; have NB181_177 := n4_; have NB177_181 := n5_; have NB181_178 := n6_; have NB178_181 := n7_; clear n0_ n1_ n2_ n3_ n4_ n5_ n6_ n7_; (try clear hb); (try clear hb2); (try clear hk); (try clear hi)) | ((with_reducible refine gate_callee (f := 50) rfl ?_); refine goesL_ (some 9) rfl rfl Try.func50 (by kernel_rfl) rfl #[.pointer (some ⟨g181, 0, none⟩)] rfl ml_ ?_; (with_reducible refine (spec_l30Label.calls k g181 t179 t180 t182 t183 t184 w _ ?side1 ?side2 A3.out).mono ?_); (case side1 => repeat (first | (with_reducible first | exact HI181.out | apply IsS79.alloc | apply IsS79.drewN | apply IsS79.drew | apply IsS79.set_1 | refine IsS79.far ?_ NB181_177.out _ | refine IsS79.far ?_ NB181_178.out _) | exact HI181.out)); (case side2 => repeat (first | (with_reducible first | exact HB.out | apply below_alloc | apply pw_below_drewN | apply below_drew1 | refine below_set ?_ (IsS79.ge HI181.out) | refine below_set ?_ GE177.out | refine below_set ?_ GE178.out) | exact HB.out)); rintro e w8 ⟨rfl, hi, hb, hk⟩; refine ⟨_, rfl, ?_⟩; have n0_ := Aside0.mk (KeepBut.blk hk (g' := gb177) (o := .cells #[.int .i64 0, .int .i64 0] 25 (0, 0)) bk_ NB177_181.out (by simp)); have n1_ := Aside0.mk (KeepBut.blk hk (g' := gb178) (o := .cells #[.int .i64 0, .int .i64 0] 25 (0, 0)) bk_ NB178_181.out (by simp)); have n2_ := Aside0.mk (hb); have n3_ := Aside0.mk (hi); clear BK177; clear BK178; clear HB; clear HI181; have BK177 := n0_; have BK178 := n1_; have HB := n2_; have HI181 := n3_; clear n0_ n1_ n2_ n3_; (try clear hb); (try clear hb2); (try clear hk); (try clear hi)) | ((with_reducible refine gate_dst (N := 5) rfl ?_); refine bx_ (N := 5) (cs := #[.int .i64 0, .int .i64 0]) (t := 25) ?_; intro gb185 hg w9 hbox hb; have n0_ := Aside0.mk (blk_below (g := gb177) (o := .cells #[.int .i64 0, .int .i64 0] 25 (0, 0)) bk_ hb); have n1_ := Aside0.mk (blk_below (g := gb178) (o := .cells #[.int .i64 0, .int .i64 0] 25 (0, 0)) bk_ hb); have n2_ := Aside0.mk (IsS79.below (by repeat (first | (with_reducible first | exact HI181.out | apply IsS79.alloc | apply IsS79.drewN | apply IsS79.drew | apply IsS79.set_1 | refine IsS79.far ?_ NB181_177.out _ | refine IsS79.far ?_ NB181_178.out _) | exact HI181.out)) hb); have n3_ := Aside0.mk (below_step (by repeat (first | (with_reducible first | exact HB.out | apply below_alloc | apply pw_below_drewN | apply below_drew1 | refine below_set ?_ (IsS79.ge HI181.out) | refine below_set ?_ GE177.out | refine below_set ?_ GE178.out) | exact HB.out)) hb); have n4_ := Aside0.mk (hbox); have n5_ := Aside0.mk ((by rw [hg]; exact (below_size (by repeat (first | (with_reducible first | exact HB.out | apply below_alloc | apply pw_below_drewN | apply below_drew1 | refine below_set ?_ (IsS79.ge HI181.out) | refine below_set ?_ GE177.out | refine below_set ?_ GE178.out) | exact HB.out))) : w.heap.size ≤ gb185)); have n6_ := Aside0.mk ((by rw [hg]; exact (below_size (by repeat (first | (with_reducible first | exact HB.out | apply below_alloc | apply pw_below_drewN | apply below_drew1 | refine below_set ?_ (IsS79.ge HI181.out) | refine below_set ?_ GE177.out | refine below_set ?_ GE178.out) | exact HB.out))) : w.heap.size ≤ gb185)); have n7_ := Aside0.mk ((nl_ : gb177 ≠ gb185)); have n8_ := Aside0.mk ((ng_ : gb185 ≠ gb177)); have n9_ := Aside0.mk ((nl_ : gb178 ≠ gb185)); have n10_ := Aside0.mk ((ng_ : gb185 ≠ gb178)); have n11_ := Aside0.mk ((by rw [hg]; exact Nat.ne_of_lt (IsS79.lt (show IsS79 w _ g181 t179 t184 from by repeat (first | (with_reducible first | exact HI181.out | apply IsS79.alloc | apply IsS79.drewN | apply IsS79.drew | apply IsS79.set_1 | refine IsS79.far ?_ NB181_177.out _ | refine IsS79.far ?_ NB181_178.out _) | exact HI181.out))) : g181 ≠ gb185)); have n12_ := Aside0.mk ((by rw [hg]; exact Nat.ne_of_gt (IsS79.lt (show IsS79 w _ g181 t179 t184 from by repeat (first | (with_reducible first | exact HI181.out | apply IsS79.alloc | apply IsS79.drewN | apply IsS79.drew | apply IsS79.set_1 | refine IsS79.far ?_ NB181_177.out _ | refine IsS79.far ?_ NB181_178.out _) | exact HI181.out))) : gb185 ≠ g181)); clear BK177; clear BK178; clear HI181; clear HB; have BK177 := n0_; have BK178 := n1_; have HI181 := n2_; have HB := n3_; have BK185 := n4_; have GW185 := n5_; have GE185 := n6_; have NB177_185 := n7_; have NB185_177 := n8_; have NB178_185 := n9_; have NB185_178 := n10_; have NB181_185 := n11_; have NB185_181 := n12_; clear n0_ n1_ n2_ n3_ n4_ n5_ n6_ n7_ n8_ n9_ n10_ n11_ n12_; clear hb hbox hg; have hnb10 := NB185_177.out; have hnc10 := NB177_185.out; have hnb11 := NB185_178.out; have hnc11 := NB178_185.out; have hnb12 := NB185_181.out; have hnc12 := NB181_185.out; have hcz13_0 : w9.cell? ⟨gb185, 0, none⟩ = some (.int .i64 0) := (blk_cell BK185.out 0).trans rfl; have hcz13_1 : w9.cell? ⟨gb185, 1, none⟩ = some (.int .i64 0) := (blk_cell BK185.out 1).trans rfl; have hfz13_0 := blk_frozen BK185.out 0; have hfz13_1 := blk_frozen BK185.out 1))
  have n0_ : Aside0 (((w9.setCell ⟨gb185, 0, none⟩ (.int .i64 t182)).setCell ⟨gb185, 1, none⟩ (.int .i64 t183)).heap[gb177]? = some (.cells #[.int .i64 0, .int .i64 0] 25 (0, 0))) := ⟨by (with_reducible repeat (first | refine blk_drewN ?_ _ | refine blk_drew ?_ | refine blk_alloc ?_ _)); refine blk_far ?_ NB177_185.out _; (with_reducible repeat (first | refine blk_drewN ?_ _ | refine blk_drew ?_ | refine blk_alloc ?_ _)); refine blk_far ?_ NB177_185.out _; (with_reducible repeat (first | refine blk_drewN ?_ _ | refine blk_drew ?_ | refine blk_alloc ?_ _)); exact BK177.out⟩
  have n1_ : Aside0 (((w9.setCell ⟨gb185, 0, none⟩ (.int .i64 t182)).setCell ⟨gb185, 1, none⟩ (.int .i64 t183)).heap[gb178]? = some (.cells #[.int .i64 0, .int .i64 0] 25 (0, 0))) := ⟨by (with_reducible repeat (first | refine blk_drewN ?_ _ | refine blk_drew ?_ | refine blk_alloc ?_ _)); refine blk_far ?_ NB178_185.out _; (with_reducible repeat (first | refine blk_drewN ?_ _ | refine blk_drew ?_ | refine blk_alloc ?_ _)); refine blk_far ?_ NB178_185.out _; (with_reducible repeat (first | refine blk_drewN ?_ _ | refine blk_drew ?_ | refine blk_alloc ?_ _)); exact BK178.out⟩
  have n2_ : Aside0 (((w9.setCell ⟨gb185, 0, none⟩ (.int .i64 t182)).setCell ⟨gb185, 1, none⟩ (.int .i64 t183)).heap[gb185]? = some (.cells #[.int .i64 t182, .int .i64 t183] 25 (0, 0))) := ⟨by (with_reducible repeat (first | refine blk_drewN ?_ _ | refine blk_drew ?_ | refine blk_alloc ?_ _)); refine blk_put (cs := #[.int .i64 t182, .int .i64 0]) ?_ 1 _ rfl; (with_reducible repeat (first | refine blk_drewN ?_ _ | refine blk_drew ?_ | refine blk_alloc ?_ _)); refine blk_put (cs := #[.int .i64 0, .int .i64 0]) ?_ 0 _ rfl; (with_reducible repeat (first | refine blk_drewN ?_ _ | refine blk_drew ?_ | refine blk_alloc ?_ _)); exact BK185.out⟩
  have n3_ : Aside0 (IsS79 w ((w9.setCell ⟨gb185, 0, none⟩ (.int .i64 t182)).setCell ⟨gb185, 1, none⟩ (.int .i64 t183)) g181 t179 t184) := ⟨by repeat (first | (with_reducible first | exact HI181.out | apply IsS79.alloc | apply IsS79.drewN | apply IsS79.drew | apply IsS79.set_1 | refine IsS79.far ?_ NB181_177.out _ | refine IsS79.far ?_ NB181_178.out _ | refine IsS79.far ?_ NB181_185.out _) | exact HI181.out)⟩
  have n4_ : Aside0 (Below w.heap.size w ((w9.setCell ⟨gb185, 0, none⟩ (.int .i64 t182)).setCell ⟨gb185, 1, none⟩ (.int .i64 t183))) := ⟨by repeat (first | (with_reducible first | exact HB.out | apply below_alloc | apply pw_below_drewN | apply below_drew1 | refine below_set ?_ (IsS79.ge HI181.out) | refine below_set ?_ GE177.out | refine below_set ?_ GE178.out | refine below_set ?_ GE185.out) | exact HB.out)⟩
  (try clear BK177)
  (try clear BK178)
  (try clear BK185)
  (try clear HI181)
  (try clear HB)
  generalize ((w9.setCell ⟨gb185, 0, none⟩ (.int .i64 t182)).setCell ⟨gb185, 1, none⟩ (.int .i64 t183)) = w14 at n0_ n1_ n2_ n3_ n4_ ⊢
  have BK177 := n0_
  have BK178 := n1_
  have BK185 := n2_
  have HI181 := n3_
  have HB := n4_
  clear n0_ n1_ n2_ n3_ n4_
  have n0_ := Aside0.mk (blk_drew BK177.out)
  have n1_ := Aside0.mk (blk_drew BK178.out)
  have n2_ := Aside0.mk (blk_drew BK185.out)
  have n3_ := Aside0.mk (IsS79.drew HI181.out)
  have n4_ := Aside0.mk (below_drew1 HB.out)
  clear BK177
  clear BK178
  clear BK185
  clear HI181
  clear HB
  have BK177 := n0_
  have BK178 := n1_
  have BK185 := n2_
  have HI181 := n3_
  have HB := n4_
  clear n0_ n1_ n2_ n3_ n4_
  refine start_ (n := 6) (S := fun w' => w'.cell? ⟨gb185, 0, none⟩ = some (.int .i64 t182) ∧ w'.cell? ⟨gb185, 1, none⟩ = some (.int .i64 t183)) (ds := []) #[false, false, false, false, false, false] (by kernel_rfl) rfl rfl ⟨(blk_cell BK185.out 0).trans rfl, (blk_cell BK185.out 1).trans rfl⟩ (fun hHeld => ?_)
  generalize w14.drew = w15 at BK177 BK178 BK185 HI181 HB hHeld ⊢
  refine pure_ (i := 1) (N := some 11) (v := ?_) (a' := ?_) #[false, true, false, false, false, false] rfl rfl (by kernel_rfl) (fun _ _ _ h => h) (Or.inl ⟨by rfl, ?_⟩) ?_ ?_
  rotate_left
  · intro w'
    go_simp
    with_reducible rfl
  rotate_left
  · simp only [Act.put, List.setIfInBounds_toArray, List.set_cons_zero, List.set_cons_succ, i64_w, i32_w]
    rfl
  refine take_ (i := 0) (N := some 10) (v := ?_) (a' := ?_) #[true, true, false, false, false, false] rfl rfl (by kernel_rfl) (fun _ _ _ h => h) (Or.inl ⟨by rfl, ?_⟩) hHeld ?_ ?_
  rotate_left
  · rintro w' ⟨s0, s1⟩
    go_simp
    with_reducible rfl
  rotate_left
  · simp only [Act.put, List.setIfInBounds_toArray, List.set_cons_zero, List.set_cons_succ, i64_w, i32_w]
    rfl
  refine take_ (i := 2) (N := some 12) (v := ?_) (a' := ?_) #[true, true, true, false, false, false] rfl rfl (by kernel_rfl) (fun _ _ _ h => h) (Or.inl ⟨by rfl, ?_⟩) hHeld ?_ ?_
  rotate_left
  · rintro w' ⟨s0, s1⟩
    go_simp
    with_reducible rfl
  rotate_left
  · simp only [Act.put, List.setIfInBounds_toArray, List.set_cons_zero, List.set_cons_succ, i64_w, i32_w]
    rfl
  refine one_ (i := 3) (N := some 13) #[true, true, true, true, false, false] rfl rfl (by kernel_rfl) (by decide) (fun K hK => ?_)
  refine goes_ Try.func51 (by kernel_rfl) rfl #[.pointer (some ⟨g181, 0, none⟩), .agg #[.int .i64 t182, .int .i64 t183]] (by rfl) rfl rfl ml_ ?_
  with_reducible refine (spec_l30Near.calls k g181 t179 t184 t182 t183 t186 t187 t188 w _ ?side1 ?side2 A4.out).mono ?_
  (case side1 => repeat (first | (with_reducible first | exact HI181.out | apply IsS79.alloc | apply IsS79.drewN | apply IsS79.drew | apply IsS79.set_1 | refine IsS79.far ?_ NB181_177.out _ | refine IsS79.far ?_ NB181_178.out _ | refine IsS79.far ?_ NB181_185.out _) | exact HI181.out))
  (case side2 => repeat (first | (with_reducible first | exact HB.out | apply below_alloc | apply pw_below_drewN | apply below_drew1 | refine below_set ?_ (IsS79.ge HI181.out) | refine below_set ?_ GE177.out | refine below_set ?_ GE178.out | refine below_set ?_ GE185.out) | exact HB.out))
  rintro e w16 ⟨rfl, hi, hb, hk⟩
  refine ⟨_, rfl, ?_⟩
  have n0_ := Aside0.mk (KeepBut.blk hk (g' := gb177) (o := .cells #[.int .i64 0, .int .i64 0] 25 (0, 0)) bk_ NB177_181.out (by simp))
  have n1_ := Aside0.mk (KeepBut.blk hk (g' := gb178) (o := .cells #[.int .i64 0, .int .i64 0] 25 (0, 0)) bk_ NB178_181.out (by simp))
  have n2_ := Aside0.mk (KeepBut.blk hk (g' := gb185) (o := .cells #[.int .i64 t182, .int .i64 t183] 25 (0, 0)) bk_ NB185_181.out (by simp))
  have n3_ := Aside0.mk (hb)
  have n4_ := Aside0.mk (hi)
  clear BK177
  clear BK178
  clear BK185
  clear HB
  clear HI181
  have BK177 := n0_
  have BK178 := n1_
  have BK185 := n2_
  have HB := n3_
  have HI181 := n4_
  clear n0_ n1_ n2_ n3_ n4_
  (try clear hb)
  (try clear hb2)
  (try clear hk)
  (try clear hi)
  refine hK.out _ _ ⟨(blk_cell BK185.out 0).trans rfl, (blk_cell BK185.out 1).trans rfl⟩ (fun hHeld => ?_)
  clear hK K
  refine norm_ (a' := ?_) ?_ ?_
  rotate_left
  · show Act.put _ (some 13) _ = _
    simp only [Act.put, List.setIfInBounds_toArray, List.set_cons_zero, List.set_cons_succ, i64_w, i32_w]
    rfl
  refine one_ (i := 4) (N := none) #[true, true, true, true, true, false] rfl rfl (by kernel_rfl) (by decide) (fun K hK => ?_)
  have hs17 : w16.cell? ⟨gb177, 0, none⟩ = some (.int .i64 0) := (blk_cell BK177.out 0).trans rfl
  have hfs17 := blk_frozen BK177.out 0
  have hns17_1 := NB178_177.out
  have hns17_2 := NB185_177.out
  have hms17_1 := NB177_178.out
  have hms17_2 := NB177_185.out
  have hs18 : w16.cell? ⟨gb177, 1, none⟩ = some (.int .i64 0) := (blk_cell BK177.out 1).trans rfl
  have hfs18 := blk_frozen BK177.out 1
  have hns18_1 := NB178_177.out
  have hns18_2 := NB185_177.out
  have hms18_1 := NB177_178.out
  have hms18_2 := NB177_185.out
  refine skip_ (w1 := ?_) (by rfl) rfl ?_ ?_
  rotate_left
  · go_simp
    rfl
  refine hK.out _ _ ⟨((cell_far (p := ⟨gb177, _, none⟩) NB185_177.out _).trans (((cell_far (p := ⟨gb177, _, none⟩) NB185_177.out _).trans (hHeld.1)))), ((cell_far (p := ⟨gb177, _, none⟩) NB185_177.out _).trans (((cell_far (p := ⟨gb177, _, none⟩) NB185_177.out _).trans (hHeld.2))))⟩ (fun hHeld => ?_)
  clear hK K
  refine one_ (i := 5) (N := none) #[true, true, true, true, true, true] rfl rfl (by kernel_rfl) (by decide) (fun K hK => ?_)
  have hs19 : w16.cell? ⟨gb178, 0, none⟩ = some (.int .i64 0) := (blk_cell BK178.out 0).trans rfl
  have hfs19 := blk_frozen BK178.out 0
  have hns19_0 := NB177_178.out
  have hns19_2 := NB185_178.out
  have hms19_0 := NB178_177.out
  have hms19_2 := NB178_185.out
  have hs20 : w16.cell? ⟨gb178, 1, none⟩ = some (.int .i64 0) := (blk_cell BK178.out 1).trans rfl
  have hfs20 := blk_frozen BK178.out 1
  have hns20_0 := NB177_178.out
  have hns20_2 := NB185_178.out
  have hms20_0 := NB178_177.out
  have hms20_2 := NB178_185.out
  refine skip_ (w1 := ?_) (by rfl) rfl ?_ ?_
  rotate_left
  · go_simp
    rfl
  refine hK.out _ _ ⟨((cell_far (p := ⟨gb178, _, none⟩) NB185_178.out _).trans (((cell_far (p := ⟨gb178, _, none⟩) NB185_178.out _).trans (hHeld.1)))), ((cell_far (p := ⟨gb178, _, none⟩) NB185_178.out _).trans (((cell_far (p := ⟨gb178, _, none⟩) NB185_178.out _).trans (hHeld.2))))⟩ (fun hHeld => ?_)
  clear hK K
  refine done_ (by kernel_rfl) ?_
  try go_wp2
  refine bodyPost_ret (results_cc rfl _ _ gb177 gb178 25 25 #[.int .i64 t182, .int .i64 t183] #[.int .i64 t186, .int .i64 t187] (0, 0) (0, 0) _ _ rfl (by (with_reducible repeat (first | refine blk_drewN ?_ _ | refine blk_drew ?_ | refine blk_alloc ?_ _)); refine blk_far ?_ NB177_178.out _; (with_reducible repeat (first | refine blk_drewN ?_ _ | refine blk_drew ?_ | refine blk_alloc ?_ _)); refine blk_far ?_ NB177_178.out _; (with_reducible repeat (first | refine blk_drewN ?_ _ | refine blk_drew ?_ | refine blk_alloc ?_ _)); refine blk_put (cs := #[.int .i64 t182, .int .i64 0]) ?_ 1 _ rfl; (with_reducible repeat (first | refine blk_drewN ?_ _ | refine blk_drew ?_ | refine blk_alloc ?_ _)); refine blk_put (cs := #[.int .i64 0, .int .i64 0]) ?_ 0 _ rfl; (with_reducible repeat (first | refine blk_drewN ?_ _ | refine blk_drew ?_ | refine blk_alloc ?_ _)); exact BK177.out) Try.underlying25 rfl (by kernel_rfl) rfl (by (with_reducible repeat (first | refine blk_drewN ?_ _ | refine blk_drew ?_ | refine blk_alloc ?_ _)); refine blk_put (cs := #[.int .i64 t186, .int .i64 0]) ?_ 1 _ rfl; (with_reducible repeat (first | refine blk_drewN ?_ _ | refine blk_drew ?_ | refine blk_alloc ?_ _)); refine blk_put (cs := #[.int .i64 0, .int .i64 0]) ?_ 0 _ rfl; (with_reducible repeat (first | refine blk_drewN ?_ _ | refine blk_drew ?_ | refine blk_alloc ?_ _)); refine blk_far ?_ NB178_177.out _; (with_reducible repeat (first | refine blk_drewN ?_ _ | refine blk_drew ?_ | refine blk_alloc ?_ _)); refine blk_far ?_ NB178_177.out _; (with_reducible repeat (first | refine blk_drewN ?_ _ | refine blk_drew ?_ | refine blk_alloc ?_ _)); exact BK178.out) Try.underlying25 rfl (by kernel_rfl)) rfl ?_
  exact ⟨by first | rfl | (simp [errW_none, errW_some] <;> rfl) | (simp [*, errW_none, errW_some] <;> rfl), by repeat (first | (with_reducible first | exact HB.out | apply below_alloc | apply pw_below_drewN | apply below_drew1 | refine below_set ?_ (IsS79.ge HI181.out) | refine below_set ?_ GE177.out | refine below_set ?_ GE178.out | refine below_set ?_ GE185.out) | exact HB.out)⟩

end Go.Proofs.Ytffbdnnmpopieaa.Y
