-- Text written for this claim by the session's program wip/xprint.py over the kit's print. Not trusted: the checker reads it.
import Derived.Test.YtffbdnnmpopieaaY0
import Derived.Test.YtffbdnnmpopieaaY1
import Derived.Test.YtffbdnnmpopieaaY2
import Derived.Test.YtffbdnnmpopieaaY4
import Derived.Test.YtffbdnnmpopieaaY6
import Derived.Test.YtffbdnnmpopieaaY7
import Derived.Test.YtffbdnnmpopieaaY9
import Derived.Test.YtffbdnnmpopieaaY14
namespace Go.Proofs.Ytffbdnnmpopieaa.Y
open Go.RowKit Go.Proofs.YtffbdnnmpopieaaW.PrintWords Go.Proofs.YtffbdnnmpopieaaW.PrintLast Go.Proofs.YtffbdnnmpopieaaW.PrintMore
attribute [local go_sem] max2_int min2_int max_two min_two max_three min_three max_four min_four   -- for this text's walks alone
set_option linter.unusedVariables false
set_option linter.unusedSimpArgs false

attribute [local go_sem high] eqA25
/-! ### laws_FnLblBounds: function 10 -/
mutual
def laws_FnLblBounds.j0 : Nat → Bool → Int → Int → Int → Int → Int → Int → Int → Int → Option (Bool)
  | 0, _, _, _, _, _, _, _, _, _ => none
  | k + 1, x44, x194000, x194001, x195000, x195001, x198000, x198001, x201000, x201001 => if x44 = true then (some false) else ((impl_LblOk.f x194000 x194001).bind fun t207 => (if t207 = true then ((impl_LblOk.f x195000 x195001).bind fun t208 => (laws_FnLblBounds.j1 k (!t208) x194000 x194001 x195000 x195001 x198000 x198001 x201000 x201001)) else (laws_FnLblBounds.j1 k true x194000 x194001 x195000 x195001 x198000 x198001 x201000 x201001)))
def laws_FnLblBounds.j1 : Nat → Bool → Int → Int → Int → Int → Int → Int → Int → Int → Option (Bool)
  | 0, _, _, _, _, _, _, _, _, _ => none
  | k + 1, x52, x194000, x194001, x195000, x195001, x198000, x198001, x201000, x201001 => if x52 = true then (if (x198000 == 0 && (x198001 == 0)) = true then (if (x201000 == 0 && (x201001 == 0)) = true then ((impl_LblBoth.f 1 0 0 2).bind fun bt209 => (some (bt209.1 == 1 && (bt209.2 == 2)))) else (some false)) else (some false)) else (laws_FnLblBounds.l0 k 0 x194000 x194001 x195000 x195001 x198000 x198001 x201000 x201001)
def laws_FnLblBounds.l0 : Nat → Int → Int → Int → Int → Int → Int → Int → Int → Int → Option (Bool)
  | 0, _, _, _, _, _, _, _, _, _ => none
  | k + 1, x7, x194000, x194001, x195000, x195001, x198000, x198001, x201000, x201001 => if x7 < 64 then ((impl_LblFlows.f x198000 x198001 (wrap64 (Int.tdiv x7 16)) (Int.tmod x7 16)).bind fun t212 => ((impl_LblFlows.f x194000 x194001 (wrap64 (Int.tdiv x7 16)) (Int.tmod x7 16)).bind fun t213 => (if t213 = true then ((impl_LblFlows.f x195000 x195001 (wrap64 (Int.tdiv x7 16)) (Int.tmod x7 16)).bind fun t214 => (if (t212 != t214) = true then (some false) else ((impl_LblFlows.f (wrap64 (Int.tdiv x7 16)) (Int.tmod x7 16) x201000 x201001).bind fun t215 => ((impl_LblFlows.f (wrap64 (Int.tdiv x7 16)) (Int.tmod x7 16) x194000 x194001).bind fun t216 => (if t216 = true then ((impl_LblFlows.f (wrap64 (Int.tdiv x7 16)) (Int.tmod x7 16) x195000 x195001).bind fun t217 => (if (t215 != t217) = true then (some false) else (laws_FnLblBounds.l0 k (wrap64 (x7 + 1)) x194000 x194001 x195000 x195001 x198000 x198001 x201000 x201001))) else (if (t215 != false) = true then (some false) else (laws_FnLblBounds.l0 k (wrap64 (x7 + 1)) x194000 x194001 x195000 x195001 x198000 x198001 x201000 x201001))))))) else (if (t212 != false) = true then (some false) else ((impl_LblFlows.f (wrap64 (Int.tdiv x7 16)) (Int.tmod x7 16) x201000 x201001).bind fun t218 => ((impl_LblFlows.f (wrap64 (Int.tdiv x7 16)) (Int.tmod x7 16) x194000 x194001).bind fun t219 => (if t219 = true then ((impl_LblFlows.f (wrap64 (Int.tdiv x7 16)) (Int.tmod x7 16) x195000 x195001).bind fun t220 => (if (t218 != t220) = true then (some false) else (laws_FnLblBounds.l0 k (wrap64 (x7 + 1)) x194000 x194001 x195000 x195001 x198000 x198001 x201000 x201001))) else (if (t218 != false) = true then (some false) else (laws_FnLblBounds.l0 k (wrap64 (x7 + 1)) x194000 x194001 x195000 x195001 x198000 x198001 x201000 x201001))))))))) else (some true)
end
def laws_FnLblBounds.f (k : Nat) (l0 : List Int) : Option (Bool) := if (l0.length : Int) > 1048576 then (some true) else ((spec_DrawLblBoth.f k l0).bind fun bt189 => ((impl_LblBoth.f bt189.1 bt189.2.1 bt189.2.2.1 bt189.2.2.2).bind fun bt195 => ((impl_LblCommon.f bt189.1 bt189.2.1 bt189.2.2.1 bt189.2.2.2).bind fun bt198 => ((spec_LblBoth.f k bt189.1 bt189.2.1 bt189.2.2.1 bt189.2.2.2).bind fun bt201 => (if (!(bt195.1 == bt201.1) || (!(bt195.2 == bt201.2))) = true then (laws_FnLblBounds.j0 k true bt189.1 bt189.2.1 bt189.2.2.1 bt189.2.2.2 bt195.1 bt195.2 bt198.1 bt198.2) else ((spec_LblCommon.f k bt189.1 bt189.2.1 bt189.2.2.1 bt189.2.2.2).bind fun bt203 => (if (!(bt198.1 == bt203.1) || (!(bt198.2 == bt203.2))) = true then (laws_FnLblBounds.j0 k true bt189.1 bt189.2.1 bt189.2.2.1 bt189.2.2.2 bt195.1 bt195.2 bt198.1 bt198.2) else ((impl_LblOk.f bt195.1 bt195.2).bind fun t205 => (if t205 = true then ((impl_LblOk.f bt198.1 bt198.2).bind fun t206 => (laws_FnLblBounds.j0 k (!t206) bt189.1 bt189.2.1 bt189.2.2.1 bt189.2.2.2 bt195.1 bt195.2 bt198.1 bt198.2)) else (laws_FnLblBounds.j0 k true bt189.1 bt189.2.1 bt189.2.2.1 bt189.2.2.2 bt195.1 bt195.2 bt198.1 bt198.2))))))))))
theorem laws_FnLblBounds.mono_l : ∀ k, (∀ y0 y1 y2 y3 y4 y5 y6 y7 y8, LeO (laws_FnLblBounds.j0 k y0 y1 y2 y3 y4 y5 y6 y7 y8) (laws_FnLblBounds.j0 (k + 1) y0 y1 y2 y3 y4 y5 y6 y7 y8)) ∧ (∀ y0 y1 y2 y3 y4 y5 y6 y7 y8, LeO (laws_FnLblBounds.j1 k y0 y1 y2 y3 y4 y5 y6 y7 y8) (laws_FnLblBounds.j1 (k + 1) y0 y1 y2 y3 y4 y5 y6 y7 y8)) ∧ (∀ y0 y1 y2 y3 y4 y5 y6 y7 y8, LeO (laws_FnLblBounds.l0 k y0 y1 y2 y3 y4 y5 y6 y7 y8) (laws_FnLblBounds.l0 (k + 1) y0 y1 y2 y3 y4 y5 y6 y7 y8))
  | 0 => ⟨fun _ _ _ _ _ _ _ _ _ r h => by simp [laws_FnLblBounds.j0] at h, fun _ _ _ _ _ _ _ _ _ r h => by simp [laws_FnLblBounds.j1] at h, fun _ _ _ _ _ _ _ _ _ r h => by simp [laws_FnLblBounds.l0] at h⟩
  | k + 1 => by
    obtain ⟨ih0, ih1, ih2⟩ := laws_FnLblBounds.mono_l k
    refine ⟨?_, ?_, ?_⟩
    · intro y0 y1 y2 y3 y4 y5 y6 y7 y8
      unfold laws_FnLblBounds.j0
      repeat' first
      | (with_reducible exact ih0 _ _ _ _ _ _ _ _ _)
      | (with_reducible exact ih1 _ _ _ _ _ _ _ _ _)
      | (with_reducible exact ih2 _ _ _ _ _ _ _ _ _)
      | (with_reducible exact spec_DrawLblBoth.mono _ _)
      | (with_reducible exact spec_LblBoth.mono _ _ _ _ _)
      | (with_reducible exact spec_LblCommon.mono _ _ _ _ _)
      | (with_reducible exact LeO.refl _)
      | (with_reducible exact LeO.none _)
      | (with_reducible refine LeO.ite ?_ ?_)
      | (with_reducible refine LeO.bind ?_ (fun _ => ?_))
      | exact ih0 _ _ _ _ _ _ _ _ _
      | exact ih1 _ _ _ _ _ _ _ _ _
      | exact ih2 _ _ _ _ _ _ _ _ _
      | exact spec_DrawLblBoth.mono _ _
      | exact spec_LblBoth.mono _ _ _ _ _
      | exact spec_LblCommon.mono _ _ _ _ _
      | exact LeO.none _
      | refine LeO.ite ?_ ?_
      | refine LeO.bind ?_ (fun _ => ?_)
    · intro y0 y1 y2 y3 y4 y5 y6 y7 y8
      unfold laws_FnLblBounds.j1
      repeat' first
      | (with_reducible exact ih0 _ _ _ _ _ _ _ _ _)
      | (with_reducible exact ih1 _ _ _ _ _ _ _ _ _)
      | (with_reducible exact ih2 _ _ _ _ _ _ _ _ _)
      | (with_reducible exact spec_DrawLblBoth.mono _ _)
      | (with_reducible exact spec_LblBoth.mono _ _ _ _ _)
      | (with_reducible exact spec_LblCommon.mono _ _ _ _ _)
      | (with_reducible exact LeO.refl _)
      | (with_reducible exact LeO.none _)
      | (with_reducible refine LeO.ite ?_ ?_)
      | (with_reducible refine LeO.bind ?_ (fun _ => ?_))
      | exact ih0 _ _ _ _ _ _ _ _ _
      | exact ih1 _ _ _ _ _ _ _ _ _
      | exact ih2 _ _ _ _ _ _ _ _ _
      | exact spec_DrawLblBoth.mono _ _
      | exact spec_LblBoth.mono _ _ _ _ _
      | exact spec_LblCommon.mono _ _ _ _ _
      | exact LeO.none _
      | refine LeO.ite ?_ ?_
      | refine LeO.bind ?_ (fun _ => ?_)
    · intro y0 y1 y2 y3 y4 y5 y6 y7 y8
      unfold laws_FnLblBounds.l0
      repeat' first
      | (with_reducible exact ih0 _ _ _ _ _ _ _ _ _)
      | (with_reducible exact ih1 _ _ _ _ _ _ _ _ _)
      | (with_reducible exact ih2 _ _ _ _ _ _ _ _ _)
      | (with_reducible exact spec_DrawLblBoth.mono _ _)
      | (with_reducible exact spec_LblBoth.mono _ _ _ _ _)
      | (with_reducible exact spec_LblCommon.mono _ _ _ _ _)
      | (with_reducible exact LeO.refl _)
      | (with_reducible exact LeO.none _)
      | (with_reducible refine LeO.ite ?_ ?_)
      | (with_reducible refine LeO.bind ?_ (fun _ => ?_))
      | exact ih0 _ _ _ _ _ _ _ _ _
      | exact ih1 _ _ _ _ _ _ _ _ _
      | exact ih2 _ _ _ _ _ _ _ _ _
      | exact spec_DrawLblBoth.mono _ _
      | exact spec_LblBoth.mono _ _ _ _ _
      | exact spec_LblCommon.mono _ _ _ _ _
      | exact LeO.none _
      | refine LeO.ite ?_ ?_
      | refine LeO.bind ?_ (fun _ => ?_)
theorem laws_FnLblBounds.mono : ∀ a0 k, LeO (laws_FnLblBounds.f k a0) (laws_FnLblBounds.f (k + 1) a0) := by
  intro a0 k
  obtain ⟨ih0, ih1, ih2⟩ := laws_FnLblBounds.mono_l k
  unfold laws_FnLblBounds.f
  repeat' first
      | (with_reducible exact ih0 _ _ _ _ _ _ _ _ _)
      | (with_reducible exact ih1 _ _ _ _ _ _ _ _ _)
      | (with_reducible exact ih2 _ _ _ _ _ _ _ _ _)
      | (with_reducible exact spec_DrawLblBoth.mono _ _)
      | (with_reducible exact spec_LblBoth.mono _ _ _ _ _)
      | (with_reducible exact spec_LblCommon.mono _ _ _ _ _)
      | (with_reducible exact LeO.refl _)
      | (with_reducible exact LeO.none _)
      | (with_reducible refine LeO.ite ?_ ?_)
      | (with_reducible refine LeO.bind ?_ (fun _ => ?_))
      | exact ih0 _ _ _ _ _ _ _ _ _
      | exact ih1 _ _ _ _ _ _ _ _ _
      | exact ih2 _ _ _ _ _ _ _ _ _
      | exact spec_DrawLblBoth.mono _ _
      | exact spec_LblBoth.mono _ _ _ _ _
      | exact spec_LblCommon.mono _ _ _ _ _
      | exact LeO.none _
      | refine LeO.ite ?_ ?_
      | refine LeO.bind ?_ (fun _ => ?_)
def laws_FnLblBounds.T6 : Bool × List (List Nat × List Nat) := (true, [([], []), ([], []), ([], []), ([1, 2], [1, 2]), ([0, 3], [0, 3]), ([4, 3], [4]), ([5], [5]), ([5], [5]), ([5], [5]), ([7, 8, 5, 5], [5, 7, 8]), ([6, 9, 5], [5, 6, 9]), ([5, 10], [5, 10]), ([11, 9], [11]), ([12], [12]), ([13, 12, 12], [12, 13]), ([14, 12], [12, 14]), ([12, 15], [12, 15]), ([16, 14], [16]), ([17], [17]), ([18, 17, 17], [17, 18]), ([19, 17], [17, 19]), ([17, 20], [17, 20])])
def laws_FnLblBounds.B6 : List Nat := [0, 0, 0, 6, 15, 31, 63, 63, 63, 447, 1023, 2047, 4095, 8191, 16383, 32767, 65535, 131071, 262143, 524287, 1048575, 2097151]
theorem laws_FnLblBounds.tab6 : rtab .any (opsOf Try.f10 6) = laws_FnLblBounds.T6 := by kernel_rfl
theorem laws_FnLblBounds.bits6 : waitsOk laws_FnLblBounds.T6.2 laws_FnLblBounds.B6 = true := by kernel_rfl
def laws_FnLblBounds.T14 : Bool × List (List Nat × List Nat) := (true, [([], []), ([], []), ([0, 1], [0, 1]), ([], []), ([], []), ([3, 4, 2], [3, 4]), ([5, 5], [5]), ([6], [6]), ([6], [6]), ([7, 8, 6, 6], [6, 7, 8]), ([6, 9], [6, 9]), ([2, 10], [2, 10]), ([11, 9], [11]), ([12], [12]), ([12], [12]), ([13, 14, 12, 12], [12, 13, 14]), ([12], [12]), ([12], [12]), ([16, 17, 15, 12], [12, 16, 17]), ([18, 18, 12], [12, 18]), ([19], [19]), ([19], [19]), ([20, 21, 19, 19], [19, 20, 21]), ([19, 22, 12], [12, 19, 22]), ([15, 23, 12], [12, 15, 23]), ([12, 24], [12, 24])])
def laws_FnLblBounds.B14 : List Nat := [0, 0, 3, 0, 0, 31, 63, 127, 127, 511, 1023, 2047, 4095, 8191, 8191, 32767, 8191, 8191, 262143, 524287, 1048575, 1048575, 4194303, 8388607, 16777215, 33554431]
theorem laws_FnLblBounds.tab14 : rtab .any (opsOf Try.f10 14) = laws_FnLblBounds.T14 := by kernel_rfl
theorem laws_FnLblBounds.bits14 : waitsOk laws_FnLblBounds.T14.2 laws_FnLblBounds.B14 = true := by kernel_rfl
set_option maxHeartbeats 8000000 in
set_option maxRecDepth 100000 in
theorem laws_FnLblBounds.calls (k : Nat) (A0 : Option Addr) (c0 : Nat) (l0 : List Int) (r : Bool) (w : World) (hr0 : Kd.C (Kd.int .u8) w A0 l0.length l0) (hc0 : l0.length ≤ c0) (h : laws_FnLblBounds.f k l0 = some r) (htrue : Aside0 (r = true)) :
    Calls Try.prog 10 #[.slice A0 l0.length c0] w fun e w' => e = .returned (.bool r) ∧ Below w.heap.size w w' := by
  have hu25 := Try.underlying25
  have HR0 := Aside0.mk hr0
  have HC0 := Aside0.mk hc0
  clear hr0 hc0
  have HB := Aside0.mk (Below.refl w.heap.size w)
  have H : (if (l0.length : Int) > 1048576 then (some true) else ((spec_DrawLblBoth.f k l0).bind fun bt189 => ((impl_LblBoth.f bt189.1 bt189.2.1 bt189.2.2.1 bt189.2.2.2).bind fun bt195 => ((impl_LblCommon.f bt189.1 bt189.2.1 bt189.2.2.1 bt189.2.2.2).bind fun bt198 => ((spec_LblBoth.f k bt189.1 bt189.2.1 bt189.2.2.1 bt189.2.2.2).bind fun bt201 => (if (!(bt195.1 == bt201.1) || (!(bt195.2 == bt201.2))) = true then (laws_FnLblBounds.j0 k true bt189.1 bt189.2.1 bt189.2.2.1 bt189.2.2.2 bt195.1 bt195.2 bt198.1 bt198.2) else ((spec_LblCommon.f k bt189.1 bt189.2.1 bt189.2.2.1 bt189.2.2.2).bind fun bt203 => (if (!(bt198.1 == bt203.1) || (!(bt198.2 == bt203.2))) = true then (laws_FnLblBounds.j0 k true bt189.1 bt189.2.1 bt189.2.2.1 bt189.2.2.2 bt195.1 bt195.2 bt198.1 bt198.2) else ((impl_LblOk.f bt195.1 bt195.2).bind fun t205 => (if t205 = true then ((impl_LblOk.f bt198.1 bt198.2).bind fun t206 => (laws_FnLblBounds.j0 k (!t206) bt189.1 bt189.2.1 bt189.2.2.1 bt189.2.2.2 bt195.1 bt195.2 bt198.1 bt198.2)) else (laws_FnLblBounds.j0 k true bt189.1 bt189.2.1 bt189.2.2.1 bt189.2.2.2 bt195.1 bt195.2 bt198.1 bt198.2))))))))))) = some r := h
  clear h
  by_cases c2 : (l0.length : Int) > 1048576
  · rw [if_pos c2] at H
    have c2b0 : decide (1048576 < (l0.length : Int)) = true := decide_eq_true c2
    have c2b1 : decide (1048576 < l0.length) = true := decide_eq_true (by omega)
    clear c2
    obtain rfl := Option.some.inj H
    go_enter Try.func10, Try.ntmps10
    go_wp2
    go_ret
    exact ⟨by first | rfl | (simp [errW_none, errW_some] <;> rfl) | (simp [*, errW_none, errW_some] <;> rfl), hb_⟩
  · rw [if_neg c2] at H
    have c2b0 : decide (1048576 < (l0.length : Int)) = false := decide_eq_false c2
    have c2b1 : decide (1048576 < l0.length) = false := decide_eq_false (by omega)
    clear c2
    replace H := Option.bind_eq_some_iff.mp H
    obtain ⟨⟨t189, t190, t191, t192⟩, A30, H⟩ := H
    replace H : ((impl_LblBoth.f t189 t190 t191 t192).bind fun bt195 => ((impl_LblCommon.f t189 t190 t191 t192).bind fun bt198 => ((spec_LblBoth.f k t189 t190 t191 t192).bind fun bt201 => (if (!(bt195.1 == bt201.1) || (!(bt195.2 == bt201.2))) = true then (laws_FnLblBounds.j0 k true t189 t190 t191 t192 bt195.1 bt195.2 bt198.1 bt198.2) else ((spec_LblCommon.f k t189 t190 t191 t192).bind fun bt203 => (if (!(bt198.1 == bt203.1) || (!(bt198.2 == bt203.2))) = true then (laws_FnLblBounds.j0 k true t189 t190 t191 t192 bt195.1 bt195.2 bt198.1 bt198.2) else ((impl_LblOk.f bt195.1 bt195.2).bind fun t205 => (if t205 = true then ((impl_LblOk.f bt198.1 bt198.2).bind fun t206 => (laws_FnLblBounds.j0 k (!t206) t189 t190 t191 t192 bt195.1 bt195.2 bt198.1 bt198.2)) else (laws_FnLblBounds.j0 k true t189 t190 t191 t192 bt195.1 bt195.2 bt198.1 bt198.2))))))))) = some r := H
    have A3 := Aside0.mk A30
    clear A30
    replace H := Option.bind_eq_some_iff.mp H
    obtain ⟨⟨t195, t196⟩, A40, H⟩ := H
    replace H : ((impl_LblCommon.f t189 t190 t191 t192).bind fun bt198 => ((spec_LblBoth.f k t189 t190 t191 t192).bind fun bt201 => (if (!(t195 == bt201.1) || (!(t196 == bt201.2))) = true then (laws_FnLblBounds.j0 k true t189 t190 t191 t192 t195 t196 bt198.1 bt198.2) else ((spec_LblCommon.f k t189 t190 t191 t192).bind fun bt203 => (if (!(bt198.1 == bt203.1) || (!(bt198.2 == bt203.2))) = true then (laws_FnLblBounds.j0 k true t189 t190 t191 t192 t195 t196 bt198.1 bt198.2) else ((impl_LblOk.f t195 t196).bind fun t205 => (if t205 = true then ((impl_LblOk.f bt198.1 bt198.2).bind fun t206 => (laws_FnLblBounds.j0 k (!t206) t189 t190 t191 t192 t195 t196 bt198.1 bt198.2)) else (laws_FnLblBounds.j0 k true t189 t190 t191 t192 t195 t196 bt198.1 bt198.2)))))))) = some r := H
    have A4 := Aside0.mk A40
    clear A40
    replace H := Option.bind_eq_some_iff.mp H
    obtain ⟨⟨t198, t199⟩, A50, H⟩ := H
    replace H : ((spec_LblBoth.f k t189 t190 t191 t192).bind fun bt201 => (if (!(t195 == bt201.1) || (!(t196 == bt201.2))) = true then (laws_FnLblBounds.j0 k true t189 t190 t191 t192 t195 t196 t198 t199) else ((spec_LblCommon.f k t189 t190 t191 t192).bind fun bt203 => (if (!(t198 == bt203.1) || (!(t199 == bt203.2))) = true then (laws_FnLblBounds.j0 k true t189 t190 t191 t192 t195 t196 t198 t199) else ((impl_LblOk.f t195 t196).bind fun t205 => (if t205 = true then ((impl_LblOk.f t198 t199).bind fun t206 => (laws_FnLblBounds.j0 k (!t206) t189 t190 t191 t192 t195 t196 t198 t199)) else (laws_FnLblBounds.j0 k true t189 t190 t191 t192 t195 t196 t198 t199))))))) = some r := H
    have A5 := Aside0.mk A50
    clear A50
    have HC6 := Aside0.mk H
    clear H
    go_enter Try.func10, Try.ntmps10
    go_upto_region 6 with (first | ((with_reducible refine gate_callee (f := 29) rfl ?_); refine goesL_ (some 14) rfl rfl Try.func29 (by kernel_rfl) rfl #[.slice A0 l0.length c0] rfl ml_ ?_; (with_reducible refine (spec_DrawLblBoth.calls k _ _ l0 t189 t190 t191 t192 _ ?side1 ?side2 A3.out).mono ?_); (case side1 => repeat (first | exact HR0.out | (with_reducible refine Kd.C_alloc ?_ _) | (with_reducible refine Kd.C_drewN ?_ _) | (with_reducible refine Kd.C_drew ?_))); (case side2 => exact HC0.out); rintro e w7 ⟨rfl, hb⟩; refine ⟨_, rfl, ?_⟩; have n0_ := Aside0.mk (below_step hb_ hb); clear HB; have HB := n0_; clear n0_; (try clear hb); (try clear hb2); (try clear hk); (try clear hi)) | ((with_reducible refine gate_dst (N := 3) rfl ?_); refine bx_ (N := 3) (cs := #[.int .i64 0, .int .i64 0]) (t := 25) ?_; intro gb193 hg w8 hbox hb; have n0_ := Aside0.mk (below_step hb_ hb); have n1_ := Aside0.mk (hbox); have n2_ := Aside0.mk ((hg_ : w.heap.size ≤ gb193)); have n3_ := Aside0.mk ((hg_ : w.heap.size ≤ gb193)); clear HB; have HB := n0_; have BK193 := n1_; have GW193 := n2_; have GE193 := n3_; clear n0_ n1_ n2_ n3_; clear hb hbox hg) | ((with_reducible refine gate_dst (N := 4) rfl ?_); refine bx_ (N := 4) (cs := #[.int .i64 0, .int .i64 0]) (t := 25) ?_; intro gb194 hg w9 hbox hb; have n0_ := Aside0.mk (blk_below (g := gb193) (o := .cells #[.int .i64 0, .int .i64 0] 25 (0, 0)) bk_ hb); have n1_ := Aside0.mk (below_step hb_ hb); have n2_ := Aside0.mk (hbox); have n3_ := Aside0.mk ((hg_ : w.heap.size ≤ gb194)); have n4_ := Aside0.mk ((hg_ : w.heap.size ≤ gb194)); have n5_ := Aside0.mk ((nl_ : gb193 ≠ gb194)); have n6_ := Aside0.mk ((ng_ : gb194 ≠ gb193)); clear BK193; clear HB; have BK193 := n0_; have HB := n1_; have BK194 := n2_; have GW194 := n3_; have GE194 := n4_; have NB193_194 := n5_; have NB194_193 := n6_; clear n0_ n1_ n2_ n3_ n4_ n5_ n6_; clear hb hbox hg; have hnb10 := NB193_194.out; have hnc10 := NB194_193.out; have hcz11_0 : w9.cell? ⟨gb193, 0, none⟩ = some (.int .i64 0) := (blk_cell BK193.out 0).trans rfl; have hcz11_1 : w9.cell? ⟨gb193, 1, none⟩ = some (.int .i64 0) := (blk_cell BK193.out 1).trans rfl; have hfz11_0 := blk_frozen BK193.out 0; have hfz11_1 := blk_frozen BK193.out 1; have hcz12_0 : w9.cell? ⟨gb194, 0, none⟩ = some (.int .i64 0) := (blk_cell BK194.out 0).trans rfl; have hcz12_1 : w9.cell? ⟨gb194, 1, none⟩ = some (.int .i64 0) := (blk_cell BK194.out 1).trans rfl; have hfz12_0 := blk_frozen BK194.out 0; have hfz12_1 := blk_frozen BK194.out 1) | ((with_reducible refine gate_callee (f := 20) rfl ?_); refine goesL_ (some 19) rfl rfl Try.func20 (by kernel_rfl) rfl #[.agg #[.int .i64 t189, .int .i64 t190], .agg #[.int .i64 t191, .int .i64 t192]] rfl ml_ ?_; (with_reducible refine (impl_LblBoth.calls t189 t190 t191 t192 t195 t196 _ A4.out).mono ?_); rintro e w13 ⟨rfl, hb⟩; refine ⟨_, rfl, ?_⟩; have n0_ := Aside0.mk (blk_below (g := gb193) (o := .cells #[.int .i64 t189, .int .i64 t190] 25 (0, 0)) (by (with_reducible repeat (first | refine blk_drewN ?_ _ | refine blk_drew ?_ | refine blk_alloc ?_ _)); refine blk_far ?_ NB193_194.out _; (with_reducible repeat (first | refine blk_drewN ?_ _ | refine blk_drew ?_ | refine blk_alloc ?_ _)); refine blk_far ?_ NB193_194.out _; (with_reducible repeat (first | refine blk_drewN ?_ _ | refine blk_drew ?_ | refine blk_alloc ?_ _)); refine blk_put (cs := #[.int .i64 t189, .int .i64 0]) ?_ 1 _ rfl; (with_reducible repeat (first | refine blk_drewN ?_ _ | refine blk_drew ?_ | refine blk_alloc ?_ _)); refine blk_put (cs := #[.int .i64 0, .int .i64 0]) ?_ 0 _ rfl; (with_reducible repeat (first | refine blk_drewN ?_ _ | refine blk_drew ?_ | refine blk_alloc ?_ _)); exact BK193.out) hb); have n1_ := Aside0.mk (blk_below (g := gb194) (o := .cells #[.int .i64 t191, .int .i64 t192] 25 (0, 0)) (by (with_reducible repeat (first | refine blk_drewN ?_ _ | refine blk_drew ?_ | refine blk_alloc ?_ _)); refine blk_put (cs := #[.int .i64 t191, .int .i64 0]) ?_ 1 _ rfl; (with_reducible repeat (first | refine blk_drewN ?_ _ | refine blk_drew ?_ | refine blk_alloc ?_ _)); refine blk_put (cs := #[.int .i64 0, .int .i64 0]) ?_ 0 _ rfl; (with_reducible repeat (first | refine blk_drewN ?_ _ | refine blk_drew ?_ | refine blk_alloc ?_ _)); refine blk_far ?_ NB194_193.out _; (with_reducible repeat (first | refine blk_drewN ?_ _ | refine blk_drew ?_ | refine blk_alloc ?_ _)); refine blk_far ?_ NB194_193.out _; (with_reducible repeat (first | refine blk_drewN ?_ _ | refine blk_drew ?_ | refine blk_alloc ?_ _)); exact BK194.out) hb); have n2_ := Aside0.mk (below_step hb_ hb); clear BK193; clear BK194; clear HB; have BK193 := n0_; have BK194 := n1_; have HB := n2_; clear n0_ n1_ n2_; (try clear hb); (try clear hb2); (try clear hk); (try clear hi)) | ((with_reducible refine gate_dst (N := 5) rfl ?_); refine bx_ (N := 5) (cs := #[.int .i64 0, .int .i64 0]) (t := 25) ?_; intro gb197 hg w14 hbox hb; have n0_ := Aside0.mk (blk_below (g := gb193) (o := .cells #[.int .i64 t189, .int .i64 t190] 25 (0, 0)) bk_ hb); have n1_ := Aside0.mk (blk_below (g := gb194) (o := .cells #[.int .i64 t191, .int .i64 t192] 25 (0, 0)) bk_ hb); have n2_ := Aside0.mk (below_step hb_ hb); have n3_ := Aside0.mk (hbox); have n4_ := Aside0.mk ((hg_ : w.heap.size ≤ gb197)); have n5_ := Aside0.mk ((hg_ : w.heap.size ≤ gb197)); have n6_ := Aside0.mk ((nl_ : gb193 ≠ gb197)); have n7_ := Aside0.mk ((ng_ : gb197 ≠ gb193)); have n8_ := Aside0.mk ((nl_ : gb194 ≠ gb197)); have n9_ := Aside0.mk ((ng_ : gb197 ≠ gb194)); clear BK193; clear BK194; clear HB; have BK193 := n0_; have BK194 := n1_; have HB := n2_; have BK197 := n3_; have GW197 := n4_; have GE197 := n5_; have NB193_197 := n6_; have NB197_193 := n7_; have NB194_197 := n8_; have NB197_194 := n9_; clear n0_ n1_ n2_ n3_ n4_ n5_ n6_ n7_ n8_ n9_; clear hb hbox hg; have hnb15 := NB197_193.out; have hnc15 := NB193_197.out; have hnb16 := NB197_194.out; have hnc16 := NB194_197.out; have hcz17_0 : w14.cell? ⟨gb197, 0, none⟩ = some (.int .i64 0) := (blk_cell BK197.out 0).trans rfl; have hcz17_1 : w14.cell? ⟨gb197, 1, none⟩ = some (.int .i64 0) := (blk_cell BK197.out 1).trans rfl; have hfz17_0 := blk_frozen BK197.out 0; have hfz17_1 := blk_frozen BK197.out 1; have hcz18_0 : w14.cell? ⟨gb193, 0, none⟩ = some (.int .i64 t189) := (blk_cell BK193.out 0).trans rfl; have hcz18_1 : w14.cell? ⟨gb193, 1, none⟩ = some (.int .i64 t190) := (blk_cell BK193.out 1).trans rfl; have hfz18_0 := blk_frozen BK193.out 0; have hfz18_1 := blk_frozen BK193.out 1; have hcz19_0 : w14.cell? ⟨gb194, 0, none⟩ = some (.int .i64 t191) := (blk_cell BK194.out 0).trans rfl; have hcz19_1 : w14.cell? ⟨gb194, 1, none⟩ = some (.int .i64 t192) := (blk_cell BK194.out 1).trans rfl; have hfz19_0 := blk_frozen BK194.out 0; have hfz19_1 := blk_frozen BK194.out 1) | ((with_reducible refine gate_callee (f := 23) rfl ?_); refine goesL_ (some 22) rfl rfl Try.func23 (by kernel_rfl) rfl #[.agg #[.int .i64 t189, .int .i64 t190], .agg #[.int .i64 t191, .int .i64 t192]] rfl ml_ ?_; (with_reducible refine (impl_LblCommon.calls t189 t190 t191 t192 t198 t199 _ A5.out).mono ?_); rintro e w20 ⟨rfl, hb⟩; refine ⟨_, rfl, ?_⟩; have n0_ := Aside0.mk (blk_below (g := gb193) (o := .cells #[.int .i64 t189, .int .i64 t190] 25 (0, 0)) (by (with_reducible repeat (first | refine blk_drewN ?_ _ | refine blk_drew ?_ | refine blk_alloc ?_ _)); refine blk_far ?_ NB193_197.out _; (with_reducible repeat (first | refine blk_drewN ?_ _ | refine blk_drew ?_ | refine blk_alloc ?_ _)); refine blk_far ?_ NB193_197.out _; (with_reducible repeat (first | refine blk_drewN ?_ _ | refine blk_drew ?_ | refine blk_alloc ?_ _)); exact BK193.out) hb); have n1_ := Aside0.mk (blk_below (g := gb194) (o := .cells #[.int .i64 t191, .int .i64 t192] 25 (0, 0)) (by (with_reducible repeat (first | refine blk_drewN ?_ _ | refine blk_drew ?_ | refine blk_alloc ?_ _)); refine blk_far ?_ NB194_197.out _; (with_reducible repeat (first | refine blk_drewN ?_ _ | refine blk_drew ?_ | refine blk_alloc ?_ _)); refine blk_far ?_ NB194_197.out _; (with_reducible repeat (first | refine blk_drewN ?_ _ | refine blk_drew ?_ | refine blk_alloc ?_ _)); exact BK194.out) hb); have n2_ := Aside0.mk (blk_below (g := gb197) (o := .cells #[.int .i64 t195, .int .i64 t196] 25 (0, 0)) (by (with_reducible repeat (first | refine blk_drewN ?_ _ | refine blk_drew ?_ | refine blk_alloc ?_ _)); refine blk_put (cs := #[.int .i64 t195, .int .i64 0]) ?_ 1 _ rfl; (with_reducible repeat (first | refine blk_drewN ?_ _ | refine blk_drew ?_ | refine blk_alloc ?_ _)); refine blk_put (cs := #[.int .i64 0, .int .i64 0]) ?_ 0 _ rfl; (with_reducible repeat (first | refine blk_drewN ?_ _ | refine blk_drew ?_ | refine blk_alloc ?_ _)); exact BK197.out) hb); have n3_ := Aside0.mk (below_step hb_ hb); clear BK193; clear BK194; clear BK197; clear HB; have BK193 := n0_; have BK194 := n1_; have BK197 := n2_; have HB := n3_; clear n0_ n1_ n2_ n3_; (try clear hb); (try clear hb2); (try clear hk); (try clear hi)) | ((with_reducible refine gate_dst (N := 6) rfl ?_); refine bx_ (N := 6) (cs := #[.int .i64 0, .int .i64 0]) (t := 25) ?_; intro gb200 hg w21 hbox hb; have n0_ := Aside0.mk (blk_below (g := gb193) (o := .cells #[.int .i64 t189, .int .i64 t190] 25 (0, 0)) bk_ hb); have n1_ := Aside0.mk (blk_below (g := gb194) (o := .cells #[.int .i64 t191, .int .i64 t192] 25 (0, 0)) bk_ hb); have n2_ := Aside0.mk (blk_below (g := gb197) (o := .cells #[.int .i64 t195, .int .i64 t196] 25 (0, 0)) bk_ hb); have n3_ := Aside0.mk (below_step hb_ hb); have n4_ := Aside0.mk (hbox); have n5_ := Aside0.mk ((hg_ : w.heap.size ≤ gb200)); have n6_ := Aside0.mk ((hg_ : w.heap.size ≤ gb200)); have n7_ := Aside0.mk ((nl_ : gb193 ≠ gb200)); have n8_ := Aside0.mk ((ng_ : gb200 ≠ gb193)); have n9_ := Aside0.mk ((nl_ : gb194 ≠ gb200)); have n10_ := Aside0.mk ((ng_ : gb200 ≠ gb194)); have n11_ := Aside0.mk ((nl_ : gb197 ≠ gb200)); have n12_ := Aside0.mk ((ng_ : gb200 ≠ gb197)); clear BK193; clear BK194; clear BK197; clear HB; have BK193 := n0_; have BK194 := n1_; have BK197 := n2_; have HB := n3_; have BK200 := n4_; have GW200 := n5_; have GE200 := n6_; have NB193_200 := n7_; have NB200_193 := n8_; have NB194_200 := n9_; have NB200_194 := n10_; have NB197_200 := n11_; have NB200_197 := n12_; clear n0_ n1_ n2_ n3_ n4_ n5_ n6_ n7_ n8_ n9_ n10_ n11_ n12_; clear hb hbox hg; have hnb22 := NB200_193.out; have hnc22 := NB193_200.out; have hnb23 := NB200_194.out; have hnc23 := NB194_200.out; have hnb24 := NB200_197.out; have hnc24 := NB197_200.out; have hcz25_0 : w21.cell? ⟨gb200, 0, none⟩ = some (.int .i64 0) := (blk_cell BK200.out 0).trans rfl; have hcz25_1 : w21.cell? ⟨gb200, 1, none⟩ = some (.int .i64 0) := (blk_cell BK200.out 1).trans rfl; have hfz25_0 := blk_frozen BK200.out 0; have hfz25_1 := blk_frozen BK200.out 1))
    (try simp only [Act.put, List.setIfInBounds_toArray, List.set_cons_zero, List.set_cons_succ])
    go_cut [44] (fun v44 wc => ∃ (kq : Nat) (x44_5 : Bool), v44 = .bool x44_5 ∧ Aside0 (laws_FnLblBounds.j0 kq x44_5 t189 t190 t191 t192 t195 t196 t198 t199 = some r) ∧ Aside0 (kq ≤ k) ∧ Aside0 (wc.heap[gb193]? = some (.cells #[.int .i64 t189, .int .i64 t190] 25 (0, 0))) ∧ Aside0 (wc.heap[gb194]? = some (.cells #[.int .i64 t191, .int .i64 t192] 25 (0, 0))) ∧ Aside0 (wc.heap[gb197]? = some (.cells #[.int .i64 t195, .int .i64 t196] 25 (0, 0))) ∧ Aside0 (wc.heap[gb200]? = some (.cells #[.int .i64 t198, .int .i64 t199] 25 (0, 0))) ∧ Aside0 (Below w.heap.size w wc))
    case first =>
      have H := HC6.out
      clear HC6
      replace H := Option.bind_eq_some_iff.mp H
      obtain ⟨⟨t201, t202⟩, A260, H⟩ := H
      replace H : (if (!(t195 == t201) || (!(t196 == t202))) = true then (laws_FnLblBounds.j0 k true t189 t190 t191 t192 t195 t196 t198 t199) else ((spec_LblCommon.f k t189 t190 t191 t192).bind fun bt203 => (if (!(t198 == bt203.1) || (!(t199 == bt203.2))) = true then (laws_FnLblBounds.j0 k true t189 t190 t191 t192 t195 t196 t198 t199) else ((impl_LblOk.f t195 t196).bind fun t205 => (if t205 = true then ((impl_LblOk.f t198 t199).bind fun t206 => (laws_FnLblBounds.j0 k (!t206) t189 t190 t191 t192 t195 t196 t198 t199)) else (laws_FnLblBounds.j0 k true t189 t190 t191 t192 t195 t196 t198 t199)))))) = some r := H
      have A26 := Aside0.mk A260
      clear A260
      by_cases c27 : (!(t195 == t201) || (!(t196 == t202))) = true
      · rw [if_pos c27] at H
        exact absurd H (by rw [htrue.out]; cases k <;> simp [laws_FnLblBounds.j0])
      · rw [if_neg c27] at H
        have c27b0 : (!(t195 == t201) || (!(t196 == t202))) = false := by simpa using c27
        clear c27
        (first | rw [c27b0] | (simp only [i64_w, i32_w]; rw [c27b0]) | skip)
        replace H := Option.bind_eq_some_iff.mp H
        obtain ⟨⟨t203, t204⟩, A310, H⟩ := H
        replace H : (if (!(t198 == t203) || (!(t199 == t204))) = true then (laws_FnLblBounds.j0 k true t189 t190 t191 t192 t195 t196 t198 t199) else ((impl_LblOk.f t195 t196).bind fun t205 => (if t205 = true then ((impl_LblOk.f t198 t199).bind fun t206 => (laws_FnLblBounds.j0 k (!t206) t189 t190 t191 t192 t195 t196 t198 t199)) else (laws_FnLblBounds.j0 k true t189 t190 t191 t192 t195 t196 t198 t199)))) = some r := H
        have A31 := Aside0.mk A310
        clear A310
        by_cases c32 : (!(t198 == t203) || (!(t199 == t204))) = true
        · rw [if_pos c32] at H
          exact absurd H (by rw [htrue.out]; cases k <;> simp [laws_FnLblBounds.j0])
        · rw [if_neg c32] at H
          have c32b0 : (!(t198 == t203) || (!(t199 == t204))) = false := by simpa using c32
          clear c32
          replace H := Option.bind_eq_some_iff.mp H
          obtain ⟨t205, A370, H⟩ := H
          replace H : (if t205 = true then ((impl_LblOk.f t198 t199).bind fun t206 => (laws_FnLblBounds.j0 k (!t206) t189 t190 t191 t192 t195 t196 t198 t199)) else (laws_FnLblBounds.j0 k true t189 t190 t191 t192 t195 t196 t198 t199)) = some r := H
          have A37 := Aside0.mk A370
          clear A370
          by_cases c38 : t205 = true
          · subst c38
            have H1 : ((impl_LblOk.f t198 t199).bind fun t206 => (laws_FnLblBounds.j0 k (!t206) t189 t190 t191 t192 t195 t196 t198 t199)) = some r := by rw [if_pos rfl] at H; exact H
            clear H
            have H := H1
            clear H1
            replace H := Option.bind_eq_some_iff.mp H
            obtain ⟨t206, A390, H⟩ := H
            replace H : (laws_FnLblBounds.j0 k (!t206) t189 t190 t191 t192 t195 t196 t198 t199) = some r := H
            have A39 := Aside0.mk A390
            clear A390
            have H' := Aside0.mk H
            clear H
            try go_wp2
            have n0_ : Aside0 (((w21.setCell ⟨gb200, 0, none⟩ (.int .i64 t198)).setCell ⟨gb200, 1, none⟩ (.int .i64 t199)).heap[gb193]? = some (.cells #[.int .i64 t189, .int .i64 t190] 25 (0, 0))) := ⟨by (with_reducible repeat (first | refine blk_drewN ?_ _ | refine blk_drew ?_ | refine blk_alloc ?_ _)); refine blk_far ?_ NB193_200.out _; (with_reducible repeat (first | refine blk_drewN ?_ _ | refine blk_drew ?_ | refine blk_alloc ?_ _)); refine blk_far ?_ NB193_200.out _; (with_reducible repeat (first | refine blk_drewN ?_ _ | refine blk_drew ?_ | refine blk_alloc ?_ _)); exact BK193.out⟩
            have n1_ : Aside0 (((w21.setCell ⟨gb200, 0, none⟩ (.int .i64 t198)).setCell ⟨gb200, 1, none⟩ (.int .i64 t199)).heap[gb194]? = some (.cells #[.int .i64 t191, .int .i64 t192] 25 (0, 0))) := ⟨by (with_reducible repeat (first | refine blk_drewN ?_ _ | refine blk_drew ?_ | refine blk_alloc ?_ _)); refine blk_far ?_ NB194_200.out _; (with_reducible repeat (first | refine blk_drewN ?_ _ | refine blk_drew ?_ | refine blk_alloc ?_ _)); refine blk_far ?_ NB194_200.out _; (with_reducible repeat (first | refine blk_drewN ?_ _ | refine blk_drew ?_ | refine blk_alloc ?_ _)); exact BK194.out⟩
            have n2_ : Aside0 (((w21.setCell ⟨gb200, 0, none⟩ (.int .i64 t198)).setCell ⟨gb200, 1, none⟩ (.int .i64 t199)).heap[gb197]? = some (.cells #[.int .i64 t195, .int .i64 t196] 25 (0, 0))) := ⟨by (with_reducible repeat (first | refine blk_drewN ?_ _ | refine blk_drew ?_ | refine blk_alloc ?_ _)); refine blk_far ?_ NB197_200.out _; (with_reducible repeat (first | refine blk_drewN ?_ _ | refine blk_drew ?_ | refine blk_alloc ?_ _)); refine blk_far ?_ NB197_200.out _; (with_reducible repeat (first | refine blk_drewN ?_ _ | refine blk_drew ?_ | refine blk_alloc ?_ _)); exact BK197.out⟩
            have n3_ : Aside0 (((w21.setCell ⟨gb200, 0, none⟩ (.int .i64 t198)).setCell ⟨gb200, 1, none⟩ (.int .i64 t199)).heap[gb200]? = some (.cells #[.int .i64 t198, .int .i64 t199] 25 (0, 0))) := ⟨by (with_reducible repeat (first | refine blk_drewN ?_ _ | refine blk_drew ?_ | refine blk_alloc ?_ _)); refine blk_put (cs := #[.int .i64 t198, .int .i64 0]) ?_ 1 _ rfl; (with_reducible repeat (first | refine blk_drewN ?_ _ | refine blk_drew ?_ | refine blk_alloc ?_ _)); refine blk_put (cs := #[.int .i64 0, .int .i64 0]) ?_ 0 _ rfl; (with_reducible repeat (first | refine blk_drewN ?_ _ | refine blk_drew ?_ | refine blk_alloc ?_ _)); exact BK200.out⟩
            have n4_ : Aside0 (Below w.heap.size w ((w21.setCell ⟨gb200, 0, none⟩ (.int .i64 t198)).setCell ⟨gb200, 1, none⟩ (.int .i64 t199))) := ⟨hb_⟩
            (try clear BK193)
            (try clear BK194)
            (try clear BK197)
            (try clear BK200)
            (try clear HB)
            generalize ((w21.setCell ⟨gb200, 0, none⟩ (.int .i64 t198)).setCell ⟨gb200, 1, none⟩ (.int .i64 t199)) = w40 at n0_ n1_ n2_ n3_ n4_ ⊢
            have BK193 := n0_
            have BK194 := n1_
            have BK197 := n2_
            have BK200 := n3_
            have HB := n4_
            clear n0_ n1_ n2_ n3_ n4_
            have n0_ := Aside0.mk (blk_drew BK193.out)
            have n1_ := Aside0.mk (blk_drew BK194.out)
            have n2_ := Aside0.mk (blk_drew BK197.out)
            have n3_ := Aside0.mk (blk_drew BK200.out)
            have n4_ := Aside0.mk (below_drew1 HB.out)
            clear BK193
            clear BK194
            clear BK197
            clear BK200
            clear HB
            have BK193 := n0_
            have BK194 := n1_
            have BK197 := n2_
            have BK200 := n3_
            have HB := n4_
            clear n0_ n1_ n2_ n3_ n4_
            refine start_ (n := 22) (S := fun w' => w'.cell? ⟨gb197, 0, none⟩ = some (.int .i64 t195) ∧ w'.cell? ⟨gb197, 1, none⟩ = some (.int .i64 t196) ∧ w'.cell? ⟨gb193, 0, none⟩ = some (.int .i64 t189) ∧ w'.cell? ⟨gb193, 1, none⟩ = some (.int .i64 t190) ∧ w'.cell? ⟨gb194, 0, none⟩ = some (.int .i64 t191) ∧ w'.cell? ⟨gb194, 1, none⟩ = some (.int .i64 t192) ∧ w'.cell? ⟨gb200, 0, none⟩ = some (.int .i64 t198) ∧ w'.cell? ⟨gb200, 1, none⟩ = some (.int .i64 t199)) (ds := []) #[false, false, false, false, false, false, false, false, false, false, false, false, false, false, false, false, false, false, false, false, false, false] (by kernel_rfl) rfl rfl ⟨(blk_cell BK197.out 0).trans rfl, (blk_cell BK197.out 1).trans rfl, (blk_cell BK193.out 0).trans rfl, (blk_cell BK193.out 1).trans rfl, (blk_cell BK194.out 0).trans rfl, (blk_cell BK194.out 1).trans rfl, (blk_cell BK200.out 0).trans rfl, (blk_cell BK200.out 1).trans rfl⟩ (fun hHeld => ?_); refine with_tabW laws_FnLblBounds.tab6 laws_FnLblBounds.bits6 (fun HT_ HW_ => ?_)
            generalize w40.drew = w41 at BK193 BK194 BK197 BK200 HB hHeld ⊢
            refine take_ (i := 0) (N := some 23) (v := ?_) (a' := ?_) #[true, false, false, false, false, false, false, false, false, false, false, false, false, false, false, false, false, false, false, false, false, false] rfl rfl (take_ofW HT_.out HW_.out (by kernel_rfl)) (fun _ _ _ h => h) (Or.inl ⟨by rfl, ?_⟩) hHeld ?_ ?_
            rotate_left
            · rintro w' ⟨s0, s1, s2, s3, s4, s5, s6, s7⟩
              go_simp
              with_reducible rfl
            rotate_left
            · simp only [Act.put, List.setIfInBounds_toArray, List.set_cons_zero, List.set_cons_succ, i64_w, i32_w]
              rfl
            refine take_ (i := 1) (N := some 24) (v := ?_) (a' := ?_) #[true, true, false, false, false, false, false, false, false, false, false, false, false, false, false, false, false, false, false, false, false, false] rfl rfl (take_ofW HT_.out HW_.out (by kernel_rfl)) (fun _ _ _ h => h) (Or.inl ⟨by rfl, ?_⟩) hHeld ?_ ?_
            rotate_left
            · rintro w' ⟨s0, s1, s2, s3, s4, s5, s6, s7⟩
              go_simp
              with_reducible rfl
            rotate_left
            · simp only [Act.put, List.setIfInBounds_toArray, List.set_cons_zero, List.set_cons_succ, i64_w, i32_w]
              rfl
            refine take_ (i := 2) (N := some 25) (v := ?_) (a' := ?_) #[true, true, true, false, false, false, false, false, false, false, false, false, false, false, false, false, false, false, false, false, false, false] rfl rfl (take_ofW HT_.out HW_.out (by kernel_rfl)) (fun _ _ _ h => h) (Or.inl ⟨by rfl, ?_⟩) hHeld ?_ ?_
            rotate_left
            · rintro w' ⟨s0, s1, s2, s3, s4, s5, s6, s7⟩
              go_simp
              with_reducible rfl
            rotate_left
            · simp only [Act.put, List.setIfInBounds_toArray, List.set_cons_zero, List.set_cons_succ, i64_w, i32_w]
              rfl
            refine one_ (i := 3) (N := some 26) #[true, true, true, true, false, false, false, false, false, false, false, false, false, false, false, false, false, false, false, false, false, false] rfl rfl (one_of HT_.out (by kernel_rfl)) (by decide) (fun K hK => ?_)
            refine goes_ Try.func19 (by kernel_rfl) rfl #[.agg #[.int .i64 t189, .int .i64 t190], .agg #[.int .i64 t191, .int .i64 t192]] (by rfl) rfl rfl ml_ ?_
            with_reducible refine (spec_LblBoth.calls k t189 t190 t191 t192 t201 t202 _ A26.out).mono ?_
            rintro e w42 ⟨rfl, hb⟩
            refine ⟨_, rfl, ?_⟩
            have n0_ := Aside0.mk (blk_below (g := gb193) (o := .cells #[.int .i64 t189, .int .i64 t190] 25 (0, 0)) bk_ hb)
            have n1_ := Aside0.mk (blk_below (g := gb194) (o := .cells #[.int .i64 t191, .int .i64 t192] 25 (0, 0)) bk_ hb)
            have n2_ := Aside0.mk (blk_below (g := gb197) (o := .cells #[.int .i64 t195, .int .i64 t196] 25 (0, 0)) bk_ hb)
            have n3_ := Aside0.mk (blk_below (g := gb200) (o := .cells #[.int .i64 t198, .int .i64 t199] 25 (0, 0)) bk_ hb)
            have n4_ := Aside0.mk (below_step hb_ hb)
            clear BK193
            clear BK194
            clear BK197
            clear BK200
            clear HB
            have BK193 := n0_
            have BK194 := n1_
            have BK197 := n2_
            have BK200 := n3_
            have HB := n4_
            clear n0_ n1_ n2_ n3_ n4_
            (try clear hb)
            (try clear hb2)
            (try clear hk)
            (try clear hi)
            refine hK.out _ _ ⟨(blk_cell BK197.out 0).trans rfl, (blk_cell BK197.out 1).trans rfl, (blk_cell BK193.out 0).trans rfl, (blk_cell BK193.out 1).trans rfl, (blk_cell BK194.out 0).trans rfl, (blk_cell BK194.out 1).trans rfl, (blk_cell BK200.out 0).trans rfl, (blk_cell BK200.out 1).trans rfl⟩ (fun hHeld => ?_)
            clear hK K
            refine norm_ (a' := ?_) ?_ ?_
            rotate_left
            · show Act.put _ (some 26) _ = _
              simp only [Act.put, List.setIfInBounds_toArray, List.set_cons_zero, List.set_cons_succ, i64_w, i32_w]
              rfl
            refine pure_ (i := 4) (N := some 27) (v := ?_) (a' := ?_) #[true, true, true, true, true, false, false, false, false, false, false, false, false, false, false, false, false, false, false, false, false, false] rfl rfl (any_of HT_.out (by kernel_rfl)) (fun _ _ _ h => h) (Or.inl ⟨by rfl, ?_⟩) ?_ ?_
            rotate_left
            · intro w'
              go_simp
              with_reducible rfl
            rotate_left
            · simp only [Act.put, List.setIfInBounds_toArray, List.set_cons_zero, List.set_cons_succ, i64_w, i32_w]
              rfl
            refine pure_ (i := 5) (N := some 28) (v := ?_) (a' := ?_) #[true, true, true, true, true, true, false, false, false, false, false, false, false, false, false, false, false, false, false, false, false, false] rfl rfl (any_of HT_.out (by kernel_rfl)) (fun _ _ _ h => h) (Or.inl ⟨by rfl, ?_⟩) ?_ ?_
            rotate_left
            · intro w'
              go_simp
              with_reducible rfl
            rotate_left
            · simp only [Act.put, List.setIfInBounds_toArray, List.set_cons_zero, List.set_cons_succ, i64_w, i32_w]
              rfl
            refine take_ (i := 6) (N := some 29) (v := ?_) (a' := ?_) #[true, true, true, true, true, true, true, false, false, false, false, false, false, false, false, false, false, false, false, false, false, false] rfl rfl (take_ofW HT_.out HW_.out (by kernel_rfl)) (fun _ _ _ h => h) (Or.inl ⟨by rfl, ?_⟩) hHeld ?_ ?_
            rotate_left
            · rintro w' ⟨s0, s1, s2, s3, s4, s5, s6, s7⟩
              go_simp
              with_reducible rfl
            rotate_left
            · simp only [Act.put, List.setIfInBounds_toArray, List.set_cons_zero, List.set_cons_succ, i64_w, i32_w]
              rfl
            refine take_ (i := 7) (N := some 30) (v := ?_) (a' := ?_) #[true, true, true, true, true, true, true, true, false, false, false, false, false, false, false, false, false, false, false, false, false, false] rfl rfl (take_ofW HT_.out HW_.out (by kernel_rfl)) (fun _ _ _ h => h) (Or.inl ⟨by rfl, ?_⟩) hHeld ?_ ?_
            rotate_left
            · rintro w' ⟨s0, s1, s2, s3, s4, s5, s6, s7⟩
              go_simp
              with_reducible rfl
            rotate_left
            · simp only [Act.put, List.setIfInBounds_toArray, List.set_cons_zero, List.set_cons_succ, i64_w, i32_w]
              rfl
            refine take_ (i := 8) (N := some 31) (v := ?_) (a' := ?_) #[true, true, true, true, true, true, true, true, true, false, false, false, false, false, false, false, false, false, false, false, false, false] rfl rfl (take_ofW HT_.out HW_.out (by kernel_rfl)) (fun _ _ _ h => h) (Or.inl ⟨by rfl, ?_⟩) hHeld ?_ ?_
            rotate_left
            · rintro w' ⟨s0, s1, s2, s3, s4, s5, s6, s7⟩
              go_simp
              with_reducible rfl
            rotate_left
            · simp only [Act.put, List.setIfInBounds_toArray, List.set_cons_zero, List.set_cons_succ, i64_w, i32_w]
              rfl
            refine one_ (i := 9) (N := some 32) #[true, true, true, true, true, true, true, true, true, true, false, false, false, false, false, false, false, false, false, false, false, false] rfl rfl (one_of HT_.out (by kernel_rfl)) (by decide) (fun K hK => ?_)
            refine goes_ Try.func22 (by kernel_rfl) rfl #[.agg #[.int .i64 t189, .int .i64 t190], .agg #[.int .i64 t191, .int .i64 t192]] (by rfl) rfl rfl ml_ ?_
            with_reducible refine (spec_LblCommon.calls k t189 t190 t191 t192 t203 t204 _ A31.out).mono ?_
            rintro e w43 ⟨rfl, hb⟩
            refine ⟨_, rfl, ?_⟩
            have n0_ := Aside0.mk (blk_below (g := gb193) (o := .cells #[.int .i64 t189, .int .i64 t190] 25 (0, 0)) bk_ hb)
            have n1_ := Aside0.mk (blk_below (g := gb194) (o := .cells #[.int .i64 t191, .int .i64 t192] 25 (0, 0)) bk_ hb)
            have n2_ := Aside0.mk (blk_below (g := gb197) (o := .cells #[.int .i64 t195, .int .i64 t196] 25 (0, 0)) bk_ hb)
            have n3_ := Aside0.mk (blk_below (g := gb200) (o := .cells #[.int .i64 t198, .int .i64 t199] 25 (0, 0)) bk_ hb)
            have n4_ := Aside0.mk (below_step hb_ hb)
            clear BK193
            clear BK194
            clear BK197
            clear BK200
            clear HB
            have BK193 := n0_
            have BK194 := n1_
            have BK197 := n2_
            have BK200 := n3_
            have HB := n4_
            clear n0_ n1_ n2_ n3_ n4_
            (try clear hb)
            (try clear hb2)
            (try clear hk)
            (try clear hi)
            refine hK.out _ _ ⟨(blk_cell BK197.out 0).trans rfl, (blk_cell BK197.out 1).trans rfl, (blk_cell BK193.out 0).trans rfl, (blk_cell BK193.out 1).trans rfl, (blk_cell BK194.out 0).trans rfl, (blk_cell BK194.out 1).trans rfl, (blk_cell BK200.out 0).trans rfl, (blk_cell BK200.out 1).trans rfl⟩ (fun hHeld => ?_)
            clear hK K
            refine norm_ (a' := ?_) ?_ ?_
            rotate_left
            · show Act.put _ (some 32) _ = _
              simp only [Act.put, List.setIfInBounds_toArray, List.set_cons_zero, List.set_cons_succ, i64_w, i32_w]
              rfl
            refine pure_ (i := 10) (N := some 33) (v := ?_) (a' := ?_) #[true, true, true, true, true, true, true, true, true, true, true, false, false, false, false, false, false, false, false, false, false, false] rfl rfl (any_of HT_.out (by kernel_rfl)) (fun _ _ _ h => h) (Or.inl ⟨by rfl, ?_⟩) ?_ ?_
            rotate_left
            · intro w'
              go_simp
              with_reducible rfl
            rotate_left
            · simp only [Act.put, List.setIfInBounds_toArray, List.set_cons_zero, List.set_cons_succ, i64_w, i32_w]
              rfl
            refine pure_ (i := 11) (N := some 34) (v := ?_) (a' := ?_) #[true, true, true, true, true, true, true, true, true, true, true, true, false, false, false, false, false, false, false, false, false, false] rfl rfl (any_of HT_.out (by kernel_rfl)) (fun _ _ _ h => h) (Or.inl ⟨by rfl, ?_⟩) ?_ ?_
            rotate_left
            · intro w'
              go_simp
              with_reducible rfl
            rotate_left
            · simp only [Act.put, List.setIfInBounds_toArray, List.set_cons_zero, List.set_cons_succ, i64_w, i32_w]
              rfl
            refine pure_ (i := 12) (N := some 35) (v := ?_) (a' := ?_) #[true, true, true, true, true, true, true, true, true, true, true, true, true, false, false, false, false, false, false, false, false, false] rfl rfl (any_of HT_.out (by kernel_rfl)) (fun _ _ _ h => h) (Or.inl ⟨by rfl, ?_⟩) ?_ ?_
            rotate_left
            · intro w'
              go_simp
              with_reducible rfl
            rotate_left
            · simp only [Act.put, List.setIfInBounds_toArray, List.set_cons_zero, List.set_cons_succ, i64_w, i32_w]
              rfl
            refine take_ (i := 13) (N := some 36) (v := ?_) (a' := ?_) #[true, true, true, true, true, true, true, true, true, true, true, true, true, true, false, false, false, false, false, false, false, false] rfl rfl (take_ofW HT_.out HW_.out (by kernel_rfl)) (fun _ _ _ h => h) (Or.inl ⟨by rfl, ?_⟩) hHeld ?_ ?_
            rotate_left
            · rintro w' ⟨s0, s1, s2, s3, s4, s5, s6, s7⟩
              go_simp
              with_reducible rfl
            rotate_left
            · simp only [Act.put, List.setIfInBounds_toArray, List.set_cons_zero, List.set_cons_succ, i64_w, i32_w]
              rfl
            refine one_ (i := 14) (N := some 37) #[true, true, true, true, true, true, true, true, true, true, true, true, true, true, true, false, false, false, false, false, false, false] rfl rfl (one_of HT_.out (by kernel_rfl)) (by decide) (fun K hK => ?_)
            refine goes_ Try.func16 (by kernel_rfl) rfl #[.agg #[.int .i64 t195, .int .i64 t196]] (by rfl) rfl rfl ml_ ?_
            with_reducible refine (impl_LblOk.calls t195 t196 true _ A37.out).mono ?_
            rintro e w44 ⟨rfl, hb⟩
            refine ⟨_, rfl, ?_⟩
            have n0_ := Aside0.mk (blk_below (g := gb193) (o := .cells #[.int .i64 t189, .int .i64 t190] 25 (0, 0)) bk_ hb)
            have n1_ := Aside0.mk (blk_below (g := gb194) (o := .cells #[.int .i64 t191, .int .i64 t192] 25 (0, 0)) bk_ hb)
            have n2_ := Aside0.mk (blk_below (g := gb197) (o := .cells #[.int .i64 t195, .int .i64 t196] 25 (0, 0)) bk_ hb)
            have n3_ := Aside0.mk (blk_below (g := gb200) (o := .cells #[.int .i64 t198, .int .i64 t199] 25 (0, 0)) bk_ hb)
            have n4_ := Aside0.mk (below_step hb_ hb)
            clear BK193
            clear BK194
            clear BK197
            clear BK200
            clear HB
            have BK193 := n0_
            have BK194 := n1_
            have BK197 := n2_
            have BK200 := n3_
            have HB := n4_
            clear n0_ n1_ n2_ n3_ n4_
            (try clear hb)
            (try clear hb2)
            (try clear hk)
            (try clear hi)
            refine hK.out _ _ ⟨(blk_cell BK197.out 0).trans rfl, (blk_cell BK197.out 1).trans rfl, (blk_cell BK193.out 0).trans rfl, (blk_cell BK193.out 1).trans rfl, (blk_cell BK194.out 0).trans rfl, (blk_cell BK194.out 1).trans rfl, (blk_cell BK200.out 0).trans rfl, (blk_cell BK200.out 1).trans rfl⟩ (fun hHeld => ?_)
            clear hK K
            refine norm_ (a' := ?_) ?_ ?_
            rotate_left
            · show Act.put _ (some 37) _ = _
              simp only [Act.put, List.setIfInBounds_toArray, List.set_cons_zero, List.set_cons_succ, i64_w, i32_w]
              rfl
            refine pure_ (i := 15) (N := some 38) (v := ?_) (a' := ?_) #[true, true, true, true, true, true, true, true, true, true, true, true, true, true, true, true, false, false, false, false, false, false] rfl rfl (any_of HT_.out (by kernel_rfl)) (fun _ _ _ h => h) (Or.inl ⟨by rfl, ?_⟩) ?_ ?_
            rotate_left
            · intro w'
              go_simp
              with_reducible rfl
            rotate_left
            · simp only [Act.put, List.setIfInBounds_toArray, List.set_cons_zero, List.set_cons_succ, i64_w, i32_w]
              rfl
            refine pure_ (i := 16) (N := some 39) (v := ?_) (a' := ?_) #[true, true, true, true, true, true, true, true, true, true, true, true, true, true, true, true, true, false, false, false, false, false] rfl rfl (any_of HT_.out (by kernel_rfl)) (fun _ _ _ h => h) (Or.inl ⟨by rfl, ?_⟩) ?_ ?_
            rotate_left
            · intro w'
              go_simp
              with_reducible rfl
            rotate_left
            · simp only [Act.put, List.setIfInBounds_toArray, List.set_cons_zero, List.set_cons_succ, i64_w, i32_w]
              rfl
            refine pure_ (i := 17) (N := some 40) (v := ?_) (a' := ?_) #[true, true, true, true, true, true, true, true, true, true, true, true, true, true, true, true, true, true, false, false, false, false] rfl rfl (any_of HT_.out (by kernel_rfl)) (fun _ _ _ h => h) (Or.inl ⟨by rfl, ?_⟩) ?_ ?_
            rotate_left
            · intro w'
              go_simp
              with_reducible rfl
            rotate_left
            · simp only [Act.put, List.setIfInBounds_toArray, List.set_cons_zero, List.set_cons_succ, i64_w, i32_w]
              rfl
            refine take_ (i := 18) (N := some 41) (v := ?_) (a' := ?_) #[true, true, true, true, true, true, true, true, true, true, true, true, true, true, true, true, true, true, true, false, false, false] rfl rfl (take_ofW HT_.out HW_.out (by kernel_rfl)) (fun _ _ _ h => h) (Or.inl ⟨by rfl, ?_⟩) hHeld ?_ ?_
            rotate_left
            · rintro w' ⟨s0, s1, s2, s3, s4, s5, s6, s7⟩
              go_simp
              with_reducible rfl
            rotate_left
            · simp only [Act.put, List.setIfInBounds_toArray, List.set_cons_zero, List.set_cons_succ, i64_w, i32_w]
              rfl
            refine one_ (i := 19) (N := some 42) #[true, true, true, true, true, true, true, true, true, true, true, true, true, true, true, true, true, true, true, true, false, false] rfl rfl (one_of HT_.out (by kernel_rfl)) (by decide) (fun K hK => ?_)
            refine goes_ Try.func16 (by kernel_rfl) rfl #[.agg #[.int .i64 t198, .int .i64 t199]] (by rfl) rfl rfl ml_ ?_
            with_reducible refine (impl_LblOk.calls t198 t199 t206 _ A39.out).mono ?_
            rintro e w45 ⟨rfl, hb⟩
            refine ⟨_, rfl, ?_⟩
            have n0_ := Aside0.mk (blk_below (g := gb193) (o := .cells #[.int .i64 t189, .int .i64 t190] 25 (0, 0)) bk_ hb)
            have n1_ := Aside0.mk (blk_below (g := gb194) (o := .cells #[.int .i64 t191, .int .i64 t192] 25 (0, 0)) bk_ hb)
            have n2_ := Aside0.mk (blk_below (g := gb197) (o := .cells #[.int .i64 t195, .int .i64 t196] 25 (0, 0)) bk_ hb)
            have n3_ := Aside0.mk (blk_below (g := gb200) (o := .cells #[.int .i64 t198, .int .i64 t199] 25 (0, 0)) bk_ hb)
            have n4_ := Aside0.mk (below_step hb_ hb)
            clear BK193
            clear BK194
            clear BK197
            clear BK200
            clear HB
            have BK193 := n0_
            have BK194 := n1_
            have BK197 := n2_
            have BK200 := n3_
            have HB := n4_
            clear n0_ n1_ n2_ n3_ n4_
            (try clear hb)
            (try clear hb2)
            (try clear hk)
            (try clear hi)
            refine hK.out _ _ ⟨(blk_cell BK197.out 0).trans rfl, (blk_cell BK197.out 1).trans rfl, (blk_cell BK193.out 0).trans rfl, (blk_cell BK193.out 1).trans rfl, (blk_cell BK194.out 0).trans rfl, (blk_cell BK194.out 1).trans rfl, (blk_cell BK200.out 0).trans rfl, (blk_cell BK200.out 1).trans rfl⟩ (fun hHeld => ?_)
            clear hK K
            refine norm_ (a' := ?_) ?_ ?_
            rotate_left
            · show Act.put _ (some 42) _ = _
              simp only [Act.put, List.setIfInBounds_toArray, List.set_cons_zero, List.set_cons_succ, i64_w, i32_w]
              rfl
            refine pure_ (i := 20) (N := some 43) (v := ?_) (a' := ?_) #[true, true, true, true, true, true, true, true, true, true, true, true, true, true, true, true, true, true, true, true, true, false] rfl rfl (any_of HT_.out (by kernel_rfl)) (fun _ _ _ h => h) (Or.inl ⟨by rfl, ?_⟩) ?_ ?_
            rotate_left
            · intro w'
              go_simp
              with_reducible rfl
            rotate_left
            · simp only [Act.put, List.setIfInBounds_toArray, List.set_cons_zero, List.set_cons_succ, i64_w, i32_w]
              rfl
            refine pure_ (i := 21) (N := some 44) (v := ?_) (a' := ?_) #[true, true, true, true, true, true, true, true, true, true, true, true, true, true, true, true, true, true, true, true, true, true] rfl rfl (any_of HT_.out (by kernel_rfl)) (fun _ _ _ h => h) (Or.inl ⟨by rfl, ?_⟩) ?_ ?_
            rotate_left
            · intro w'
              go_simp
              with_reducible rfl
            rotate_left
            · simp only [Act.put, List.setIfInBounds_toArray, List.set_cons_zero, List.set_cons_succ, i64_w, i32_w]
              rfl
            refine done_ (done_of HT_.out (by kernel_rfl)) ?_
            try go_wp2
            go_meet
            case rel => exact ⟨_, (!t206), rs_, H', ⟨by first | omega | exact Nat.le_refl _⟩, ⟨by (with_reducible repeat (first | refine blk_drewN ?_ _ | refine blk_drew ?_ | refine blk_alloc ?_ _)); exact BK193.out⟩, ⟨by (with_reducible repeat (first | refine blk_drewN ?_ _ | refine blk_drew ?_ | refine blk_alloc ?_ _)); exact BK194.out⟩, ⟨by (with_reducible repeat (first | refine blk_drewN ?_ _ | refine blk_drew ?_ | refine blk_alloc ?_ _)); exact BK197.out⟩, ⟨by (with_reducible repeat (first | refine blk_drewN ?_ _ | refine blk_drew ?_ | refine blk_alloc ?_ _)); exact BK200.out⟩, ⟨hb_⟩⟩
          · replace c38 := Bool.eq_false_iff.mpr c38
            subst c38
            have H1 : (laws_FnLblBounds.j0 k true t189 t190 t191 t192 t195 t196 t198 t199) = some r := by rw [if_neg (show ¬ (false = true) by decide)] at H; exact H
            clear H
            have H := H1
            clear H1
            exact absurd H (by rw [htrue.out]; cases k <;> simp [laws_FnLblBounds.j0])
    case rest =>
      clear HC6
      try clear c1
      try clear c2
      try clear p2
      try clear c3
      try clear c16
      try clear c19
      try clear c22
      try clear c38
      obtain ⟨kq, x44_5, rfl, HA, HJ5, BK193, BK194, BK197, BK200, HB⟩ := hcut
      cases kq with
      | zero => exact absurd HA.out (by simp [laws_FnLblBounds.j0])
      | succ kj5 =>
        have H := HA.out
        clear HA
        simp only [laws_FnLblBounds.j0] at H
        by_cases c51 : x44_5 = true
        · subst c51
          have H1 : (some false) = some r := by rw [if_pos rfl] at H; exact H
          clear H
          have H := H1
          clear H1
          exact absurd (Option.some.inj H) (by rw [htrue.out]; decide)
        · replace c51 := Bool.eq_false_iff.mpr c51
          subst c51
          have H1 : ((impl_LblOk.f t189 t190).bind fun t207 => (if t207 = true then ((impl_LblOk.f t191 t192).bind fun t208 => (laws_FnLblBounds.j1 kj5 (!t208) t189 t190 t191 t192 t195 t196 t198 t199)) else (laws_FnLblBounds.j1 kj5 true t189 t190 t191 t192 t195 t196 t198 t199))) = some r := by rw [if_neg (show ¬ (false = true) by decide)] at H; exact H
          clear H
          have H := H1
          clear H1
          have HC52 := Aside0.mk H
          clear H
          go_upto_region 8 with (fail)
          go_cut [52] (fun v52 wc => ∃ (kq : Nat) (x52_51 : Bool), v52 = .bool x52_51 ∧ Aside0 (laws_FnLblBounds.j1 kq x52_51 t189 t190 t191 t192 t195 t196 t198 t199 = some r) ∧ Aside0 (kq ≤ kj5) ∧ Aside0 (wc.heap[gb193]? = some (.cells #[.int .i64 t189, .int .i64 t190] 25 (0, 0))) ∧ Aside0 (wc.heap[gb194]? = some (.cells #[.int .i64 t191, .int .i64 t192] 25 (0, 0))) ∧ Aside0 (wc.heap[gb197]? = some (.cells #[.int .i64 t195, .int .i64 t196] 25 (0, 0))) ∧ Aside0 (wc.heap[gb200]? = some (.cells #[.int .i64 t198, .int .i64 t199] 25 (0, 0))) ∧ Aside0 (Below w.heap.size w wc))
          case first =>
            have H := HC52.out
            clear HC52
            replace H := Option.bind_eq_some_iff.mp H
            obtain ⟨t207, A530, H⟩ := H
            replace H : (if t207 = true then ((impl_LblOk.f t191 t192).bind fun t208 => (laws_FnLblBounds.j1 kj5 (!t208) t189 t190 t191 t192 t195 t196 t198 t199)) else (laws_FnLblBounds.j1 kj5 true t189 t190 t191 t192 t195 t196 t198 t199)) = some r := H
            have A53 := Aside0.mk A530
            clear A530
            by_cases c54 : t207 = true
            · subst c54
              have H1 : ((impl_LblOk.f t191 t192).bind fun t208 => (laws_FnLblBounds.j1 kj5 (!t208) t189 t190 t191 t192 t195 t196 t198 t199)) = some r := by rw [if_pos rfl] at H; exact H
              clear H
              have H := H1
              clear H1
              replace H := Option.bind_eq_some_iff.mp H
              obtain ⟨t208, A550, H⟩ := H
              replace H : (laws_FnLblBounds.j1 kj5 (!t208) t189 t190 t191 t192 t195 t196 t198 t199) = some r := H
              have A55 := Aside0.mk A550
              clear A550
              have H' := Aside0.mk H
              clear H
              have hnb56 := NB193_194.out
              have hnc56 := NB194_193.out
              have hnb57 := NB193_197.out
              have hnc57 := NB197_193.out
              have hnb58 := NB193_200.out
              have hnc58 := NB200_193.out
              have hcz59_0 : wc.cell? ⟨gb193, 0, none⟩ = some (.int .i64 t189) := (blk_cell BK193.out 0).trans rfl
              have hcz59_1 : wc.cell? ⟨gb193, 1, none⟩ = some (.int .i64 t190) := (blk_cell BK193.out 1).trans rfl
              have hfz59_0 := blk_frozen BK193.out 0
              have hfz59_1 := blk_frozen BK193.out 1
              go_wp2_with (first | ((with_reducible refine gate_callee (f := 16) rfl ?_); refine goesL_ (some 46) rfl rfl Try.func16 (by kernel_rfl) rfl #[.agg #[.int .i64 t189, .int .i64 t190]] rfl ml_ ?_; (with_reducible refine (impl_LblOk.calls t189 t190 true _ A53.out).mono ?_); rintro e w60 ⟨rfl, hb⟩; refine ⟨_, rfl, ?_⟩; have n0_ := Aside0.mk (blk_below (g := gb193) (o := .cells #[.int .i64 t189, .int .i64 t190] 25 (0, 0)) bk_ hb); have n1_ := Aside0.mk (blk_below (g := gb194) (o := .cells #[.int .i64 t191, .int .i64 t192] 25 (0, 0)) bk_ hb); have n2_ := Aside0.mk (blk_below (g := gb197) (o := .cells #[.int .i64 t195, .int .i64 t196] 25 (0, 0)) bk_ hb); have n3_ := Aside0.mk (blk_below (g := gb200) (o := .cells #[.int .i64 t198, .int .i64 t199] 25 (0, 0)) bk_ hb); have n4_ := Aside0.mk (below_step hb_ hb); clear BK193; clear BK194; clear BK197; clear BK200; clear HB; have BK193 := n0_; have BK194 := n1_; have BK197 := n2_; have BK200 := n3_; have HB := n4_; clear n0_ n1_ n2_ n3_ n4_; (try clear hb); (try clear hb2); (try clear hk); (try clear hi); have hnb61 := NB194_197.out; have hnc61 := NB197_194.out; have hnb62 := NB194_200.out; have hnc62 := NB200_194.out; have hcz63_0 : w60.cell? ⟨gb194, 0, none⟩ = some (.int .i64 t191) := (blk_cell BK194.out 0).trans rfl; have hcz63_1 : w60.cell? ⟨gb194, 1, none⟩ = some (.int .i64 t192) := (blk_cell BK194.out 1).trans rfl; have hfz63_0 := blk_frozen BK194.out 0; have hfz63_1 := blk_frozen BK194.out 1) | (go_at_call 16; (with_reducible refine (impl_LblOk.calls t191 t192 t208 _ A55.out).mono ?_); rintro e w64 ⟨rfl, hb⟩; have n0_ := Aside0.mk (blk_below (g := gb193) (o := .cells #[.int .i64 t189, .int .i64 t190] 25 (0, 0)) bk_ hb); have n1_ := Aside0.mk (blk_below (g := gb194) (o := .cells #[.int .i64 t191, .int .i64 t192] 25 (0, 0)) bk_ hb); have n2_ := Aside0.mk (blk_below (g := gb197) (o := .cells #[.int .i64 t195, .int .i64 t196] 25 (0, 0)) bk_ hb); have n3_ := Aside0.mk (blk_below (g := gb200) (o := .cells #[.int .i64 t198, .int .i64 t199] 25 (0, 0)) bk_ hb); have n4_ := Aside0.mk (below_step hb_ hb); clear BK193; clear BK194; clear BK197; clear BK200; clear HB; have BK193 := n0_; have BK194 := n1_; have BK197 := n2_; have BK200 := n3_; have HB := n4_; clear n0_ n1_ n2_ n3_ n4_; (try clear hb); (try clear hb2); (try clear hk); (try clear hi)))
              go_meet
              case rel => exact ⟨_, (!t208), rs_, H', ⟨by have := HJ5.out; first | omega | exact Nat.le_refl _⟩, ⟨by (with_reducible repeat (first | refine blk_drewN ?_ _ | refine blk_drew ?_ | refine blk_alloc ?_ _)); exact BK193.out⟩, ⟨by (with_reducible repeat (first | refine blk_drewN ?_ _ | refine blk_drew ?_ | refine blk_alloc ?_ _)); exact BK194.out⟩, ⟨by (with_reducible repeat (first | refine blk_drewN ?_ _ | refine blk_drew ?_ | refine blk_alloc ?_ _)); exact BK197.out⟩, ⟨by (with_reducible repeat (first | refine blk_drewN ?_ _ | refine blk_drew ?_ | refine blk_alloc ?_ _)); exact BK200.out⟩, ⟨hb_⟩⟩
            · replace c54 := Bool.eq_false_iff.mpr c54
              subst c54
              have H1 : (laws_FnLblBounds.j1 kj5 true t189 t190 t191 t192 t195 t196 t198 t199) = some r := by rw [if_neg (show ¬ (false = true) by decide)] at H; exact H
              clear H
              have H := H1
              clear H1
              have H' := Aside0.mk H
              clear H
              have hnb65 := NB193_194.out
              have hnc65 := NB194_193.out
              have hnb66 := NB193_197.out
              have hnc66 := NB197_193.out
              have hnb67 := NB193_200.out
              have hnc67 := NB200_193.out
              have hcz68_0 : wc.cell? ⟨gb193, 0, none⟩ = some (.int .i64 t189) := (blk_cell BK193.out 0).trans rfl
              have hcz68_1 : wc.cell? ⟨gb193, 1, none⟩ = some (.int .i64 t190) := (blk_cell BK193.out 1).trans rfl
              have hfz68_0 := blk_frozen BK193.out 0
              have hfz68_1 := blk_frozen BK193.out 1
              go_wp2_with (first | ((with_reducible refine gate_callee (f := 16) rfl ?_); refine goesL_ (some 46) rfl rfl Try.func16 (by kernel_rfl) rfl #[.agg #[.int .i64 t189, .int .i64 t190]] rfl ml_ ?_; (with_reducible refine (impl_LblOk.calls t189 t190 false _ A53.out).mono ?_); rintro e w69 ⟨rfl, hb⟩; refine ⟨_, rfl, ?_⟩; have n0_ := Aside0.mk (blk_below (g := gb193) (o := .cells #[.int .i64 t189, .int .i64 t190] 25 (0, 0)) bk_ hb); have n1_ := Aside0.mk (blk_below (g := gb194) (o := .cells #[.int .i64 t191, .int .i64 t192] 25 (0, 0)) bk_ hb); have n2_ := Aside0.mk (blk_below (g := gb197) (o := .cells #[.int .i64 t195, .int .i64 t196] 25 (0, 0)) bk_ hb); have n3_ := Aside0.mk (blk_below (g := gb200) (o := .cells #[.int .i64 t198, .int .i64 t199] 25 (0, 0)) bk_ hb); have n4_ := Aside0.mk (below_step hb_ hb); clear BK193; clear BK194; clear BK197; clear BK200; clear HB; have BK193 := n0_; have BK194 := n1_; have BK197 := n2_; have BK200 := n3_; have HB := n4_; clear n0_ n1_ n2_ n3_ n4_; (try clear hb); (try clear hb2); (try clear hk); (try clear hi)))
              go_meet
              case rel => exact ⟨_, (true), rs_, H', ⟨by have := HJ5.out; first | omega | exact Nat.le_refl _⟩, ⟨by (with_reducible repeat (first | refine blk_drewN ?_ _ | refine blk_drew ?_ | refine blk_alloc ?_ _)); exact BK193.out⟩, ⟨by (with_reducible repeat (first | refine blk_drewN ?_ _ | refine blk_drew ?_ | refine blk_alloc ?_ _)); exact BK194.out⟩, ⟨by (with_reducible repeat (first | refine blk_drewN ?_ _ | refine blk_drew ?_ | refine blk_alloc ?_ _)); exact BK197.out⟩, ⟨by (with_reducible repeat (first | refine blk_drewN ?_ _ | refine blk_drew ?_ | refine blk_alloc ?_ _)); exact BK200.out⟩, ⟨hb_⟩⟩
          case rest =>
            clear HC52
            try clear c1
            try clear c2
            try clear p2
            try clear c3
            try clear c5
            try clear c6
            try clear c16
            try clear c19
            try clear c22
            try clear c38
            try clear c51
            try clear c54
            try clear c56
            try clear c57
            try clear c58
            try clear c61
            try clear c62
            try clear c65
            try clear c66
            try clear c67
            try clear hcz59_0
            try clear hcz59_1
            try clear hcz63_0
            try clear hcz63_1
            try clear hcz68_0
            try clear hcz68_1
            try clear hfz59_0
            try clear hfz59_1
            try clear hfz63_0
            try clear hfz63_1
            try clear hfz68_0
            try clear hfz68_1
            try clear p2
            obtain ⟨kq, x52_51, rfl, HA, HJ51, BK193, BK194, BK197, BK200, HB⟩ := hcut
            cases kq with
            | zero => exact absurd HA.out (by simp [laws_FnLblBounds.j1])
            | succ kj51 =>
              have H := HA.out
              clear HA
              simp only [laws_FnLblBounds.j1] at H
              by_cases c70 : x52_51 = true
              · subst c70
                have H1 : (if (t195 == 0 && (t196 == 0)) = true then (if (t198 == 0 && (t199 == 0)) = true then ((impl_LblBoth.f 1 0 0 2).bind fun bt209 => (some (bt209.1 == 1 && (bt209.2 == 2)))) else (some false)) else (some false)) = some r := by rw [if_pos rfl] at H; exact H
                clear H
                have H := H1
                clear H1
                by_cases c71 : (t195 == 0 && (t196 == 0)) = true
                · rw [if_pos c71] at H
                  have c71b0 : (t195 == 0 && (t196 == 0)) = true := c71
                  (try (have c71b1 : decide (t195 = 0 && (t196 == 0)) = true := by simpa using c71))
                  (try (have c71b2 : (t195 == 0 && (t196 == 0)) = true := by simpa using c71))
                  clear c71
                  by_cases c72 : (t198 == 0 && (t199 == 0)) = true
                  · rw [if_pos c72] at H
                    have c72b0 : (t198 == 0 && (t199 == 0)) = true := c72
                    (try (have c72b1 : decide (t198 = 0 && (t199 == 0)) = true := by simpa using c72))
                    (try (have c72b2 : (t198 == 0 && (t199 == 0)) = true := by simpa using c72))
                    clear c72
                    replace H := Option.bind_eq_some_iff.mp H
                    obtain ⟨⟨t209, t210⟩, A730, H⟩ := H
                    replace H : (some (t209 == 1 && (t210 == 2))) = some r := H
                    have A73 := Aside0.mk A730
                    clear A730
                    obtain rfl := Option.some.inj H
                    have hnb74 := NB197_193.out
                    have hnc74 := NB193_197.out
                    have hnb75 := NB197_194.out
                    have hnc75 := NB194_197.out
                    have hnb76 := NB197_200.out
                    have hnc76 := NB200_197.out
                    have hcz77_0 : wc.cell? ⟨gb197, 0, none⟩ = some (.int .i64 t195) := (blk_cell BK197.out 0).trans rfl
                    have hcz77_1 : wc.cell? ⟨gb197, 1, none⟩ = some (.int .i64 t196) := (blk_cell BK197.out 1).trans rfl
                    have hfz77_0 := blk_frozen BK197.out 0
                    have hfz77_1 := blk_frozen BK197.out 1
                    have hnb78 := NB200_193.out
                    have hnc78 := NB193_200.out
                    have hnb79 := NB200_194.out
                    have hnc79 := NB194_200.out
                    have hcz80_0 : wc.cell? ⟨gb200, 0, none⟩ = some (.int .i64 t198) := (blk_cell BK200.out 0).trans rfl
                    have hcz80_1 : wc.cell? ⟨gb200, 1, none⟩ = some (.int .i64 t199) := (blk_cell BK200.out 1).trans rfl
                    have hfz80_0 := blk_frozen BK200.out 0
                    have hfz80_1 := blk_frozen BK200.out 1
                    go_wp2_with (first | (go_at_call 20; (with_reducible refine (impl_LblBoth.calls 1 0 0 2 t209 t210 _ A73.out).mono ?_); rintro e w81 ⟨rfl, hb⟩; have n0_ := Aside0.mk (blk_below (g := gb193) (o := .cells #[.int .i64 t189, .int .i64 t190] 25 (0, 0)) bk_ hb); have n1_ := Aside0.mk (blk_below (g := gb194) (o := .cells #[.int .i64 t191, .int .i64 t192] 25 (0, 0)) bk_ hb); have n2_ := Aside0.mk (blk_below (g := gb197) (o := .cells #[.int .i64 t195, .int .i64 t196] 25 (0, 0)) bk_ hb); have n3_ := Aside0.mk (blk_below (g := gb200) (o := .cells #[.int .i64 t198, .int .i64 t199] 25 (0, 0)) bk_ hb); have n4_ := Aside0.mk (below_step hb_ hb); clear BK193; clear BK194; clear BK197; clear BK200; clear HB; have BK193 := n0_; have BK194 := n1_; have BK197 := n2_; have BK200 := n3_; have HB := n4_; clear n0_ n1_ n2_ n3_ n4_; (try clear hb); (try clear hb2); (try clear hk); (try clear hi)))
                    go_ret
                    exact ⟨by first | rfl | (simp [errW_none, errW_some] <;> rfl) | (simp [*, errW_none, errW_some] <;> rfl), hb_⟩
                  · rw [if_neg c72] at H
                    exact absurd (Option.some.inj H) (by rw [htrue.out]; decide)
                · rw [if_neg c71] at H
                  exact absurd (Option.some.inj H) (by rw [htrue.out]; decide)
              · replace c70 := Bool.eq_false_iff.mpr c70
                subst c70
                have H1 : (laws_FnLblBounds.l0 kj51 0 t189 t190 t191 t192 t195 t196 t198 t199) = some r := by rw [if_neg (show ¬ (false = true) by decide)] at H; exact H
                clear H
                have H := H1
                clear H1
                have H' := Aside0.mk H
                clear H
                go_wp2
                go_loopg [7] kj51 (fun kq v7 w' => ∃ (x7_3 : Int), v7 = .int .i64 x7_3 ∧ Aside0 (laws_FnLblBounds.l0 kq x7_3 t189 t190 t191 t192 t195 t196 t198 t199 = some r) ∧ Aside0 (kq ≤ kj51) ∧ Aside0 (w'.heap[gb193]? = some (.cells #[.int .i64 t189, .int .i64 t190] 25 (0, 0))) ∧ Aside0 (w'.heap[gb194]? = some (.cells #[.int .i64 t191, .int .i64 t192] 25 (0, 0))) ∧ Aside0 (w'.heap[gb197]? = some (.cells #[.int .i64 t195, .int .i64 t196] 25 (0, 0))) ∧ Aside0 (w'.heap[gb200]? = some (.cells #[.int .i64 t198, .int .i64 t199] 25 (0, 0))) ∧ Aside0 (Below w.heap.size w w'))
                case atStart => exact ⟨(0), rs_, H', ⟨Nat.le_refl _⟩, ⟨by (with_reducible repeat (first | refine blk_drewN ?_ _ | refine blk_drew ?_ | refine blk_alloc ?_ _)); exact BK193.out⟩, ⟨by (with_reducible repeat (first | refine blk_drewN ?_ _ | refine blk_drew ?_ | refine blk_alloc ?_ _)); exact BK194.out⟩, ⟨by (with_reducible repeat (first | refine blk_drewN ?_ _ | refine blk_drew ?_ | refine blk_alloc ?_ _)); exact BK197.out⟩, ⟨by (with_reducible repeat (first | refine blk_drewN ?_ _ | refine blk_drew ?_ | refine blk_alloc ?_ _)); exact BK200.out⟩, ⟨hb_⟩⟩
                case round =>
                  clear H'
                  try clear c1
                  try clear c2
                  try clear p2
                  try clear c3
                  try clear c5
                  try clear c6
                  try clear c7
                  try clear c8
                  try clear c9
                  try clear c16
                  try clear c19
                  try clear c22
                  try clear c38
                  try clear c51
                  try clear c54
                  try clear c56
                  try clear c57
                  try clear c58
                  try clear c61
                  try clear c62
                  try clear c65
                  try clear c66
                  try clear c67
                  try clear c70
                  try clear c71
                  try clear c71b0
                  try clear c71b1
                  try clear c71b2
                  try clear c72
                  try clear c72b0
                  try clear c72b1
                  try clear c72b2
                  try clear c74
                  try clear c75
                  try clear c76
                  try clear c78
                  try clear c79
                  try clear c82
                  try clear c83
                  try clear c84
                  try clear c86
                  try clear c87
                  try clear c89
                  try clear c90
                  try clear c91
                  try clear hcz59_0
                  try clear hcz59_1
                  try clear hcz63_0
                  try clear hcz63_1
                  try clear hcz68_0
                  try clear hcz68_1
                  try clear hcz77_0
                  try clear hcz77_1
                  try clear hcz80_0
                  try clear hcz80_1
                  try clear hcz85_0
                  try clear hcz85_1
                  try clear hcz88_0
                  try clear hcz88_1
                  try clear hcz92_0
                  try clear hcz92_1
                  try clear hfz59_0
                  try clear hfz59_1
                  try clear hfz63_0
                  try clear hfz63_1
                  try clear hfz68_0
                  try clear hfz68_1
                  try clear hfz77_0
                  try clear hfz77_1
                  try clear hfz80_0
                  try clear hfz80_1
                  try clear hfz85_0
                  try clear hfz85_1
                  try clear hfz88_0
                  try clear hfz88_1
                  try clear hfz92_0
                  try clear hfz92_1
                  try clear p2
                  obtain ⟨x7_3, rfl, HA, HK3, BK193, BK194, BK197, BK200, HB⟩ := hrel
                  cases gk with
                  | zero => exact absurd HA.out (by simp [laws_FnLblBounds.l0])
                  | succ k3 =>
                    have H := HA.out
                    clear HA
                    simp only [laws_FnLblBounds.l0] at H
                    by_cases c93 : x7_3 < 64
                    · rw [if_pos c93] at H
                      have c93b0 : decide (x7_3 < 64) = true := decide_eq_true c93
                      clear c93
                      replace H := Option.bind_eq_some_iff.mp H
                      obtain ⟨t212, A940, H⟩ := H
                      replace H : ((impl_LblFlows.f t189 t190 (wrap64 (Int.tdiv x7_3 16)) (Int.tmod x7_3 16)).bind fun t213 => (if t213 = true then ((impl_LblFlows.f t191 t192 (wrap64 (Int.tdiv x7_3 16)) (Int.tmod x7_3 16)).bind fun t214 => (if (t212 != t214) = true then (some false) else ((impl_LblFlows.f (wrap64 (Int.tdiv x7_3 16)) (Int.tmod x7_3 16) t198 t199).bind fun t215 => ((impl_LblFlows.f (wrap64 (Int.tdiv x7_3 16)) (Int.tmod x7_3 16) t189 t190).bind fun t216 => (if t216 = true then ((impl_LblFlows.f (wrap64 (Int.tdiv x7_3 16)) (Int.tmod x7_3 16) t191 t192).bind fun t217 => (if (t215 != t217) = true then (some false) else (laws_FnLblBounds.l0 k3 (wrap64 (x7_3 + 1)) t189 t190 t191 t192 t195 t196 t198 t199))) else (if (t215 != false) = true then (some false) else (laws_FnLblBounds.l0 k3 (wrap64 (x7_3 + 1)) t189 t190 t191 t192 t195 t196 t198 t199))))))) else (if (t212 != false) = true then (some false) else ((impl_LblFlows.f (wrap64 (Int.tdiv x7_3 16)) (Int.tmod x7_3 16) t198 t199).bind fun t218 => ((impl_LblFlows.f (wrap64 (Int.tdiv x7_3 16)) (Int.tmod x7_3 16) t189 t190).bind fun t219 => (if t219 = true then ((impl_LblFlows.f (wrap64 (Int.tdiv x7_3 16)) (Int.tmod x7_3 16) t191 t192).bind fun t220 => (if (t218 != t220) = true then (some false) else (laws_FnLblBounds.l0 k3 (wrap64 (x7_3 + 1)) t189 t190 t191 t192 t195 t196 t198 t199))) else (if (t218 != false) = true then (some false) else (laws_FnLblBounds.l0 k3 (wrap64 (x7_3 + 1)) t189 t190 t191 t192 t195 t196 t198 t199)))))))) = some r := H
                      have A94 := Aside0.mk A940
                      clear A940
                      replace H := Option.bind_eq_some_iff.mp H
                      obtain ⟨t213, A950, H⟩ := H
                      replace H : (if t213 = true then ((impl_LblFlows.f t191 t192 (wrap64 (Int.tdiv x7_3 16)) (Int.tmod x7_3 16)).bind fun t214 => (if (t212 != t214) = true then (some false) else ((impl_LblFlows.f (wrap64 (Int.tdiv x7_3 16)) (Int.tmod x7_3 16) t198 t199).bind fun t215 => ((impl_LblFlows.f (wrap64 (Int.tdiv x7_3 16)) (Int.tmod x7_3 16) t189 t190).bind fun t216 => (if t216 = true then ((impl_LblFlows.f (wrap64 (Int.tdiv x7_3 16)) (Int.tmod x7_3 16) t191 t192).bind fun t217 => (if (t215 != t217) = true then (some false) else (laws_FnLblBounds.l0 k3 (wrap64 (x7_3 + 1)) t189 t190 t191 t192 t195 t196 t198 t199))) else (if (t215 != false) = true then (some false) else (laws_FnLblBounds.l0 k3 (wrap64 (x7_3 + 1)) t189 t190 t191 t192 t195 t196 t198 t199))))))) else (if (t212 != false) = true then (some false) else ((impl_LblFlows.f (wrap64 (Int.tdiv x7_3 16)) (Int.tmod x7_3 16) t198 t199).bind fun t218 => ((impl_LblFlows.f (wrap64 (Int.tdiv x7_3 16)) (Int.tmod x7_3 16) t189 t190).bind fun t219 => (if t219 = true then ((impl_LblFlows.f (wrap64 (Int.tdiv x7_3 16)) (Int.tmod x7_3 16) t191 t192).bind fun t220 => (if (t218 != t220) = true then (some false) else (laws_FnLblBounds.l0 k3 (wrap64 (x7_3 + 1)) t189 t190 t191 t192 t195 t196 t198 t199))) else (if (t218 != false) = true then (some false) else (laws_FnLblBounds.l0 k3 (wrap64 (x7_3 + 1)) t189 t190 t191 t192 t195 t196 t198 t199))))))) = some r := H
                      have A95 := Aside0.mk A950
                      clear A950
                      by_cases c96 : t213 = true
                      · subst c96
                        have H1 : ((impl_LblFlows.f t191 t192 (wrap64 (Int.tdiv x7_3 16)) (Int.tmod x7_3 16)).bind fun t214 => (if (t212 != t214) = true then (some false) else ((impl_LblFlows.f (wrap64 (Int.tdiv x7_3 16)) (Int.tmod x7_3 16) t198 t199).bind fun t215 => ((impl_LblFlows.f (wrap64 (Int.tdiv x7_3 16)) (Int.tmod x7_3 16) t189 t190).bind fun t216 => (if t216 = true then ((impl_LblFlows.f (wrap64 (Int.tdiv x7_3 16)) (Int.tmod x7_3 16) t191 t192).bind fun t217 => (if (t215 != t217) = true then (some false) else (laws_FnLblBounds.l0 k3 (wrap64 (x7_3 + 1)) t189 t190 t191 t192 t195 t196 t198 t199))) else (if (t215 != false) = true then (some false) else (laws_FnLblBounds.l0 k3 (wrap64 (x7_3 + 1)) t189 t190 t191 t192 t195 t196 t198 t199))))))) = some r := by rw [if_pos rfl] at H; exact H
                        clear H
                        have H := H1
                        clear H1
                        replace H := Option.bind_eq_some_iff.mp H
                        obtain ⟨t214, A970, H⟩ := H
                        replace H : (if (t212 != t214) = true then (some false) else ((impl_LblFlows.f (wrap64 (Int.tdiv x7_3 16)) (Int.tmod x7_3 16) t198 t199).bind fun t215 => ((impl_LblFlows.f (wrap64 (Int.tdiv x7_3 16)) (Int.tmod x7_3 16) t189 t190).bind fun t216 => (if t216 = true then ((impl_LblFlows.f (wrap64 (Int.tdiv x7_3 16)) (Int.tmod x7_3 16) t191 t192).bind fun t217 => (if (t215 != t217) = true then (some false) else (laws_FnLblBounds.l0 k3 (wrap64 (x7_3 + 1)) t189 t190 t191 t192 t195 t196 t198 t199))) else (if (t215 != false) = true then (some false) else (laws_FnLblBounds.l0 k3 (wrap64 (x7_3 + 1)) t189 t190 t191 t192 t195 t196 t198 t199)))))) = some r := H
                        have A97 := Aside0.mk A970
                        clear A970
                        by_cases c98 : (t212 != t214) = true
                        · rw [if_pos c98] at H
                          exact absurd (Option.some.inj H) (by rw [htrue.out]; decide)
                        · rw [if_neg c98] at H
                          have c98b0 : (t212 != t214) = false := by simpa using c98
                          (try (have c98b1 : decide (t212 = t214) = true := by simpa using c98))
                          (try (have c98b2 : (t212 == t214) = true := by simpa using c98))
                          clear c98
                          replace H := Option.bind_eq_some_iff.mp H
                          obtain ⟨t215, A1100, H⟩ := H
                          replace H : ((impl_LblFlows.f (wrap64 (Int.tdiv x7_3 16)) (Int.tmod x7_3 16) t189 t190).bind fun t216 => (if t216 = true then ((impl_LblFlows.f (wrap64 (Int.tdiv x7_3 16)) (Int.tmod x7_3 16) t191 t192).bind fun t217 => (if (t215 != t217) = true then (some false) else (laws_FnLblBounds.l0 k3 (wrap64 (x7_3 + 1)) t189 t190 t191 t192 t195 t196 t198 t199))) else (if (t215 != false) = true then (some false) else (laws_FnLblBounds.l0 k3 (wrap64 (x7_3 + 1)) t189 t190 t191 t192 t195 t196 t198 t199)))) = some r := H
                          have A110 := Aside0.mk A1100
                          clear A1100
                          replace H := Option.bind_eq_some_iff.mp H
                          obtain ⟨t216, A1110, H⟩ := H
                          replace H : (if t216 = true then ((impl_LblFlows.f (wrap64 (Int.tdiv x7_3 16)) (Int.tmod x7_3 16) t191 t192).bind fun t217 => (if (t215 != t217) = true then (some false) else (laws_FnLblBounds.l0 k3 (wrap64 (x7_3 + 1)) t189 t190 t191 t192 t195 t196 t198 t199))) else (if (t215 != false) = true then (some false) else (laws_FnLblBounds.l0 k3 (wrap64 (x7_3 + 1)) t189 t190 t191 t192 t195 t196 t198 t199))) = some r := H
                          have A111 := Aside0.mk A1110
                          clear A1110
                          by_cases c112 : t216 = true
                          · subst c112
                            have H1 : ((impl_LblFlows.f (wrap64 (Int.tdiv x7_3 16)) (Int.tmod x7_3 16) t191 t192).bind fun t217 => (if (t215 != t217) = true then (some false) else (laws_FnLblBounds.l0 k3 (wrap64 (x7_3 + 1)) t189 t190 t191 t192 t195 t196 t198 t199))) = some r := by rw [if_pos rfl] at H; exact H
                            clear H
                            have H := H1
                            clear H1
                            replace H := Option.bind_eq_some_iff.mp H
                            obtain ⟨t217, A1130, H⟩ := H
                            replace H : (if (t215 != t217) = true then (some false) else (laws_FnLblBounds.l0 k3 (wrap64 (x7_3 + 1)) t189 t190 t191 t192 t195 t196 t198 t199)) = some r := H
                            have A113 := Aside0.mk A1130
                            clear A1130
                            by_cases c114 : (t215 != t217) = true
                            · rw [if_pos c114] at H
                              exact absurd (Option.some.inj H) (by rw [htrue.out]; decide)
                            · rw [if_neg c114] at H
                              have c114b0 : (t215 != t217) = false := by simpa using c114
                              (try (have c114b1 : decide (t215 = t217) = true := by simpa using c114))
                              (try (have c114b2 : (t215 == t217) = true := by simpa using c114))
                              clear c114
                              have H' := Aside0.mk H
                              clear H
                              try go_wp2_with (first | ((with_reducible refine gate_dst (N := 8) rfl ?_); refine bx_ (N := 8) (cs := #[.int .i64 0, .int .i64 0]) (t := 25) ?_; intro gb211 hg w129 hbox hb; have n0_ := Aside0.mk (blk_below (g := gb193) (o := .cells #[.int .i64 t189, .int .i64 t190] 25 (0, 0)) bk_ hb); have n1_ := Aside0.mk (blk_below (g := gb194) (o := .cells #[.int .i64 t191, .int .i64 t192] 25 (0, 0)) bk_ hb); have n2_ := Aside0.mk (blk_below (g := gb197) (o := .cells #[.int .i64 t195, .int .i64 t196] 25 (0, 0)) bk_ hb); have n3_ := Aside0.mk (blk_below (g := gb200) (o := .cells #[.int .i64 t198, .int .i64 t199] 25 (0, 0)) bk_ hb); have n4_ := Aside0.mk (below_step hb_ hb); have n5_ := Aside0.mk (hbox); have n6_ := Aside0.mk ((hg_ : w.heap.size ≤ gb211)); have n7_ := Aside0.mk ((hg_ : w.heap.size ≤ gb211)); have n8_ := Aside0.mk ((nl_ : gb193 ≠ gb211)); have n9_ := Aside0.mk ((ng_ : gb211 ≠ gb193)); have n10_ := Aside0.mk ((nl_ : gb194 ≠ gb211)); have n11_ := Aside0.mk ((ng_ : gb211 ≠ gb194)); have n12_ := Aside0.mk ((nl_ : gb197 ≠ gb211)); have n13_ := Aside0.mk ((ng_ : gb211 ≠ gb197)); have n14_ := Aside0.mk ((nl_ : gb200 ≠ gb211)); have n15_ := Aside0.mk ((ng_ : gb211 ≠ gb200)); clear BK193; clear BK194; clear BK197; clear BK200; clear HB; have BK193 := n0_; have BK194 := n1_; have BK197 := n2_; have BK200 := n3_; have HB := n4_; have BK211 := n5_; have GW211 := n6_; have GE211 := n7_; have NB193_211 := n8_; have NB211_193 := n9_; have NB194_211 := n10_; have NB211_194 := n11_; have NB197_211 := n12_; have NB211_197 := n13_; have NB200_211 := n14_; have NB211_200 := n15_; clear n0_ n1_ n2_ n3_ n4_ n5_ n6_ n7_ n8_ n9_ n10_ n11_ n12_ n13_ n14_ n15_; clear hb hbox hg; have hnb130 := NB211_193.out; have hnc130 := NB193_211.out; have hnb131 := NB211_194.out; have hnc131 := NB194_211.out; have hnb132 := NB211_197.out; have hnc132 := NB197_211.out; have hnb133 := NB211_200.out; have hnc133 := NB200_211.out; have hcz134_0 : w129.cell? ⟨gb211, 0, none⟩ = some (.int .i64 0) := (blk_cell BK211.out 0).trans rfl; have hcz134_1 : w129.cell? ⟨gb211, 1, none⟩ = some (.int .i64 0) := (blk_cell BK211.out 1).trans rfl; have hfz134_0 := blk_frozen BK211.out 0; have hfz134_1 := blk_frozen BK211.out 1))
                              have n0_ : Aside0 (((w129.setCell ⟨gb211, 0, none⟩ (.int .i64 (wrap64 (Int.tdiv x7_3 16)))).setCell ⟨gb211, 1, none⟩ (.int .i64 (Int.tmod x7_3 16))).heap[gb193]? = some (.cells #[.int .i64 t189, .int .i64 t190] 25 (0, 0))) := ⟨by (with_reducible repeat (first | refine blk_drewN ?_ _ | refine blk_drew ?_ | refine blk_alloc ?_ _)); refine blk_far ?_ NB193_211.out _; (with_reducible repeat (first | refine blk_drewN ?_ _ | refine blk_drew ?_ | refine blk_alloc ?_ _)); refine blk_far ?_ NB193_211.out _; (with_reducible repeat (first | refine blk_drewN ?_ _ | refine blk_drew ?_ | refine blk_alloc ?_ _)); exact BK193.out⟩
                              have n1_ : Aside0 (((w129.setCell ⟨gb211, 0, none⟩ (.int .i64 (wrap64 (Int.tdiv x7_3 16)))).setCell ⟨gb211, 1, none⟩ (.int .i64 (Int.tmod x7_3 16))).heap[gb194]? = some (.cells #[.int .i64 t191, .int .i64 t192] 25 (0, 0))) := ⟨by (with_reducible repeat (first | refine blk_drewN ?_ _ | refine blk_drew ?_ | refine blk_alloc ?_ _)); refine blk_far ?_ NB194_211.out _; (with_reducible repeat (first | refine blk_drewN ?_ _ | refine blk_drew ?_ | refine blk_alloc ?_ _)); refine blk_far ?_ NB194_211.out _; (with_reducible repeat (first | refine blk_drewN ?_ _ | refine blk_drew ?_ | refine blk_alloc ?_ _)); exact BK194.out⟩
                              have n2_ : Aside0 (((w129.setCell ⟨gb211, 0, none⟩ (.int .i64 (wrap64 (Int.tdiv x7_3 16)))).setCell ⟨gb211, 1, none⟩ (.int .i64 (Int.tmod x7_3 16))).heap[gb197]? = some (.cells #[.int .i64 t195, .int .i64 t196] 25 (0, 0))) := ⟨by (with_reducible repeat (first | refine blk_drewN ?_ _ | refine blk_drew ?_ | refine blk_alloc ?_ _)); refine blk_far ?_ NB197_211.out _; (with_reducible repeat (first | refine blk_drewN ?_ _ | refine blk_drew ?_ | refine blk_alloc ?_ _)); refine blk_far ?_ NB197_211.out _; (with_reducible repeat (first | refine blk_drewN ?_ _ | refine blk_drew ?_ | refine blk_alloc ?_ _)); exact BK197.out⟩
                              have n3_ : Aside0 (((w129.setCell ⟨gb211, 0, none⟩ (.int .i64 (wrap64 (Int.tdiv x7_3 16)))).setCell ⟨gb211, 1, none⟩ (.int .i64 (Int.tmod x7_3 16))).heap[gb200]? = some (.cells #[.int .i64 t198, .int .i64 t199] 25 (0, 0))) := ⟨by (with_reducible repeat (first | refine blk_drewN ?_ _ | refine blk_drew ?_ | refine blk_alloc ?_ _)); refine blk_far ?_ NB200_211.out _; (with_reducible repeat (first | refine blk_drewN ?_ _ | refine blk_drew ?_ | refine blk_alloc ?_ _)); refine blk_far ?_ NB200_211.out _; (with_reducible repeat (first | refine blk_drewN ?_ _ | refine blk_drew ?_ | refine blk_alloc ?_ _)); exact BK200.out⟩
                              have n4_ : Aside0 (((w129.setCell ⟨gb211, 0, none⟩ (.int .i64 (wrap64 (Int.tdiv x7_3 16)))).setCell ⟨gb211, 1, none⟩ (.int .i64 (Int.tmod x7_3 16))).heap[gb211]? = some (.cells #[.int .i64 (wrap64 (Int.tdiv x7_3 16)), .int .i64 (Int.tmod x7_3 16)] 25 (0, 0))) := ⟨by (with_reducible repeat (first | refine blk_drewN ?_ _ | refine blk_drew ?_ | refine blk_alloc ?_ _)); refine blk_put (cs := #[.int .i64 (wrap64 (Int.tdiv x7_3 16)), .int .i64 0]) ?_ 1 _ rfl; (with_reducible repeat (first | refine blk_drewN ?_ _ | refine blk_drew ?_ | refine blk_alloc ?_ _)); refine blk_put (cs := #[.int .i64 0, .int .i64 0]) ?_ 0 _ rfl; (with_reducible repeat (first | refine blk_drewN ?_ _ | refine blk_drew ?_ | refine blk_alloc ?_ _)); exact BK211.out⟩
                              have n5_ : Aside0 (Below w.heap.size w ((w129.setCell ⟨gb211, 0, none⟩ (.int .i64 (wrap64 (Int.tdiv x7_3 16)))).setCell ⟨gb211, 1, none⟩ (.int .i64 (Int.tmod x7_3 16)))) := ⟨hb_⟩
                              (try clear BK193)
                              (try clear BK194)
                              (try clear BK197)
                              (try clear BK200)
                              (try clear BK211)
                              (try clear HB)
                              generalize ((w129.setCell ⟨gb211, 0, none⟩ (.int .i64 (wrap64 (Int.tdiv x7_3 16)))).setCell ⟨gb211, 1, none⟩ (.int .i64 (Int.tmod x7_3 16))) = w135 at n0_ n1_ n2_ n3_ n4_ n5_ ⊢
                              have BK193 := n0_
                              have BK194 := n1_
                              have BK197 := n2_
                              have BK200 := n3_
                              have BK211 := n4_
                              have HB := n5_
                              clear n0_ n1_ n2_ n3_ n4_ n5_
                              have n0_ := Aside0.mk (blk_drew BK193.out)
                              have n1_ := Aside0.mk (blk_drew BK194.out)
                              have n2_ := Aside0.mk (blk_drew BK197.out)
                              have n3_ := Aside0.mk (blk_drew BK200.out)
                              have n4_ := Aside0.mk (blk_drew BK211.out)
                              have n5_ := Aside0.mk (below_drew1 HB.out)
                              clear BK193
                              clear BK194
                              clear BK197
                              clear BK200
                              clear BK211
                              clear HB
                              have BK193 := n0_
                              have BK194 := n1_
                              have BK197 := n2_
                              have BK200 := n3_
                              have BK211 := n4_
                              have HB := n5_
                              clear n0_ n1_ n2_ n3_ n4_ n5_
                              refine start_ (n := 26) (S := fun w' => w'.cell? ⟨gb197, 0, none⟩ = some (.int .i64 t195) ∧ w'.cell? ⟨gb197, 1, none⟩ = some (.int .i64 t196) ∧ w'.cell? ⟨gb211, 0, none⟩ = some (.int .i64 (wrap64 (Int.tdiv x7_3 16))) ∧ w'.cell? ⟨gb211, 1, none⟩ = some (.int .i64 (Int.tmod x7_3 16)) ∧ w'.cell? ⟨gb193, 0, none⟩ = some (.int .i64 t189) ∧ w'.cell? ⟨gb193, 1, none⟩ = some (.int .i64 t190) ∧ w'.cell? ⟨gb194, 0, none⟩ = some (.int .i64 t191) ∧ w'.cell? ⟨gb194, 1, none⟩ = some (.int .i64 t192) ∧ w'.cell? ⟨gb200, 0, none⟩ = some (.int .i64 t198) ∧ w'.cell? ⟨gb200, 1, none⟩ = some (.int .i64 t199)) (ds := []) #[false, false, false, false, false, false, false, false, false, false, false, false, false, false, false, false, false, false, false, false, false, false, false, false, false, false] (by kernel_rfl) rfl rfl ⟨(blk_cell BK197.out 0).trans rfl, (blk_cell BK197.out 1).trans rfl, (blk_cell BK211.out 0).trans rfl, (blk_cell BK211.out 1).trans rfl, (blk_cell BK193.out 0).trans rfl, (blk_cell BK193.out 1).trans rfl, (blk_cell BK194.out 0).trans rfl, (blk_cell BK194.out 1).trans rfl, (blk_cell BK200.out 0).trans rfl, (blk_cell BK200.out 1).trans rfl⟩ (fun hHeld => ?_); refine with_tabW laws_FnLblBounds.tab14 laws_FnLblBounds.bits14 (fun HT_ HW_ => ?_)
                              generalize w135.drew = w136 at BK193 BK194 BK197 BK200 BK211 HB hHeld ⊢
                              refine take_ (i := 0) (N := some 77) (v := ?_) (a' := ?_) #[true, false, false, false, false, false, false, false, false, false, false, false, false, false, false, false, false, false, false, false, false, false, false, false, false, false] rfl rfl (take_ofW HT_.out HW_.out (by kernel_rfl)) (fun _ _ _ h => h) (Or.inl ⟨by rfl, ?_⟩) hHeld ?_ ?_
                              rotate_left
                              · rintro w' ⟨s0, s1, s2, s3, s4, s5, s6, s7, s8, s9⟩
                                go_simp
                                with_reducible rfl
                              rotate_left
                              · simp only [Act.put, List.setIfInBounds_toArray, List.set_cons_zero, List.set_cons_succ, i64_w, i32_w]
                                rfl
                              refine take_ (i := 1) (N := some 78) (v := ?_) (a' := ?_) #[true, true, false, false, false, false, false, false, false, false, false, false, false, false, false, false, false, false, false, false, false, false, false, false, false, false] rfl rfl (take_ofW HT_.out HW_.out (by kernel_rfl)) (fun _ _ _ h => h) (Or.inl ⟨by rfl, ?_⟩) hHeld ?_ ?_
                              rotate_left
                              · rintro w' ⟨s0, s1, s2, s3, s4, s5, s6, s7, s8, s9⟩
                                go_simp
                                with_reducible rfl
                              rotate_left
                              · simp only [Act.put, List.setIfInBounds_toArray, List.set_cons_zero, List.set_cons_succ, i64_w, i32_w]
                                rfl
                              refine take_ (i := 3) (N := some 80) (v := ?_) (a' := ?_) #[true, true, false, true, false, false, false, false, false, false, false, false, false, false, false, false, false, false, false, false, false, false, false, false, false, false] rfl rfl (take_ofW HT_.out HW_.out (by kernel_rfl)) (fun _ _ _ h => h) (Or.inl ⟨by rfl, ?_⟩) hHeld ?_ ?_
                              rotate_left
                              · rintro w' ⟨s0, s1, s2, s3, s4, s5, s6, s7, s8, s9⟩
                                go_simp
                                with_reducible rfl
                              rotate_left
                              · simp only [Act.put, List.setIfInBounds_toArray, List.set_cons_zero, List.set_cons_succ, i64_w, i32_w]
                                rfl
                              refine take_ (i := 4) (N := some 81) (v := ?_) (a' := ?_) #[true, true, false, true, true, false, false, false, false, false, false, false, false, false, false, false, false, false, false, false, false, false, false, false, false, false] rfl rfl (take_ofW HT_.out HW_.out (by kernel_rfl)) (fun _ _ _ h => h) (Or.inl ⟨by rfl, ?_⟩) hHeld ?_ ?_
                              rotate_left
                              · rintro w' ⟨s0, s1, s2, s3, s4, s5, s6, s7, s8, s9⟩
                                go_simp
                                with_reducible rfl
                              rotate_left
                              · simp only [Act.put, List.setIfInBounds_toArray, List.set_cons_zero, List.set_cons_succ, i64_w, i32_w]
                                rfl
                              refine one_ (i := 2) (N := some 79) #[true, true, true, true, true, false, false, false, false, false, false, false, false, false, false, false, false, false, false, false, false, false, false, false, false, false] rfl rfl (one_of HT_.out (by kernel_rfl)) (by decide) (fun K hK => ?_)
                              refine goes_ Try.func18 (by kernel_rfl) rfl #[.agg #[.int .i64 t195, .int .i64 t196], .agg #[.int .i64 (wrap64 (Int.tdiv x7_3 16)), .int .i64 (Int.tmod x7_3 16)]] (by rfl) rfl rfl ml_ ?_
                              with_reducible refine (impl_LblFlows.calls t195 t196 (wrap64 (Int.tdiv x7_3 16)) (Int.tmod x7_3 16) t212 _ A94.out).mono ?_
                              rintro e w137 ⟨rfl, hb⟩
                              refine ⟨_, rfl, ?_⟩
                              have n0_ := Aside0.mk (blk_below (g := gb193) (o := .cells #[.int .i64 t189, .int .i64 t190] 25 (0, 0)) bk_ hb)
                              have n1_ := Aside0.mk (blk_below (g := gb194) (o := .cells #[.int .i64 t191, .int .i64 t192] 25 (0, 0)) bk_ hb)
                              have n2_ := Aside0.mk (blk_below (g := gb197) (o := .cells #[.int .i64 t195, .int .i64 t196] 25 (0, 0)) bk_ hb)
                              have n3_ := Aside0.mk (blk_below (g := gb200) (o := .cells #[.int .i64 t198, .int .i64 t199] 25 (0, 0)) bk_ hb)
                              have n4_ := Aside0.mk (blk_below (g := gb211) (o := .cells #[.int .i64 (wrap64 (Int.tdiv x7_3 16)), .int .i64 (Int.tmod x7_3 16)] 25 (0, 0)) bk_ hb)
                              have n5_ := Aside0.mk (below_step hb_ hb)
                              clear BK193
                              clear BK194
                              clear BK197
                              clear BK200
                              clear BK211
                              clear HB
                              have BK193 := n0_
                              have BK194 := n1_
                              have BK197 := n2_
                              have BK200 := n3_
                              have BK211 := n4_
                              have HB := n5_
                              clear n0_ n1_ n2_ n3_ n4_ n5_
                              (try clear hb)
                              (try clear hb2)
                              (try clear hk)
                              (try clear hi)
                              refine hK.out _ _ ⟨(blk_cell BK197.out 0).trans rfl, (blk_cell BK197.out 1).trans rfl, (blk_cell BK211.out 0).trans rfl, (blk_cell BK211.out 1).trans rfl, (blk_cell BK193.out 0).trans rfl, (blk_cell BK193.out 1).trans rfl, (blk_cell BK194.out 0).trans rfl, (blk_cell BK194.out 1).trans rfl, (blk_cell BK200.out 0).trans rfl, (blk_cell BK200.out 1).trans rfl⟩ (fun hHeld => ?_)
                              clear hK K
                              refine norm_ (a' := ?_) ?_ ?_
                              rotate_left
                              · show Act.put _ (some 79) _ = _
                                simp only [Act.put, List.setIfInBounds_toArray, List.set_cons_zero, List.set_cons_succ, i64_w, i32_w]
                                rfl
                              refine one_ (i := 5) (N := some 82) #[true, true, true, true, true, true, false, false, false, false, false, false, false, false, false, false, false, false, false, false, false, false, false, false, false, false] rfl rfl (one_of HT_.out (by kernel_rfl)) (by decide) (fun K hK => ?_)
                              refine goes_ Try.func18 (by kernel_rfl) rfl #[.agg #[.int .i64 t189, .int .i64 t190], .agg #[.int .i64 (wrap64 (Int.tdiv x7_3 16)), .int .i64 (Int.tmod x7_3 16)]] (by rfl) rfl rfl ml_ ?_
                              with_reducible refine (impl_LblFlows.calls t189 t190 (wrap64 (Int.tdiv x7_3 16)) (Int.tmod x7_3 16) true _ A95.out).mono ?_
                              rintro e w138 ⟨rfl, hb⟩
                              refine ⟨_, rfl, ?_⟩
                              have n0_ := Aside0.mk (blk_below (g := gb193) (o := .cells #[.int .i64 t189, .int .i64 t190] 25 (0, 0)) bk_ hb)
                              have n1_ := Aside0.mk (blk_below (g := gb194) (o := .cells #[.int .i64 t191, .int .i64 t192] 25 (0, 0)) bk_ hb)
                              have n2_ := Aside0.mk (blk_below (g := gb197) (o := .cells #[.int .i64 t195, .int .i64 t196] 25 (0, 0)) bk_ hb)
                              have n3_ := Aside0.mk (blk_below (g := gb200) (o := .cells #[.int .i64 t198, .int .i64 t199] 25 (0, 0)) bk_ hb)
                              have n4_ := Aside0.mk (blk_below (g := gb211) (o := .cells #[.int .i64 (wrap64 (Int.tdiv x7_3 16)), .int .i64 (Int.tmod x7_3 16)] 25 (0, 0)) bk_ hb)
                              have n5_ := Aside0.mk (below_step hb_ hb)
                              clear BK193
                              clear BK194
                              clear BK197
                              clear BK200
                              clear BK211
                              clear HB
                              have BK193 := n0_
                              have BK194 := n1_
                              have BK197 := n2_
                              have BK200 := n3_
                              have BK211 := n4_
                              have HB := n5_
                              clear n0_ n1_ n2_ n3_ n4_ n5_
                              (try clear hb)
                              (try clear hb2)
                              (try clear hk)
                              (try clear hi)
                              refine hK.out _ _ ⟨(blk_cell BK197.out 0).trans rfl, (blk_cell BK197.out 1).trans rfl, (blk_cell BK211.out 0).trans rfl, (blk_cell BK211.out 1).trans rfl, (blk_cell BK193.out 0).trans rfl, (blk_cell BK193.out 1).trans rfl, (blk_cell BK194.out 0).trans rfl, (blk_cell BK194.out 1).trans rfl, (blk_cell BK200.out 0).trans rfl, (blk_cell BK200.out 1).trans rfl⟩ (fun hHeld => ?_)
                              clear hK K
                              refine norm_ (a' := ?_) ?_ ?_
                              rotate_left
                              · show Act.put _ (some 82) _ = _
                                simp only [Act.put, List.setIfInBounds_toArray, List.set_cons_zero, List.set_cons_succ, i64_w, i32_w]
                                rfl
                              refine pure_ (i := 6) (N := some 83) (v := ?_) (a' := ?_) #[true, true, true, true, true, true, true, false, false, false, false, false, false, false, false, false, false, false, false, false, false, false, false, false, false, false] rfl rfl (any_of HT_.out (by kernel_rfl)) (fun _ _ _ h => h) (Or.inl ⟨by rfl, ?_⟩) ?_ ?_
                              rotate_left
                              · intro w'
                                go_simp
                                with_reducible rfl
                              rotate_left
                              · simp only [Act.put, List.setIfInBounds_toArray, List.set_cons_zero, List.set_cons_succ, i64_w, i32_w]
                                rfl
                              refine take_ (i := 7) (N := some 84) (v := ?_) (a' := ?_) #[true, true, true, true, true, true, true, true, false, false, false, false, false, false, false, false, false, false, false, false, false, false, false, false, false, false] rfl rfl (take_ofW HT_.out HW_.out (by kernel_rfl)) (fun _ _ _ h => h) (Or.inl ⟨by rfl, ?_⟩) hHeld ?_ ?_
                              rotate_left
                              · rintro w' ⟨s0, s1, s2, s3, s4, s5, s6, s7, s8, s9⟩
                                go_simp
                                with_reducible rfl
                              rotate_left
                              · simp only [Act.put, List.setIfInBounds_toArray, List.set_cons_zero, List.set_cons_succ, i64_w, i32_w]
                                rfl
                              refine take_ (i := 8) (N := some 85) (v := ?_) (a' := ?_) #[true, true, true, true, true, true, true, true, true, false, false, false, false, false, false, false, false, false, false, false, false, false, false, false, false, false] rfl rfl (take_ofW HT_.out HW_.out (by kernel_rfl)) (fun _ _ _ h => h) (Or.inl ⟨by rfl, ?_⟩) hHeld ?_ ?_
                              rotate_left
                              · rintro w' ⟨s0, s1, s2, s3, s4, s5, s6, s7, s8, s9⟩
                                go_simp
                                with_reducible rfl
                              rotate_left
                              · simp only [Act.put, List.setIfInBounds_toArray, List.set_cons_zero, List.set_cons_succ, i64_w, i32_w]
                                rfl
                              refine one_ (i := 9) (N := some 86) #[true, true, true, true, true, true, true, true, true, true, false, false, false, false, false, false, false, false, false, false, false, false, false, false, false, false] rfl rfl (one_of HT_.out (by kernel_rfl)) (by decide) (fun K hK => ?_)
                              refine goes_ Try.func18 (by kernel_rfl) rfl #[.agg #[.int .i64 t191, .int .i64 t192], .agg #[.int .i64 (wrap64 (Int.tdiv x7_3 16)), .int .i64 (Int.tmod x7_3 16)]] (by rfl) rfl rfl ml_ ?_
                              with_reducible refine (impl_LblFlows.calls t191 t192 (wrap64 (Int.tdiv x7_3 16)) (Int.tmod x7_3 16) t214 _ A97.out).mono ?_
                              rintro e w139 ⟨rfl, hb⟩
                              refine ⟨_, rfl, ?_⟩
                              have n0_ := Aside0.mk (blk_below (g := gb193) (o := .cells #[.int .i64 t189, .int .i64 t190] 25 (0, 0)) bk_ hb)
                              have n1_ := Aside0.mk (blk_below (g := gb194) (o := .cells #[.int .i64 t191, .int .i64 t192] 25 (0, 0)) bk_ hb)
                              have n2_ := Aside0.mk (blk_below (g := gb197) (o := .cells #[.int .i64 t195, .int .i64 t196] 25 (0, 0)) bk_ hb)
                              have n3_ := Aside0.mk (blk_below (g := gb200) (o := .cells #[.int .i64 t198, .int .i64 t199] 25 (0, 0)) bk_ hb)
                              have n4_ := Aside0.mk (blk_below (g := gb211) (o := .cells #[.int .i64 (wrap64 (Int.tdiv x7_3 16)), .int .i64 (Int.tmod x7_3 16)] 25 (0, 0)) bk_ hb)
                              have n5_ := Aside0.mk (below_step hb_ hb)
                              clear BK193
                              clear BK194
                              clear BK197
                              clear BK200
                              clear BK211
                              clear HB
                              have BK193 := n0_
                              have BK194 := n1_
                              have BK197 := n2_
                              have BK200 := n3_
                              have BK211 := n4_
                              have HB := n5_
                              clear n0_ n1_ n2_ n3_ n4_ n5_
                              (try clear hb)
                              (try clear hb2)
                              (try clear hk)
                              (try clear hi)
                              refine hK.out _ _ ⟨(blk_cell BK197.out 0).trans rfl, (blk_cell BK197.out 1).trans rfl, (blk_cell BK211.out 0).trans rfl, (blk_cell BK211.out 1).trans rfl, (blk_cell BK193.out 0).trans rfl, (blk_cell BK193.out 1).trans rfl, (blk_cell BK194.out 0).trans rfl, (blk_cell BK194.out 1).trans rfl, (blk_cell BK200.out 0).trans rfl, (blk_cell BK200.out 1).trans rfl⟩ (fun hHeld => ?_)
                              clear hK K
                              refine norm_ (a' := ?_) ?_ ?_
                              rotate_left
                              · show Act.put _ (some 86) _ = _
                                simp only [Act.put, List.setIfInBounds_toArray, List.set_cons_zero, List.set_cons_succ, i64_w, i32_w]
                                rfl
                              refine pure_ (i := 10) (N := some 87) (v := ?_) (a' := ?_) #[true, true, true, true, true, true, true, true, true, true, true, false, false, false, false, false, false, false, false, false, false, false, false, false, false, false] rfl rfl (any_of HT_.out (by kernel_rfl)) (fun _ _ _ h => h) (Or.inl ⟨by rfl, ?_⟩) ?_ ?_
                              rotate_left
                              · intro w'
                                go_simp
                                with_reducible rfl
                              rotate_left
                              · simp only [Act.put, List.setIfInBounds_toArray, List.set_cons_zero, List.set_cons_succ, i64_w, i32_w]
                                rfl
                              refine pure_ (i := 11) (N := some 88) (v := ?_) (a' := ?_) #[true, true, true, true, true, true, true, true, true, true, true, true, false, false, false, false, false, false, false, false, false, false, false, false, false, false] rfl rfl (any_of HT_.out (by kernel_rfl)) (fun _ _ _ h => h) (Or.inl ⟨by rfl, ?_⟩) ?_ ?_
                              rotate_left
                              · intro w'
                                go_simp
                                with_reducible rfl
                              rotate_left
                              · simp only [Act.put, List.setIfInBounds_toArray, List.set_cons_zero, List.set_cons_succ, i64_w, i32_w]
                                rfl
                              refine pure_ (i := 12) (N := some 89) (v := ?_) (a' := ?_) #[true, true, true, true, true, true, true, true, true, true, true, true, true, false, false, false, false, false, false, false, false, false, false, false, false, false] rfl rfl (any_of HT_.out (by kernel_rfl)) (fun _ _ _ h => h) (Or.inl ⟨by rfl, ?_⟩) ?_ ?_
                              rotate_left
                              · intro w'
                                go_simp
                                with_reducible rfl
                              rotate_left
                              · simp only [Act.put, List.setIfInBounds_toArray, List.set_cons_zero, List.set_cons_succ, i64_w, i32_w]
                                rfl
                              refine take_ (i := 13) (N := some 90) (v := ?_) (a' := ?_) #[true, true, true, true, true, true, true, true, true, true, true, true, true, true, false, false, false, false, false, false, false, false, false, false, false, false] rfl rfl (take_ofW HT_.out HW_.out (by kernel_rfl)) (fun _ _ _ h => h) (Or.inl ⟨by rfl, ?_⟩) hHeld ?_ ?_
                              rotate_left
                              · rintro w' ⟨s0, s1, s2, s3, s4, s5, s6, s7, s8, s9⟩
                                go_simp
                                with_reducible rfl
                              rotate_left
                              · simp only [Act.put, List.setIfInBounds_toArray, List.set_cons_zero, List.set_cons_succ, i64_w, i32_w]
                                rfl
                              refine take_ (i := 14) (N := some 91) (v := ?_) (a' := ?_) #[true, true, true, true, true, true, true, true, true, true, true, true, true, true, true, false, false, false, false, false, false, false, false, false, false, false] rfl rfl (take_ofW HT_.out HW_.out (by kernel_rfl)) (fun _ _ _ h => h) (Or.inl ⟨by rfl, ?_⟩) hHeld ?_ ?_
                              rotate_left
                              · rintro w' ⟨s0, s1, s2, s3, s4, s5, s6, s7, s8, s9⟩
                                go_simp
                                with_reducible rfl
                              rotate_left
                              · simp only [Act.put, List.setIfInBounds_toArray, List.set_cons_zero, List.set_cons_succ, i64_w, i32_w]
                                rfl
                              refine take_ (i := 16) (N := some 93) (v := ?_) (a' := ?_) #[true, true, true, true, true, true, true, true, true, true, true, true, true, true, true, false, true, false, false, false, false, false, false, false, false, false] rfl rfl (take_ofW HT_.out HW_.out (by kernel_rfl)) (fun _ _ _ h => h) (Or.inl ⟨by rfl, ?_⟩) hHeld ?_ ?_
                              rotate_left
                              · rintro w' ⟨s0, s1, s2, s3, s4, s5, s6, s7, s8, s9⟩
                                go_simp
                                with_reducible rfl
                              rotate_left
                              · simp only [Act.put, List.setIfInBounds_toArray, List.set_cons_zero, List.set_cons_succ, i64_w, i32_w]
                                rfl
                              refine take_ (i := 17) (N := some 94) (v := ?_) (a' := ?_) #[true, true, true, true, true, true, true, true, true, true, true, true, true, true, true, false, true, true, false, false, false, false, false, false, false, false] rfl rfl (take_ofW HT_.out HW_.out (by kernel_rfl)) (fun _ _ _ h => h) (Or.inl ⟨by rfl, ?_⟩) hHeld ?_ ?_
                              rotate_left
                              · rintro w' ⟨s0, s1, s2, s3, s4, s5, s6, s7, s8, s9⟩
                                go_simp
                                with_reducible rfl
                              rotate_left
                              · simp only [Act.put, List.setIfInBounds_toArray, List.set_cons_zero, List.set_cons_succ, i64_w, i32_w]
                                rfl
                              refine one_ (i := 15) (N := some 92) #[true, true, true, true, true, true, true, true, true, true, true, true, true, true, true, true, true, true, false, false, false, false, false, false, false, false] rfl rfl (one_of HT_.out (by kernel_rfl)) (by decide) (fun K hK => ?_)
                              refine goes_ Try.func18 (by kernel_rfl) rfl #[.agg #[.int .i64 (wrap64 (Int.tdiv x7_3 16)), .int .i64 (Int.tmod x7_3 16)], .agg #[.int .i64 t198, .int .i64 t199]] (by rfl) rfl rfl ml_ ?_
                              with_reducible refine (impl_LblFlows.calls (wrap64 (Int.tdiv x7_3 16)) (Int.tmod x7_3 16) t198 t199 t215 _ A110.out).mono ?_
                              rintro e w140 ⟨rfl, hb⟩
                              refine ⟨_, rfl, ?_⟩
                              have n0_ := Aside0.mk (blk_below (g := gb193) (o := .cells #[.int .i64 t189, .int .i64 t190] 25 (0, 0)) bk_ hb)
                              have n1_ := Aside0.mk (blk_below (g := gb194) (o := .cells #[.int .i64 t191, .int .i64 t192] 25 (0, 0)) bk_ hb)
                              have n2_ := Aside0.mk (blk_below (g := gb197) (o := .cells #[.int .i64 t195, .int .i64 t196] 25 (0, 0)) bk_ hb)
                              have n3_ := Aside0.mk (blk_below (g := gb200) (o := .cells #[.int .i64 t198, .int .i64 t199] 25 (0, 0)) bk_ hb)
                              have n4_ := Aside0.mk (blk_below (g := gb211) (o := .cells #[.int .i64 (wrap64 (Int.tdiv x7_3 16)), .int .i64 (Int.tmod x7_3 16)] 25 (0, 0)) bk_ hb)
                              have n5_ := Aside0.mk (below_step hb_ hb)
                              clear BK193
                              clear BK194
                              clear BK197
                              clear BK200
                              clear BK211
                              clear HB
                              have BK193 := n0_
                              have BK194 := n1_
                              have BK197 := n2_
                              have BK200 := n3_
                              have BK211 := n4_
                              have HB := n5_
                              clear n0_ n1_ n2_ n3_ n4_ n5_
                              (try clear hb)
                              (try clear hb2)
                              (try clear hk)
                              (try clear hi)
                              refine hK.out _ _ ⟨(blk_cell BK197.out 0).trans rfl, (blk_cell BK197.out 1).trans rfl, (blk_cell BK211.out 0).trans rfl, (blk_cell BK211.out 1).trans rfl, (blk_cell BK193.out 0).trans rfl, (blk_cell BK193.out 1).trans rfl, (blk_cell BK194.out 0).trans rfl, (blk_cell BK194.out 1).trans rfl, (blk_cell BK200.out 0).trans rfl, (blk_cell BK200.out 1).trans rfl⟩ (fun hHeld => ?_)
                              clear hK K
                              refine norm_ (a' := ?_) ?_ ?_
                              rotate_left
                              · show Act.put _ (some 92) _ = _
                                simp only [Act.put, List.setIfInBounds_toArray, List.set_cons_zero, List.set_cons_succ, i64_w, i32_w]
                                rfl
                              refine one_ (i := 18) (N := some 95) #[true, true, true, true, true, true, true, true, true, true, true, true, true, true, true, true, true, true, true, false, false, false, false, false, false, false] rfl rfl (one_of HT_.out (by kernel_rfl)) (by decide) (fun K hK => ?_)
                              refine goes_ Try.func18 (by kernel_rfl) rfl #[.agg #[.int .i64 (wrap64 (Int.tdiv x7_3 16)), .int .i64 (Int.tmod x7_3 16)], .agg #[.int .i64 t189, .int .i64 t190]] (by rfl) rfl rfl ml_ ?_
                              with_reducible refine (impl_LblFlows.calls (wrap64 (Int.tdiv x7_3 16)) (Int.tmod x7_3 16) t189 t190 true _ A111.out).mono ?_
                              rintro e w141 ⟨rfl, hb⟩
                              refine ⟨_, rfl, ?_⟩
                              have n0_ := Aside0.mk (blk_below (g := gb193) (o := .cells #[.int .i64 t189, .int .i64 t190] 25 (0, 0)) bk_ hb)
                              have n1_ := Aside0.mk (blk_below (g := gb194) (o := .cells #[.int .i64 t191, .int .i64 t192] 25 (0, 0)) bk_ hb)
                              have n2_ := Aside0.mk (blk_below (g := gb197) (o := .cells #[.int .i64 t195, .int .i64 t196] 25 (0, 0)) bk_ hb)
                              have n3_ := Aside0.mk (blk_below (g := gb200) (o := .cells #[.int .i64 t198, .int .i64 t199] 25 (0, 0)) bk_ hb)
                              have n4_ := Aside0.mk (blk_below (g := gb211) (o := .cells #[.int .i64 (wrap64 (Int.tdiv x7_3 16)), .int .i64 (Int.tmod x7_3 16)] 25 (0, 0)) bk_ hb)
                              have n5_ := Aside0.mk (below_step hb_ hb)
                              clear BK193
                              clear BK194
                              clear BK197
                              clear BK200
                              clear BK211
                              clear HB
                              have BK193 := n0_
                              have BK194 := n1_
                              have BK197 := n2_
                              have BK200 := n3_
                              have BK211 := n4_
                              have HB := n5_
                              clear n0_ n1_ n2_ n3_ n4_ n5_
                              (try clear hb)
                              (try clear hb2)
                              (try clear hk)
                              (try clear hi)
                              refine hK.out _ _ ⟨(blk_cell BK197.out 0).trans rfl, (blk_cell BK197.out 1).trans rfl, (blk_cell BK211.out 0).trans rfl, (blk_cell BK211.out 1).trans rfl, (blk_cell BK193.out 0).trans rfl, (blk_cell BK193.out 1).trans rfl, (blk_cell BK194.out 0).trans rfl, (blk_cell BK194.out 1).trans rfl, (blk_cell BK200.out 0).trans rfl, (blk_cell BK200.out 1).trans rfl⟩ (fun hHeld => ?_)
                              clear hK K
                              refine norm_ (a' := ?_) ?_ ?_
                              rotate_left
                              · show Act.put _ (some 95) _ = _
                                simp only [Act.put, List.setIfInBounds_toArray, List.set_cons_zero, List.set_cons_succ, i64_w, i32_w]
                                rfl
                              refine pure_ (i := 19) (N := some 96) (v := ?_) (a' := ?_) #[true, true, true, true, true, true, true, true, true, true, true, true, true, true, true, true, true, true, true, true, false, false, false, false, false, false] rfl rfl (any_of HT_.out (by kernel_rfl)) (fun _ _ _ h => h) (Or.inl ⟨by rfl, ?_⟩) ?_ ?_
                              rotate_left
                              · intro w'
                                go_simp
                                with_reducible rfl
                              rotate_left
                              · simp only [Act.put, List.setIfInBounds_toArray, List.set_cons_zero, List.set_cons_succ, i64_w, i32_w]
                                rfl
                              refine take_ (i := 20) (N := some 97) (v := ?_) (a' := ?_) #[true, true, true, true, true, true, true, true, true, true, true, true, true, true, true, true, true, true, true, true, true, false, false, false, false, false] rfl rfl (take_ofW HT_.out HW_.out (by kernel_rfl)) (fun _ _ _ h => h) (Or.inl ⟨by rfl, ?_⟩) hHeld ?_ ?_
                              rotate_left
                              · rintro w' ⟨s0, s1, s2, s3, s4, s5, s6, s7, s8, s9⟩
                                go_simp
                                with_reducible rfl
                              rotate_left
                              · simp only [Act.put, List.setIfInBounds_toArray, List.set_cons_zero, List.set_cons_succ, i64_w, i32_w]
                                rfl
                              refine take_ (i := 21) (N := some 98) (v := ?_) (a' := ?_) #[true, true, true, true, true, true, true, true, true, true, true, true, true, true, true, true, true, true, true, true, true, true, false, false, false, false] rfl rfl (take_ofW HT_.out HW_.out (by kernel_rfl)) (fun _ _ _ h => h) (Or.inl ⟨by rfl, ?_⟩) hHeld ?_ ?_
                              rotate_left
                              · rintro w' ⟨s0, s1, s2, s3, s4, s5, s6, s7, s8, s9⟩
                                go_simp
                                with_reducible rfl
                              rotate_left
                              · simp only [Act.put, List.setIfInBounds_toArray, List.set_cons_zero, List.set_cons_succ, i64_w, i32_w]
                                rfl
                              refine one_ (i := 22) (N := some 99) #[true, true, true, true, true, true, true, true, true, true, true, true, true, true, true, true, true, true, true, true, true, true, true, false, false, false] rfl rfl (one_of HT_.out (by kernel_rfl)) (by decide) (fun K hK => ?_)
                              refine goes_ Try.func18 (by kernel_rfl) rfl #[.agg #[.int .i64 (wrap64 (Int.tdiv x7_3 16)), .int .i64 (Int.tmod x7_3 16)], .agg #[.int .i64 t191, .int .i64 t192]] (by rfl) rfl rfl ml_ ?_
                              with_reducible refine (impl_LblFlows.calls (wrap64 (Int.tdiv x7_3 16)) (Int.tmod x7_3 16) t191 t192 t217 _ A113.out).mono ?_
                              rintro e w142 ⟨rfl, hb⟩
                              refine ⟨_, rfl, ?_⟩
                              have n0_ := Aside0.mk (blk_below (g := gb193) (o := .cells #[.int .i64 t189, .int .i64 t190] 25 (0, 0)) bk_ hb)
                              have n1_ := Aside0.mk (blk_below (g := gb194) (o := .cells #[.int .i64 t191, .int .i64 t192] 25 (0, 0)) bk_ hb)
                              have n2_ := Aside0.mk (blk_below (g := gb197) (o := .cells #[.int .i64 t195, .int .i64 t196] 25 (0, 0)) bk_ hb)
                              have n3_ := Aside0.mk (blk_below (g := gb200) (o := .cells #[.int .i64 t198, .int .i64 t199] 25 (0, 0)) bk_ hb)
                              have n4_ := Aside0.mk (blk_below (g := gb211) (o := .cells #[.int .i64 (wrap64 (Int.tdiv x7_3 16)), .int .i64 (Int.tmod x7_3 16)] 25 (0, 0)) bk_ hb)
                              have n5_ := Aside0.mk (below_step hb_ hb)
                              clear BK193
                              clear BK194
                              clear BK197
                              clear BK200
                              clear BK211
                              clear HB
                              have BK193 := n0_
                              have BK194 := n1_
                              have BK197 := n2_
                              have BK200 := n3_
                              have BK211 := n4_
                              have HB := n5_
                              clear n0_ n1_ n2_ n3_ n4_ n5_
                              (try clear hb)
                              (try clear hb2)
                              (try clear hk)
                              (try clear hi)
                              refine hK.out _ _ ⟨(blk_cell BK197.out 0).trans rfl, (blk_cell BK197.out 1).trans rfl, (blk_cell BK211.out 0).trans rfl, (blk_cell BK211.out 1).trans rfl, (blk_cell BK193.out 0).trans rfl, (blk_cell BK193.out 1).trans rfl, (blk_cell BK194.out 0).trans rfl, (blk_cell BK194.out 1).trans rfl, (blk_cell BK200.out 0).trans rfl, (blk_cell BK200.out 1).trans rfl⟩ (fun hHeld => ?_)
                              clear hK K
                              refine norm_ (a' := ?_) ?_ ?_
                              rotate_left
                              · show Act.put _ (some 99) _ = _
                                simp only [Act.put, List.setIfInBounds_toArray, List.set_cons_zero, List.set_cons_succ, i64_w, i32_w]
                                rfl
                              refine pure_ (i := 23) (N := some 100) (v := ?_) (a' := ?_) #[true, true, true, true, true, true, true, true, true, true, true, true, true, true, true, true, true, true, true, true, true, true, true, true, false, false] rfl rfl (any_of HT_.out (by kernel_rfl)) (fun _ _ _ h => h) (Or.inl ⟨by rfl, ?_⟩) ?_ ?_
                              rotate_left
                              · intro w'
                                go_simp
                                with_reducible rfl
                              rotate_left
                              · simp only [Act.put, List.setIfInBounds_toArray, List.set_cons_zero, List.set_cons_succ, i64_w, i32_w]
                                rfl
                              refine pure_ (i := 24) (N := some 101) (v := ?_) (a' := ?_) #[true, true, true, true, true, true, true, true, true, true, true, true, true, true, true, true, true, true, true, true, true, true, true, true, true, false] rfl rfl (any_of HT_.out (by kernel_rfl)) (fun _ _ _ h => h) (Or.inl ⟨by rfl, ?_⟩) ?_ ?_
                              rotate_left
                              · intro w'
                                go_simp
                                with_reducible rfl
                              rotate_left
                              · simp only [Act.put, List.setIfInBounds_toArray, List.set_cons_zero, List.set_cons_succ, i64_w, i32_w]
                                rfl
                              refine pure_ (i := 25) (N := some 102) (v := ?_) (a' := ?_) #[true, true, true, true, true, true, true, true, true, true, true, true, true, true, true, true, true, true, true, true, true, true, true, true, true, true] rfl rfl (any_of HT_.out (by kernel_rfl)) (fun _ _ _ h => h) (Or.inl ⟨by rfl, ?_⟩) ?_ ?_
                              rotate_left
                              · intro w'
                                go_simp
                                with_reducible rfl
                              rotate_left
                              · simp only [Act.put, List.setIfInBounds_toArray, List.set_cons_zero, List.set_cons_succ, i64_w, i32_w]
                                rfl
                              refine done_ (done_of HT_.out (by kernel_rfl)) ?_
                              try go_wp2
                              go_roundg k3
                              case measure => have := HJ5.out; have := HJ51.out; have := HK3.out; omega
                              case rel => exact ⟨(wrap64 (x7_3 + 1)), rs_, H', ⟨by have := HJ5.out; have := HJ51.out; have := HK3.out; omega⟩, ⟨by (with_reducible repeat (first | refine blk_drewN ?_ _ | refine blk_drew ?_ | refine blk_alloc ?_ _)); exact BK193.out⟩, ⟨by (with_reducible repeat (first | refine blk_drewN ?_ _ | refine blk_drew ?_ | refine blk_alloc ?_ _)); exact BK194.out⟩, ⟨by (with_reducible repeat (first | refine blk_drewN ?_ _ | refine blk_drew ?_ | refine blk_alloc ?_ _)); exact BK197.out⟩, ⟨by (with_reducible repeat (first | refine blk_drewN ?_ _ | refine blk_drew ?_ | refine blk_alloc ?_ _)); exact BK200.out⟩, ⟨hb_⟩⟩
                          · replace c112 := Bool.eq_false_iff.mpr c112
                            subst c112
                            have H1 : (if (t215 != false) = true then (some false) else (laws_FnLblBounds.l0 k3 (wrap64 (x7_3 + 1)) t189 t190 t191 t192 t195 t196 t198 t199)) = some r := by rw [if_neg (show ¬ (false = true) by decide)] at H; exact H
                            clear H
                            have H := H1
                            clear H1
                            by_cases c143 : (t215 != false) = true
                            · rw [if_pos c143] at H
                              exact absurd (Option.some.inj H) (by rw [htrue.out]; decide)
                            · rw [if_neg c143] at H
                              have c143b0 : (t215 != false) = false := by simpa using c143
                              (try (have c143b1 : decide (t215 = false) = true := by simpa using c143))
                              (try (have c143b2 : (t215 == false) = true := by simpa using c143))
                              clear c143
                              have H' := Aside0.mk H
                              clear H
                              try go_wp2_with (first | ((with_reducible refine gate_dst (N := 8) rfl ?_); refine bx_ (N := 8) (cs := #[.int .i64 0, .int .i64 0]) (t := 25) ?_; intro gb211 hg w157 hbox hb; have n0_ := Aside0.mk (blk_below (g := gb193) (o := .cells #[.int .i64 t189, .int .i64 t190] 25 (0, 0)) bk_ hb); have n1_ := Aside0.mk (blk_below (g := gb194) (o := .cells #[.int .i64 t191, .int .i64 t192] 25 (0, 0)) bk_ hb); have n2_ := Aside0.mk (blk_below (g := gb197) (o := .cells #[.int .i64 t195, .int .i64 t196] 25 (0, 0)) bk_ hb); have n3_ := Aside0.mk (blk_below (g := gb200) (o := .cells #[.int .i64 t198, .int .i64 t199] 25 (0, 0)) bk_ hb); have n4_ := Aside0.mk (below_step hb_ hb); have n5_ := Aside0.mk (hbox); have n6_ := Aside0.mk ((hg_ : w.heap.size ≤ gb211)); have n7_ := Aside0.mk ((hg_ : w.heap.size ≤ gb211)); have n8_ := Aside0.mk ((nl_ : gb193 ≠ gb211)); have n9_ := Aside0.mk ((ng_ : gb211 ≠ gb193)); have n10_ := Aside0.mk ((nl_ : gb194 ≠ gb211)); have n11_ := Aside0.mk ((ng_ : gb211 ≠ gb194)); have n12_ := Aside0.mk ((nl_ : gb197 ≠ gb211)); have n13_ := Aside0.mk ((ng_ : gb211 ≠ gb197)); have n14_ := Aside0.mk ((nl_ : gb200 ≠ gb211)); have n15_ := Aside0.mk ((ng_ : gb211 ≠ gb200)); clear BK193; clear BK194; clear BK197; clear BK200; clear HB; have BK193 := n0_; have BK194 := n1_; have BK197 := n2_; have BK200 := n3_; have HB := n4_; have BK211 := n5_; have GW211 := n6_; have GE211 := n7_; have NB193_211 := n8_; have NB211_193 := n9_; have NB194_211 := n10_; have NB211_194 := n11_; have NB197_211 := n12_; have NB211_197 := n13_; have NB200_211 := n14_; have NB211_200 := n15_; clear n0_ n1_ n2_ n3_ n4_ n5_ n6_ n7_ n8_ n9_ n10_ n11_ n12_ n13_ n14_ n15_; clear hb hbox hg; have hnb158 := NB211_193.out; have hnc158 := NB193_211.out; have hnb159 := NB211_194.out; have hnc159 := NB194_211.out; have hnb160 := NB211_197.out; have hnc160 := NB197_211.out; have hnb161 := NB211_200.out; have hnc161 := NB200_211.out; have hcz162_0 : w157.cell? ⟨gb211, 0, none⟩ = some (.int .i64 0) := (blk_cell BK211.out 0).trans rfl; have hcz162_1 : w157.cell? ⟨gb211, 1, none⟩ = some (.int .i64 0) := (blk_cell BK211.out 1).trans rfl; have hfz162_0 := blk_frozen BK211.out 0; have hfz162_1 := blk_frozen BK211.out 1))
                              have n0_ : Aside0 (((w157.setCell ⟨gb211, 0, none⟩ (.int .i64 (wrap64 (Int.tdiv x7_3 16)))).setCell ⟨gb211, 1, none⟩ (.int .i64 (Int.tmod x7_3 16))).heap[gb193]? = some (.cells #[.int .i64 t189, .int .i64 t190] 25 (0, 0))) := ⟨by (with_reducible repeat (first | refine blk_drewN ?_ _ | refine blk_drew ?_ | refine blk_alloc ?_ _)); refine blk_far ?_ NB193_211.out _; (with_reducible repeat (first | refine blk_drewN ?_ _ | refine blk_drew ?_ | refine blk_alloc ?_ _)); refine blk_far ?_ NB193_211.out _; (with_reducible repeat (first | refine blk_drewN ?_ _ | refine blk_drew ?_ | refine blk_alloc ?_ _)); exact BK193.out⟩
                              have n1_ : Aside0 (((w157.setCell ⟨gb211, 0, none⟩ (.int .i64 (wrap64 (Int.tdiv x7_3 16)))).setCell ⟨gb211, 1, none⟩ (.int .i64 (Int.tmod x7_3 16))).heap[gb194]? = some (.cells #[.int .i64 t191, .int .i64 t192] 25 (0, 0))) := ⟨by (with_reducible repeat (first | refine blk_drewN ?_ _ | refine blk_drew ?_ | refine blk_alloc ?_ _)); refine blk_far ?_ NB194_211.out _; (with_reducible repeat (first | refine blk_drewN ?_ _ | refine blk_drew ?_ | refine blk_alloc ?_ _)); refine blk_far ?_ NB194_211.out _; (with_reducible repeat (first | refine blk_drewN ?_ _ | refine blk_drew ?_ | refine blk_alloc ?_ _)); exact BK194.out⟩
                              have n2_ : Aside0 (((w157.setCell ⟨gb211, 0, none⟩ (.int .i64 (wrap64 (Int.tdiv x7_3 16)))).setCell ⟨gb211, 1, none⟩ (.int .i64 (Int.tmod x7_3 16))).heap[gb197]? = some (.cells #[.int .i64 t195, .int .i64 t196] 25 (0, 0))) := ⟨by (with_reducible repeat (first | refine blk_drewN ?_ _ | refine blk_drew ?_ | refine blk_alloc ?_ _)); refine blk_far ?_ NB197_211.out _; (with_reducible repeat (first | refine blk_drewN ?_ _ | refine blk_drew ?_ | refine blk_alloc ?_ _)); refine blk_far ?_ NB197_211.out _; (with_reducible repeat (first | refine blk_drewN ?_ _ | refine blk_drew ?_ | refine blk_alloc ?_ _)); exact BK197.out⟩
                              have n3_ : Aside0 (((w157.setCell ⟨gb211, 0, none⟩ (.int .i64 (wrap64 (Int.tdiv x7_3 16)))).setCell ⟨gb211, 1, none⟩ (.int .i64 (Int.tmod x7_3 16))).heap[gb200]? = some (.cells #[.int .i64 t198, .int .i64 t199] 25 (0, 0))) := ⟨by (with_reducible repeat (first | refine blk_drewN ?_ _ | refine blk_drew ?_ | refine blk_alloc ?_ _)); refine blk_far ?_ NB200_211.out _; (with_reducible repeat (first | refine blk_drewN ?_ _ | refine blk_drew ?_ | refine blk_alloc ?_ _)); refine blk_far ?_ NB200_211.out _; (with_reducible repeat (first | refine blk_drewN ?_ _ | refine blk_drew ?_ | refine blk_alloc ?_ _)); exact BK200.out⟩
                              have n4_ : Aside0 (((w157.setCell ⟨gb211, 0, none⟩ (.int .i64 (wrap64 (Int.tdiv x7_3 16)))).setCell ⟨gb211, 1, none⟩ (.int .i64 (Int.tmod x7_3 16))).heap[gb211]? = some (.cells #[.int .i64 (wrap64 (Int.tdiv x7_3 16)), .int .i64 (Int.tmod x7_3 16)] 25 (0, 0))) := ⟨by (with_reducible repeat (first | refine blk_drewN ?_ _ | refine blk_drew ?_ | refine blk_alloc ?_ _)); refine blk_put (cs := #[.int .i64 (wrap64 (Int.tdiv x7_3 16)), .int .i64 0]) ?_ 1 _ rfl; (with_reducible repeat (first | refine blk_drewN ?_ _ | refine blk_drew ?_ | refine blk_alloc ?_ _)); refine blk_put (cs := #[.int .i64 0, .int .i64 0]) ?_ 0 _ rfl; (with_reducible repeat (first | refine blk_drewN ?_ _ | refine blk_drew ?_ | refine blk_alloc ?_ _)); exact BK211.out⟩
                              have n5_ : Aside0 (Below w.heap.size w ((w157.setCell ⟨gb211, 0, none⟩ (.int .i64 (wrap64 (Int.tdiv x7_3 16)))).setCell ⟨gb211, 1, none⟩ (.int .i64 (Int.tmod x7_3 16)))) := ⟨hb_⟩
                              (try clear BK193)
                              (try clear BK194)
                              (try clear BK197)
                              (try clear BK200)
                              (try clear BK211)
                              (try clear HB)
                              generalize ((w157.setCell ⟨gb211, 0, none⟩ (.int .i64 (wrap64 (Int.tdiv x7_3 16)))).setCell ⟨gb211, 1, none⟩ (.int .i64 (Int.tmod x7_3 16))) = w163 at n0_ n1_ n2_ n3_ n4_ n5_ ⊢
                              have BK193 := n0_
                              have BK194 := n1_
                              have BK197 := n2_
                              have BK200 := n3_
                              have BK211 := n4_
                              have HB := n5_
                              clear n0_ n1_ n2_ n3_ n4_ n5_
                              have n0_ := Aside0.mk (blk_drew BK193.out)
                              have n1_ := Aside0.mk (blk_drew BK194.out)
                              have n2_ := Aside0.mk (blk_drew BK197.out)
                              have n3_ := Aside0.mk (blk_drew BK200.out)
                              have n4_ := Aside0.mk (blk_drew BK211.out)
                              have n5_ := Aside0.mk (below_drew1 HB.out)
                              clear BK193
                              clear BK194
                              clear BK197
                              clear BK200
                              clear BK211
                              clear HB
                              have BK193 := n0_
                              have BK194 := n1_
                              have BK197 := n2_
                              have BK200 := n3_
                              have BK211 := n4_
                              have HB := n5_
                              clear n0_ n1_ n2_ n3_ n4_ n5_
                              refine start_ (n := 26) (S := fun w' => w'.cell? ⟨gb197, 0, none⟩ = some (.int .i64 t195) ∧ w'.cell? ⟨gb197, 1, none⟩ = some (.int .i64 t196) ∧ w'.cell? ⟨gb211, 0, none⟩ = some (.int .i64 (wrap64 (Int.tdiv x7_3 16))) ∧ w'.cell? ⟨gb211, 1, none⟩ = some (.int .i64 (Int.tmod x7_3 16)) ∧ w'.cell? ⟨gb193, 0, none⟩ = some (.int .i64 t189) ∧ w'.cell? ⟨gb193, 1, none⟩ = some (.int .i64 t190) ∧ w'.cell? ⟨gb194, 0, none⟩ = some (.int .i64 t191) ∧ w'.cell? ⟨gb194, 1, none⟩ = some (.int .i64 t192) ∧ w'.cell? ⟨gb200, 0, none⟩ = some (.int .i64 t198) ∧ w'.cell? ⟨gb200, 1, none⟩ = some (.int .i64 t199)) (ds := []) #[false, false, false, false, false, false, false, false, false, false, false, false, false, false, false, false, false, false, false, false, false, false, false, false, false, false] (by kernel_rfl) rfl rfl ⟨(blk_cell BK197.out 0).trans rfl, (blk_cell BK197.out 1).trans rfl, (blk_cell BK211.out 0).trans rfl, (blk_cell BK211.out 1).trans rfl, (blk_cell BK193.out 0).trans rfl, (blk_cell BK193.out 1).trans rfl, (blk_cell BK194.out 0).trans rfl, (blk_cell BK194.out 1).trans rfl, (blk_cell BK200.out 0).trans rfl, (blk_cell BK200.out 1).trans rfl⟩ (fun hHeld => ?_); refine with_tabW laws_FnLblBounds.tab14 laws_FnLblBounds.bits14 (fun HT_ HW_ => ?_)
                              generalize w163.drew = w164 at BK193 BK194 BK197 BK200 BK211 HB hHeld ⊢
                              refine take_ (i := 0) (N := some 77) (v := ?_) (a' := ?_) #[true, false, false, false, false, false, false, false, false, false, false, false, false, false, false, false, false, false, false, false, false, false, false, false, false, false] rfl rfl (take_ofW HT_.out HW_.out (by kernel_rfl)) (fun _ _ _ h => h) (Or.inl ⟨by rfl, ?_⟩) hHeld ?_ ?_
                              rotate_left
                              · rintro w' ⟨s0, s1, s2, s3, s4, s5, s6, s7, s8, s9⟩
                                go_simp
                                with_reducible rfl
                              rotate_left
                              · simp only [Act.put, List.setIfInBounds_toArray, List.set_cons_zero, List.set_cons_succ, i64_w, i32_w]
                                rfl
                              refine take_ (i := 1) (N := some 78) (v := ?_) (a' := ?_) #[true, true, false, false, false, false, false, false, false, false, false, false, false, false, false, false, false, false, false, false, false, false, false, false, false, false] rfl rfl (take_ofW HT_.out HW_.out (by kernel_rfl)) (fun _ _ _ h => h) (Or.inl ⟨by rfl, ?_⟩) hHeld ?_ ?_
                              rotate_left
                              · rintro w' ⟨s0, s1, s2, s3, s4, s5, s6, s7, s8, s9⟩
                                go_simp
                                with_reducible rfl
                              rotate_left
                              · simp only [Act.put, List.setIfInBounds_toArray, List.set_cons_zero, List.set_cons_succ, i64_w, i32_w]
                                rfl
                              refine take_ (i := 3) (N := some 80) (v := ?_) (a' := ?_) #[true, true, false, true, false, false, false, false, false, false, false, false, false, false, false, false, false, false, false, false, false, false, false, false, false, false] rfl rfl (take_ofW HT_.out HW_.out (by kernel_rfl)) (fun _ _ _ h => h) (Or.inl ⟨by rfl, ?_⟩) hHeld ?_ ?_
                              rotate_left
                              · rintro w' ⟨s0, s1, s2, s3, s4, s5, s6, s7, s8, s9⟩
                                go_simp
                                with_reducible rfl
                              rotate_left
                              · simp only [Act.put, List.setIfInBounds_toArray, List.set_cons_zero, List.set_cons_succ, i64_w, i32_w]
                                rfl
                              refine take_ (i := 4) (N := some 81) (v := ?_) (a' := ?_) #[true, true, false, true, true, false, false, false, false, false, false, false, false, false, false, false, false, false, false, false, false, false, false, false, false, false] rfl rfl (take_ofW HT_.out HW_.out (by kernel_rfl)) (fun _ _ _ h => h) (Or.inl ⟨by rfl, ?_⟩) hHeld ?_ ?_
                              rotate_left
                              · rintro w' ⟨s0, s1, s2, s3, s4, s5, s6, s7, s8, s9⟩
                                go_simp
                                with_reducible rfl
                              rotate_left
                              · simp only [Act.put, List.setIfInBounds_toArray, List.set_cons_zero, List.set_cons_succ, i64_w, i32_w]
                                rfl
                              refine one_ (i := 2) (N := some 79) #[true, true, true, true, true, false, false, false, false, false, false, false, false, false, false, false, false, false, false, false, false, false, false, false, false, false] rfl rfl (one_of HT_.out (by kernel_rfl)) (by decide) (fun K hK => ?_)
                              refine goes_ Try.func18 (by kernel_rfl) rfl #[.agg #[.int .i64 t195, .int .i64 t196], .agg #[.int .i64 (wrap64 (Int.tdiv x7_3 16)), .int .i64 (Int.tmod x7_3 16)]] (by rfl) rfl rfl ml_ ?_
                              with_reducible refine (impl_LblFlows.calls t195 t196 (wrap64 (Int.tdiv x7_3 16)) (Int.tmod x7_3 16) t212 _ A94.out).mono ?_
                              rintro e w165 ⟨rfl, hb⟩
                              refine ⟨_, rfl, ?_⟩
                              have n0_ := Aside0.mk (blk_below (g := gb193) (o := .cells #[.int .i64 t189, .int .i64 t190] 25 (0, 0)) bk_ hb)
                              have n1_ := Aside0.mk (blk_below (g := gb194) (o := .cells #[.int .i64 t191, .int .i64 t192] 25 (0, 0)) bk_ hb)
                              have n2_ := Aside0.mk (blk_below (g := gb197) (o := .cells #[.int .i64 t195, .int .i64 t196] 25 (0, 0)) bk_ hb)
                              have n3_ := Aside0.mk (blk_below (g := gb200) (o := .cells #[.int .i64 t198, .int .i64 t199] 25 (0, 0)) bk_ hb)
                              have n4_ := Aside0.mk (blk_below (g := gb211) (o := .cells #[.int .i64 (wrap64 (Int.tdiv x7_3 16)), .int .i64 (Int.tmod x7_3 16)] 25 (0, 0)) bk_ hb)
                              have n5_ := Aside0.mk (below_step hb_ hb)
                              clear BK193
                              clear BK194
                              clear BK197
                              clear BK200
                              clear BK211
                              clear HB
                              have BK193 := n0_
                              have BK194 := n1_
                              have BK197 := n2_
                              have BK200 := n3_
                              have BK211 := n4_
                              have HB := n5_
                              clear n0_ n1_ n2_ n3_ n4_ n5_
                              (try clear hb)
                              (try clear hb2)
                              (try clear hk)
                              (try clear hi)
                              refine hK.out _ _ ⟨(blk_cell BK197.out 0).trans rfl, (blk_cell BK197.out 1).trans rfl, (blk_cell BK211.out 0).trans rfl, (blk_cell BK211.out 1).trans rfl, (blk_cell BK193.out 0).trans rfl, (blk_cell BK193.out 1).trans rfl, (blk_cell BK194.out 0).trans rfl, (blk_cell BK194.out 1).trans rfl, (blk_cell BK200.out 0).trans rfl, (blk_cell BK200.out 1).trans rfl⟩ (fun hHeld => ?_)
                              clear hK K
                              refine norm_ (a' := ?_) ?_ ?_
                              rotate_left
                              · show Act.put _ (some 79) _ = _
                                simp only [Act.put, List.setIfInBounds_toArray, List.set_cons_zero, List.set_cons_succ, i64_w, i32_w]
                                rfl
                              refine one_ (i := 5) (N := some 82) #[true, true, true, true, true, true, false, false, false, false, false, false, false, false, false, false, false, false, false, false, false, false, false, false, false, false] rfl rfl (one_of HT_.out (by kernel_rfl)) (by decide) (fun K hK => ?_)
                              refine goes_ Try.func18 (by kernel_rfl) rfl #[.agg #[.int .i64 t189, .int .i64 t190], .agg #[.int .i64 (wrap64 (Int.tdiv x7_3 16)), .int .i64 (Int.tmod x7_3 16)]] (by rfl) rfl rfl ml_ ?_
                              with_reducible refine (impl_LblFlows.calls t189 t190 (wrap64 (Int.tdiv x7_3 16)) (Int.tmod x7_3 16) true _ A95.out).mono ?_
                              rintro e w166 ⟨rfl, hb⟩
                              refine ⟨_, rfl, ?_⟩
                              have n0_ := Aside0.mk (blk_below (g := gb193) (o := .cells #[.int .i64 t189, .int .i64 t190] 25 (0, 0)) bk_ hb)
                              have n1_ := Aside0.mk (blk_below (g := gb194) (o := .cells #[.int .i64 t191, .int .i64 t192] 25 (0, 0)) bk_ hb)
                              have n2_ := Aside0.mk (blk_below (g := gb197) (o := .cells #[.int .i64 t195, .int .i64 t196] 25 (0, 0)) bk_ hb)
                              have n3_ := Aside0.mk (blk_below (g := gb200) (o := .cells #[.int .i64 t198, .int .i64 t199] 25 (0, 0)) bk_ hb)
                              have n4_ := Aside0.mk (blk_below (g := gb211) (o := .cells #[.int .i64 (wrap64 (Int.tdiv x7_3 16)), .int .i64 (Int.tmod x7_3 16)] 25 (0, 0)) bk_ hb)
                              have n5_ := Aside0.mk (below_step hb_ hb)
                              clear BK193
                              clear BK194
                              clear BK197
                              clear BK200
                              clear BK211
                              clear HB
                              have BK193 := n0_
                              have BK194 := n1_
                              have BK197 := n2_
                              have BK200 := n3_
                              have BK211 := n4_
                              have HB := n5_
                              clear n0_ n1_ n2_ n3_ n4_ n5_
                              (try clear hb)
                              (try clear hb2)
                              (try clear hk)
                              (try clear hi)
                              refine hK.out _ _ ⟨(blk_cell BK197.out 0).trans rfl, (blk_cell BK197.out 1).trans rfl, (blk_cell BK211.out 0).trans rfl, (blk_cell BK211.out 1).trans rfl, (blk_cell BK193.out 0).trans rfl, (blk_cell BK193.out 1).trans rfl, (blk_cell BK194.out 0).trans rfl, (blk_cell BK194.out 1).trans rfl, (blk_cell BK200.out 0).trans rfl, (blk_cell BK200.out 1).trans rfl⟩ (fun hHeld => ?_)
                              clear hK K
                              refine norm_ (a' := ?_) ?_ ?_
                              rotate_left
                              · show Act.put _ (some 82) _ = _
                                simp only [Act.put, List.setIfInBounds_toArray, List.set_cons_zero, List.set_cons_succ, i64_w, i32_w]
                                rfl
                              refine pure_ (i := 6) (N := some 83) (v := ?_) (a' := ?_) #[true, true, true, true, true, true, true, false, false, false, false, false, false, false, false, false, false, false, false, false, false, false, false, false, false, false] rfl rfl (any_of HT_.out (by kernel_rfl)) (fun _ _ _ h => h) (Or.inl ⟨by rfl, ?_⟩) ?_ ?_
                              rotate_left
                              · intro w'
                                go_simp
                                with_reducible rfl
                              rotate_left
                              · simp only [Act.put, List.setIfInBounds_toArray, List.set_cons_zero, List.set_cons_succ, i64_w, i32_w]
                                rfl
                              refine take_ (i := 7) (N := some 84) (v := ?_) (a' := ?_) #[true, true, true, true, true, true, true, true, false, false, false, false, false, false, false, false, false, false, false, false, false, false, false, false, false, false] rfl rfl (take_ofW HT_.out HW_.out (by kernel_rfl)) (fun _ _ _ h => h) (Or.inl ⟨by rfl, ?_⟩) hHeld ?_ ?_
                              rotate_left
                              · rintro w' ⟨s0, s1, s2, s3, s4, s5, s6, s7, s8, s9⟩
                                go_simp
                                with_reducible rfl
                              rotate_left
                              · simp only [Act.put, List.setIfInBounds_toArray, List.set_cons_zero, List.set_cons_succ, i64_w, i32_w]
                                rfl
                              refine take_ (i := 8) (N := some 85) (v := ?_) (a' := ?_) #[true, true, true, true, true, true, true, true, true, false, false, false, false, false, false, false, false, false, false, false, false, false, false, false, false, false] rfl rfl (take_ofW HT_.out HW_.out (by kernel_rfl)) (fun _ _ _ h => h) (Or.inl ⟨by rfl, ?_⟩) hHeld ?_ ?_
                              rotate_left
                              · rintro w' ⟨s0, s1, s2, s3, s4, s5, s6, s7, s8, s9⟩
                                go_simp
                                with_reducible rfl
                              rotate_left
                              · simp only [Act.put, List.setIfInBounds_toArray, List.set_cons_zero, List.set_cons_succ, i64_w, i32_w]
                                rfl
                              refine one_ (i := 9) (N := some 86) #[true, true, true, true, true, true, true, true, true, true, false, false, false, false, false, false, false, false, false, false, false, false, false, false, false, false] rfl rfl (one_of HT_.out (by kernel_rfl)) (by decide) (fun K hK => ?_)
                              refine goes_ Try.func18 (by kernel_rfl) rfl #[.agg #[.int .i64 t191, .int .i64 t192], .agg #[.int .i64 (wrap64 (Int.tdiv x7_3 16)), .int .i64 (Int.tmod x7_3 16)]] (by rfl) rfl rfl ml_ ?_
                              with_reducible refine (impl_LblFlows.calls t191 t192 (wrap64 (Int.tdiv x7_3 16)) (Int.tmod x7_3 16) t214 _ A97.out).mono ?_
                              rintro e w167 ⟨rfl, hb⟩
                              refine ⟨_, rfl, ?_⟩
                              have n0_ := Aside0.mk (blk_below (g := gb193) (o := .cells #[.int .i64 t189, .int .i64 t190] 25 (0, 0)) bk_ hb)
                              have n1_ := Aside0.mk (blk_below (g := gb194) (o := .cells #[.int .i64 t191, .int .i64 t192] 25 (0, 0)) bk_ hb)
                              have n2_ := Aside0.mk (blk_below (g := gb197) (o := .cells #[.int .i64 t195, .int .i64 t196] 25 (0, 0)) bk_ hb)
                              have n3_ := Aside0.mk (blk_below (g := gb200) (o := .cells #[.int .i64 t198, .int .i64 t199] 25 (0, 0)) bk_ hb)
                              have n4_ := Aside0.mk (blk_below (g := gb211) (o := .cells #[.int .i64 (wrap64 (Int.tdiv x7_3 16)), .int .i64 (Int.tmod x7_3 16)] 25 (0, 0)) bk_ hb)
                              have n5_ := Aside0.mk (below_step hb_ hb)
                              clear BK193
                              clear BK194
                              clear BK197
                              clear BK200
                              clear BK211
                              clear HB
                              have BK193 := n0_
                              have BK194 := n1_
                              have BK197 := n2_
                              have BK200 := n3_
                              have BK211 := n4_
                              have HB := n5_
                              clear n0_ n1_ n2_ n3_ n4_ n5_
                              (try clear hb)
                              (try clear hb2)
                              (try clear hk)
                              (try clear hi)
                              refine hK.out _ _ ⟨(blk_cell BK197.out 0).trans rfl, (blk_cell BK197.out 1).trans rfl, (blk_cell BK211.out 0).trans rfl, (blk_cell BK211.out 1).trans rfl, (blk_cell BK193.out 0).trans rfl, (blk_cell BK193.out 1).trans rfl, (blk_cell BK194.out 0).trans rfl, (blk_cell BK194.out 1).trans rfl, (blk_cell BK200.out 0).trans rfl, (blk_cell BK200.out 1).trans rfl⟩ (fun hHeld => ?_)
                              clear hK K
                              refine norm_ (a' := ?_) ?_ ?_
                              rotate_left
                              · show Act.put _ (some 86) _ = _
                                simp only [Act.put, List.setIfInBounds_toArray, List.set_cons_zero, List.set_cons_succ, i64_w, i32_w]
                                rfl
                              refine pure_ (i := 10) (N := some 87) (v := ?_) (a' := ?_) #[true, true, true, true, true, true, true, true, true, true, true, false, false, false, false, false, false, false, false, false, false, false, false, false, false, false] rfl rfl (any_of HT_.out (by kernel_rfl)) (fun _ _ _ h => h) (Or.inl ⟨by rfl, ?_⟩) ?_ ?_
                              rotate_left
                              · intro w'
                                go_simp
                                with_reducible rfl
                              rotate_left
                              · simp only [Act.put, List.setIfInBounds_toArray, List.set_cons_zero, List.set_cons_succ, i64_w, i32_w]
                                rfl
                              refine pure_ (i := 11) (N := some 88) (v := ?_) (a' := ?_) #[true, true, true, true, true, true, true, true, true, true, true, true, false, false, false, false, false, false, false, false, false, false, false, false, false, false] rfl rfl (any_of HT_.out (by kernel_rfl)) (fun _ _ _ h => h) (Or.inl ⟨by rfl, ?_⟩) ?_ ?_
                              rotate_left
                              · intro w'
                                go_simp
                                with_reducible rfl
                              rotate_left
                              · simp only [Act.put, List.setIfInBounds_toArray, List.set_cons_zero, List.set_cons_succ, i64_w, i32_w]
                                rfl
                              refine pure_ (i := 12) (N := some 89) (v := ?_) (a' := ?_) #[true, true, true, true, true, true, true, true, true, true, true, true, true, false, false, false, false, false, false, false, false, false, false, false, false, false] rfl rfl (any_of HT_.out (by kernel_rfl)) (fun _ _ _ h => h) (Or.inl ⟨by rfl, ?_⟩) ?_ ?_
                              rotate_left
                              · intro w'
                                go_simp
                                with_reducible rfl
                              rotate_left
                              · simp only [Act.put, List.setIfInBounds_toArray, List.set_cons_zero, List.set_cons_succ, i64_w, i32_w]
                                rfl
                              refine take_ (i := 13) (N := some 90) (v := ?_) (a' := ?_) #[true, true, true, true, true, true, true, true, true, true, true, true, true, true, false, false, false, false, false, false, false, false, false, false, false, false] rfl rfl (take_ofW HT_.out HW_.out (by kernel_rfl)) (fun _ _ _ h => h) (Or.inl ⟨by rfl, ?_⟩) hHeld ?_ ?_
                              rotate_left
                              · rintro w' ⟨s0, s1, s2, s3, s4, s5, s6, s7, s8, s9⟩
                                go_simp
                                with_reducible rfl
                              rotate_left
                              · simp only [Act.put, List.setIfInBounds_toArray, List.set_cons_zero, List.set_cons_succ, i64_w, i32_w]
                                rfl
                              refine take_ (i := 14) (N := some 91) (v := ?_) (a' := ?_) #[true, true, true, true, true, true, true, true, true, true, true, true, true, true, true, false, false, false, false, false, false, false, false, false, false, false] rfl rfl (take_ofW HT_.out HW_.out (by kernel_rfl)) (fun _ _ _ h => h) (Or.inl ⟨by rfl, ?_⟩) hHeld ?_ ?_
                              rotate_left
                              · rintro w' ⟨s0, s1, s2, s3, s4, s5, s6, s7, s8, s9⟩
                                go_simp
                                with_reducible rfl
                              rotate_left
                              · simp only [Act.put, List.setIfInBounds_toArray, List.set_cons_zero, List.set_cons_succ, i64_w, i32_w]
                                rfl
                              refine take_ (i := 16) (N := some 93) (v := ?_) (a' := ?_) #[true, true, true, true, true, true, true, true, true, true, true, true, true, true, true, false, true, false, false, false, false, false, false, false, false, false] rfl rfl (take_ofW HT_.out HW_.out (by kernel_rfl)) (fun _ _ _ h => h) (Or.inl ⟨by rfl, ?_⟩) hHeld ?_ ?_
                              rotate_left
                              · rintro w' ⟨s0, s1, s2, s3, s4, s5, s6, s7, s8, s9⟩
                                go_simp
                                with_reducible rfl
                              rotate_left
                              · simp only [Act.put, List.setIfInBounds_toArray, List.set_cons_zero, List.set_cons_succ, i64_w, i32_w]
                                rfl
                              refine take_ (i := 17) (N := some 94) (v := ?_) (a' := ?_) #[true, true, true, true, true, true, true, true, true, true, true, true, true, true, true, false, true, true, false, false, false, false, false, false, false, false] rfl rfl (take_ofW HT_.out HW_.out (by kernel_rfl)) (fun _ _ _ h => h) (Or.inl ⟨by rfl, ?_⟩) hHeld ?_ ?_
                              rotate_left
                              · rintro w' ⟨s0, s1, s2, s3, s4, s5, s6, s7, s8, s9⟩
                                go_simp
                                with_reducible rfl
                              rotate_left
                              · simp only [Act.put, List.setIfInBounds_toArray, List.set_cons_zero, List.set_cons_succ, i64_w, i32_w]
                                rfl
                              refine one_ (i := 15) (N := some 92) #[true, true, true, true, true, true, true, true, true, true, true, true, true, true, true, true, true, true, false, false, false, false, false, false, false, false] rfl rfl (one_of HT_.out (by kernel_rfl)) (by decide) (fun K hK => ?_)
                              refine goes_ Try.func18 (by kernel_rfl) rfl #[.agg #[.int .i64 (wrap64 (Int.tdiv x7_3 16)), .int .i64 (Int.tmod x7_3 16)], .agg #[.int .i64 t198, .int .i64 t199]] (by rfl) rfl rfl ml_ ?_
                              with_reducible refine (impl_LblFlows.calls (wrap64 (Int.tdiv x7_3 16)) (Int.tmod x7_3 16) t198 t199 t215 _ A110.out).mono ?_
                              rintro e w168 ⟨rfl, hb⟩
                              refine ⟨_, rfl, ?_⟩
                              have n0_ := Aside0.mk (blk_below (g := gb193) (o := .cells #[.int .i64 t189, .int .i64 t190] 25 (0, 0)) bk_ hb)
                              have n1_ := Aside0.mk (blk_below (g := gb194) (o := .cells #[.int .i64 t191, .int .i64 t192] 25 (0, 0)) bk_ hb)
                              have n2_ := Aside0.mk (blk_below (g := gb197) (o := .cells #[.int .i64 t195, .int .i64 t196] 25 (0, 0)) bk_ hb)
                              have n3_ := Aside0.mk (blk_below (g := gb200) (o := .cells #[.int .i64 t198, .int .i64 t199] 25 (0, 0)) bk_ hb)
                              have n4_ := Aside0.mk (blk_below (g := gb211) (o := .cells #[.int .i64 (wrap64 (Int.tdiv x7_3 16)), .int .i64 (Int.tmod x7_3 16)] 25 (0, 0)) bk_ hb)
                              have n5_ := Aside0.mk (below_step hb_ hb)
                              clear BK193
                              clear BK194
                              clear BK197
                              clear BK200
                              clear BK211
                              clear HB
                              have BK193 := n0_
                              have BK194 := n1_
                              have BK197 := n2_
                              have BK200 := n3_
                              have BK211 := n4_
                              have HB := n5_
                              clear n0_ n1_ n2_ n3_ n4_ n5_
                              (try clear hb)
                              (try clear hb2)
                              (try clear hk)
                              (try clear hi)
                              refine hK.out _ _ ⟨(blk_cell BK197.out 0).trans rfl, (blk_cell BK197.out 1).trans rfl, (blk_cell BK211.out 0).trans rfl, (blk_cell BK211.out 1).trans rfl, (blk_cell BK193.out 0).trans rfl, (blk_cell BK193.out 1).trans rfl, (blk_cell BK194.out 0).trans rfl, (blk_cell BK194.out 1).trans rfl, (blk_cell BK200.out 0).trans rfl, (blk_cell BK200.out 1).trans rfl⟩ (fun hHeld => ?_)
                              clear hK K
                              refine norm_ (a' := ?_) ?_ ?_
                              rotate_left
                              · show Act.put _ (some 92) _ = _
                                simp only [Act.put, List.setIfInBounds_toArray, List.set_cons_zero, List.set_cons_succ, i64_w, i32_w]
                                rfl
                              refine one_ (i := 18) (N := some 95) #[true, true, true, true, true, true, true, true, true, true, true, true, true, true, true, true, true, true, true, false, false, false, false, false, false, false] rfl rfl (one_of HT_.out (by kernel_rfl)) (by decide) (fun K hK => ?_)
                              refine goes_ Try.func18 (by kernel_rfl) rfl #[.agg #[.int .i64 (wrap64 (Int.tdiv x7_3 16)), .int .i64 (Int.tmod x7_3 16)], .agg #[.int .i64 t189, .int .i64 t190]] (by rfl) rfl rfl ml_ ?_
                              with_reducible refine (impl_LblFlows.calls (wrap64 (Int.tdiv x7_3 16)) (Int.tmod x7_3 16) t189 t190 false _ A111.out).mono ?_
                              rintro e w169 ⟨rfl, hb⟩
                              refine ⟨_, rfl, ?_⟩
                              have n0_ := Aside0.mk (blk_below (g := gb193) (o := .cells #[.int .i64 t189, .int .i64 t190] 25 (0, 0)) bk_ hb)
                              have n1_ := Aside0.mk (blk_below (g := gb194) (o := .cells #[.int .i64 t191, .int .i64 t192] 25 (0, 0)) bk_ hb)
                              have n2_ := Aside0.mk (blk_below (g := gb197) (o := .cells #[.int .i64 t195, .int .i64 t196] 25 (0, 0)) bk_ hb)
                              have n3_ := Aside0.mk (blk_below (g := gb200) (o := .cells #[.int .i64 t198, .int .i64 t199] 25 (0, 0)) bk_ hb)
                              have n4_ := Aside0.mk (blk_below (g := gb211) (o := .cells #[.int .i64 (wrap64 (Int.tdiv x7_3 16)), .int .i64 (Int.tmod x7_3 16)] 25 (0, 0)) bk_ hb)
                              have n5_ := Aside0.mk (below_step hb_ hb)
                              clear BK193
                              clear BK194
                              clear BK197
                              clear BK200
                              clear BK211
                              clear HB
                              have BK193 := n0_
                              have BK194 := n1_
                              have BK197 := n2_
                              have BK200 := n3_
                              have BK211 := n4_
                              have HB := n5_
                              clear n0_ n1_ n2_ n3_ n4_ n5_
                              (try clear hb)
                              (try clear hb2)
                              (try clear hk)
                              (try clear hi)
                              refine hK.out _ _ ⟨(blk_cell BK197.out 0).trans rfl, (blk_cell BK197.out 1).trans rfl, (blk_cell BK211.out 0).trans rfl, (blk_cell BK211.out 1).trans rfl, (blk_cell BK193.out 0).trans rfl, (blk_cell BK193.out 1).trans rfl, (blk_cell BK194.out 0).trans rfl, (blk_cell BK194.out 1).trans rfl, (blk_cell BK200.out 0).trans rfl, (blk_cell BK200.out 1).trans rfl⟩ (fun hHeld => ?_)
                              clear hK K
                              refine norm_ (a' := ?_) ?_ ?_
                              rotate_left
                              · show Act.put _ (some 95) _ = _
                                simp only [Act.put, List.setIfInBounds_toArray, List.set_cons_zero, List.set_cons_succ, i64_w, i32_w]
                                rfl
                              refine pure_ (i := 19) (N := some 96) (v := ?_) (a' := ?_) #[true, true, true, true, true, true, true, true, true, true, true, true, true, true, true, true, true, true, true, true, false, false, false, false, false, false] rfl rfl (any_of HT_.out (by kernel_rfl)) (fun _ _ _ h => h) (Or.inl ⟨by rfl, ?_⟩) ?_ ?_
                              rotate_left
                              · intro w'
                                go_simp
                                with_reducible rfl
                              rotate_left
                              · simp only [Act.put, List.setIfInBounds_toArray, List.set_cons_zero, List.set_cons_succ, i64_w, i32_w]
                                rfl
                              refine pure_ (i := 20) (N := some 97) (v := undef) (a' := ?_) #[true, true, true, true, true, true, true, true, true, true, true, true, true, true, true, true, true, true, true, true, true, false, false, false, false, false] rfl rfl (any_of HT_.out (by kernel_rfl)) (fun _ _ _ h => h) (Or.inr ⟨by rfl, rfl⟩) ?_ ?_
                              rotate_left
                              · simp only [Act.put, List.setIfInBounds_toArray, List.set_cons_zero, List.set_cons_succ, i64_w, i32_w]
                                rfl
                              refine pure_ (i := 21) (N := some 98) (v := undef) (a' := ?_) #[true, true, true, true, true, true, true, true, true, true, true, true, true, true, true, true, true, true, true, true, true, true, false, false, false, false] rfl rfl (any_of HT_.out (by kernel_rfl)) (fun _ _ _ h => h) (Or.inr ⟨by rfl, rfl⟩) ?_ ?_
                              rotate_left
                              · simp only [Act.put, List.setIfInBounds_toArray, List.set_cons_zero, List.set_cons_succ, i64_w, i32_w]
                                rfl
                              refine pure_ (i := 22) (N := some 99) (v := undef) (a' := ?_) #[true, true, true, true, true, true, true, true, true, true, true, true, true, true, true, true, true, true, true, true, true, true, true, false, false, false] rfl rfl (any_of HT_.out (by kernel_rfl)) (fun _ _ _ h => h) (Or.inr ⟨by rfl, rfl⟩) ?_ ?_
                              rotate_left
                              · simp only [Act.put, List.setIfInBounds_toArray, List.set_cons_zero, List.set_cons_succ, i64_w, i32_w]
                                rfl
                              refine pure_ (i := 23) (N := some 100) (v := ?_) (a' := ?_) #[true, true, true, true, true, true, true, true, true, true, true, true, true, true, true, true, true, true, true, true, true, true, true, true, false, false] rfl rfl (any_of HT_.out (by kernel_rfl)) (fun _ _ _ h => h) (Or.inl ⟨by rfl, ?_⟩) ?_ ?_
                              rotate_left
                              · intro w'
                                go_simp
                                with_reducible rfl
                              rotate_left
                              · simp only [Act.put, List.setIfInBounds_toArray, List.set_cons_zero, List.set_cons_succ, i64_w, i32_w]
                                rfl
                              refine pure_ (i := 24) (N := some 101) (v := ?_) (a' := ?_) #[true, true, true, true, true, true, true, true, true, true, true, true, true, true, true, true, true, true, true, true, true, true, true, true, true, false] rfl rfl (any_of HT_.out (by kernel_rfl)) (fun _ _ _ h => h) (Or.inl ⟨by rfl, ?_⟩) ?_ ?_
                              rotate_left
                              · intro w'
                                go_simp
                                with_reducible rfl
                              rotate_left
                              · simp only [Act.put, List.setIfInBounds_toArray, List.set_cons_zero, List.set_cons_succ, i64_w, i32_w]
                                rfl
                              refine pure_ (i := 25) (N := some 102) (v := ?_) (a' := ?_) #[true, true, true, true, true, true, true, true, true, true, true, true, true, true, true, true, true, true, true, true, true, true, true, true, true, true] rfl rfl (any_of HT_.out (by kernel_rfl)) (fun _ _ _ h => h) (Or.inl ⟨by rfl, ?_⟩) ?_ ?_
                              rotate_left
                              · intro w'
                                go_simp
                                with_reducible rfl
                              rotate_left
                              · simp only [Act.put, List.setIfInBounds_toArray, List.set_cons_zero, List.set_cons_succ, i64_w, i32_w]
                                rfl
                              refine done_ (done_of HT_.out (by kernel_rfl)) ?_
                              try go_wp2
                              go_roundg k3
                              case measure => have := HJ5.out; have := HJ51.out; have := HK3.out; omega
                              case rel => exact ⟨(wrap64 (x7_3 + 1)), rs_, H', ⟨by have := HJ5.out; have := HJ51.out; have := HK3.out; omega⟩, ⟨by (with_reducible repeat (first | refine blk_drewN ?_ _ | refine blk_drew ?_ | refine blk_alloc ?_ _)); exact BK193.out⟩, ⟨by (with_reducible repeat (first | refine blk_drewN ?_ _ | refine blk_drew ?_ | refine blk_alloc ?_ _)); exact BK194.out⟩, ⟨by (with_reducible repeat (first | refine blk_drewN ?_ _ | refine blk_drew ?_ | refine blk_alloc ?_ _)); exact BK197.out⟩, ⟨by (with_reducible repeat (first | refine blk_drewN ?_ _ | refine blk_drew ?_ | refine blk_alloc ?_ _)); exact BK200.out⟩, ⟨hb_⟩⟩
                      · replace c96 := Bool.eq_false_iff.mpr c96
                        subst c96
                        have H1 : (if (t212 != false) = true then (some false) else ((impl_LblFlows.f (wrap64 (Int.tdiv x7_3 16)) (Int.tmod x7_3 16) t198 t199).bind fun t218 => ((impl_LblFlows.f (wrap64 (Int.tdiv x7_3 16)) (Int.tmod x7_3 16) t189 t190).bind fun t219 => (if t219 = true then ((impl_LblFlows.f (wrap64 (Int.tdiv x7_3 16)) (Int.tmod x7_3 16) t191 t192).bind fun t220 => (if (t218 != t220) = true then (some false) else (laws_FnLblBounds.l0 k3 (wrap64 (x7_3 + 1)) t189 t190 t191 t192 t195 t196 t198 t199))) else (if (t218 != false) = true then (some false) else (laws_FnLblBounds.l0 k3 (wrap64 (x7_3 + 1)) t189 t190 t191 t192 t195 t196 t198 t199)))))) = some r := by rw [if_neg (show ¬ (false = true) by decide)] at H; exact H
                        clear H
                        have H := H1
                        clear H1
                        by_cases c170 : (t212 != false) = true
                        · rw [if_pos c170] at H
                          exact absurd (Option.some.inj H) (by rw [htrue.out]; decide)
                        · rw [if_neg c170] at H
                          have c170b0 : (t212 != false) = false := by simpa using c170
                          (try (have c170b1 : decide (t212 = false) = true := by simpa using c170))
                          (try (have c170b2 : (t212 == false) = true := by simpa using c170))
                          clear c170
                          replace H := Option.bind_eq_some_iff.mp H
                          obtain ⟨t218, A1810, H⟩ := H
                          replace H : ((impl_LblFlows.f (wrap64 (Int.tdiv x7_3 16)) (Int.tmod x7_3 16) t189 t190).bind fun t219 => (if t219 = true then ((impl_LblFlows.f (wrap64 (Int.tdiv x7_3 16)) (Int.tmod x7_3 16) t191 t192).bind fun t220 => (if (t218 != t220) = true then (some false) else (laws_FnLblBounds.l0 k3 (wrap64 (x7_3 + 1)) t189 t190 t191 t192 t195 t196 t198 t199))) else (if (t218 != false) = true then (some false) else (laws_FnLblBounds.l0 k3 (wrap64 (x7_3 + 1)) t189 t190 t191 t192 t195 t196 t198 t199)))) = some r := H
                          have A181 := Aside0.mk A1810
                          clear A1810
                          replace H := Option.bind_eq_some_iff.mp H
                          obtain ⟨t219, A1820, H⟩ := H
                          replace H : (if t219 = true then ((impl_LblFlows.f (wrap64 (Int.tdiv x7_3 16)) (Int.tmod x7_3 16) t191 t192).bind fun t220 => (if (t218 != t220) = true then (some false) else (laws_FnLblBounds.l0 k3 (wrap64 (x7_3 + 1)) t189 t190 t191 t192 t195 t196 t198 t199))) else (if (t218 != false) = true then (some false) else (laws_FnLblBounds.l0 k3 (wrap64 (x7_3 + 1)) t189 t190 t191 t192 t195 t196 t198 t199))) = some r := H
                          have A182 := Aside0.mk A1820
                          clear A1820
                          by_cases c183 : t219 = true
                          · subst c183
                            have H1 : ((impl_LblFlows.f (wrap64 (Int.tdiv x7_3 16)) (Int.tmod x7_3 16) t191 t192).bind fun t220 => (if (t218 != t220) = true then (some false) else (laws_FnLblBounds.l0 k3 (wrap64 (x7_3 + 1)) t189 t190 t191 t192 t195 t196 t198 t199))) = some r := by rw [if_pos rfl] at H; exact H
                            clear H
                            have H := H1
                            clear H1
                            replace H := Option.bind_eq_some_iff.mp H
                            obtain ⟨t220, A1840, H⟩ := H
                            replace H : (if (t218 != t220) = true then (some false) else (laws_FnLblBounds.l0 k3 (wrap64 (x7_3 + 1)) t189 t190 t191 t192 t195 t196 t198 t199)) = some r := H
                            have A184 := Aside0.mk A1840
                            clear A1840
                            by_cases c185 : (t218 != t220) = true
                            · rw [if_pos c185] at H
                              exact absurd (Option.some.inj H) (by rw [htrue.out]; decide)
                            · rw [if_neg c185] at H
                              have c185b0 : (t218 != t220) = false := by simpa using c185
                              (try (have c185b1 : decide (t218 = t220) = true := by simpa using c185))
                              (try (have c185b2 : (t218 == t220) = true := by simpa using c185))
                              clear c185
                              have H' := Aside0.mk H
                              clear H
                              try go_wp2_with (first | ((with_reducible refine gate_dst (N := 8) rfl ?_); refine bx_ (N := 8) (cs := #[.int .i64 0, .int .i64 0]) (t := 25) ?_; intro gb211 hg w199 hbox hb; have n0_ := Aside0.mk (blk_below (g := gb193) (o := .cells #[.int .i64 t189, .int .i64 t190] 25 (0, 0)) bk_ hb); have n1_ := Aside0.mk (blk_below (g := gb194) (o := .cells #[.int .i64 t191, .int .i64 t192] 25 (0, 0)) bk_ hb); have n2_ := Aside0.mk (blk_below (g := gb197) (o := .cells #[.int .i64 t195, .int .i64 t196] 25 (0, 0)) bk_ hb); have n3_ := Aside0.mk (blk_below (g := gb200) (o := .cells #[.int .i64 t198, .int .i64 t199] 25 (0, 0)) bk_ hb); have n4_ := Aside0.mk (below_step hb_ hb); have n5_ := Aside0.mk (hbox); have n6_ := Aside0.mk ((hg_ : w.heap.size ≤ gb211)); have n7_ := Aside0.mk ((hg_ : w.heap.size ≤ gb211)); have n8_ := Aside0.mk ((nl_ : gb193 ≠ gb211)); have n9_ := Aside0.mk ((ng_ : gb211 ≠ gb193)); have n10_ := Aside0.mk ((nl_ : gb194 ≠ gb211)); have n11_ := Aside0.mk ((ng_ : gb211 ≠ gb194)); have n12_ := Aside0.mk ((nl_ : gb197 ≠ gb211)); have n13_ := Aside0.mk ((ng_ : gb211 ≠ gb197)); have n14_ := Aside0.mk ((nl_ : gb200 ≠ gb211)); have n15_ := Aside0.mk ((ng_ : gb211 ≠ gb200)); clear BK193; clear BK194; clear BK197; clear BK200; clear HB; have BK193 := n0_; have BK194 := n1_; have BK197 := n2_; have BK200 := n3_; have HB := n4_; have BK211 := n5_; have GW211 := n6_; have GE211 := n7_; have NB193_211 := n8_; have NB211_193 := n9_; have NB194_211 := n10_; have NB211_194 := n11_; have NB197_211 := n12_; have NB211_197 := n13_; have NB200_211 := n14_; have NB211_200 := n15_; clear n0_ n1_ n2_ n3_ n4_ n5_ n6_ n7_ n8_ n9_ n10_ n11_ n12_ n13_ n14_ n15_; clear hb hbox hg; have hnb200 := NB211_193.out; have hnc200 := NB193_211.out; have hnb201 := NB211_194.out; have hnc201 := NB194_211.out; have hnb202 := NB211_197.out; have hnc202 := NB197_211.out; have hnb203 := NB211_200.out; have hnc203 := NB200_211.out; have hcz204_0 : w199.cell? ⟨gb211, 0, none⟩ = some (.int .i64 0) := (blk_cell BK211.out 0).trans rfl; have hcz204_1 : w199.cell? ⟨gb211, 1, none⟩ = some (.int .i64 0) := (blk_cell BK211.out 1).trans rfl; have hfz204_0 := blk_frozen BK211.out 0; have hfz204_1 := blk_frozen BK211.out 1))
                              have n0_ : Aside0 (((w199.setCell ⟨gb211, 0, none⟩ (.int .i64 (wrap64 (Int.tdiv x7_3 16)))).setCell ⟨gb211, 1, none⟩ (.int .i64 (Int.tmod x7_3 16))).heap[gb193]? = some (.cells #[.int .i64 t189, .int .i64 t190] 25 (0, 0))) := ⟨by (with_reducible repeat (first | refine blk_drewN ?_ _ | refine blk_drew ?_ | refine blk_alloc ?_ _)); refine blk_far ?_ NB193_211.out _; (with_reducible repeat (first | refine blk_drewN ?_ _ | refine blk_drew ?_ | refine blk_alloc ?_ _)); refine blk_far ?_ NB193_211.out _; (with_reducible repeat (first | refine blk_drewN ?_ _ | refine blk_drew ?_ | refine blk_alloc ?_ _)); exact BK193.out⟩
                              have n1_ : Aside0 (((w199.setCell ⟨gb211, 0, none⟩ (.int .i64 (wrap64 (Int.tdiv x7_3 16)))).setCell ⟨gb211, 1, none⟩ (.int .i64 (Int.tmod x7_3 16))).heap[gb194]? = some (.cells #[.int .i64 t191, .int .i64 t192] 25 (0, 0))) := ⟨by (with_reducible repeat (first | refine blk_drewN ?_ _ | refine blk_drew ?_ | refine blk_alloc ?_ _)); refine blk_far ?_ NB194_211.out _; (with_reducible repeat (first | refine blk_drewN ?_ _ | refine blk_drew ?_ | refine blk_alloc ?_ _)); refine blk_far ?_ NB194_211.out _; (with_reducible repeat (first | refine blk_drewN ?_ _ | refine blk_drew ?_ | refine blk_alloc ?_ _)); exact BK194.out⟩
                              have n2_ : Aside0 (((w199.setCell ⟨gb211, 0, none⟩ (.int .i64 (wrap64 (Int.tdiv x7_3 16)))).setCell ⟨gb211, 1, none⟩ (.int .i64 (Int.tmod x7_3 16))).heap[gb197]? = some (.cells #[.int .i64 t195, .int .i64 t196] 25 (0, 0))) := ⟨by (with_reducible repeat (first | refine blk_drewN ?_ _ | refine blk_drew ?_ | refine blk_alloc ?_ _)); refine blk_far ?_ NB197_211.out _; (with_reducible repeat (first | refine blk_drewN ?_ _ | refine blk_drew ?_ | refine blk_alloc ?_ _)); refine blk_far ?_ NB197_211.out _; (with_reducible repeat (first | refine blk_drewN ?_ _ | refine blk_drew ?_ | refine blk_alloc ?_ _)); exact BK197.out⟩
                              have n3_ : Aside0 (((w199.setCell ⟨gb211, 0, none⟩ (.int .i64 (wrap64 (Int.tdiv x7_3 16)))).setCell ⟨gb211, 1, none⟩ (.int .i64 (Int.tmod x7_3 16))).heap[gb200]? = some (.cells #[.int .i64 t198, .int .i64 t199] 25 (0, 0))) := ⟨by (with_reducible repeat (first | refine blk_drewN ?_ _ | refine blk_drew ?_ | refine blk_alloc ?_ _)); refine blk_far ?_ NB200_211.out _; (with_reducible repeat (first | refine blk_drewN ?_ _ | refine blk_drew ?_ | refine blk_alloc ?_ _)); refine blk_far ?_ NB200_211.out _; (with_reducible repeat (first | refine blk_drewN ?_ _ | refine blk_drew ?_ | refine blk_alloc ?_ _)); exact BK200.out⟩
                              have n4_ : Aside0 (((w199.setCell ⟨gb211, 0, none⟩ (.int .i64 (wrap64 (Int.tdiv x7_3 16)))).setCell ⟨gb211, 1, none⟩ (.int .i64 (Int.tmod x7_3 16))).heap[gb211]? = some (.cells #[.int .i64 (wrap64 (Int.tdiv x7_3 16)), .int .i64 (Int.tmod x7_3 16)] 25 (0, 0))) := ⟨by (with_reducible repeat (first | refine blk_drewN ?_ _ | refine blk_drew ?_ | refine blk_alloc ?_ _)); refine blk_put (cs := #[.int .i64 (wrap64 (Int.tdiv x7_3 16)), .int .i64 0]) ?_ 1 _ rfl; (with_reducible repeat (first | refine blk_drewN ?_ _ | refine blk_drew ?_ | refine blk_alloc ?_ _)); refine blk_put (cs := #[.int .i64 0, .int .i64 0]) ?_ 0 _ rfl; (with_reducible repeat (first | refine blk_drewN ?_ _ | refine blk_drew ?_ | refine blk_alloc ?_ _)); exact BK211.out⟩
                              have n5_ : Aside0 (Below w.heap.size w ((w199.setCell ⟨gb211, 0, none⟩ (.int .i64 (wrap64 (Int.tdiv x7_3 16)))).setCell ⟨gb211, 1, none⟩ (.int .i64 (Int.tmod x7_3 16)))) := ⟨hb_⟩
                              (try clear BK193)
                              (try clear BK194)
                              (try clear BK197)
                              (try clear BK200)
                              (try clear BK211)
                              (try clear HB)
                              generalize ((w199.setCell ⟨gb211, 0, none⟩ (.int .i64 (wrap64 (Int.tdiv x7_3 16)))).setCell ⟨gb211, 1, none⟩ (.int .i64 (Int.tmod x7_3 16))) = w205 at n0_ n1_ n2_ n3_ n4_ n5_ ⊢
                              have BK193 := n0_
                              have BK194 := n1_
                              have BK197 := n2_
                              have BK200 := n3_
                              have BK211 := n4_
                              have HB := n5_
                              clear n0_ n1_ n2_ n3_ n4_ n5_
                              have n0_ := Aside0.mk (blk_drew BK193.out)
                              have n1_ := Aside0.mk (blk_drew BK194.out)
                              have n2_ := Aside0.mk (blk_drew BK197.out)
                              have n3_ := Aside0.mk (blk_drew BK200.out)
                              have n4_ := Aside0.mk (blk_drew BK211.out)
                              have n5_ := Aside0.mk (below_drew1 HB.out)
                              clear BK193
                              clear BK194
                              clear BK197
                              clear BK200
                              clear BK211
                              clear HB
                              have BK193 := n0_
                              have BK194 := n1_
                              have BK197 := n2_
                              have BK200 := n3_
                              have BK211 := n4_
                              have HB := n5_
                              clear n0_ n1_ n2_ n3_ n4_ n5_
                              refine start_ (n := 26) (S := fun w' => w'.cell? ⟨gb197, 0, none⟩ = some (.int .i64 t195) ∧ w'.cell? ⟨gb197, 1, none⟩ = some (.int .i64 t196) ∧ w'.cell? ⟨gb211, 0, none⟩ = some (.int .i64 (wrap64 (Int.tdiv x7_3 16))) ∧ w'.cell? ⟨gb211, 1, none⟩ = some (.int .i64 (Int.tmod x7_3 16)) ∧ w'.cell? ⟨gb193, 0, none⟩ = some (.int .i64 t189) ∧ w'.cell? ⟨gb193, 1, none⟩ = some (.int .i64 t190) ∧ w'.cell? ⟨gb200, 0, none⟩ = some (.int .i64 t198) ∧ w'.cell? ⟨gb200, 1, none⟩ = some (.int .i64 t199) ∧ w'.cell? ⟨gb194, 0, none⟩ = some (.int .i64 t191) ∧ w'.cell? ⟨gb194, 1, none⟩ = some (.int .i64 t192)) (ds := []) #[false, false, false, false, false, false, false, false, false, false, false, false, false, false, false, false, false, false, false, false, false, false, false, false, false, false] (by kernel_rfl) rfl rfl ⟨(blk_cell BK197.out 0).trans rfl, (blk_cell BK197.out 1).trans rfl, (blk_cell BK211.out 0).trans rfl, (blk_cell BK211.out 1).trans rfl, (blk_cell BK193.out 0).trans rfl, (blk_cell BK193.out 1).trans rfl, (blk_cell BK200.out 0).trans rfl, (blk_cell BK200.out 1).trans rfl, (blk_cell BK194.out 0).trans rfl, (blk_cell BK194.out 1).trans rfl⟩ (fun hHeld => ?_); refine with_tabW laws_FnLblBounds.tab14 laws_FnLblBounds.bits14 (fun HT_ HW_ => ?_)
                              generalize w205.drew = w206 at BK193 BK194 BK197 BK200 BK211 HB hHeld ⊢
                              refine take_ (i := 0) (N := some 77) (v := ?_) (a' := ?_) #[true, false, false, false, false, false, false, false, false, false, false, false, false, false, false, false, false, false, false, false, false, false, false, false, false, false] rfl rfl (take_ofW HT_.out HW_.out (by kernel_rfl)) (fun _ _ _ h => h) (Or.inl ⟨by rfl, ?_⟩) hHeld ?_ ?_
                              rotate_left
                              · rintro w' ⟨s0, s1, s2, s3, s4, s5, s6, s7, s8, s9⟩
                                go_simp
                                with_reducible rfl
                              rotate_left
                              · simp only [Act.put, List.setIfInBounds_toArray, List.set_cons_zero, List.set_cons_succ, i64_w, i32_w]
                                rfl
                              refine take_ (i := 1) (N := some 78) (v := ?_) (a' := ?_) #[true, true, false, false, false, false, false, false, false, false, false, false, false, false, false, false, false, false, false, false, false, false, false, false, false, false] rfl rfl (take_ofW HT_.out HW_.out (by kernel_rfl)) (fun _ _ _ h => h) (Or.inl ⟨by rfl, ?_⟩) hHeld ?_ ?_
                              rotate_left
                              · rintro w' ⟨s0, s1, s2, s3, s4, s5, s6, s7, s8, s9⟩
                                go_simp
                                with_reducible rfl
                              rotate_left
                              · simp only [Act.put, List.setIfInBounds_toArray, List.set_cons_zero, List.set_cons_succ, i64_w, i32_w]
                                rfl
                              refine take_ (i := 3) (N := some 80) (v := ?_) (a' := ?_) #[true, true, false, true, false, false, false, false, false, false, false, false, false, false, false, false, false, false, false, false, false, false, false, false, false, false] rfl rfl (take_ofW HT_.out HW_.out (by kernel_rfl)) (fun _ _ _ h => h) (Or.inl ⟨by rfl, ?_⟩) hHeld ?_ ?_
                              rotate_left
                              · rintro w' ⟨s0, s1, s2, s3, s4, s5, s6, s7, s8, s9⟩
                                go_simp
                                with_reducible rfl
                              rotate_left
                              · simp only [Act.put, List.setIfInBounds_toArray, List.set_cons_zero, List.set_cons_succ, i64_w, i32_w]
                                rfl
                              refine take_ (i := 4) (N := some 81) (v := ?_) (a' := ?_) #[true, true, false, true, true, false, false, false, false, false, false, false, false, false, false, false, false, false, false, false, false, false, false, false, false, false] rfl rfl (take_ofW HT_.out HW_.out (by kernel_rfl)) (fun _ _ _ h => h) (Or.inl ⟨by rfl, ?_⟩) hHeld ?_ ?_
                              rotate_left
                              · rintro w' ⟨s0, s1, s2, s3, s4, s5, s6, s7, s8, s9⟩
                                go_simp
                                with_reducible rfl
                              rotate_left
                              · simp only [Act.put, List.setIfInBounds_toArray, List.set_cons_zero, List.set_cons_succ, i64_w, i32_w]
                                rfl
                              refine one_ (i := 2) (N := some 79) #[true, true, true, true, true, false, false, false, false, false, false, false, false, false, false, false, false, false, false, false, false, false, false, false, false, false] rfl rfl (one_of HT_.out (by kernel_rfl)) (by decide) (fun K hK => ?_)
                              refine goes_ Try.func18 (by kernel_rfl) rfl #[.agg #[.int .i64 t195, .int .i64 t196], .agg #[.int .i64 (wrap64 (Int.tdiv x7_3 16)), .int .i64 (Int.tmod x7_3 16)]] (by rfl) rfl rfl ml_ ?_
                              with_reducible refine (impl_LblFlows.calls t195 t196 (wrap64 (Int.tdiv x7_3 16)) (Int.tmod x7_3 16) t212 _ A94.out).mono ?_
                              rintro e w207 ⟨rfl, hb⟩
                              refine ⟨_, rfl, ?_⟩
                              have n0_ := Aside0.mk (blk_below (g := gb193) (o := .cells #[.int .i64 t189, .int .i64 t190] 25 (0, 0)) bk_ hb)
                              have n1_ := Aside0.mk (blk_below (g := gb194) (o := .cells #[.int .i64 t191, .int .i64 t192] 25 (0, 0)) bk_ hb)
                              have n2_ := Aside0.mk (blk_below (g := gb197) (o := .cells #[.int .i64 t195, .int .i64 t196] 25 (0, 0)) bk_ hb)
                              have n3_ := Aside0.mk (blk_below (g := gb200) (o := .cells #[.int .i64 t198, .int .i64 t199] 25 (0, 0)) bk_ hb)
                              have n4_ := Aside0.mk (blk_below (g := gb211) (o := .cells #[.int .i64 (wrap64 (Int.tdiv x7_3 16)), .int .i64 (Int.tmod x7_3 16)] 25 (0, 0)) bk_ hb)
                              have n5_ := Aside0.mk (below_step hb_ hb)
                              clear BK193
                              clear BK194
                              clear BK197
                              clear BK200
                              clear BK211
                              clear HB
                              have BK193 := n0_
                              have BK194 := n1_
                              have BK197 := n2_
                              have BK200 := n3_
                              have BK211 := n4_
                              have HB := n5_
                              clear n0_ n1_ n2_ n3_ n4_ n5_
                              (try clear hb)
                              (try clear hb2)
                              (try clear hk)
                              (try clear hi)
                              refine hK.out _ _ ⟨(blk_cell BK197.out 0).trans rfl, (blk_cell BK197.out 1).trans rfl, (blk_cell BK211.out 0).trans rfl, (blk_cell BK211.out 1).trans rfl, (blk_cell BK193.out 0).trans rfl, (blk_cell BK193.out 1).trans rfl, (blk_cell BK200.out 0).trans rfl, (blk_cell BK200.out 1).trans rfl, (blk_cell BK194.out 0).trans rfl, (blk_cell BK194.out 1).trans rfl⟩ (fun hHeld => ?_)
                              clear hK K
                              refine norm_ (a' := ?_) ?_ ?_
                              rotate_left
                              · show Act.put _ (some 79) _ = _
                                simp only [Act.put, List.setIfInBounds_toArray, List.set_cons_zero, List.set_cons_succ, i64_w, i32_w]
                                rfl
                              refine one_ (i := 5) (N := some 82) #[true, true, true, true, true, true, false, false, false, false, false, false, false, false, false, false, false, false, false, false, false, false, false, false, false, false] rfl rfl (one_of HT_.out (by kernel_rfl)) (by decide) (fun K hK => ?_)
                              refine goes_ Try.func18 (by kernel_rfl) rfl #[.agg #[.int .i64 t189, .int .i64 t190], .agg #[.int .i64 (wrap64 (Int.tdiv x7_3 16)), .int .i64 (Int.tmod x7_3 16)]] (by rfl) rfl rfl ml_ ?_
                              with_reducible refine (impl_LblFlows.calls t189 t190 (wrap64 (Int.tdiv x7_3 16)) (Int.tmod x7_3 16) false _ A95.out).mono ?_
                              rintro e w208 ⟨rfl, hb⟩
                              refine ⟨_, rfl, ?_⟩
                              have n0_ := Aside0.mk (blk_below (g := gb193) (o := .cells #[.int .i64 t189, .int .i64 t190] 25 (0, 0)) bk_ hb)
                              have n1_ := Aside0.mk (blk_below (g := gb194) (o := .cells #[.int .i64 t191, .int .i64 t192] 25 (0, 0)) bk_ hb)
                              have n2_ := Aside0.mk (blk_below (g := gb197) (o := .cells #[.int .i64 t195, .int .i64 t196] 25 (0, 0)) bk_ hb)
                              have n3_ := Aside0.mk (blk_below (g := gb200) (o := .cells #[.int .i64 t198, .int .i64 t199] 25 (0, 0)) bk_ hb)
                              have n4_ := Aside0.mk (blk_below (g := gb211) (o := .cells #[.int .i64 (wrap64 (Int.tdiv x7_3 16)), .int .i64 (Int.tmod x7_3 16)] 25 (0, 0)) bk_ hb)
                              have n5_ := Aside0.mk (below_step hb_ hb)
                              clear BK193
                              clear BK194
                              clear BK197
                              clear BK200
                              clear BK211
                              clear HB
                              have BK193 := n0_
                              have BK194 := n1_
                              have BK197 := n2_
                              have BK200 := n3_
                              have BK211 := n4_
                              have HB := n5_
                              clear n0_ n1_ n2_ n3_ n4_ n5_
                              (try clear hb)
                              (try clear hb2)
                              (try clear hk)
                              (try clear hi)
                              refine hK.out _ _ ⟨(blk_cell BK197.out 0).trans rfl, (blk_cell BK197.out 1).trans rfl, (blk_cell BK211.out 0).trans rfl, (blk_cell BK211.out 1).trans rfl, (blk_cell BK193.out 0).trans rfl, (blk_cell BK193.out 1).trans rfl, (blk_cell BK200.out 0).trans rfl, (blk_cell BK200.out 1).trans rfl, (blk_cell BK194.out 0).trans rfl, (blk_cell BK194.out 1).trans rfl⟩ (fun hHeld => ?_)
                              clear hK K
                              refine norm_ (a' := ?_) ?_ ?_
                              rotate_left
                              · show Act.put _ (some 82) _ = _
                                simp only [Act.put, List.setIfInBounds_toArray, List.set_cons_zero, List.set_cons_succ, i64_w, i32_w]
                                rfl
                              refine pure_ (i := 6) (N := some 83) (v := ?_) (a' := ?_) #[true, true, true, true, true, true, true, false, false, false, false, false, false, false, false, false, false, false, false, false, false, false, false, false, false, false] rfl rfl (any_of HT_.out (by kernel_rfl)) (fun _ _ _ h => h) (Or.inl ⟨by rfl, ?_⟩) ?_ ?_
                              rotate_left
                              · intro w'
                                go_simp
                                with_reducible rfl
                              rotate_left
                              · simp only [Act.put, List.setIfInBounds_toArray, List.set_cons_zero, List.set_cons_succ, i64_w, i32_w]
                                rfl
                              refine pure_ (i := 7) (N := some 84) (v := undef) (a' := ?_) #[true, true, true, true, true, true, true, true, false, false, false, false, false, false, false, false, false, false, false, false, false, false, false, false, false, false] rfl rfl (any_of HT_.out (by kernel_rfl)) (fun _ _ _ h => h) (Or.inr ⟨by rfl, rfl⟩) ?_ ?_
                              rotate_left
                              · simp only [Act.put, List.setIfInBounds_toArray, List.set_cons_zero, List.set_cons_succ, i64_w, i32_w]
                                rfl
                              refine pure_ (i := 8) (N := some 85) (v := undef) (a' := ?_) #[true, true, true, true, true, true, true, true, true, false, false, false, false, false, false, false, false, false, false, false, false, false, false, false, false, false] rfl rfl (any_of HT_.out (by kernel_rfl)) (fun _ _ _ h => h) (Or.inr ⟨by rfl, rfl⟩) ?_ ?_
                              rotate_left
                              · simp only [Act.put, List.setIfInBounds_toArray, List.set_cons_zero, List.set_cons_succ, i64_w, i32_w]
                                rfl
                              refine pure_ (i := 9) (N := some 86) (v := undef) (a' := ?_) #[true, true, true, true, true, true, true, true, true, true, false, false, false, false, false, false, false, false, false, false, false, false, false, false, false, false] rfl rfl (any_of HT_.out (by kernel_rfl)) (fun _ _ _ h => h) (Or.inr ⟨by rfl, rfl⟩) ?_ ?_
                              rotate_left
                              · simp only [Act.put, List.setIfInBounds_toArray, List.set_cons_zero, List.set_cons_succ, i64_w, i32_w]
                                rfl
                              refine pure_ (i := 10) (N := some 87) (v := ?_) (a' := ?_) #[true, true, true, true, true, true, true, true, true, true, true, false, false, false, false, false, false, false, false, false, false, false, false, false, false, false] rfl rfl (any_of HT_.out (by kernel_rfl)) (fun _ _ _ h => h) (Or.inl ⟨by rfl, ?_⟩) ?_ ?_
                              rotate_left
                              · intro w'
                                go_simp
                                with_reducible rfl
                              rotate_left
                              · simp only [Act.put, List.setIfInBounds_toArray, List.set_cons_zero, List.set_cons_succ, i64_w, i32_w]
                                rfl
                              refine pure_ (i := 11) (N := some 88) (v := ?_) (a' := ?_) #[true, true, true, true, true, true, true, true, true, true, true, true, false, false, false, false, false, false, false, false, false, false, false, false, false, false] rfl rfl (any_of HT_.out (by kernel_rfl)) (fun _ _ _ h => h) (Or.inl ⟨by rfl, ?_⟩) ?_ ?_
                              rotate_left
                              · intro w'
                                go_simp
                                with_reducible rfl
                              rotate_left
                              · simp only [Act.put, List.setIfInBounds_toArray, List.set_cons_zero, List.set_cons_succ, i64_w, i32_w]
                                rfl
                              refine pure_ (i := 12) (N := some 89) (v := ?_) (a' := ?_) #[true, true, true, true, true, true, true, true, true, true, true, true, true, false, false, false, false, false, false, false, false, false, false, false, false, false] rfl rfl (any_of HT_.out (by kernel_rfl)) (fun _ _ _ h => h) (Or.inl ⟨by rfl, ?_⟩) ?_ ?_
                              rotate_left
                              · intro w'
                                go_simp
                                with_reducible rfl
                              rotate_left
                              · simp only [Act.put, List.setIfInBounds_toArray, List.set_cons_zero, List.set_cons_succ, i64_w, i32_w]
                                rfl
                              refine take_ (i := 13) (N := some 90) (v := ?_) (a' := ?_) #[true, true, true, true, true, true, true, true, true, true, true, true, true, true, false, false, false, false, false, false, false, false, false, false, false, false] rfl rfl (take_ofW HT_.out HW_.out (by kernel_rfl)) (fun _ _ _ h => h) (Or.inl ⟨by rfl, ?_⟩) hHeld ?_ ?_
                              rotate_left
                              · rintro w' ⟨s0, s1, s2, s3, s4, s5, s6, s7, s8, s9⟩
                                go_simp
                                with_reducible rfl
                              rotate_left
                              · simp only [Act.put, List.setIfInBounds_toArray, List.set_cons_zero, List.set_cons_succ, i64_w, i32_w]
                                rfl
                              refine take_ (i := 14) (N := some 91) (v := ?_) (a' := ?_) #[true, true, true, true, true, true, true, true, true, true, true, true, true, true, true, false, false, false, false, false, false, false, false, false, false, false] rfl rfl (take_ofW HT_.out HW_.out (by kernel_rfl)) (fun _ _ _ h => h) (Or.inl ⟨by rfl, ?_⟩) hHeld ?_ ?_
                              rotate_left
                              · rintro w' ⟨s0, s1, s2, s3, s4, s5, s6, s7, s8, s9⟩
                                go_simp
                                with_reducible rfl
                              rotate_left
                              · simp only [Act.put, List.setIfInBounds_toArray, List.set_cons_zero, List.set_cons_succ, i64_w, i32_w]
                                rfl
                              refine take_ (i := 16) (N := some 93) (v := ?_) (a' := ?_) #[true, true, true, true, true, true, true, true, true, true, true, true, true, true, true, false, true, false, false, false, false, false, false, false, false, false] rfl rfl (take_ofW HT_.out HW_.out (by kernel_rfl)) (fun _ _ _ h => h) (Or.inl ⟨by rfl, ?_⟩) hHeld ?_ ?_
                              rotate_left
                              · rintro w' ⟨s0, s1, s2, s3, s4, s5, s6, s7, s8, s9⟩
                                go_simp
                                with_reducible rfl
                              rotate_left
                              · simp only [Act.put, List.setIfInBounds_toArray, List.set_cons_zero, List.set_cons_succ, i64_w, i32_w]
                                rfl
                              refine take_ (i := 17) (N := some 94) (v := ?_) (a' := ?_) #[true, true, true, true, true, true, true, true, true, true, true, true, true, true, true, false, true, true, false, false, false, false, false, false, false, false] rfl rfl (take_ofW HT_.out HW_.out (by kernel_rfl)) (fun _ _ _ h => h) (Or.inl ⟨by rfl, ?_⟩) hHeld ?_ ?_
                              rotate_left
                              · rintro w' ⟨s0, s1, s2, s3, s4, s5, s6, s7, s8, s9⟩
                                go_simp
                                with_reducible rfl
                              rotate_left
                              · simp only [Act.put, List.setIfInBounds_toArray, List.set_cons_zero, List.set_cons_succ, i64_w, i32_w]
                                rfl
                              refine one_ (i := 15) (N := some 92) #[true, true, true, true, true, true, true, true, true, true, true, true, true, true, true, true, true, true, false, false, false, false, false, false, false, false] rfl rfl (one_of HT_.out (by kernel_rfl)) (by decide) (fun K hK => ?_)
                              refine goes_ Try.func18 (by kernel_rfl) rfl #[.agg #[.int .i64 (wrap64 (Int.tdiv x7_3 16)), .int .i64 (Int.tmod x7_3 16)], .agg #[.int .i64 t198, .int .i64 t199]] (by rfl) rfl rfl ml_ ?_
                              with_reducible refine (impl_LblFlows.calls (wrap64 (Int.tdiv x7_3 16)) (Int.tmod x7_3 16) t198 t199 t218 _ A181.out).mono ?_
                              rintro e w209 ⟨rfl, hb⟩
                              refine ⟨_, rfl, ?_⟩
                              have n0_ := Aside0.mk (blk_below (g := gb193) (o := .cells #[.int .i64 t189, .int .i64 t190] 25 (0, 0)) bk_ hb)
                              have n1_ := Aside0.mk (blk_below (g := gb194) (o := .cells #[.int .i64 t191, .int .i64 t192] 25 (0, 0)) bk_ hb)
                              have n2_ := Aside0.mk (blk_below (g := gb197) (o := .cells #[.int .i64 t195, .int .i64 t196] 25 (0, 0)) bk_ hb)
                              have n3_ := Aside0.mk (blk_below (g := gb200) (o := .cells #[.int .i64 t198, .int .i64 t199] 25 (0, 0)) bk_ hb)
                              have n4_ := Aside0.mk (blk_below (g := gb211) (o := .cells #[.int .i64 (wrap64 (Int.tdiv x7_3 16)), .int .i64 (Int.tmod x7_3 16)] 25 (0, 0)) bk_ hb)
                              have n5_ := Aside0.mk (below_step hb_ hb)
                              clear BK193
                              clear BK194
                              clear BK197
                              clear BK200
                              clear BK211
                              clear HB
                              have BK193 := n0_
                              have BK194 := n1_
                              have BK197 := n2_
                              have BK200 := n3_
                              have BK211 := n4_
                              have HB := n5_
                              clear n0_ n1_ n2_ n3_ n4_ n5_
                              (try clear hb)
                              (try clear hb2)
                              (try clear hk)
                              (try clear hi)
                              refine hK.out _ _ ⟨(blk_cell BK197.out 0).trans rfl, (blk_cell BK197.out 1).trans rfl, (blk_cell BK211.out 0).trans rfl, (blk_cell BK211.out 1).trans rfl, (blk_cell BK193.out 0).trans rfl, (blk_cell BK193.out 1).trans rfl, (blk_cell BK200.out 0).trans rfl, (blk_cell BK200.out 1).trans rfl, (blk_cell BK194.out 0).trans rfl, (blk_cell BK194.out 1).trans rfl⟩ (fun hHeld => ?_)
                              clear hK K
                              refine norm_ (a' := ?_) ?_ ?_
                              rotate_left
                              · show Act.put _ (some 92) _ = _
                                simp only [Act.put, List.setIfInBounds_toArray, List.set_cons_zero, List.set_cons_succ, i64_w, i32_w]
                                rfl
                              refine one_ (i := 18) (N := some 95) #[true, true, true, true, true, true, true, true, true, true, true, true, true, true, true, true, true, true, true, false, false, false, false, false, false, false] rfl rfl (one_of HT_.out (by kernel_rfl)) (by decide) (fun K hK => ?_)
                              refine goes_ Try.func18 (by kernel_rfl) rfl #[.agg #[.int .i64 (wrap64 (Int.tdiv x7_3 16)), .int .i64 (Int.tmod x7_3 16)], .agg #[.int .i64 t189, .int .i64 t190]] (by rfl) rfl rfl ml_ ?_
                              with_reducible refine (impl_LblFlows.calls (wrap64 (Int.tdiv x7_3 16)) (Int.tmod x7_3 16) t189 t190 true _ A182.out).mono ?_
                              rintro e w210 ⟨rfl, hb⟩
                              refine ⟨_, rfl, ?_⟩
                              have n0_ := Aside0.mk (blk_below (g := gb193) (o := .cells #[.int .i64 t189, .int .i64 t190] 25 (0, 0)) bk_ hb)
                              have n1_ := Aside0.mk (blk_below (g := gb194) (o := .cells #[.int .i64 t191, .int .i64 t192] 25 (0, 0)) bk_ hb)
                              have n2_ := Aside0.mk (blk_below (g := gb197) (o := .cells #[.int .i64 t195, .int .i64 t196] 25 (0, 0)) bk_ hb)
                              have n3_ := Aside0.mk (blk_below (g := gb200) (o := .cells #[.int .i64 t198, .int .i64 t199] 25 (0, 0)) bk_ hb)
                              have n4_ := Aside0.mk (blk_below (g := gb211) (o := .cells #[.int .i64 (wrap64 (Int.tdiv x7_3 16)), .int .i64 (Int.tmod x7_3 16)] 25 (0, 0)) bk_ hb)
                              have n5_ := Aside0.mk (below_step hb_ hb)
                              clear BK193
                              clear BK194
                              clear BK197
                              clear BK200
                              clear BK211
                              clear HB
                              have BK193 := n0_
                              have BK194 := n1_
                              have BK197 := n2_
                              have BK200 := n3_
                              have BK211 := n4_
                              have HB := n5_
                              clear n0_ n1_ n2_ n3_ n4_ n5_
                              (try clear hb)
                              (try clear hb2)
                              (try clear hk)
                              (try clear hi)
                              refine hK.out _ _ ⟨(blk_cell BK197.out 0).trans rfl, (blk_cell BK197.out 1).trans rfl, (blk_cell BK211.out 0).trans rfl, (blk_cell BK211.out 1).trans rfl, (blk_cell BK193.out 0).trans rfl, (blk_cell BK193.out 1).trans rfl, (blk_cell BK200.out 0).trans rfl, (blk_cell BK200.out 1).trans rfl, (blk_cell BK194.out 0).trans rfl, (blk_cell BK194.out 1).trans rfl⟩ (fun hHeld => ?_)
                              clear hK K
                              refine norm_ (a' := ?_) ?_ ?_
                              rotate_left
                              · show Act.put _ (some 95) _ = _
                                simp only [Act.put, List.setIfInBounds_toArray, List.set_cons_zero, List.set_cons_succ, i64_w, i32_w]
                                rfl
                              refine pure_ (i := 19) (N := some 96) (v := ?_) (a' := ?_) #[true, true, true, true, true, true, true, true, true, true, true, true, true, true, true, true, true, true, true, true, false, false, false, false, false, false] rfl rfl (any_of HT_.out (by kernel_rfl)) (fun _ _ _ h => h) (Or.inl ⟨by rfl, ?_⟩) ?_ ?_
                              rotate_left
                              · intro w'
                                go_simp
                                with_reducible rfl
                              rotate_left
                              · simp only [Act.put, List.setIfInBounds_toArray, List.set_cons_zero, List.set_cons_succ, i64_w, i32_w]
                                rfl
                              refine take_ (i := 20) (N := some 97) (v := ?_) (a' := ?_) #[true, true, true, true, true, true, true, true, true, true, true, true, true, true, true, true, true, true, true, true, true, false, false, false, false, false] rfl rfl (take_ofW HT_.out HW_.out (by kernel_rfl)) (fun _ _ _ h => h) (Or.inl ⟨by rfl, ?_⟩) hHeld ?_ ?_
                              rotate_left
                              · rintro w' ⟨s0, s1, s2, s3, s4, s5, s6, s7, s8, s9⟩
                                go_simp
                                with_reducible rfl
                              rotate_left
                              · simp only [Act.put, List.setIfInBounds_toArray, List.set_cons_zero, List.set_cons_succ, i64_w, i32_w]
                                rfl
                              refine take_ (i := 21) (N := some 98) (v := ?_) (a' := ?_) #[true, true, true, true, true, true, true, true, true, true, true, true, true, true, true, true, true, true, true, true, true, true, false, false, false, false] rfl rfl (take_ofW HT_.out HW_.out (by kernel_rfl)) (fun _ _ _ h => h) (Or.inl ⟨by rfl, ?_⟩) hHeld ?_ ?_
                              rotate_left
                              · rintro w' ⟨s0, s1, s2, s3, s4, s5, s6, s7, s8, s9⟩
                                go_simp
                                with_reducible rfl
                              rotate_left
                              · simp only [Act.put, List.setIfInBounds_toArray, List.set_cons_zero, List.set_cons_succ, i64_w, i32_w]
                                rfl
                              refine one_ (i := 22) (N := some 99) #[true, true, true, true, true, true, true, true, true, true, true, true, true, true, true, true, true, true, true, true, true, true, true, false, false, false] rfl rfl (one_of HT_.out (by kernel_rfl)) (by decide) (fun K hK => ?_)
                              refine goes_ Try.func18 (by kernel_rfl) rfl #[.agg #[.int .i64 (wrap64 (Int.tdiv x7_3 16)), .int .i64 (Int.tmod x7_3 16)], .agg #[.int .i64 t191, .int .i64 t192]] (by rfl) rfl rfl ml_ ?_
                              with_reducible refine (impl_LblFlows.calls (wrap64 (Int.tdiv x7_3 16)) (Int.tmod x7_3 16) t191 t192 t220 _ A184.out).mono ?_
                              rintro e w211 ⟨rfl, hb⟩
                              refine ⟨_, rfl, ?_⟩
                              have n0_ := Aside0.mk (blk_below (g := gb193) (o := .cells #[.int .i64 t189, .int .i64 t190] 25 (0, 0)) bk_ hb)
                              have n1_ := Aside0.mk (blk_below (g := gb194) (o := .cells #[.int .i64 t191, .int .i64 t192] 25 (0, 0)) bk_ hb)
                              have n2_ := Aside0.mk (blk_below (g := gb197) (o := .cells #[.int .i64 t195, .int .i64 t196] 25 (0, 0)) bk_ hb)
                              have n3_ := Aside0.mk (blk_below (g := gb200) (o := .cells #[.int .i64 t198, .int .i64 t199] 25 (0, 0)) bk_ hb)
                              have n4_ := Aside0.mk (blk_below (g := gb211) (o := .cells #[.int .i64 (wrap64 (Int.tdiv x7_3 16)), .int .i64 (Int.tmod x7_3 16)] 25 (0, 0)) bk_ hb)
                              have n5_ := Aside0.mk (below_step hb_ hb)
                              clear BK193
                              clear BK194
                              clear BK197
                              clear BK200
                              clear BK211
                              clear HB
                              have BK193 := n0_
                              have BK194 := n1_
                              have BK197 := n2_
                              have BK200 := n3_
                              have BK211 := n4_
                              have HB := n5_
                              clear n0_ n1_ n2_ n3_ n4_ n5_
                              (try clear hb)
                              (try clear hb2)
                              (try clear hk)
                              (try clear hi)
                              refine hK.out _ _ ⟨(blk_cell BK197.out 0).trans rfl, (blk_cell BK197.out 1).trans rfl, (blk_cell BK211.out 0).trans rfl, (blk_cell BK211.out 1).trans rfl, (blk_cell BK193.out 0).trans rfl, (blk_cell BK193.out 1).trans rfl, (blk_cell BK200.out 0).trans rfl, (blk_cell BK200.out 1).trans rfl, (blk_cell BK194.out 0).trans rfl, (blk_cell BK194.out 1).trans rfl⟩ (fun hHeld => ?_)
                              clear hK K
                              refine norm_ (a' := ?_) ?_ ?_
                              rotate_left
                              · show Act.put _ (some 99) _ = _
                                simp only [Act.put, List.setIfInBounds_toArray, List.set_cons_zero, List.set_cons_succ, i64_w, i32_w]
                                rfl
                              refine pure_ (i := 23) (N := some 100) (v := ?_) (a' := ?_) #[true, true, true, true, true, true, true, true, true, true, true, true, true, true, true, true, true, true, true, true, true, true, true, true, false, false] rfl rfl (any_of HT_.out (by kernel_rfl)) (fun _ _ _ h => h) (Or.inl ⟨by rfl, ?_⟩) ?_ ?_
                              rotate_left
                              · intro w'
                                go_simp
                                with_reducible rfl
                              rotate_left
                              · simp only [Act.put, List.setIfInBounds_toArray, List.set_cons_zero, List.set_cons_succ, i64_w, i32_w]
                                rfl
                              refine pure_ (i := 24) (N := some 101) (v := ?_) (a' := ?_) #[true, true, true, true, true, true, true, true, true, true, true, true, true, true, true, true, true, true, true, true, true, true, true, true, true, false] rfl rfl (any_of HT_.out (by kernel_rfl)) (fun _ _ _ h => h) (Or.inl ⟨by rfl, ?_⟩) ?_ ?_
                              rotate_left
                              · intro w'
                                go_simp
                                with_reducible rfl
                              rotate_left
                              · simp only [Act.put, List.setIfInBounds_toArray, List.set_cons_zero, List.set_cons_succ, i64_w, i32_w]
                                rfl
                              refine pure_ (i := 25) (N := some 102) (v := ?_) (a' := ?_) #[true, true, true, true, true, true, true, true, true, true, true, true, true, true, true, true, true, true, true, true, true, true, true, true, true, true] rfl rfl (any_of HT_.out (by kernel_rfl)) (fun _ _ _ h => h) (Or.inl ⟨by rfl, ?_⟩) ?_ ?_
                              rotate_left
                              · intro w'
                                go_simp
                                with_reducible rfl
                              rotate_left
                              · simp only [Act.put, List.setIfInBounds_toArray, List.set_cons_zero, List.set_cons_succ, i64_w, i32_w]
                                rfl
                              refine done_ (done_of HT_.out (by kernel_rfl)) ?_
                              try go_wp2
                              go_roundg k3
                              case measure => have := HJ5.out; have := HJ51.out; have := HK3.out; omega
                              case rel => exact ⟨(wrap64 (x7_3 + 1)), rs_, H', ⟨by have := HJ5.out; have := HJ51.out; have := HK3.out; omega⟩, ⟨by (with_reducible repeat (first | refine blk_drewN ?_ _ | refine blk_drew ?_ | refine blk_alloc ?_ _)); exact BK193.out⟩, ⟨by (with_reducible repeat (first | refine blk_drewN ?_ _ | refine blk_drew ?_ | refine blk_alloc ?_ _)); exact BK194.out⟩, ⟨by (with_reducible repeat (first | refine blk_drewN ?_ _ | refine blk_drew ?_ | refine blk_alloc ?_ _)); exact BK197.out⟩, ⟨by (with_reducible repeat (first | refine blk_drewN ?_ _ | refine blk_drew ?_ | refine blk_alloc ?_ _)); exact BK200.out⟩, ⟨hb_⟩⟩
                          · replace c183 := Bool.eq_false_iff.mpr c183
                            subst c183
                            have H1 : (if (t218 != false) = true then (some false) else (laws_FnLblBounds.l0 k3 (wrap64 (x7_3 + 1)) t189 t190 t191 t192 t195 t196 t198 t199)) = some r := by rw [if_neg (show ¬ (false = true) by decide)] at H; exact H
                            clear H
                            have H := H1
                            clear H1
                            by_cases c212 : (t218 != false) = true
                            · rw [if_pos c212] at H
                              exact absurd (Option.some.inj H) (by rw [htrue.out]; decide)
                            · rw [if_neg c212] at H
                              have c212b0 : (t218 != false) = false := by simpa using c212
                              (try (have c212b1 : decide (t218 = false) = true := by simpa using c212))
                              (try (have c212b2 : (t218 == false) = true := by simpa using c212))
                              clear c212
                              have H' := Aside0.mk H
                              clear H
                              try go_wp2_with (first | ((with_reducible refine gate_dst (N := 8) rfl ?_); refine bx_ (N := 8) (cs := #[.int .i64 0, .int .i64 0]) (t := 25) ?_; intro gb211 hg w225 hbox hb; have n0_ := Aside0.mk (blk_below (g := gb193) (o := .cells #[.int .i64 t189, .int .i64 t190] 25 (0, 0)) bk_ hb); have n1_ := Aside0.mk (blk_below (g := gb194) (o := .cells #[.int .i64 t191, .int .i64 t192] 25 (0, 0)) bk_ hb); have n2_ := Aside0.mk (blk_below (g := gb197) (o := .cells #[.int .i64 t195, .int .i64 t196] 25 (0, 0)) bk_ hb); have n3_ := Aside0.mk (blk_below (g := gb200) (o := .cells #[.int .i64 t198, .int .i64 t199] 25 (0, 0)) bk_ hb); have n4_ := Aside0.mk (below_step hb_ hb); have n5_ := Aside0.mk (hbox); have n6_ := Aside0.mk ((hg_ : w.heap.size ≤ gb211)); have n7_ := Aside0.mk ((hg_ : w.heap.size ≤ gb211)); have n8_ := Aside0.mk ((nl_ : gb193 ≠ gb211)); have n9_ := Aside0.mk ((ng_ : gb211 ≠ gb193)); have n10_ := Aside0.mk ((nl_ : gb194 ≠ gb211)); have n11_ := Aside0.mk ((ng_ : gb211 ≠ gb194)); have n12_ := Aside0.mk ((nl_ : gb197 ≠ gb211)); have n13_ := Aside0.mk ((ng_ : gb211 ≠ gb197)); have n14_ := Aside0.mk ((nl_ : gb200 ≠ gb211)); have n15_ := Aside0.mk ((ng_ : gb211 ≠ gb200)); clear BK193; clear BK194; clear BK197; clear BK200; clear HB; have BK193 := n0_; have BK194 := n1_; have BK197 := n2_; have BK200 := n3_; have HB := n4_; have BK211 := n5_; have GW211 := n6_; have GE211 := n7_; have NB193_211 := n8_; have NB211_193 := n9_; have NB194_211 := n10_; have NB211_194 := n11_; have NB197_211 := n12_; have NB211_197 := n13_; have NB200_211 := n14_; have NB211_200 := n15_; clear n0_ n1_ n2_ n3_ n4_ n5_ n6_ n7_ n8_ n9_ n10_ n11_ n12_ n13_ n14_ n15_; clear hb hbox hg; have hnb226 := NB211_193.out; have hnc226 := NB193_211.out; have hnb227 := NB211_194.out; have hnc227 := NB194_211.out; have hnb228 := NB211_197.out; have hnc228 := NB197_211.out; have hnb229 := NB211_200.out; have hnc229 := NB200_211.out; have hcz230_0 : w225.cell? ⟨gb211, 0, none⟩ = some (.int .i64 0) := (blk_cell BK211.out 0).trans rfl; have hcz230_1 : w225.cell? ⟨gb211, 1, none⟩ = some (.int .i64 0) := (blk_cell BK211.out 1).trans rfl; have hfz230_0 := blk_frozen BK211.out 0; have hfz230_1 := blk_frozen BK211.out 1))
                              have n0_ : Aside0 (((w225.setCell ⟨gb211, 0, none⟩ (.int .i64 (wrap64 (Int.tdiv x7_3 16)))).setCell ⟨gb211, 1, none⟩ (.int .i64 (Int.tmod x7_3 16))).heap[gb193]? = some (.cells #[.int .i64 t189, .int .i64 t190] 25 (0, 0))) := ⟨by (with_reducible repeat (first | refine blk_drewN ?_ _ | refine blk_drew ?_ | refine blk_alloc ?_ _)); refine blk_far ?_ NB193_211.out _; (with_reducible repeat (first | refine blk_drewN ?_ _ | refine blk_drew ?_ | refine blk_alloc ?_ _)); refine blk_far ?_ NB193_211.out _; (with_reducible repeat (first | refine blk_drewN ?_ _ | refine blk_drew ?_ | refine blk_alloc ?_ _)); exact BK193.out⟩
                              have n1_ : Aside0 (((w225.setCell ⟨gb211, 0, none⟩ (.int .i64 (wrap64 (Int.tdiv x7_3 16)))).setCell ⟨gb211, 1, none⟩ (.int .i64 (Int.tmod x7_3 16))).heap[gb194]? = some (.cells #[.int .i64 t191, .int .i64 t192] 25 (0, 0))) := ⟨by (with_reducible repeat (first | refine blk_drewN ?_ _ | refine blk_drew ?_ | refine blk_alloc ?_ _)); refine blk_far ?_ NB194_211.out _; (with_reducible repeat (first | refine blk_drewN ?_ _ | refine blk_drew ?_ | refine blk_alloc ?_ _)); refine blk_far ?_ NB194_211.out _; (with_reducible repeat (first | refine blk_drewN ?_ _ | refine blk_drew ?_ | refine blk_alloc ?_ _)); exact BK194.out⟩
                              have n2_ : Aside0 (((w225.setCell ⟨gb211, 0, none⟩ (.int .i64 (wrap64 (Int.tdiv x7_3 16)))).setCell ⟨gb211, 1, none⟩ (.int .i64 (Int.tmod x7_3 16))).heap[gb197]? = some (.cells #[.int .i64 t195, .int .i64 t196] 25 (0, 0))) := ⟨by (with_reducible repeat (first | refine blk_drewN ?_ _ | refine blk_drew ?_ | refine blk_alloc ?_ _)); refine blk_far ?_ NB197_211.out _; (with_reducible repeat (first | refine blk_drewN ?_ _ | refine blk_drew ?_ | refine blk_alloc ?_ _)); refine blk_far ?_ NB197_211.out _; (with_reducible repeat (first | refine blk_drewN ?_ _ | refine blk_drew ?_ | refine blk_alloc ?_ _)); exact BK197.out⟩
                              have n3_ : Aside0 (((w225.setCell ⟨gb211, 0, none⟩ (.int .i64 (wrap64 (Int.tdiv x7_3 16)))).setCell ⟨gb211, 1, none⟩ (.int .i64 (Int.tmod x7_3 16))).heap[gb200]? = some (.cells #[.int .i64 t198, .int .i64 t199] 25 (0, 0))) := ⟨by (with_reducible repeat (first | refine blk_drewN ?_ _ | refine blk_drew ?_ | refine blk_alloc ?_ _)); refine blk_far ?_ NB200_211.out _; (with_reducible repeat (first | refine blk_drewN ?_ _ | refine blk_drew ?_ | refine blk_alloc ?_ _)); refine blk_far ?_ NB200_211.out _; (with_reducible repeat (first | refine blk_drewN ?_ _ | refine blk_drew ?_ | refine blk_alloc ?_ _)); exact BK200.out⟩
                              have n4_ : Aside0 (((w225.setCell ⟨gb211, 0, none⟩ (.int .i64 (wrap64 (Int.tdiv x7_3 16)))).setCell ⟨gb211, 1, none⟩ (.int .i64 (Int.tmod x7_3 16))).heap[gb211]? = some (.cells #[.int .i64 (wrap64 (Int.tdiv x7_3 16)), .int .i64 (Int.tmod x7_3 16)] 25 (0, 0))) := ⟨by (with_reducible repeat (first | refine blk_drewN ?_ _ | refine blk_drew ?_ | refine blk_alloc ?_ _)); refine blk_put (cs := #[.int .i64 (wrap64 (Int.tdiv x7_3 16)), .int .i64 0]) ?_ 1 _ rfl; (with_reducible repeat (first | refine blk_drewN ?_ _ | refine blk_drew ?_ | refine blk_alloc ?_ _)); refine blk_put (cs := #[.int .i64 0, .int .i64 0]) ?_ 0 _ rfl; (with_reducible repeat (first | refine blk_drewN ?_ _ | refine blk_drew ?_ | refine blk_alloc ?_ _)); exact BK211.out⟩
                              have n5_ : Aside0 (Below w.heap.size w ((w225.setCell ⟨gb211, 0, none⟩ (.int .i64 (wrap64 (Int.tdiv x7_3 16)))).setCell ⟨gb211, 1, none⟩ (.int .i64 (Int.tmod x7_3 16)))) := ⟨hb_⟩
                              (try clear BK193)
                              (try clear BK194)
                              (try clear BK197)
                              (try clear BK200)
                              (try clear BK211)
                              (try clear HB)
                              generalize ((w225.setCell ⟨gb211, 0, none⟩ (.int .i64 (wrap64 (Int.tdiv x7_3 16)))).setCell ⟨gb211, 1, none⟩ (.int .i64 (Int.tmod x7_3 16))) = w231 at n0_ n1_ n2_ n3_ n4_ n5_ ⊢
                              have BK193 := n0_
                              have BK194 := n1_
                              have BK197 := n2_
                              have BK200 := n3_
                              have BK211 := n4_
                              have HB := n5_
                              clear n0_ n1_ n2_ n3_ n4_ n5_
                              have n0_ := Aside0.mk (blk_drew BK193.out)
                              have n1_ := Aside0.mk (blk_drew BK194.out)
                              have n2_ := Aside0.mk (blk_drew BK197.out)
                              have n3_ := Aside0.mk (blk_drew BK200.out)
                              have n4_ := Aside0.mk (blk_drew BK211.out)
                              have n5_ := Aside0.mk (below_drew1 HB.out)
                              clear BK193
                              clear BK194
                              clear BK197
                              clear BK200
                              clear BK211
                              clear HB
                              have BK193 := n0_
                              have BK194 := n1_
                              have BK197 := n2_
                              have BK200 := n3_
                              have BK211 := n4_
                              have HB := n5_
                              clear n0_ n1_ n2_ n3_ n4_ n5_
                              refine start_ (n := 26) (S := fun w' => w'.cell? ⟨gb197, 0, none⟩ = some (.int .i64 t195) ∧ w'.cell? ⟨gb197, 1, none⟩ = some (.int .i64 t196) ∧ w'.cell? ⟨gb211, 0, none⟩ = some (.int .i64 (wrap64 (Int.tdiv x7_3 16))) ∧ w'.cell? ⟨gb211, 1, none⟩ = some (.int .i64 (Int.tmod x7_3 16)) ∧ w'.cell? ⟨gb193, 0, none⟩ = some (.int .i64 t189) ∧ w'.cell? ⟨gb193, 1, none⟩ = some (.int .i64 t190) ∧ w'.cell? ⟨gb200, 0, none⟩ = some (.int .i64 t198) ∧ w'.cell? ⟨gb200, 1, none⟩ = some (.int .i64 t199)) (ds := []) #[false, false, false, false, false, false, false, false, false, false, false, false, false, false, false, false, false, false, false, false, false, false, false, false, false, false] (by kernel_rfl) rfl rfl ⟨(blk_cell BK197.out 0).trans rfl, (blk_cell BK197.out 1).trans rfl, (blk_cell BK211.out 0).trans rfl, (blk_cell BK211.out 1).trans rfl, (blk_cell BK193.out 0).trans rfl, (blk_cell BK193.out 1).trans rfl, (blk_cell BK200.out 0).trans rfl, (blk_cell BK200.out 1).trans rfl⟩ (fun hHeld => ?_); refine with_tabW laws_FnLblBounds.tab14 laws_FnLblBounds.bits14 (fun HT_ HW_ => ?_)
                              generalize w231.drew = w232 at BK193 BK194 BK197 BK200 BK211 HB hHeld ⊢
                              refine take_ (i := 0) (N := some 77) (v := ?_) (a' := ?_) #[true, false, false, false, false, false, false, false, false, false, false, false, false, false, false, false, false, false, false, false, false, false, false, false, false, false] rfl rfl (take_ofW HT_.out HW_.out (by kernel_rfl)) (fun _ _ _ h => h) (Or.inl ⟨by rfl, ?_⟩) hHeld ?_ ?_
                              rotate_left
                              · rintro w' ⟨s0, s1, s2, s3, s4, s5, s6, s7⟩
                                go_simp
                                with_reducible rfl
                              rotate_left
                              · simp only [Act.put, List.setIfInBounds_toArray, List.set_cons_zero, List.set_cons_succ, i64_w, i32_w]
                                rfl
                              refine take_ (i := 1) (N := some 78) (v := ?_) (a' := ?_) #[true, true, false, false, false, false, false, false, false, false, false, false, false, false, false, false, false, false, false, false, false, false, false, false, false, false] rfl rfl (take_ofW HT_.out HW_.out (by kernel_rfl)) (fun _ _ _ h => h) (Or.inl ⟨by rfl, ?_⟩) hHeld ?_ ?_
                              rotate_left
                              · rintro w' ⟨s0, s1, s2, s3, s4, s5, s6, s7⟩
                                go_simp
                                with_reducible rfl
                              rotate_left
                              · simp only [Act.put, List.setIfInBounds_toArray, List.set_cons_zero, List.set_cons_succ, i64_w, i32_w]
                                rfl
                              refine take_ (i := 3) (N := some 80) (v := ?_) (a' := ?_) #[true, true, false, true, false, false, false, false, false, false, false, false, false, false, false, false, false, false, false, false, false, false, false, false, false, false] rfl rfl (take_ofW HT_.out HW_.out (by kernel_rfl)) (fun _ _ _ h => h) (Or.inl ⟨by rfl, ?_⟩) hHeld ?_ ?_
                              rotate_left
                              · rintro w' ⟨s0, s1, s2, s3, s4, s5, s6, s7⟩
                                go_simp
                                with_reducible rfl
                              rotate_left
                              · simp only [Act.put, List.setIfInBounds_toArray, List.set_cons_zero, List.set_cons_succ, i64_w, i32_w]
                                rfl
                              refine take_ (i := 4) (N := some 81) (v := ?_) (a' := ?_) #[true, true, false, true, true, false, false, false, false, false, false, false, false, false, false, false, false, false, false, false, false, false, false, false, false, false] rfl rfl (take_ofW HT_.out HW_.out (by kernel_rfl)) (fun _ _ _ h => h) (Or.inl ⟨by rfl, ?_⟩) hHeld ?_ ?_
                              rotate_left
                              · rintro w' ⟨s0, s1, s2, s3, s4, s5, s6, s7⟩
                                go_simp
                                with_reducible rfl
                              rotate_left
                              · simp only [Act.put, List.setIfInBounds_toArray, List.set_cons_zero, List.set_cons_succ, i64_w, i32_w]
                                rfl
                              refine one_ (i := 2) (N := some 79) #[true, true, true, true, true, false, false, false, false, false, false, false, false, false, false, false, false, false, false, false, false, false, false, false, false, false] rfl rfl (one_of HT_.out (by kernel_rfl)) (by decide) (fun K hK => ?_)
                              refine goes_ Try.func18 (by kernel_rfl) rfl #[.agg #[.int .i64 t195, .int .i64 t196], .agg #[.int .i64 (wrap64 (Int.tdiv x7_3 16)), .int .i64 (Int.tmod x7_3 16)]] (by rfl) rfl rfl ml_ ?_
                              with_reducible refine (impl_LblFlows.calls t195 t196 (wrap64 (Int.tdiv x7_3 16)) (Int.tmod x7_3 16) t212 _ A94.out).mono ?_
                              rintro e w233 ⟨rfl, hb⟩
                              refine ⟨_, rfl, ?_⟩
                              have n0_ := Aside0.mk (blk_below (g := gb193) (o := .cells #[.int .i64 t189, .int .i64 t190] 25 (0, 0)) bk_ hb)
                              have n1_ := Aside0.mk (blk_below (g := gb194) (o := .cells #[.int .i64 t191, .int .i64 t192] 25 (0, 0)) bk_ hb)
                              have n2_ := Aside0.mk (blk_below (g := gb197) (o := .cells #[.int .i64 t195, .int .i64 t196] 25 (0, 0)) bk_ hb)
                              have n3_ := Aside0.mk (blk_below (g := gb200) (o := .cells #[.int .i64 t198, .int .i64 t199] 25 (0, 0)) bk_ hb)
                              have n4_ := Aside0.mk (blk_below (g := gb211) (o := .cells #[.int .i64 (wrap64 (Int.tdiv x7_3 16)), .int .i64 (Int.tmod x7_3 16)] 25 (0, 0)) bk_ hb)
                              have n5_ := Aside0.mk (below_step hb_ hb)
                              clear BK193
                              clear BK194
                              clear BK197
                              clear BK200
                              clear BK211
                              clear HB
                              have BK193 := n0_
                              have BK194 := n1_
                              have BK197 := n2_
                              have BK200 := n3_
                              have BK211 := n4_
                              have HB := n5_
                              clear n0_ n1_ n2_ n3_ n4_ n5_
                              (try clear hb)
                              (try clear hb2)
                              (try clear hk)
                              (try clear hi)
                              refine hK.out _ _ ⟨(blk_cell BK197.out 0).trans rfl, (blk_cell BK197.out 1).trans rfl, (blk_cell BK211.out 0).trans rfl, (blk_cell BK211.out 1).trans rfl, (blk_cell BK193.out 0).trans rfl, (blk_cell BK193.out 1).trans rfl, (blk_cell BK200.out 0).trans rfl, (blk_cell BK200.out 1).trans rfl⟩ (fun hHeld => ?_)
                              clear hK K
                              refine norm_ (a' := ?_) ?_ ?_
                              rotate_left
                              · show Act.put _ (some 79) _ = _
                                simp only [Act.put, List.setIfInBounds_toArray, List.set_cons_zero, List.set_cons_succ, i64_w, i32_w]
                                rfl
                              refine one_ (i := 5) (N := some 82) #[true, true, true, true, true, true, false, false, false, false, false, false, false, false, false, false, false, false, false, false, false, false, false, false, false, false] rfl rfl (one_of HT_.out (by kernel_rfl)) (by decide) (fun K hK => ?_)
                              refine goes_ Try.func18 (by kernel_rfl) rfl #[.agg #[.int .i64 t189, .int .i64 t190], .agg #[.int .i64 (wrap64 (Int.tdiv x7_3 16)), .int .i64 (Int.tmod x7_3 16)]] (by rfl) rfl rfl ml_ ?_
                              with_reducible refine (impl_LblFlows.calls t189 t190 (wrap64 (Int.tdiv x7_3 16)) (Int.tmod x7_3 16) false _ A95.out).mono ?_
                              rintro e w234 ⟨rfl, hb⟩
                              refine ⟨_, rfl, ?_⟩
                              have n0_ := Aside0.mk (blk_below (g := gb193) (o := .cells #[.int .i64 t189, .int .i64 t190] 25 (0, 0)) bk_ hb)
                              have n1_ := Aside0.mk (blk_below (g := gb194) (o := .cells #[.int .i64 t191, .int .i64 t192] 25 (0, 0)) bk_ hb)
                              have n2_ := Aside0.mk (blk_below (g := gb197) (o := .cells #[.int .i64 t195, .int .i64 t196] 25 (0, 0)) bk_ hb)
                              have n3_ := Aside0.mk (blk_below (g := gb200) (o := .cells #[.int .i64 t198, .int .i64 t199] 25 (0, 0)) bk_ hb)
                              have n4_ := Aside0.mk (blk_below (g := gb211) (o := .cells #[.int .i64 (wrap64 (Int.tdiv x7_3 16)), .int .i64 (Int.tmod x7_3 16)] 25 (0, 0)) bk_ hb)
                              have n5_ := Aside0.mk (below_step hb_ hb)
                              clear BK193
                              clear BK194
                              clear BK197
                              clear BK200
                              clear BK211
                              clear HB
                              have BK193 := n0_
                              have BK194 := n1_
                              have BK197 := n2_
                              have BK200 := n3_
                              have BK211 := n4_
                              have HB := n5_
                              clear n0_ n1_ n2_ n3_ n4_ n5_
                              (try clear hb)
                              (try clear hb2)
                              (try clear hk)
                              (try clear hi)
                              refine hK.out _ _ ⟨(blk_cell BK197.out 0).trans rfl, (blk_cell BK197.out 1).trans rfl, (blk_cell BK211.out 0).trans rfl, (blk_cell BK211.out 1).trans rfl, (blk_cell BK193.out 0).trans rfl, (blk_cell BK193.out 1).trans rfl, (blk_cell BK200.out 0).trans rfl, (blk_cell BK200.out 1).trans rfl⟩ (fun hHeld => ?_)
                              clear hK K
                              refine norm_ (a' := ?_) ?_ ?_
                              rotate_left
                              · show Act.put _ (some 82) _ = _
                                simp only [Act.put, List.setIfInBounds_toArray, List.set_cons_zero, List.set_cons_succ, i64_w, i32_w]
                                rfl
                              refine pure_ (i := 6) (N := some 83) (v := ?_) (a' := ?_) #[true, true, true, true, true, true, true, false, false, false, false, false, false, false, false, false, false, false, false, false, false, false, false, false, false, false] rfl rfl (any_of HT_.out (by kernel_rfl)) (fun _ _ _ h => h) (Or.inl ⟨by rfl, ?_⟩) ?_ ?_
                              rotate_left
                              · intro w'
                                go_simp
                                with_reducible rfl
                              rotate_left
                              · simp only [Act.put, List.setIfInBounds_toArray, List.set_cons_zero, List.set_cons_succ, i64_w, i32_w]
                                rfl
                              refine pure_ (i := 7) (N := some 84) (v := undef) (a' := ?_) #[true, true, true, true, true, true, true, true, false, false, false, false, false, false, false, false, false, false, false, false, false, false, false, false, false, false] rfl rfl (any_of HT_.out (by kernel_rfl)) (fun _ _ _ h => h) (Or.inr ⟨by rfl, rfl⟩) ?_ ?_
                              rotate_left
                              · simp only [Act.put, List.setIfInBounds_toArray, List.set_cons_zero, List.set_cons_succ, i64_w, i32_w]
                                rfl
                              refine pure_ (i := 8) (N := some 85) (v := undef) (a' := ?_) #[true, true, true, true, true, true, true, true, true, false, false, false, false, false, false, false, false, false, false, false, false, false, false, false, false, false] rfl rfl (any_of HT_.out (by kernel_rfl)) (fun _ _ _ h => h) (Or.inr ⟨by rfl, rfl⟩) ?_ ?_
                              rotate_left
                              · simp only [Act.put, List.setIfInBounds_toArray, List.set_cons_zero, List.set_cons_succ, i64_w, i32_w]
                                rfl
                              refine pure_ (i := 9) (N := some 86) (v := undef) (a' := ?_) #[true, true, true, true, true, true, true, true, true, true, false, false, false, false, false, false, false, false, false, false, false, false, false, false, false, false] rfl rfl (any_of HT_.out (by kernel_rfl)) (fun _ _ _ h => h) (Or.inr ⟨by rfl, rfl⟩) ?_ ?_
                              rotate_left
                              · simp only [Act.put, List.setIfInBounds_toArray, List.set_cons_zero, List.set_cons_succ, i64_w, i32_w]
                                rfl
                              refine pure_ (i := 10) (N := some 87) (v := ?_) (a' := ?_) #[true, true, true, true, true, true, true, true, true, true, true, false, false, false, false, false, false, false, false, false, false, false, false, false, false, false] rfl rfl (any_of HT_.out (by kernel_rfl)) (fun _ _ _ h => h) (Or.inl ⟨by rfl, ?_⟩) ?_ ?_
                              rotate_left
                              · intro w'
                                go_simp
                                with_reducible rfl
                              rotate_left
                              · simp only [Act.put, List.setIfInBounds_toArray, List.set_cons_zero, List.set_cons_succ, i64_w, i32_w]
                                rfl
                              refine pure_ (i := 11) (N := some 88) (v := ?_) (a' := ?_) #[true, true, true, true, true, true, true, true, true, true, true, true, false, false, false, false, false, false, false, false, false, false, false, false, false, false] rfl rfl (any_of HT_.out (by kernel_rfl)) (fun _ _ _ h => h) (Or.inl ⟨by rfl, ?_⟩) ?_ ?_
                              rotate_left
                              · intro w'
                                go_simp
                                with_reducible rfl
                              rotate_left
                              · simp only [Act.put, List.setIfInBounds_toArray, List.set_cons_zero, List.set_cons_succ, i64_w, i32_w]
                                rfl
                              refine pure_ (i := 12) (N := some 89) (v := ?_) (a' := ?_) #[true, true, true, true, true, true, true, true, true, true, true, true, true, false, false, false, false, false, false, false, false, false, false, false, false, false] rfl rfl (any_of HT_.out (by kernel_rfl)) (fun _ _ _ h => h) (Or.inl ⟨by rfl, ?_⟩) ?_ ?_
                              rotate_left
                              · intro w'
                                go_simp
                                with_reducible rfl
                              rotate_left
                              · simp only [Act.put, List.setIfInBounds_toArray, List.set_cons_zero, List.set_cons_succ, i64_w, i32_w]
                                rfl
                              refine take_ (i := 13) (N := some 90) (v := ?_) (a' := ?_) #[true, true, true, true, true, true, true, true, true, true, true, true, true, true, false, false, false, false, false, false, false, false, false, false, false, false] rfl rfl (take_ofW HT_.out HW_.out (by kernel_rfl)) (fun _ _ _ h => h) (Or.inl ⟨by rfl, ?_⟩) hHeld ?_ ?_
                              rotate_left
                              · rintro w' ⟨s0, s1, s2, s3, s4, s5, s6, s7⟩
                                go_simp
                                with_reducible rfl
                              rotate_left
                              · simp only [Act.put, List.setIfInBounds_toArray, List.set_cons_zero, List.set_cons_succ, i64_w, i32_w]
                                rfl
                              refine take_ (i := 14) (N := some 91) (v := ?_) (a' := ?_) #[true, true, true, true, true, true, true, true, true, true, true, true, true, true, true, false, false, false, false, false, false, false, false, false, false, false] rfl rfl (take_ofW HT_.out HW_.out (by kernel_rfl)) (fun _ _ _ h => h) (Or.inl ⟨by rfl, ?_⟩) hHeld ?_ ?_
                              rotate_left
                              · rintro w' ⟨s0, s1, s2, s3, s4, s5, s6, s7⟩
                                go_simp
                                with_reducible rfl
                              rotate_left
                              · simp only [Act.put, List.setIfInBounds_toArray, List.set_cons_zero, List.set_cons_succ, i64_w, i32_w]
                                rfl
                              refine take_ (i := 16) (N := some 93) (v := ?_) (a' := ?_) #[true, true, true, true, true, true, true, true, true, true, true, true, true, true, true, false, true, false, false, false, false, false, false, false, false, false] rfl rfl (take_ofW HT_.out HW_.out (by kernel_rfl)) (fun _ _ _ h => h) (Or.inl ⟨by rfl, ?_⟩) hHeld ?_ ?_
                              rotate_left
                              · rintro w' ⟨s0, s1, s2, s3, s4, s5, s6, s7⟩
                                go_simp
                                with_reducible rfl
                              rotate_left
                              · simp only [Act.put, List.setIfInBounds_toArray, List.set_cons_zero, List.set_cons_succ, i64_w, i32_w]
                                rfl
                              refine take_ (i := 17) (N := some 94) (v := ?_) (a' := ?_) #[true, true, true, true, true, true, true, true, true, true, true, true, true, true, true, false, true, true, false, false, false, false, false, false, false, false] rfl rfl (take_ofW HT_.out HW_.out (by kernel_rfl)) (fun _ _ _ h => h) (Or.inl ⟨by rfl, ?_⟩) hHeld ?_ ?_
                              rotate_left
                              · rintro w' ⟨s0, s1, s2, s3, s4, s5, s6, s7⟩
                                go_simp
                                with_reducible rfl
                              rotate_left
                              · simp only [Act.put, List.setIfInBounds_toArray, List.set_cons_zero, List.set_cons_succ, i64_w, i32_w]
                                rfl
                              refine one_ (i := 15) (N := some 92) #[true, true, true, true, true, true, true, true, true, true, true, true, true, true, true, true, true, true, false, false, false, false, false, false, false, false] rfl rfl (one_of HT_.out (by kernel_rfl)) (by decide) (fun K hK => ?_)
                              refine goes_ Try.func18 (by kernel_rfl) rfl #[.agg #[.int .i64 (wrap64 (Int.tdiv x7_3 16)), .int .i64 (Int.tmod x7_3 16)], .agg #[.int .i64 t198, .int .i64 t199]] (by rfl) rfl rfl ml_ ?_
                              with_reducible refine (impl_LblFlows.calls (wrap64 (Int.tdiv x7_3 16)) (Int.tmod x7_3 16) t198 t199 t218 _ A181.out).mono ?_
                              rintro e w235 ⟨rfl, hb⟩
                              refine ⟨_, rfl, ?_⟩
                              have n0_ := Aside0.mk (blk_below (g := gb193) (o := .cells #[.int .i64 t189, .int .i64 t190] 25 (0, 0)) bk_ hb)
                              have n1_ := Aside0.mk (blk_below (g := gb194) (o := .cells #[.int .i64 t191, .int .i64 t192] 25 (0, 0)) bk_ hb)
                              have n2_ := Aside0.mk (blk_below (g := gb197) (o := .cells #[.int .i64 t195, .int .i64 t196] 25 (0, 0)) bk_ hb)
                              have n3_ := Aside0.mk (blk_below (g := gb200) (o := .cells #[.int .i64 t198, .int .i64 t199] 25 (0, 0)) bk_ hb)
                              have n4_ := Aside0.mk (blk_below (g := gb211) (o := .cells #[.int .i64 (wrap64 (Int.tdiv x7_3 16)), .int .i64 (Int.tmod x7_3 16)] 25 (0, 0)) bk_ hb)
                              have n5_ := Aside0.mk (below_step hb_ hb)
                              clear BK193
                              clear BK194
                              clear BK197
                              clear BK200
                              clear BK211
                              clear HB
                              have BK193 := n0_
                              have BK194 := n1_
                              have BK197 := n2_
                              have BK200 := n3_
                              have BK211 := n4_
                              have HB := n5_
                              clear n0_ n1_ n2_ n3_ n4_ n5_
                              (try clear hb)
                              (try clear hb2)
                              (try clear hk)
                              (try clear hi)
                              refine hK.out _ _ ⟨(blk_cell BK197.out 0).trans rfl, (blk_cell BK197.out 1).trans rfl, (blk_cell BK211.out 0).trans rfl, (blk_cell BK211.out 1).trans rfl, (blk_cell BK193.out 0).trans rfl, (blk_cell BK193.out 1).trans rfl, (blk_cell BK200.out 0).trans rfl, (blk_cell BK200.out 1).trans rfl⟩ (fun hHeld => ?_)
                              clear hK K
                              refine norm_ (a' := ?_) ?_ ?_
                              rotate_left
                              · show Act.put _ (some 92) _ = _
                                simp only [Act.put, List.setIfInBounds_toArray, List.set_cons_zero, List.set_cons_succ, i64_w, i32_w]
                                rfl
                              refine one_ (i := 18) (N := some 95) #[true, true, true, true, true, true, true, true, true, true, true, true, true, true, true, true, true, true, true, false, false, false, false, false, false, false] rfl rfl (one_of HT_.out (by kernel_rfl)) (by decide) (fun K hK => ?_)
                              refine goes_ Try.func18 (by kernel_rfl) rfl #[.agg #[.int .i64 (wrap64 (Int.tdiv x7_3 16)), .int .i64 (Int.tmod x7_3 16)], .agg #[.int .i64 t189, .int .i64 t190]] (by rfl) rfl rfl ml_ ?_
                              with_reducible refine (impl_LblFlows.calls (wrap64 (Int.tdiv x7_3 16)) (Int.tmod x7_3 16) t189 t190 false _ A182.out).mono ?_
                              rintro e w236 ⟨rfl, hb⟩
                              refine ⟨_, rfl, ?_⟩
                              have n0_ := Aside0.mk (blk_below (g := gb193) (o := .cells #[.int .i64 t189, .int .i64 t190] 25 (0, 0)) bk_ hb)
                              have n1_ := Aside0.mk (blk_below (g := gb194) (o := .cells #[.int .i64 t191, .int .i64 t192] 25 (0, 0)) bk_ hb)
                              have n2_ := Aside0.mk (blk_below (g := gb197) (o := .cells #[.int .i64 t195, .int .i64 t196] 25 (0, 0)) bk_ hb)
                              have n3_ := Aside0.mk (blk_below (g := gb200) (o := .cells #[.int .i64 t198, .int .i64 t199] 25 (0, 0)) bk_ hb)
                              have n4_ := Aside0.mk (blk_below (g := gb211) (o := .cells #[.int .i64 (wrap64 (Int.tdiv x7_3 16)), .int .i64 (Int.tmod x7_3 16)] 25 (0, 0)) bk_ hb)
                              have n5_ := Aside0.mk (below_step hb_ hb)
                              clear BK193
                              clear BK194
                              clear BK197
                              clear BK200
                              clear BK211
                              clear HB
                              have BK193 := n0_
                              have BK194 := n1_
                              have BK197 := n2_
                              have BK200 := n3_
                              have BK211 := n4_
                              have HB := n5_
                              clear n0_ n1_ n2_ n3_ n4_ n5_
                              (try clear hb)
                              (try clear hb2)
                              (try clear hk)
                              (try clear hi)
                              refine hK.out _ _ ⟨(blk_cell BK197.out 0).trans rfl, (blk_cell BK197.out 1).trans rfl, (blk_cell BK211.out 0).trans rfl, (blk_cell BK211.out 1).trans rfl, (blk_cell BK193.out 0).trans rfl, (blk_cell BK193.out 1).trans rfl, (blk_cell BK200.out 0).trans rfl, (blk_cell BK200.out 1).trans rfl⟩ (fun hHeld => ?_)
                              clear hK K
                              refine norm_ (a' := ?_) ?_ ?_
                              rotate_left
                              · show Act.put _ (some 95) _ = _
                                simp only [Act.put, List.setIfInBounds_toArray, List.set_cons_zero, List.set_cons_succ, i64_w, i32_w]
                                rfl
                              refine pure_ (i := 19) (N := some 96) (v := ?_) (a' := ?_) #[true, true, true, true, true, true, true, true, true, true, true, true, true, true, true, true, true, true, true, true, false, false, false, false, false, false] rfl rfl (any_of HT_.out (by kernel_rfl)) (fun _ _ _ h => h) (Or.inl ⟨by rfl, ?_⟩) ?_ ?_
                              rotate_left
                              · intro w'
                                go_simp
                                with_reducible rfl
                              rotate_left
                              · simp only [Act.put, List.setIfInBounds_toArray, List.set_cons_zero, List.set_cons_succ, i64_w, i32_w]
                                rfl
                              refine pure_ (i := 20) (N := some 97) (v := undef) (a' := ?_) #[true, true, true, true, true, true, true, true, true, true, true, true, true, true, true, true, true, true, true, true, true, false, false, false, false, false] rfl rfl (any_of HT_.out (by kernel_rfl)) (fun _ _ _ h => h) (Or.inr ⟨by rfl, rfl⟩) ?_ ?_
                              rotate_left
                              · simp only [Act.put, List.setIfInBounds_toArray, List.set_cons_zero, List.set_cons_succ, i64_w, i32_w]
                                rfl
                              refine pure_ (i := 21) (N := some 98) (v := undef) (a' := ?_) #[true, true, true, true, true, true, true, true, true, true, true, true, true, true, true, true, true, true, true, true, true, true, false, false, false, false] rfl rfl (any_of HT_.out (by kernel_rfl)) (fun _ _ _ h => h) (Or.inr ⟨by rfl, rfl⟩) ?_ ?_
                              rotate_left
                              · simp only [Act.put, List.setIfInBounds_toArray, List.set_cons_zero, List.set_cons_succ, i64_w, i32_w]
                                rfl
                              refine pure_ (i := 22) (N := some 99) (v := undef) (a' := ?_) #[true, true, true, true, true, true, true, true, true, true, true, true, true, true, true, true, true, true, true, true, true, true, true, false, false, false] rfl rfl (any_of HT_.out (by kernel_rfl)) (fun _ _ _ h => h) (Or.inr ⟨by rfl, rfl⟩) ?_ ?_
                              rotate_left
                              · simp only [Act.put, List.setIfInBounds_toArray, List.set_cons_zero, List.set_cons_succ, i64_w, i32_w]
                                rfl
                              refine pure_ (i := 23) (N := some 100) (v := ?_) (a' := ?_) #[true, true, true, true, true, true, true, true, true, true, true, true, true, true, true, true, true, true, true, true, true, true, true, true, false, false] rfl rfl (any_of HT_.out (by kernel_rfl)) (fun _ _ _ h => h) (Or.inl ⟨by rfl, ?_⟩) ?_ ?_
                              rotate_left
                              · intro w'
                                go_simp
                                with_reducible rfl
                              rotate_left
                              · simp only [Act.put, List.setIfInBounds_toArray, List.set_cons_zero, List.set_cons_succ, i64_w, i32_w]
                                rfl
                              refine pure_ (i := 24) (N := some 101) (v := ?_) (a' := ?_) #[true, true, true, true, true, true, true, true, true, true, true, true, true, true, true, true, true, true, true, true, true, true, true, true, true, false] rfl rfl (any_of HT_.out (by kernel_rfl)) (fun _ _ _ h => h) (Or.inl ⟨by rfl, ?_⟩) ?_ ?_
                              rotate_left
                              · intro w'
                                go_simp
                                with_reducible rfl
                              rotate_left
                              · simp only [Act.put, List.setIfInBounds_toArray, List.set_cons_zero, List.set_cons_succ, i64_w, i32_w]
                                rfl
                              refine pure_ (i := 25) (N := some 102) (v := ?_) (a' := ?_) #[true, true, true, true, true, true, true, true, true, true, true, true, true, true, true, true, true, true, true, true, true, true, true, true, true, true] rfl rfl (any_of HT_.out (by kernel_rfl)) (fun _ _ _ h => h) (Or.inl ⟨by rfl, ?_⟩) ?_ ?_
                              rotate_left
                              · intro w'
                                go_simp
                                with_reducible rfl
                              rotate_left
                              · simp only [Act.put, List.setIfInBounds_toArray, List.set_cons_zero, List.set_cons_succ, i64_w, i32_w]
                                rfl
                              refine done_ (done_of HT_.out (by kernel_rfl)) ?_
                              try go_wp2
                              go_roundg k3
                              case measure => have := HJ5.out; have := HJ51.out; have := HK3.out; omega
                              case rel => exact ⟨(wrap64 (x7_3 + 1)), rs_, H', ⟨by have := HJ5.out; have := HJ51.out; have := HK3.out; omega⟩, ⟨by (with_reducible repeat (first | refine blk_drewN ?_ _ | refine blk_drew ?_ | refine blk_alloc ?_ _)); exact BK193.out⟩, ⟨by (with_reducible repeat (first | refine blk_drewN ?_ _ | refine blk_drew ?_ | refine blk_alloc ?_ _)); exact BK194.out⟩, ⟨by (with_reducible repeat (first | refine blk_drewN ?_ _ | refine blk_drew ?_ | refine blk_alloc ?_ _)); exact BK197.out⟩, ⟨by (with_reducible repeat (first | refine blk_drewN ?_ _ | refine blk_drew ?_ | refine blk_alloc ?_ _)); exact BK200.out⟩, ⟨hb_⟩⟩
                    · rw [if_neg c93] at H
                      have c93b0 : decide (x7_3 < 64) = false := decide_eq_false c93
                      clear c93
                      obtain rfl := Option.some.inj H
                      go_wp2
                      go_ret
                      exact ⟨by first | rfl | (simp [errW_none, errW_some] <;> rfl) | (simp [*, errW_none, errW_some] <;> rfl), hb_⟩

/-- THE ONE PURE STATEMENT of laws_FnLblBounds: yours. -/
def laws_FnLblBounds.Pure : Prop := ∀ (l0 : List Int), l0.length ≤ maxLen → l0.length * 1 ≤ 140737488351232 → (∀ x ∈ l0, (Lit.int .u8 x).wf = true) → ∃ k, laws_FnLblBounds.f k l0 = some true
theorem laws_FnLblBounds.walk (P : laws_FnLblBounds.Pure) (a0 : Option Addr) (len0 cap0 : Nat) (z0 : List Int) (w : World) (w0 : (a0 = none ∧ len0 = 0 ∧ cap0 = 0 ∧ z0 = []) ∨ ∃ x, a0 = some x ∧ len0 ≤ cap0 ∧ cap0 ≤ maxLen ∧ z0.length = cap0 ∧ (∀ i, i < z0.length → w.cell? (x.add i) = some (.int .u8 (z0.getD i 0))) ∧ ∀ n ∈ z0, (Lit.int .u8 n).wf = true) (y0 : len0 * 1 ≤ 140737488351232) :
    Calls Try.prog 10 #[.slice a0 len0 cap0] w fun e w' => e = .returned (.bool true) ∧ Below w.heap.size w w' := by
  obtain ⟨l0, rfl, hr0, hm0, hw0, hc0⟩ := ReadsInt.ofRowC w0
  obtain ⟨k, h⟩ := P l0 hm0 y0 hw0
  refine (laws_FnLblBounds.calls k _ _ l0 true w (Kd.C_of_reads (d := (0 : Int)) (h1 := fun _ => rfl) hr0) hc0 h ⟨rfl⟩).mono ?_
  rintro e w' ⟨rfl, hd⟩
  exact ⟨rfl, hd⟩

end Go.Proofs.Ytffbdnnmpopieaa.Y
