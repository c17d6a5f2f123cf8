/- The law of OneSame: its code always says yes. -/
import Derived.Test.YtjlmfcddbcoimaaGreatCOneK
import Derived.Test.YtjlmfcddbcoimaaGreatCOneE
import Derived.Test.YtjlmfcddbcoimaaGreatCOneZ
import Derived.Test.YtjlmfcddbcoimaaGreatCPlnE
set_option maxRecDepth 100000
set_option maxHeartbeats 4000000
set_option linter.unusedSimpArgs false
set_option linter.unusedVariables false
namespace Go.Proofs.YtjlmfcddbcoimaaGreat.C
open Go Go.Av Go.Proofs
theorem szL_ok {k : Nat} {a : Int} (q : decide (szL k a < 0) = false) (h0 : 0 ≤ a) : (k : Int) ≤ a := by
  simp only [decide_eq_false_iff_not] at q
  unfold szL at q
  split at q <;> omega
theorem szL_eq {k : Nat} {a : Int} (h : (k : Int) ≤ a) : szL k a = a - k := by
  unfold szL; rw [if_neg (by omega)]
theorem szOne {P : Program} [Known P] (hP : P = Tryz.prog) (x : VOne) (a : Int) (h1 : 0 ≤ a) (h2 : a ≤ 1048576) : Fun P 32 [.agg (oneS x), .int .i64 a] (.int .i64 (szL (oneN x) a)) := by
  simpa only [oneN, Nat.add_assoc] using szOneState hP x a h1 h2
theorem TY_lawOneSame {P : Program} (hP : P = Tryz.prog) : ((P.follows .mixedOrders = true) ∧ (tyT P 68 = some ((true, 14)))) ∧ ((zeroT P 73 = some (((.int .i64 0) :: ((.int .i64 0) :: ((.int .i64 0) :: (.nils :: (.nils :: (.nils :: (.nils :: (.nils :: (.nils :: (.nils :: (.nils :: (.nils :: ((.int .i64 0) :: (.nils :: [])))))))))))))))) ∧ ((tyT P 73 = some ((true, 14))) ∧ (bolT P 4 = true))) := by subst hP; refine ⟨⟨?_, ?_⟩, ⟨?_, ⟨?_, ?_⟩⟩⟩ <;> kernel_rfl
theorem lawOneSame {P : Program} [Known P] (hP : P = Tryz.prog) (x : VOne) (y : VOne) : Fun P 9 [.agg (oneS x), .agg (oneS y)] (.bool true) := by
  refine fun_of (fn := Tryz.f9) (hP ▸ Tryz.func9) (by kernel_rfl) (by kernel_rfl) (by kernel_rfl) (by kernel_rfl) ?_
  have hT := TY_lawOneSame hP
  have hm : P.follows .mixedOrders = true := by subst hP; kernel_rfl
  have sz_x := fun a h1 h2 => szOne hP x a h1 h2
  have to_x := fun h => toOneState hP x h
  have eq_x := eqOneState hP x
  have sz_y := fun a h1 h2 => szOne hP y a h1 h2
  have to_y := fun h => toOneState hP y h
  have eq_y := eqOneState hP y
  have os := fun (hs_x : SzO x) (hs_y : SzO y) => oneSameS hP x y hs_x hs_y
  have oi := fun (hs_x : SzO x) (hs_y : SzO y) => oneSameI hP x y hs_x hs_y
  clear hP
  intro hl
  clear hl
  simp only [oneS] at sz_x to_x eq_x sz_y to_y eq_y os oi
  simp only [oneO] at to_x to_y
  simp only [oneS, Tryz.f9, hT, eA, Nat.beq, List.toArray, Nat.reduceAdd, Nat.reduceLT, Nat.reduceLeDiff, Int.reduceToNat]
  refine Fun.plain (sz_x (1048576) (by omega) (by omega)) rfl rfl rfl rfl ?_
  simp only [hT, eA, Nat.beq, List.toArray, Nat.reduceAdd, Nat.reduceLT, Nat.reduceLeDiff, Int.reduceToNat]
  refine ⟨fun q => by first | rfl | trivial, fun q => ?_⟩
  have h_x := szL_ok q (by omega)
  try rw [szL_eq h_x]
  refine Fun.plain (sz_y (1048576 - (oneN x : Nat)) (by omega) (by omega)) rfl rfl rfl rfl ?_
  simp only [hT, eA, Nat.beq, List.toArray, Nat.reduceAdd, Nat.reduceLT, Nat.reduceLeDiff, Int.reduceToNat]
  refine ⟨fun q => by first | rfl | trivial, fun q => ?_⟩
  have h_y := szL_ok q (by omega)
  try rw [szL_eq h_y]
  have hs_x := SzO.of (show oneN x ≤ 1048576 by omega)
  have to_x := to_x hs_x
  have hs_y := SzO.of (show oneN y ≤ 1048576 by omega)
  have to_y := to_y hs_y
  have os := os hs_x hs_y
  have oi := oi hs_x hs_y
  generalize oneEq x y = b at *
  repeat' first
    | (with_reducible refine And.intro ?_ ?_)
    | (show wpc P _ (Code.region 8 _ _) _ _; refine wpc_draw (.alt 0 (.alt 1 (.alt 2 (.alt 3 (.alt 4 (.alt 5 .done .stop) .stop) .stop) .stop) (.alt 2 (.alt 1 (.alt 3 (.alt 4 (.alt 5 .done .stop) .stop) .stop) .stop) .stop)) (.alt 2 (.alt 0 (.alt 1 (.alt 3 (.alt 4 (.alt 5 .done .stop) .stop) .stop) .stop) .stop) .stop)) hm (by kernel_rfl) ?_; simp only [hT, ↓If_lit, eT, ↓If_lit, PCall, Nat.reduceSub, reduceCtorEq, eA, Nat.beq, List.toArray, Nat.reduceAdd, Nat.reduceLT, Nat.reduceLeDiff, Int.reduceToNat])
    | (show wpc P _ (Code.region 14 _ _) _ _; refine wpc_draw (.alt 0 (.alt 1 (.alt 2 (.alt 3 (.take 4 .done) .stop) .stop) .stop) (.alt 1 (.alt 0 (.alt 2 (.alt 3 (.take 4 .done) .stop) .stop) (.alt 2 (.alt 0 (.alt 3 (.take 4 .done) .stop) .stop) .stop)) .stop)) hm (by kernel_rfl) ?_; simp only [hT, ↓If_lit, eT, ↓If_lit, PCall, Nat.reduceSub, reduceCtorEq, eA, Nat.beq, List.toArray, Nat.reduceAdd, Nat.reduceLT, Nat.reduceLeDiff, Int.reduceToNat])
    | (show wpc P _ (Code.region 16 _ _) _ _; refine wpc_draw (.alt 0 (.alt 1 (.alt 2 (.alt 3 (.take 4 .done) .stop) .stop) .stop) (.alt 1 (.alt 0 (.alt 2 (.alt 3 (.take 4 .done) .stop) .stop) (.alt 2 (.alt 0 (.alt 3 (.take 4 .done) .stop) .stop) .stop)) .stop)) hm (by kernel_rfl) ?_; simp only [hT, ↓If_lit, eT, ↓If_lit, PCall, Nat.reduceSub, reduceCtorEq, eA, Nat.beq, List.toArray, Nat.reduceAdd, Nat.reduceLT, Nat.reduceLeDiff, Int.reduceToNat])
    | (refine Fun.plain to_x rfl rfl rfl rfl ?_; simp only [hT, ↓If_lit, Bool.not_true, eT, ↓If_lit, PCall, Nat.reduceSub, reduceCtorEq, eA, Nat.beq, List.toArray, Nat.reduceAdd, Nat.reduceLT, Nat.reduceLeDiff, Int.reduceToNat])
    | (refine Fun.plain to_y rfl rfl rfl rfl ?_; simp only [hT, ↓If_lit, Bool.not_true, eT, ↓If_lit, PCall, Nat.reduceSub, reduceCtorEq, eA, Nat.beq, List.toArray, Nat.reduceAdd, Nat.reduceLT, Nat.reduceLeDiff, Int.reduceToNat])
    | (refine Fun.lent os ?_ (by rfl) rfl rfl rfl ?_; (focus (simp only [Int.cast_ofNat_Int, List.map_cons, List.map_nil, pur, geth, Nat.beq, cond_true, cond_false, rdR_byt, rdL, AV.rd, AV.nbV, AV.nb, rdR_cell, rdR_way, rdR_slot, rdR_turn, rdR_cel, rdR_box, rdR_out, rdR_inn, rdR_int, rdR_msg, rdR_bool, rdR_seen, rdR_air, rdR_nod]; done)); simp only [hT, ↓If_lit, bne_self_eq_false, beq_self_eq_true, Bool.not_true, eT, ↓If_lit, PCall, Nat.reduceSub, reduceCtorEq, eA, Nat.beq, List.toArray, Nat.reduceAdd, Nat.reduceLT, Nat.reduceLeDiff, Int.reduceToNat])
    | (refine Fun.lent oi ?_ (by rfl) rfl rfl rfl ?_; (focus (simp only [Int.cast_ofNat_Int, List.map_cons, List.map_nil, pur, geth, Nat.beq, cond_true, cond_false, rdR_byt, rdL, AV.rd, AV.nbV, AV.nb, rdR_cell, rdR_way, rdR_slot, rdR_turn, rdR_cel, rdR_box, rdR_out, rdR_inn, rdR_int, rdR_msg, rdR_bool, rdR_seen, rdR_air, rdR_nod]; done)); simp only [hT, ↓If_lit, bne_self_eq_false, beq_self_eq_true, Bool.not_true, eT, ↓If_lit, PCall, Nat.reduceSub, reduceCtorEq, eA, Nat.beq, List.toArray, Nat.reduceAdd, Nat.reduceLT, Nat.reduceLeDiff, Int.reduceToNat])
    | (refine Fun.lent eq_x ?_ (by rfl) rfl rfl rfl ?_; (focus (simp only [Int.cast_ofNat_Int, List.map_cons, List.map_nil, pur, geth, Nat.beq, cond_true, cond_false, rdR_byt, rdL, AV.rd, AV.nbV, AV.nb, rdR_cell, rdR_way, rdR_slot, rdR_turn, rdR_cel, rdR_box, rdR_out, rdR_inn, rdR_int, rdR_msg, rdR_bool, rdR_seen, rdR_air, rdR_nod]; done)); simp only [hT, ↓If_lit, bne_self_eq_false, beq_self_eq_true, Bool.not_true, eT, ↓If_lit, PCall, Nat.reduceSub, reduceCtorEq, eA, Nat.beq, List.toArray, Nat.reduceAdd, Nat.reduceLT, Nat.reduceLeDiff, Int.reduceToNat])
    | (refine Fun.lent eq_y ?_ (by rfl) rfl rfl rfl ?_; (focus (simp only [Int.cast_ofNat_Int, List.map_cons, List.map_nil, pur, geth, Nat.beq, cond_true, cond_false, rdR_byt, rdL, AV.rd, AV.nbV, AV.nb, rdR_cell, rdR_way, rdR_slot, rdR_turn, rdR_cel, rdR_box, rdR_out, rdR_inn, rdR_int, rdR_msg, rdR_bool, rdR_seen, rdR_air, rdR_nod]; done)); simp only [hT, ↓If_lit, bne_self_eq_false, beq_self_eq_true, Bool.not_true, eT, ↓If_lit, PCall, Nat.reduceSub, reduceCtorEq, eA, Nat.beq, List.toArray, Nat.reduceAdd, Nat.reduceLT, Nat.reduceLeDiff, Int.reduceToNat])
    | rfl
    | (intro _)
end Go.Proofs.YtjlmfcddbcoimaaGreat.C
