/- The law of OneOk: its code always says yes. -/
import Derived.Test.YtjlmfcddbcoimaaGreatCOneG
import Derived.Test.YtjlmfcddbcoimaaGreatCOneI
import Derived.Test.YtjlmfcddbcoimaaGreatCOneE
import Derived.Test.YtjlmfcddbcoimaaGreatCOneZ
import Derived.Test.YtjlmfcddbcoimaaGreatCPlnE
set_option maxRecDepth 100000
set_option maxHeartbeats 4000000
set_option linter.unusedSimpArgs false
set_option linter.unusedVariables false
namespace Go.Proofs.YtjlmfcddbcoimaaGreat.C
open Go Go.Av Go.Proofs
theorem szL_ok {k : Nat} {a : Int} (q : decide (szL k a < 0) = false) (h0 : 0 ≤ a) : (k : Int) ≤ a := by
  simp only [decide_eq_false_iff_not] at q
  unfold szL at q
  split at q <;> omega
theorem szL_eq {k : Nat} {a : Int} (h : (k : Int) ≤ a) : szL k a = a - k := by
  unfold szL; rw [if_neg (by omega)]
theorem szOne {P : Program} [Known P] (hP : P = Tryz.prog) (x : VOne) (a : Int) (h1 : 0 ≤ a) (h2 : a ≤ 1048576) : Fun P 32 [.agg (oneS x), .int .i64 a] (.int .i64 (szL (oneN x) a)) := by
  simpa only [oneN, Nat.add_assoc] using szOneState hP x a h1 h2
theorem TY_lawOneOk {P : Program} (hP : P = Tryz.prog) : ((P.follows .mixedOrders = true) ∧ (tyT P 68 = some ((true, 14)))) ∧ ((zeroT P 73 = some (((.int .i64 0) :: ((.int .i64 0) :: ((.int .i64 0) :: (.nils :: (.nils :: (.nils :: (.nils :: (.nils :: (.nils :: (.nils :: (.nils :: (.nils :: ((.int .i64 0) :: (.nils :: [])))))))))))))))) ∧ ((tyT P 73 = some ((true, 14))) ∧ (bolT P 4 = true))) := by subst hP; refine ⟨⟨?_, ?_⟩, ⟨?_, ⟨?_, ?_⟩⟩⟩ <;> kernel_rfl
theorem lawOneOk {P : Program} [Known P] (hP : P = Tryz.prog) (x : VOne) : Fun P 8 [.agg (oneS x)] (.bool true) := by
  refine fun_of (fn := Tryz.f8) (hP ▸ Tryz.func8) (by kernel_rfl) (by kernel_rfl) (by kernel_rfl) (by kernel_rfl) ?_
  have hT := TY_lawOneOk hP
  have hm : P.follows .mixedOrders = true := by subst hP; kernel_rfl
  have sz_x := fun a h1 h2 => szOne hP x a h1 h2
  have to_x := fun h => toOneState hP x h
  have eq_x := eqOneState hP x
  have os := fun (hs_x : SzO x) => oneOkS hP x hs_x
  have oi := fun (hs_x : SzO x) => oneOkI hP x hs_x
  clear hP
  intro hl
  clear hl
  simp only [oneS] at sz_x to_x eq_x os oi
  simp only [oneO] at to_x
  simp only [oneS, Tryz.f8, hT, eA, Nat.beq, List.toArray, Nat.reduceAdd, Nat.reduceLT, Nat.reduceLeDiff, Int.reduceToNat]
  refine Fun.plain (sz_x (1048576) (by omega) (by omega)) rfl rfl rfl rfl ?_
  simp only [hT, eA, Nat.beq, List.toArray, Nat.reduceAdd, Nat.reduceLT, Nat.reduceLeDiff, Int.reduceToNat]
  refine ⟨fun q => by first | rfl | trivial, fun q => ?_⟩
  have h_x := szL_ok q (by omega)
  try rw [szL_eq h_x]
  have hs_x := SzO.of (show oneN x ≤ 1048576 by omega)
  have to_x := to_x hs_x
  have os := os hs_x
  have oi := oi hs_x
  generalize oneB x = b at *
  repeat' first
    | (with_reducible refine And.intro ?_ ?_)
    | (show wpc P _ (Code.region 10 _ _) _ _; refine wpc_draw (.alt 0 (.alt 1 (.alt 2 (.alt 3 (.take 4 .done) .stop) .stop) .stop) (.alt 1 (.alt 0 (.alt 2 (.alt 3 (.take 4 .done) .stop) .stop) (.alt 2 (.alt 0 (.alt 3 (.take 4 .done) .stop) .stop) .stop)) .stop)) hm (by kernel_rfl) ?_; simp only [hT, ↓If_lit, eT, ↓If_lit, PCall, Nat.reduceSub, reduceCtorEq, eA, Nat.beq, List.toArray, Nat.reduceAdd, Nat.reduceLT, Nat.reduceLeDiff, Int.reduceToNat])
    | (refine Fun.plain to_x rfl rfl rfl rfl ?_; simp only [hT, ↓If_lit, Bool.not_true, eT, ↓If_lit, PCall, Nat.reduceSub, reduceCtorEq, eA, Nat.beq, List.toArray, Nat.reduceAdd, Nat.reduceLT, Nat.reduceLeDiff, Int.reduceToNat])
    | (refine Fun.lent os (by simp only [Int.cast_ofNat_Int, List.map_cons, List.map_nil, pur, geth, Nat.beq, cond_true, cond_false, rdR_byt, rdL, AV.rd, AV.nbV, AV.nb, rdR_cell, rdR_way, rdR_slot, rdR_turn, rdR_cel, rdR_box, rdR_out, rdR_inn, rdR_int, rdR_msg, rdR_bool, rdR_seen, rdR_air, rdR_nod]) (by rfl) rfl rfl rfl ?_; simp only [hT, ↓If_lit, bne_self_eq_false, beq_self_eq_true, Bool.not_true, eT, ↓If_lit, PCall, Nat.reduceSub, reduceCtorEq, eA, Nat.beq, List.toArray, Nat.reduceAdd, Nat.reduceLT, Nat.reduceLeDiff, Int.reduceToNat])
    | (refine Fun.lent oi (by simp only [Int.cast_ofNat_Int, List.map_cons, List.map_nil, pur, geth, Nat.beq, cond_true, cond_false, rdR_byt, rdL, AV.rd, AV.nbV, AV.nb, rdR_cell, rdR_way, rdR_slot, rdR_turn, rdR_cel, rdR_box, rdR_out, rdR_inn, rdR_int, rdR_msg, rdR_bool, rdR_seen, rdR_air, rdR_nod]) (by rfl) rfl rfl rfl ?_; simp only [hT, ↓If_lit, bne_self_eq_false, beq_self_eq_true, Bool.not_true, eT, ↓If_lit, PCall, Nat.reduceSub, reduceCtorEq, eA, Nat.beq, List.toArray, Nat.reduceAdd, Nat.reduceLT, Nat.reduceLeDiff, Int.reduceToNat])
    | (refine Fun.lent eq_x (by simp only [Int.cast_ofNat_Int, List.map_cons, List.map_nil, pur, geth, Nat.beq, cond_true, cond_false, rdR_byt, rdL, AV.rd, AV.nbV, AV.nb, rdR_cell, rdR_way, rdR_slot, rdR_turn, rdR_cel, rdR_box, rdR_out, rdR_inn, rdR_int, rdR_msg, rdR_bool, rdR_seen, rdR_air, rdR_nod]) (by rfl) rfl rfl rfl ?_; simp only [hT, ↓If_lit, bne_self_eq_false, beq_self_eq_true, Bool.not_true, eT, ↓If_lit, PCall, Nat.reduceSub, reduceCtorEq, eA, Nat.beq, List.toArray, Nat.reduceAdd, Nat.reduceLT, Nat.reduceLeDiff, Int.reduceToNat])
    | rfl
    | (intro _)
end Go.Proofs.YtjlmfcddbcoimaaGreat.C
