/- The law of NodInput: its code always says yes. -/
import Derived.Test.YtjlmfcddbcoimaaGreatCInp
import Derived.Test.YtjlmfcddbcoimaaGreatCNodP
import Derived.Test.YtjlmfcddbcoimaaGreatCNodE
import Derived.Test.YtjlmfcddbcoimaaGreatCNodZ
import Derived.Test.YtjlmfcddbcoimaaGreatCPlnZ
import Derived.Test.YtjlmfcddbcoimaaGreatCPlnE
set_option maxRecDepth 100000
set_option maxHeartbeats 4000000
set_option linter.unusedSimpArgs false
set_option linter.unusedVariables false
namespace Go.Proofs.YtjlmfcddbcoimaaGreat.C
open Go Go.Av Go.Proofs
open Nat (reduceAdd reduceLT reduceLeDiff reduceSub)
open Int (reduceToNat)
theorem szL_ok {k : Nat} {a : Int} (q : decide (szL k a < 0) = false) (h0 : 0 ≤ a) : (k : Int) ≤ a := by
  simp only [decide_eq_false_iff_not] at q
  unfold szL at q
  split at q <;> omega
theorem szL_eq {k : Nat} {a : Int} (h : (k : Int) ≤ a) : szL k a = a - k := by
  unfold szL; rw [if_neg (by omega)]
theorem szPln {P : Program} [Known P] (hP : P = Tryz.prog) (x : VPln) (a : Int) (h1 : 0 ≤ a) (h2 : a ≤ 1048576) : Fun P 13 [.agg (plnS x), .int .i64 a] (.int .i64 (szL (plnN x) a)) := by
  simpa only [plnN, Nat.add_assoc] using szPlnPlan hP x a h1 h2
theorem szNod {P : Program} [Known P] (hP : P = Tryz.prog) (x : VNod) (a : Int) (h1 : 0 ≤ a) (h2 : a ≤ 1048576) : Fun P 22 [.agg (nodS x), .int .i64 a] (.int .i64 (szL (nodN x) a)) := by
  simpa only [nodN, Nat.add_assoc] using szNodNode hP x a h1 h2
theorem sumA_cons {α : Type} (f : α → Nat) (x : α) (l : List α) : sumA f (x :: l) = f x + sumA f l := by
  simp [sumA, sumT]
theorem sumC_le {α : Type} (c : α → Nat) (f : α → Nat) (a b : Nat) (h : ∀ x, c x ≤ a + b * f x) : ∀ l : List α, sumC c l ≤ a * l.length + b * sumA f l
  | [] => by simp [sumC]
  | x :: l => by
    have h1 := sumC_le c f a b h l
    have h2 := h x
    have h3 : b * (f x + sumA f l) = b * f x + b * sumA f l := Nat.mul_add _ _ _
    have h4 : a * (l.length + 1) = a * l.length + a := Nat.mul_succ _ _
    rw [sumC, sumA_cons, List.length_cons, h3, h4]
    omega
theorem plnM_le (p : VPln) : plnM p ≤ 7 * plnN p := by
  have h1 := sumC_le (fun x : VCell => 4 + 4 * x.2.2.2.1.length) (fun x => x.2.2.2.1.length) 4 4 (fun x => Nat.le_refl _) p.cells
  have h2 := sumC_le (fun x : VWay => 4 + 7 * x.2.2.2.2.1.length) (fun x => x.2.2.2.2.1.length) 4 7 (fun x => Nat.le_refl _) p.ways
  have h3 := sumC_le (fun x : List Int => 1 * x.length) (fun x => x.length) 0 1 (fun x => by omega) p.turns
  unfold plnM plnN
  omega
theorem sumC_const {α : Type} (c : α → Nat) (n : Nat) (l : List α) (h : ∀ x ∈ l, c x ≤ n) : sumC c l ≤ n * l.length := by
  induction l with
  | nil => simp [sumC]
  | cons x l ih =>
    have h1 := h x List.mem_cons_self
    have h2 := ih fun y hy => h y (List.mem_cons_of_mem _ hy)
    have h4 : n * (l.length + 1) = n * l.length + n := Nat.mul_succ _ _
    rw [sumC, List.length_cons, h4]; omega
theorem begN_T (p : VPln) (b : Int) (hs : Sz p) : nodT (begN p b) ≤ 100000000 := by
  have hc := hs.c
  have hw := hs.w
  have h1 := sumC_const (fun x : VCel => 2 + x.1.2.1.length + x.1.2.2.1.length + x.2.1.length) 14 (begN p b).cells (fun x hx => by
    simp only [begN, VNod.cells, List.mem_replicate] at hx; rw [hx.2]; exact Nat.le_refl _)
  have h2 := sumC_const (fun x : VBox => 1 + sumC (fun x : List UInt8 => x.length) x.2.1) 1 (begN p b).out (fun x hx => by
    simp only [begN, VNod.out, List.mem_map] at hx; obtain ⟨w, _, rfl⟩ := hx; simp [boxN, sumC])
  have h3 := sumC_const (fun x : VBox => 1 + sumC (fun x : List UInt8 => x.length) x.2.1) 1 (begN p b).inn (fun x hx => by
    simp only [begN, VNod.inn, List.mem_map] at hx; obtain ⟨w, _, rfl⟩ := hx; simp [boxN, sumC])
  have h4 := sumC_const (fun _ : VOut => 4) 4 (begN p b).outs (fun _ _ => Nat.le_refl _)
  have h5 := sumC_const (fun _ : VInn => 3) 3 (begN p b).inns (fun _ _ => Nat.le_refl _)
  have l1 : (begN p b).cells.length = p.cells.length := by simp [begN, VNod.cells]
  have l2 : (begN p b).out.length = p.ways.length := by simp [begN, VNod.out]
  have l3 : (begN p b).inn.length = p.ways.length := by simp [begN, VNod.inn]
  have l4 : (begN p b).outs.length = p.ways.length := by simp [begN, VNod.outs]
  have l5 : (begN p b).inns.length = p.ways.length := by simp [begN, VNod.inns]
  have l6 : (begN p b).heard.1.length ≤ 4 ∧ (begN p b).heard.2.1.length ≤ 4 := by
    simp only [begN, VNod.heard, hrdN]
    cases hq : (decide (p.1 < 1) || decide (4 < p.1)) with
    | true => simp
    | false => simp at hq; simp [zs]; omega
  unfold nodT
  omega
theorem nodT_le (n : VNod) : nodT n ≤ 4 * nodN n := by
  have h1 := sumC_le (fun x : VCel => 2 + x.1.2.1.length + x.1.2.2.1.length + x.2.1.length) (fun x => x.1.2.1.length + x.1.2.2.1.length + x.2.1.length) 2 1 (fun x => by omega) n.cells
  have h2 := sumC_le (fun x : VBox => 1 + sumC (fun x : List UInt8 => x.length) x.2.1) (fun x => x.2.1.length + sumA (fun x => x.length) x.2.1) 1 1 (fun x => by
    have := sumC_le (fun x : List UInt8 => x.length) (fun x => x.length) 0 1 (fun x => by omega) x.2.1
    omega) n.out
  have h3 := sumC_le (fun x : VBox => 1 + sumC (fun x : List UInt8 => x.length) x.2.1) (fun x => x.2.1.length + sumA (fun x => x.length) x.2.1) 1 1 (fun x => by
    have := sumC_le (fun x : List UInt8 => x.length) (fun x => x.length) 0 1 (fun x => by omega) x.2.1
    omega) n.inn
  have h4 := sumC_const (fun _ : VOut => 4) 4 n.outs (fun _ _ => Nat.le_refl _)
  have h5 := sumC_const (fun _ : VInn => 3) 3 n.inns (fun _ _ => Nat.le_refl _)
  unfold nodT nodN
  omega
theorem sumC_set {α : Type} (c : α → Nat) (x : α) : ∀ (l : List α) (k : Nat), sumC c (l.set k x) ≤ sumC c l + c x
  | [], k => by simp [sumC]
  | y :: l, 0 => by simp only [List.set_cons_zero, sumC]; omega
  | y :: l, k + 1 => by have := sumC_set c x l k; simp only [List.set_cons_succ, sumC]; omega
theorem sumC_get {α : Type} (c : α → Nat) (z : α) : ∀ (l : List α) (k : Nat), c (l.getD k z) ≤ sumC c l + c z
  | [], k => by simp [sumC]
  | y :: l, 0 => by simp only [List.getD_cons_zero, sumC]; omega
  | y :: l, k + 1 => by have := sumC_get c z l k; simp only [List.getD_cons_succ, sumC]; omega
theorem celIn_T (c : VCel) (v : Int) : 2 + (celIn c v).1.2.1.length + (celIn c v).1.2.2.1.length + (celIn c v).2.1.length ≤ 2 + c.1.2.1.length + c.1.2.2.1.length + c.2.1.length + 1 := by
  unfold celIn
  cases decide (6 ≤ (c.2.1.length : Int)) with
  | true => simp only [cond_true]; omega
  | false => simp only [cond_false, List.length_append, List.length_cons, List.length_nil]; omega
theorem sem_T (p : VPln) (n : VNod) (a d v : Int) (hs : Sz p) (hn : nodN n ≤ 1048576) : nodT (inputN p n a d v) ≤ 100000000 := by
  have h0 := nodT_le n
  unfold inputN
  cases okN p n a with
  | true =>
    rw [cond_true]
    unfold inputK
    cases inpB p n a d v with
    | true =>
      rw [cond_true]
      have h1 := sumC_set (fun x : VCel => 2 + x.1.2.1.length + x.1.2.2.1.length + x.2.1.length) (celIn (n.cell d.toNat) v) n.cells d.toNat
      have h2 : 2 + (n.cell d.toNat).1.2.1.length + (n.cell d.toNat).1.2.2.1.length + (n.cell d.toNat).2.1.length ≤ sumC (fun x : VCel => 2 + x.1.2.1.length + x.1.2.2.1.length + x.2.1.length) n.cells + 100 :=
        Nat.le_trans (sumC_get (fun x : VCel => 2 + x.1.2.1.length + x.1.2.2.1.length + x.2.1.length) cel0 n.cells d.toNat) (Nat.add_le_add_left (by decide) _)
      have h3 := celIn_T (n.cell d.toNat) v
      have h5 : nodT (setCel n d.toNat (celIn (n.cell d.toNat) v)) ≤ nodT n + (2 + (celIn (n.cell d.toNat) v).1.2.1.length + (celIn (n.cell d.toNat) v).1.2.2.1.length + (celIn (n.cell d.toNat) v).2.1.length) := by
        unfold nodT setCel VNod.cells VNod.out VNod.inn VNod.outs VNod.inns VNod.heard
        unfold VNod.cells at h1
        dsimp only at h1 ⊢
        omega
      have h6 : sumC (fun x : VCel => 2 + x.1.2.1.length + x.1.2.2.1.length + x.2.1.length) n.cells ≤ nodT n := by unfold nodT; omega
      omega
    | false => rw [cond_false]; omega
  | false => simp [nodT, nod0, sumC]
theorem TY_lawInp {P : Program} (hP : P = Tryz.prog) : ((P.follows .mixedOrders = true) ∧ ((tyT P 27 = some ((true, 7))) ∧ (tyT P 56 = some ((true, 10))))) ∧ (((zeroT P 37 = some (((.bool false) :: ((.int .i64 0) :: ((.int .i64 0) :: (.nils :: (.nils :: (.nils :: (.nils :: (.nils :: (.nils :: (.nils :: [])))))))))))) ∧ (tyT P 37 = some ((true, 10)))) ∧ ((zeroT P 43 = some (((.int .i64 0) :: ((.int .i64 0) :: ((.int .i64 0) :: (.nils :: (.nils :: (.nils :: (.nils :: []))))))))) ∧ (tyT P 43 = some ((true, 7))))) := by subst hP; refine ⟨⟨?_, ⟨?_, ?_⟩⟩, ⟨⟨?_, ?_⟩, ⟨?_, ?_⟩⟩⟩ <;> kernel_rfl
theorem lawInp {P : Program} [Known P] (hP : P = Tryz.prog) (p : VPln) (n : VNod) (c d v : Int) : Fun P 7 [.agg (plnS p), .agg (nodS n), .int .i64 c, .int .i64 d, .int .i64 v] (.bool true) := by
  refine fun_of (fn := Tryz.f7) (hP ▸ Tryz.func7) (by kernel_rfl) (by kernel_rfl) (by kernel_rfl) (by kernel_rfl) ?_
  have hT := TY_lawInp hP
  have hm : P.follows .mixedOrders = true := by subst hP; kernel_rfl
  have sz_p := fun a h1 h2 => szPln hP p a h1 h2
  have to_p := fun h => toPlnPlan hP p h
  have eq_p := eqPlnPlan hP p
  have sz_n := fun a h1 h2 => szNod hP n a h1 h2
  have to_n := fun h => toNodNode hP n h
  have eq_n := eqNodNode hP n
  have os := fun hs hn => nodInputS hP p hs n hn c d v
  have oi := fun hs hn => nodInputI hP p hs n hn c d v
  have mk := fun h a b c => markPlnPlan hP p h a b c
  have eb := fun n => eqNodNode hP n
  have mb := fun n k h1 h u a b => markNodNode hP n k h1 h u a b
  have hb := fun n h => heldNodNode hP n 1 (by omega) h
  clear hP
  intro hl
  clear hl
  simp only [plnS, nodS] at sz_p to_p eq_p sz_n to_n eq_n os oi
  simp only [plnO] at to_p
  simp only [nodO] at to_n
  simp only [plnS, nodS, Tryz.f7, hT, eA, Nat.beq, List.toArray, reduceAdd, reduceLT, reduceLeDiff, reduceToNat]
  refine Fun.plain (sz_p (1048576) (by omega) (by omega)) rfl rfl rfl rfl ?_
  simp only [hT, eA, Nat.beq, List.toArray, reduceAdd, reduceLT, reduceLeDiff, reduceToNat]
  refine ⟨fun q => by first | rfl | trivial, fun q => ?_⟩
  have h_p := szL_ok q (by omega)
  try rw [szL_eq h_p]
  refine Fun.plain (sz_n (1048576 - (plnN p : Nat)) (by omega) (by omega)) rfl rfl rfl rfl ?_
  simp only [hT, eA, Nat.beq, List.toArray, reduceAdd, reduceLT, reduceLeDiff, reduceToNat]
  refine ⟨fun q => by first | rfl | trivial, fun q => ?_⟩
  have h_n := szL_ok q (by omega)
  have hs := Sz.of (show plnN p ≤ 1048576 by omega)
  have hn := SzN.of (show nodN n ≤ 1048576 by omega)
  have to_p := to_p hs
  have to_n := to_n hn
  have os := os hs hn
  have oi := oi hs hn
  have hM := plnM_le p
  have hTn := nodT_le n
  have mk := mk (by omega)
  have hR := sem_T p n c d v hs (by omega)
  generalize inputN p n c d v = w at *
  have eb := eb w
  have mbw := mb w 1 (by omega) (by omega)
  have mbn := mb n (1 + plnM p) (by omega) (by omega)
  have hb := hb w (by omega)
  have hna := nod_na w
  clear mb
  simp only [nodO] at os oi mbw mbn hna
  simp only [nodS] at eb hb
  refine wpc_cut ⟨[(2, .int .i64 c), (3, .int .i64 d), (4, .int .i64 v), (5, .cp 0 0 0), (6, .cp 1 0 0), (12, .cp 2 0 0)], [(2, ⟨10, [nodO w], [], true⟩), (1, ⟨10, [nodS n], [], true⟩), (0, ⟨7, [plnS p], [], true⟩)], 3⟩ (.take 4 (.take 5 (.take 6 (.alt 0 (.alt 1 (.alt 2 (.alt 3 (.alt 7 (.alt 8 (.alt 9 .done .stop) .stop) (.alt 8 (.alt 7 (.alt 9 .done .stop) .stop) .stop)) (.alt 8 (.alt 3 (.alt 7 (.alt 9 .done .stop) .stop) .stop) .stop)) (.alt 8 (.alt 2 (.alt 3 (.alt 7 (.alt 9 .done .stop) .stop) .stop) .stop) .stop)) (.alt 2 (.alt 1 (.alt 3 (.alt 7 (.alt 8 (.alt 9 .done .stop) .stop) (.alt 8 (.alt 7 (.alt 9 .done .stop) .stop) .stop)) (.alt 8 (.alt 3 (.alt 7 (.alt 9 .done .stop) .stop) .stop) .stop)) (.alt 8 (.alt 1 (.alt 3 (.alt 7 (.alt 9 .done .stop) .stop) .stop) .stop) .stop)) (.alt 8 (.alt 1 (.alt 2 (.alt 3 (.alt 7 (.alt 9 .done .stop) .stop) .stop) .stop) (.alt 2 (.alt 1 (.alt 3 (.alt 7 (.alt 9 .done .stop) .stop) .stop) .stop) .stop)) .stop))) (.alt 2 (.alt 0 (.alt 1 (.alt 3 (.alt 7 (.alt 8 (.alt 9 .done .stop) .stop) (.alt 8 (.alt 7 (.alt 9 .done .stop) .stop) .stop)) (.alt 8 (.alt 3 (.alt 7 (.alt 9 .done .stop) .stop) .stop) .stop)) (.alt 8 (.alt 1 (.alt 3 (.alt 7 (.alt 9 .done .stop) .stop) .stop) .stop) .stop)) (.alt 8 (.alt 0 (.alt 1 (.alt 3 (.alt 7 (.alt 9 .done .stop) .stop) .stop) .stop) .stop) .stop)) (.alt 8 (.alt 0 (.alt 1 (.alt 2 (.alt 3 (.alt 7 (.alt 9 .done .stop) .stop) .stop) .stop) (.alt 2 (.alt 1 (.alt 3 (.alt 7 (.alt 9 .done .stop) .stop) .stop) .stop) .stop)) (.alt 2 (.alt 0 (.alt 1 (.alt 3 (.alt 7 (.alt 9 .done .stop) .stop) .stop) .stop) .stop) .stop)) .stop)))))) hm (by kernel_rfl) ?_ ?_
  · simp only [hT, ↓If_lit, eT, ↓If_lit, PCall, reduceSub, reduceCtorEq, eA, Nat.beq, List.toArray, reduceAdd, reduceLT, reduceLeDiff, reduceToNat]
    repeat' first
      | (with_reducible refine And.intro ?_ ?_)
      | (refine Fun.plain to_p rfl rfl rfl rfl ?_; simp only [hT, ↓If_lit, Bool.not_true, eT, ↓If_lit, PCall, reduceSub, reduceCtorEq, eA, Nat.beq, List.toArray, reduceAdd, reduceLT, reduceLeDiff, reduceToNat])
      | (refine Fun.plain to_n rfl rfl rfl rfl ?_; simp only [hT, ↓If_lit, Bool.not_true, eT, ↓If_lit, PCall, reduceSub, reduceCtorEq, eA, Nat.beq, List.toArray, reduceAdd, reduceLT, reduceLeDiff, reduceToNat])
      | (refine Fun.lent os (by simp only [Int.cast_ofNat_Int, List.map_cons, List.map_nil, pur, geth, Nat.beq, cond_true, cond_false, rdR_byt, rdL, AV.rd, AV.nbV, AV.nb, rdR_cell, rdR_way, rdR_slot, rdR_turn, rdR_cel, rdR_box, rdR_out, rdR_inn, rdR_int]) (by rfl) rfl rfl hna ?_; simp only [hT, ↓If_lit, Bool.not_true, eT, ↓If_lit, PCall, reduceSub, reduceCtorEq, eA, Nat.beq, List.toArray, reduceAdd, reduceLT, reduceLeDiff, reduceToNat])
      | (refine Le.of [(0, some 0), (1, some 1), (2, some 20)] (Nat.zero_le _) ?_ ?_ ?_ <;> first | (simp only [plnS, nodS, nodO, eL, eH, eG, leO, Nat.beq, reduceLT]; done) | (simp only [plnS, nodS, nodO, eL, eH, eG, leO, Nat.beq, reduceLT]; rfl))
      | (refine Le.of [(0, some 0), (1, some 1), (2, some 2)] (Nat.zero_le _) ?_ ?_ ?_ <;> first | (simp only [plnS, nodS, nodO, eL, eH, eG, leO, Nat.beq, reduceLT]; done) | (simp only [plnS, nodS, nodO, eL, eH, eG, leO, Nat.beq, reduceLT]; rfl))
      | (refine Le.of [(0, some 0), (1, some 1), (2, some 6)] (Nat.zero_le _) ?_ ?_ ?_ <;> first | (simp only [plnS, nodS, nodO, eL, eH, eG, leO, Nat.beq, reduceLT]; done) | (simp only [plnS, nodS, nodO, eL, eH, eG, leO, Nat.beq, reduceLT]; rfl))
      | (refine Le.of [(0, some 0), (1, some 1), (2, some 13)] (Nat.zero_le _) ?_ ?_ ?_ <;> first | (simp only [plnS, nodS, nodO, eL, eH, eG, leO, Nat.beq, reduceLT]; done) | (simp only [plnS, nodS, nodO, eL, eH, eG, leO, Nat.beq, reduceLT]; rfl))
      | rfl
  simp only [plnS, nodS, nodO, hT, ↓If_lit, Bool.not_true, eA, Nat.beq, List.toArray, reduceAdd, reduceLT, reduceLeDiff, reduceToNat]
  refine Fun.plain (to_p) rfl rfl rfl rfl ?_; simp only [hT, eN, ↓If_lit, Int.reduceLT, Int.reduceLE, eA, Nat.beq, List.toArray, reduceAdd, reduceLT, reduceLeDiff, reduceToNat]; (try unfold lim); repeat first | ((with_reducible refine And.intro ?_ ?_); (first | omega | exact ⟨by omega, by omega⟩ | rfl)) | intro _
  refine Fun.plain (to_n) rfl rfl rfl rfl ?_; simp only [hT, eN, ↓If_lit, Int.reduceLT, Int.reduceLE, eA, Nat.beq, List.toArray, reduceAdd, reduceLT, reduceLeDiff, reduceToNat]; (try unfold lim); repeat first | ((with_reducible refine And.intro ?_ ?_); (first | omega | exact ⟨by omega, by omega⟩ | rfl)) | intro _
  refine Fun.lent oi (by simp only [Int.cast_ofNat_Int, List.map_cons, List.map_nil, pur, geth, Nat.beq, cond_true, cond_false, rdR_byt, rdL, AV.rd, AV.nbV, AV.nb, rdR_cell, rdR_way, rdR_slot, rdR_turn, rdR_cel, rdR_box, rdR_out, rdR_inn, rdR_int]) (by rfl) rfl rfl hna ?_; simp only [hT, eN, ↓If_lit, Int.reduceLT, Int.reduceLE, eA, Nat.beq, List.toArray, reduceAdd, reduceLT, reduceLeDiff, reduceToNat]; (try unfold lim); repeat first | ((with_reducible refine And.intro ?_ ?_); (first | omega | exact ⟨by omega, by omega⟩ | rfl)) | intro _
  refine Fun.lent eb (by simp only [Int.cast_ofNat_Int, List.map_cons, List.map_nil, pur, geth, Nat.beq, cond_true, cond_false, rdR_byt, rdL, AV.rd, AV.nbV, AV.nb, rdR_cell, rdR_way, rdR_slot, rdR_turn, rdR_cel, rdR_box, rdR_out, rdR_inn, rdR_int]) (by rfl) rfl rfl rfl ?_; simp only [hT, eN, ↓If_lit, Int.reduceLT, Int.reduceLE, eA, Nat.beq, List.toArray, reduceAdd, reduceLT, reduceLeDiff, reduceToNat]; (try unfold lim); repeat first | ((with_reducible refine And.intro ?_ ?_); (first | omega | exact ⟨by omega, by omega⟩ | rfl)) | intro _
  try simp only [Bool.not_true, ↓If_lit, hT, eA, Nat.beq, List.toArray, reduceAdd, reduceLT, reduceLeDiff, reduceToNat]
  refine wpc_cut ⟨[(56, .bool false), (2, .int .i64 c), (3, .int .i64 d), (4, .int .i64 v), (5, .cp 0 0 0), (6, .cp 1 0 0), (12, .cp 2 0 0), (13, .cp 14 0 0), (14, .cp 22 0 0), (15, .cp 30 0 0)], [(2, ⟨10, [[.bool w.up, .int .i64 w.boot, .int .i64 w.hello, .os 3, .os 4, .os 5, .os 6, .os 7, .os 8, .os 9]], [], true⟩), (3, ⟨5, w.cells.map celO, celZ, false⟩), (4, ⟨2, w.out.map boxO, boxZ, false⟩), (5, ⟨2, w.inn.map boxO, boxZ, false⟩), (6, ⟨4, w.outs.map outE, outZ, false⟩), (7, ⟨3, w.inns.map innE, innZ, false⟩), (8, ⟨1, w.heard.1.map intE, iZ, false⟩), (9, ⟨1, w.heard.2.1.map intE, iZ, false⟩), (14, ⟨7, [[.int .i64 p.1, .int .i64 p.2.1, .int .i64 p.2.2.1, .os 10, .os 11, .os 12, .os 13]], [], true⟩), (10, ⟨5, p.cells.map cellO, cZ, false⟩), (11, ⟨5, p.ways.map wayO, wZ, false⟩), (12, ⟨2, p.slots.map slotE, sZ, false⟩), (13, ⟨1, p.turns.map turnO, tZ, false⟩), (22, ⟨10, [[.bool n.up, .int .i64 n.boot, .int .i64 n.hello, .os 15, .os 16, .os 17, .os 18, .os 19, .os 20, .os 21]], [], true⟩), (15, ⟨5, n.cells.map celO, celZ, false⟩), (16, ⟨2, n.out.map boxO, boxZ, false⟩), (17, ⟨2, n.inn.map boxO, boxZ, false⟩), (18, ⟨4, n.outs.map outE, outZ, false⟩), (19, ⟨3, n.inns.map innE, innZ, false⟩), (20, ⟨1, n.heard.1.map intE, iZ, false⟩), (21, ⟨1, n.heard.2.1.map intE, iZ, false⟩), (30, ⟨10, [[.bool w.up, .int .i64 w.boot, .int .i64 w.hello, .os 23, .os 24, .os 25, .os 26, .os 27, .os 28, .os 29]], [], true⟩), (23, ⟨5, w.cells.map celO, celZ, false⟩), (24, ⟨2, w.out.map boxO, boxZ, false⟩), (25, ⟨2, w.inn.map boxO, boxZ, false⟩), (26, ⟨4, w.outs.map outE, outZ, false⟩), (27, ⟨3, w.inns.map innE, innZ, false⟩), (28, ⟨1, w.heard.1.map intE, iZ, false⟩), (29, ⟨1, w.heard.2.1.map intE, iZ, false⟩), (1, ⟨10, [nodS n], [], true⟩), (0, ⟨7, [plnS p], [], true⟩)], 31⟩ (.alt 0 (.alt 1 (.alt 2 (.alt 3 (.take 4 .done) .stop) .stop) .stop) (.alt 1 (.alt 0 (.alt 2 (.alt 3 (.take 4 .done) .stop) .stop) (.alt 2 (.alt 0 (.alt 3 (.take 4 .done) .stop) .stop) .stop)) .stop)) hm (by kernel_rfl) ?_ ?_
  · simp only [hT, ↓If_lit, eT, ↓If_lit, PCall, reduceSub, reduceCtorEq, eA, Nat.beq, List.toArray, reduceAdd, reduceLT, reduceLeDiff, reduceToNat]
    repeat' first
      | (with_reducible refine And.intro ?_ ?_)
      | (refine Fun.plain to_p rfl rfl rfl rfl ?_; simp only [hT, ↓If_lit, Bool.not_true, eT, ↓If_lit, PCall, reduceSub, reduceCtorEq, eA, Nat.beq, List.toArray, reduceAdd, reduceLT, reduceLeDiff, reduceToNat])
      | (refine Fun.lent eq_p (by simp only [Int.cast_ofNat_Int, List.map_cons, List.map_nil, pur, geth, Nat.beq, cond_true, cond_false, rdR_byt, rdL, AV.rd, AV.nbV, AV.nb, rdR_cell, rdR_way, rdR_slot, rdR_turn, rdR_cel, rdR_box, rdR_out, rdR_inn, rdR_int]) (by rfl) rfl rfl rfl ?_; simp only [hT, ↓If_lit, Bool.not_true, eT, ↓If_lit, PCall, reduceSub, reduceCtorEq, eA, Nat.beq, List.toArray, reduceAdd, reduceLT, reduceLeDiff, reduceToNat])
      | (refine Le.of [(0, some 0), (1, some 1), (2, some 2), (3, some 42), (4, some 43), (5, some 44), (6, some 45), (7, some 46), (8, some 47), (9, some 48), (10, some 16), (11, some 17), (12, some 18), (13, some 19), (14, some 7), (15, some 20), (16, some 21), (17, some 22), (18, some 23), (19, some 24), (20, some 25), (21, some 26), (22, some 15), (23, some 35), (24, some 36), (25, some 37), (26, some 38), (27, some 39), (28, some 40), (29, some 41), (30, some 34)] (Nat.zero_le _) ?_ ?_ ?_ <;> first | (simp only [plnS, nodS, nodO, eL, eH, eG, leO, Nat.beq, reduceLT]; done) | (simp only [plnS, nodS, nodO, eL, eH, eG, leO, Nat.beq, reduceLT]; rfl))
      | rfl
  simp only [plnS, nodS, nodO, hT, ↓If_lit, Bool.not_true, eA, Nat.beq, List.toArray, reduceAdd, reduceLT, reduceLeDiff, reduceToNat]
  refine wpc_cut ⟨[(61, .bool false), (2, .int .i64 c), (3, .int .i64 d), (4, .int .i64 v), (5, .cp 0 0 0), (6, .cp 1 0 0), (12, .cp 2 0 0), (13, .cp 14 0 0), (14, .cp 22 0 0), (15, .cp 30 0 0)], [(2, ⟨10, [[.bool w.up, .int .i64 w.boot, .int .i64 w.hello, .os 3, .os 4, .os 5, .os 6, .os 7, .os 8, .os 9]], [], true⟩), (3, ⟨5, w.cells.map celO, celZ, false⟩), (4, ⟨2, w.out.map boxO, boxZ, false⟩), (5, ⟨2, w.inn.map boxO, boxZ, false⟩), (6, ⟨4, w.outs.map outE, outZ, false⟩), (7, ⟨3, w.inns.map innE, innZ, false⟩), (8, ⟨1, w.heard.1.map intE, iZ, false⟩), (9, ⟨1, w.heard.2.1.map intE, iZ, false⟩), (14, ⟨7, [[.int .i64 p.1, .int .i64 p.2.1, .int .i64 p.2.2.1, .os 10, .os 11, .os 12, .os 13]], [], true⟩), (10, ⟨5, p.cells.map cellO, cZ, false⟩), (11, ⟨5, p.ways.map wayO, wZ, false⟩), (12, ⟨2, p.slots.map slotE, sZ, false⟩), (13, ⟨1, p.turns.map turnO, tZ, false⟩), (22, ⟨10, [[.bool n.up, .int .i64 n.boot, .int .i64 n.hello, .os 15, .os 16, .os 17, .os 18, .os 19, .os 20, .os 21]], [], true⟩), (15, ⟨5, n.cells.map celO, celZ, false⟩), (16, ⟨2, n.out.map boxO, boxZ, false⟩), (17, ⟨2, n.inn.map boxO, boxZ, false⟩), (18, ⟨4, n.outs.map outE, outZ, false⟩), (19, ⟨3, n.inns.map innE, innZ, false⟩), (20, ⟨1, n.heard.1.map intE, iZ, false⟩), (21, ⟨1, n.heard.2.1.map intE, iZ, false⟩), (30, ⟨10, [[.bool w.up, .int .i64 w.boot, .int .i64 w.hello, .os 23, .os 24, .os 25, .os 26, .os 27, .os 28, .os 29]], [], true⟩), (23, ⟨5, w.cells.map celO, celZ, false⟩), (24, ⟨2, w.out.map boxO, boxZ, false⟩), (25, ⟨2, w.inn.map boxO, boxZ, false⟩), (26, ⟨4, w.outs.map outE, outZ, false⟩), (27, ⟨3, w.inns.map innE, innZ, false⟩), (28, ⟨1, w.heard.1.map intE, iZ, false⟩), (29, ⟨1, w.heard.2.1.map intE, iZ, false⟩), (1, ⟨10, [nodS n], [], true⟩), (0, ⟨7, [plnS p], [], true⟩)], 31⟩ (.alt 0 (.alt 1 (.alt 2 (.alt 3 (.take 4 .done) .stop) .stop) .stop) (.alt 1 (.alt 0 (.alt 2 (.alt 3 (.take 4 .done) .stop) .stop) (.alt 2 (.alt 0 (.alt 3 (.take 4 .done) .stop) .stop) .stop)) .stop)) hm (by kernel_rfl) ?_ ?_
  · simp only [hT, ↓If_lit, eT, ↓If_lit, PCall, reduceSub, reduceCtorEq, eA, Nat.beq, List.toArray, reduceAdd, reduceLT, reduceLeDiff, reduceToNat]
    repeat' first
      | (with_reducible refine And.intro ?_ ?_)
      | (refine Fun.plain to_n rfl rfl rfl rfl ?_; simp only [hT, ↓If_lit, Bool.not_true, eT, ↓If_lit, PCall, reduceSub, reduceCtorEq, eA, Nat.beq, List.toArray, reduceAdd, reduceLT, reduceLeDiff, reduceToNat])
      | (refine Fun.lent eq_n (by simp only [Int.cast_ofNat_Int, List.map_cons, List.map_nil, pur, geth, Nat.beq, cond_true, cond_false, rdR_byt, rdL, AV.rd, AV.nbV, AV.nb, rdR_cell, rdR_way, rdR_slot, rdR_turn, rdR_cel, rdR_box, rdR_out, rdR_inn, rdR_int]) (by rfl) rfl rfl rfl ?_; simp only [hT, ↓If_lit, Bool.not_true, eT, ↓If_lit, PCall, reduceSub, reduceCtorEq, eA, Nat.beq, List.toArray, reduceAdd, reduceLT, reduceLeDiff, reduceToNat])
      | (refine Le.of [(0, some 0), (1, some 1), (2, some 2), (3, some 3), (4, some 4), (5, some 5), (6, some 6), (7, some 7), (8, some 8), (9, some 9), (10, some 10), (11, some 11), (12, some 12), (13, some 13), (14, some 14), (15, some 15), (16, some 16), (17, some 17), (18, some 18), (19, some 19), (20, some 20), (21, some 21), (22, some 22), (23, some 23), (24, some 24), (25, some 25), (26, some 26), (27, some 27), (28, some 28), (29, some 29), (30, some 30)] (Nat.zero_le _) ?_ ?_ ?_ <;> first | (simp only [plnS, nodS, nodO, eL, eH, eG, leO, Nat.beq, reduceLT]; done) | (simp only [plnS, nodS, nodO, eL, eH, eG, leO, Nat.beq, reduceLT]; rfl))
      | rfl
  simp only [plnS, nodS, nodO, hT, ↓If_lit, Bool.not_true, eA, Nat.beq, List.toArray, reduceAdd, reduceLT, reduceLeDiff, reduceToNat]
  refine FunM.lend (mk p.1 p.2.1 p.2.2.1) ([(0, some 10), (1, some 11), (2, some 12), (3, some 13)]) 0 (by simp only [eD, eM, Nat.beq, reduceLT, reduceAdd, reduceSub, AV.nb]) (by simp only [eD, eM, Nat.beq, reduceLT, reduceAdd, reduceSub, AV.nb]) (by simp only [eD, eM, Nat.beq, reduceLT, reduceAdd, reduceSub, AV.nb]) (by simp only [eD, eM, Nat.beq, reduceLT, reduceAdd, reduceSub, AV.nb]) (by simp only [eD, eM, Nat.beq, reduceLT, reduceAdd, reduceSub, AV.nb]) (by simp only [eD, eM, Nat.beq, reduceLT, reduceAdd, reduceSub, AV.nb]) rfl ?_; simp only [hT, nneg, decide_true, decide_false, ↓If_lit, Int.reduceLT, Int.reduceLE, eD, eM, Nat.beq, reduceLT, reduceAdd, reduceSub, AV.nb, eA, Nat.beq, List.toArray, reduceAdd, reduceLT, reduceLeDiff, reduceToNat]
  refine FunM.lend (mbn n.up n.boot n.hello) ([(0, some 15), (1, some 16), (2, some 17), (3, some 18), (4, some 19), (5, some 20), (6, some 21)]) 0 (by simp only [eD, eM, Nat.beq, reduceLT, reduceAdd, reduceSub, AV.nb]) (by simp only [eD, eM, Nat.beq, reduceLT, reduceAdd, reduceSub, AV.nb]) (by simp only [eD, eM, Nat.beq, reduceLT, reduceAdd, reduceSub, AV.nb]) (by simp only [eD, eM, Nat.beq, reduceLT, reduceAdd, reduceSub, AV.nb]) (by simp only [eD, eM, Nat.beq, reduceLT, reduceAdd, reduceSub, AV.nb]) (by simp only [eD, eM, Nat.beq, reduceLT, reduceAdd, reduceSub, AV.nb]) rfl ?_; simp only [hT, nneg, decide_true, decide_false, ↓If_lit, Int.reduceLT, Int.reduceLE, eD, eM, Nat.beq, reduceLT, reduceAdd, reduceSub, AV.nb, eA, Nat.beq, List.toArray, reduceAdd, reduceLT, reduceLeDiff, reduceToNat]
  have hk1 : decide ((1 : Int) + plnM p + nodT n < 0) = false := decide_eq_false (by omega)
  have hk2 : decide ((1 : Int) + nodT w < 0) = false := decide_eq_false (by omega)
  simp only [hk1, hT, ↓If_lit, eA, Nat.beq, List.toArray, reduceAdd, reduceLT, reduceLeDiff, reduceToNat]
  refine Fun.lent eb (by simp only [Int.cast_ofNat_Int, List.map_cons, List.map_nil, pur, geth, Nat.beq, cond_true, cond_false, rdR_byt, rdL, AV.rd, AV.nbV, AV.nb, rdR_cell, rdR_way, rdR_slot, rdR_turn, rdR_cel, rdR_box, rdR_out, rdR_inn, rdR_int]) (by rfl) rfl rfl rfl ?_; simp only [hT, eN, ↓If_lit, Int.reduceLT, Int.reduceLE, eA, Nat.beq, List.toArray, reduceAdd, reduceLT, reduceLeDiff, reduceToNat]; (try unfold lim); repeat first | ((with_reducible refine And.intro ?_ ?_); (first | omega | exact ⟨by omega, by omega⟩ | rfl)) | intro _
  try simp only [Bool.not_true, ↓If_lit, hT, eA, Nat.beq, List.toArray, reduceAdd, reduceLT, reduceLeDiff, reduceToNat]
  refine FunM.lend (mbw w.up w.boot w.hello) ([(0, some 23), (1, some 24), (2, some 25), (3, some 26), (4, some 27), (5, some 28), (6, some 29)]) 0 (by simp only [eD, eM, Nat.beq, reduceLT, reduceAdd, reduceSub, AV.nb]) (by simp only [eD, eM, Nat.beq, reduceLT, reduceAdd, reduceSub, AV.nb]) (by simp only [eD, eM, Nat.beq, reduceLT, reduceAdd, reduceSub, AV.nb]) (by simp only [eD, eM, Nat.beq, reduceLT, reduceAdd, reduceSub, AV.nb]) (by simp only [eD, eM, Nat.beq, reduceLT, reduceAdd, reduceSub, AV.nb]) (by simp only [eD, eM, Nat.beq, reduceLT, reduceAdd, reduceSub, AV.nb]) rfl ?_; simp only [hT, nneg, decide_true, decide_false, ↓If_lit, Int.reduceLT, Int.reduceLE, eD, eM, Nat.beq, reduceLT, reduceAdd, reduceSub, AV.nb, eA, Nat.beq, List.toArray, reduceAdd, reduceLT, reduceLeDiff, reduceToNat]
  refine Fun.lent hb (by simp only [Int.cast_ofNat_Int, List.map_cons, List.map_nil, pur, geth, Nat.beq, cond_true, cond_false, rdR_byt, rdL, AV.rd, AV.nbV, AV.nb, rdR_cell, rdR_way, rdR_slot, rdR_turn, rdR_cel, rdR_box, rdR_out, rdR_inn, rdR_int]; rfl) (by rfl) rfl rfl rfl ?_; simp only [hT, eN, ↓If_lit, Int.reduceLT, Int.reduceLE, eA, Nat.beq, List.toArray, reduceAdd, reduceLT, reduceLeDiff, reduceToNat]; (try unfold lim); repeat first | ((with_reducible refine And.intro ?_ ?_); (first | omega | exact ⟨by omega, by omega⟩ | rfl)) | intro _
  try simp only [hk2, decide_true, Bool.not_true, ↓If_lit, hT, eA, Nat.beq, List.toArray, reduceAdd, reduceLT, reduceLeDiff, reduceToNat]
  refine wpc_cut ⟨[(12, .cp 0 0 0), (15, .cp 8 0 0), (17, .int .i64 (1 + nodT w)), (19, .cp 16 0 0)], [(0, ⟨10, [[.bool w.up, .int .i64 w.boot, .int .i64 w.hello, .os 1, .os 2, .os 3, .os 4, .os 5, .os 6, .os 7]], [], true⟩), (1, ⟨5, w.cells.map celO, celZ, false⟩), (2, ⟨2, w.out.map boxO, boxZ, false⟩), (3, ⟨2, w.inn.map boxO, boxZ, false⟩), (4, ⟨4, w.outs.map outE, outZ, false⟩), (5, ⟨3, w.inns.map innE, innZ, false⟩), (6, ⟨1, w.heard.1.map intE, iZ, false⟩), (7, ⟨1, w.heard.2.1.map intE, iZ, false⟩), (8, ⟨10, [[.bool w.up, .int .i64 w.boot, .int .i64 w.hello, .os 9, .os 10, .os 11, .os 12, .os 13, .os 14, .os 15]], [], true⟩), (9, ⟨5, (mkNod 1 w).cells.map celO, celZ, false⟩), (10, ⟨2, (mkNod 1 w).out.map boxO, boxZ, false⟩), (11, ⟨2, (mkNod 1 w).inn.map boxO, boxZ, false⟩), (12, ⟨4, (mkNod 1 w).outs.map outE, outZ, false⟩), (13, ⟨3, (mkNod 1 w).inns.map innE, innZ, false⟩), (14, ⟨1, (mkNod 1 w).heard.1.map intE, iZ, false⟩), (15, ⟨1, (mkNod 1 w).heard.2.1.map intE, iZ, false⟩), (16, ⟨10, [nodO w], [], true⟩)], 17⟩ (.take 4 (.take 5 (.take 6 (.alt 0 (.alt 1 (.alt 2 (.alt 3 (.alt 7 (.alt 8 (.alt 9 .done .stop) .stop) (.alt 8 (.alt 7 (.alt 9 .done .stop) .stop) .stop)) (.alt 8 (.alt 3 (.alt 7 (.alt 9 .done .stop) .stop) .stop) .stop)) (.alt 8 (.alt 2 (.alt 3 (.alt 7 (.alt 9 .done .stop) .stop) .stop) .stop) .stop)) (.alt 2 (.alt 1 (.alt 3 (.alt 7 (.alt 8 (.alt 9 .done .stop) .stop) (.alt 8 (.alt 7 (.alt 9 .done .stop) .stop) .stop)) (.alt 8 (.alt 3 (.alt 7 (.alt 9 .done .stop) .stop) .stop) .stop)) (.alt 8 (.alt 1 (.alt 3 (.alt 7 (.alt 9 .done .stop) .stop) .stop) .stop) .stop)) (.alt 8 (.alt 1 (.alt 2 (.alt 3 (.alt 7 (.alt 9 .done .stop) .stop) .stop) .stop) (.alt 2 (.alt 1 (.alt 3 (.alt 7 (.alt 9 .done .stop) .stop) .stop) .stop) .stop)) .stop))) (.alt 2 (.alt 0 (.alt 1 (.alt 3 (.alt 7 (.alt 8 (.alt 9 .done .stop) .stop) (.alt 8 (.alt 7 (.alt 9 .done .stop) .stop) .stop)) (.alt 8 (.alt 3 (.alt 7 (.alt 9 .done .stop) .stop) .stop) .stop)) (.alt 8 (.alt 1 (.alt 3 (.alt 7 (.alt 9 .done .stop) .stop) .stop) .stop) .stop)) (.alt 8 (.alt 0 (.alt 1 (.alt 3 (.alt 7 (.alt 9 .done .stop) .stop) .stop) .stop) .stop) .stop)) (.alt 8 (.alt 0 (.alt 1 (.alt 2 (.alt 3 (.alt 7 (.alt 9 .done .stop) .stop) .stop) .stop) (.alt 2 (.alt 1 (.alt 3 (.alt 7 (.alt 9 .done .stop) .stop) .stop) .stop) .stop)) (.alt 2 (.alt 0 (.alt 1 (.alt 3 (.alt 7 (.alt 9 .done .stop) .stop) .stop) .stop) .stop) .stop)) .stop)))))) hm (by kernel_rfl) ?_ ?_
  · simp only [hT, ↓If_lit, eT, ↓If_lit, PCall, reduceSub, reduceCtorEq, eA, Nat.beq, List.toArray, reduceAdd, reduceLT, reduceLeDiff, reduceToNat]
    repeat' first
      | (with_reducible refine And.intro ?_ ?_)
      | (refine Fun.plain to_p rfl rfl rfl rfl ?_; simp only [hT, ↓If_lit, Bool.not_true, eT, ↓If_lit, PCall, reduceSub, reduceCtorEq, eA, Nat.beq, List.toArray, reduceAdd, reduceLT, reduceLeDiff, reduceToNat])
      | (refine Fun.plain to_n rfl rfl rfl rfl ?_; simp only [hT, ↓If_lit, Bool.not_true, eT, ↓If_lit, PCall, reduceSub, reduceCtorEq, eA, Nat.beq, List.toArray, reduceAdd, reduceLT, reduceLeDiff, reduceToNat])
      | (refine Fun.lent oi (by simp only [Int.cast_ofNat_Int, List.map_cons, List.map_nil, pur, geth, Nat.beq, cond_true, cond_false, rdR_byt, rdL, AV.rd, AV.nbV, AV.nb, rdR_cell, rdR_way, rdR_slot, rdR_turn, rdR_cel, rdR_box, rdR_out, rdR_inn, rdR_int]) (by rfl) rfl rfl hna ?_; simp only [hT, ↓If_lit, Bool.not_true, eT, ↓If_lit, PCall, reduceSub, reduceCtorEq, eA, Nat.beq, List.toArray, reduceAdd, reduceLT, reduceLeDiff, reduceToNat])
      | (refine Le.of [(0, some 2), (1, some 3), (2, some 4), (3, some 5), (4, some 6), (5, some 7), (6, some 8), (7, some 9), (8, some 30), (9, some 23), (10, some 24), (11, some 25), (12, some 26), (13, some 27), (14, some 28), (15, some 29), (16, some 49)] (Nat.zero_le _) ?_ ?_ ?_ <;> first | (simp only [plnS, nodS, nodO, eL, eH, eG, leO, Nat.beq, reduceLT]; done) | (simp only [plnS, nodS, nodO, eL, eH, eG, leO, Nat.beq, reduceLT]; rfl))
      | (refine Le.of [(0, some 2), (1, some 3), (2, some 4), (3, some 5), (4, some 6), (5, some 7), (6, some 8), (7, some 9), (8, some 30), (9, some 23), (10, some 24), (11, some 25), (12, some 26), (13, some 27), (14, some 28), (15, some 29), (16, some 31)] (Nat.zero_le _) ?_ ?_ ?_ <;> first | (simp only [plnS, nodS, nodO, eL, eH, eG, leO, Nat.beq, reduceLT]; done) | (simp only [plnS, nodS, nodO, eL, eH, eG, leO, Nat.beq, reduceLT]; rfl))
      | (refine Le.of [(0, some 2), (1, some 3), (2, some 4), (3, some 5), (4, some 6), (5, some 7), (6, some 8), (7, some 9), (8, some 30), (9, some 23), (10, some 24), (11, some 25), (12, some 26), (13, some 27), (14, some 28), (15, some 29), (16, some 35)] (Nat.zero_le _) ?_ ?_ ?_ <;> first | (simp only [plnS, nodS, nodO, eL, eH, eG, leO, Nat.beq, reduceLT]; done) | (simp only [plnS, nodS, nodO, eL, eH, eG, leO, Nat.beq, reduceLT]; rfl))
      | (refine Le.of [(0, some 2), (1, some 3), (2, some 4), (3, some 5), (4, some 6), (5, some 7), (6, some 8), (7, some 9), (8, some 30), (9, some 23), (10, some 24), (11, some 25), (12, some 26), (13, some 27), (14, some 28), (15, some 29), (16, some 42)] (Nat.zero_le _) ?_ ?_ ?_ <;> first | (simp only [plnS, nodS, nodO, eL, eH, eG, leO, Nat.beq, reduceLT]; done) | (simp only [plnS, nodS, nodO, eL, eH, eG, leO, Nat.beq, reduceLT]; rfl))
      | rfl
  simp only [plnS, nodS, nodO, hT, ↓If_lit, Bool.not_true, eA, Nat.beq, List.toArray, reduceAdd, reduceLT, reduceLeDiff, reduceToNat]
  refine And.intro rfl ?_
  refine Fun.lent eb (by simp only [Int.cast_ofNat_Int, List.map_cons, List.map_nil, pur, geth, Nat.beq, cond_true, cond_false, rdR_byt, rdL, AV.rd, AV.nbV, AV.nb, rdR_cell, rdR_way, rdR_slot, rdR_turn, rdR_cel, rdR_box, rdR_out, rdR_inn, rdR_int]) (by rfl) rfl rfl rfl ?_; simp only [hT, eN, ↓If_lit, Int.reduceLT, Int.reduceLE, eA, Nat.beq, List.toArray, reduceAdd, reduceLT, reduceLeDiff, reduceToNat]; (try unfold lim); repeat first | ((with_reducible refine And.intro ?_ ?_); (first | omega | exact ⟨by omega, by omega⟩ | rfl)) | intro _
  try simp only [Bool.not_true, ↓If_lit, hT, eA, Nat.beq, List.toArray, reduceAdd, reduceLT, reduceLeDiff, reduceToNat]
  refine Fun.lent hb (by simp only [Int.cast_ofNat_Int, List.map_cons, List.map_nil, pur, geth, Nat.beq, cond_true, cond_false, rdR_byt, rdL, AV.rd, AV.nbV, AV.nb, rdR_cell, rdR_way, rdR_slot, rdR_turn, rdR_cel, rdR_box, rdR_out, rdR_inn, rdR_int]; rfl) (by rfl) rfl rfl rfl ?_; simp only [hT, eN, ↓If_lit, Int.reduceLT, Int.reduceLE, eA, Nat.beq, List.toArray, reduceAdd, reduceLT, reduceLeDiff, reduceToNat]; (try unfold lim); repeat first | ((with_reducible refine And.intro ?_ ?_); (first | omega | exact ⟨by omega, by omega⟩ | rfl)) | intro _
  try simp only [hk2, decide_true, Bool.not_true, ↓If_lit, hT, eA, Nat.beq, List.toArray, reduceAdd, reduceLT, reduceLeDiff, reduceToNat]
end Go.Proofs.YtjlmfcddbcoimaaGreat.C
