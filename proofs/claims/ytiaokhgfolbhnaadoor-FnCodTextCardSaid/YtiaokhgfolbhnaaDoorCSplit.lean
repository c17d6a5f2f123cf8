/- strings.Split at a blank: what the library's text makes of a string. -/
import Derived.Test.YtiaokhgfolbhnaaDoorAvZ
import Derived.Shelf.Strings.SplitCore
import Derived.Shelf.Strings.Search3
import Derived.Shelf.Strings.Count
import Derived.Lib.SplitLaws
import Derived.Test.YtiaokhgfolbhnaaDoorProg
set_option maxRecDepth 100000
set_option linter.unusedSimpArgs false
set_option linter.unusedVariables false
namespace Go.Proofs
open Go.Shelf
def Tryd.lays221_ren : Go.Shelf.Ren := ⟨fun | 221 => 91 | 268 => 100 | 138 => 101 | 143 => 102 | 195 => 112 | 197 => 113 | 218 => 114 | 219 => 115 | 260 => 121 | 217 => 122 | 225 => 123 | 224 => 124 | 267 => 125 | 266 => 128 | 314 => 129 | n => n, fun | 9 => 9 | 3 => 3 | 31 => 90 | 4 => 4 | 0 => 0 | 105 => 160 | 21 => 21 | 5 => 5 | 46 => 123 | 119 => 170 | 139 => 173 | 138 => 172 | 146 => 174 | 51 => 165 | n => n, fun | 1 => 2 | 3 => 3 | 4 => 4 | n => n⟩
theorem Tryd.lays221 : Go.Proofs.Lays.n221 Tryd.prog Tryd.lays221_ren := {
  mixed := by kernel_rfl
  f138 := Tryd.func101.trans (congrArg some (by kernel_rfl))
  f143 := Tryd.func102.trans (congrArg some (by kernel_rfl))
  f195 := Tryd.func112.trans (congrArg some (by kernel_rfl))
  f197 := Tryd.func113.trans (congrArg some (by kernel_rfl))
  f217 := Tryd.func122.trans (congrArg some (by kernel_rfl))
  f218 := Tryd.func114.trans (congrArg some (by kernel_rfl))
  f219 := Tryd.func115.trans (congrArg some (by kernel_rfl))
  f221 := Tryd.func91.trans (congrArg some (by kernel_rfl))
  f224 := Tryd.func124.trans (congrArg some (by kernel_rfl))
  f225 := Tryd.func123.trans (congrArg some (by kernel_rfl))
  f260 := Tryd.func121.trans (congrArg some (by kernel_rfl))
  f266 := Tryd.func128.trans (congrArg some (by kernel_rfl))
  f267 := Tryd.func125.trans (congrArg some (by kernel_rfl))
  f268 := Tryd.func100.trans (congrArg some (by kernel_rfl))
  f314 := Tryd.func129.trans (congrArg some (by kernel_rfl))
  t0 := Tryd.underlying0
  a0 := Tryd.isAgg0
  z0 := Tryd.sizeOf0
  v0 := Tryd.zeroValue0
  t3 := Tryd.underlying3
  a3 := Tryd.isAgg3
  z3 := Tryd.sizeOf3
  v3 := Tryd.zeroValue3
  t4 := Tryd.underlying4
  a4 := Tryd.isAgg4
  z4 := Tryd.sizeOf4
  v4 := Tryd.zeroValue4
  t5 := Tryd.underlying5
  a5 := Tryd.isAgg5
  z5 := Tryd.sizeOf5
  v5 := Tryd.zeroValue5
  t9 := Tryd.underlying9
  a9 := Tryd.isAgg9
  z9 := Tryd.sizeOf9
  v9 := Tryd.zeroValue9
  t21 := Tryd.underlying21
  a21 := Tryd.isAgg21
  z21 := Tryd.sizeOf21
  v21 := Tryd.zeroValue21
  t31 := Tryd.underlying90
  a31 := Tryd.isAgg90
  z31 := Tryd.sizeOf90
  v31 := Tryd.zeroValue90
  t46 := Tryd.underlying123
  a46 := Tryd.isAgg123
  z46 := Tryd.sizeOf123
  v46 := Tryd.zeroValue123
  t51 := Tryd.underlying165
  a51 := Tryd.isAgg165
  z51 := Tryd.sizeOf165
  v51 := Tryd.zeroValue165
  t105 := Tryd.underlying160
  a105 := Tryd.isAgg160
  z105 := Tryd.sizeOf160
  v105 := Tryd.zeroValue160
  t119 := Tryd.underlying170
  a119 := Tryd.isAgg170
  z119 := Tryd.sizeOf170
  t138 := Tryd.underlying172
  a138 := Tryd.isAgg172
  z138 := Tryd.sizeOf172
  v138 := Tryd.zeroValue172
  t139 := Tryd.underlying173
  a139 := Tryd.isAgg173
  z139 := Tryd.sizeOf173
  v139 := Tryd.zeroValue173
  t146 := Tryd.underlying174
  a146 := Tryd.isAgg174
  z146 := Tryd.sizeOf174
  v146 := Tryd.zeroValue174
  g1 := by kernel_rfl
  g3 := by kernel_rfl
  g4 := by kernel_rfl }
end Go.Proofs
namespace Go.Proofs.YtiaokhgfolbhnaaDoor.C
open Go Go.Av Go.Proofs Go.Shelf
/-- A string's pieces between its blanks. -/
def spl : List UInt8 → List (List UInt8)
  | [] => [[]]
  | b :: l => bif b == 32 then [] :: spl l else (b :: (spl l).headD []) :: (spl l).tail
theorem spl_ne : ∀ l, spl l ≠ []
  | [] => by simp [spl]
  | b :: l => by unfold spl; cases b == 32 <;> simp
theorem spl_length : ∀ l : List UInt8, (spl l).length = l.count 32 + 1
  | [] => rfl
  | b :: l => by
    have := spl_length l
    have hne := spl_ne l
    unfold spl
    by_cases h : b = 32
    · subst h; simp [this]
    · have hb : (b == 32) = false := by simpa using h
      rw [hb, cond_false, List.count_cons_of_ne h]
      simp only [List.length_cons, List.length_tail]
      omega
theorem repR_strs {C : Cx} (b : Nat) (hok : C.ok b) (c : Array Value) (t : TypeId) (z : Nat × Nat) (hb : C.w.heap[b]? = some (.cells c t z)) : ∀ (ss : List ByteArray) (off : Nat), (∀ s ∈ ss, s.size ≤ lim) → (∀ i (h : i < ss.length), c[off + i]? = some (.string ss[i])) → RepR C 1 (ss.map fun s => [AV.str s]) (some ⟨b, 0, none⟩) off
  | [], off, _, _ => trivial
  | s :: ss, off, h1, h2 => by
    refine ⟨⟨_, rfl, rfl, ⟨hok, .string s, ?_, rfl, ⟨rfl, h1 s (by simp), fun _ => rfl⟩⟩, trivial⟩, repR_strs b hok c t z hb ss (off + 1) (fun x hx => h1 x (by simp [hx])) (fun i hi => ?_)⟩
    · rw [add_none, cell_heap hb]
      have := h2 0 (by simp)
      simpa using this
    · have := h2 (i + 1) (by simpa using hi)
      rw [show off + 1 + i = off + (i + 1) by omega]
      simpa using this
/-- A function of the library that makes a slice of strings: a promise. -/
theorem fun_strs {P : Program} [Known P] {f : FuncId} {fn : Func} {args : List AV} (ss : List ByteArray) (d : List AV) (hf : P.funcs[f]? = some fn) (hn : (fn.name == "runtime.NumGoroutine") = false) (hb : fn.body.isNone = false) (h1 : ∀ s ∈ ss, s.size ≤ lim) (h2 : ss.length ≤ lim)
    (hr : ∀ (C : Cx) (vs : List Value), RepL C args vs (fun _ => 0) → Calls P f vs.toArray C.w (fun e w' => e = .returned (.slice (some ⟨C.w.heap.size, 0, none⟩) ss.length ss.length) ∧ ∃ t, w' = C.w.alloc (.cells (ss.map Value.string).toArray t))) : Fun P f args (.sl 1 (ss.map fun s => [.str s]) d) := by
  refine ⟨Go.Av.enters_of hf hn hb, fun B vs hBn hF hFb hargs hh => ?_⟩
  have hr' : Calls P f vs.toArray B.w (fun e w' => e = .returned (.slice (some ⟨B.w.heap.size, 0, none⟩) ss.length ss.length) ∧ ∃ t, w' = B.w.alloc (.cells (ss.map Value.string).toArray t)) := hr _ vs hargs
  refine hr'.mono fun e w' ⟨he, t, hw⟩ => ?_
  subst hw
  have hF0 : ∀ b, B.F b = 0 := hh
  have hheap : (B.w.alloc (.cells (ss.map Value.string).toArray t)).heap = B.w.heap.push (.cells (ss.map Value.string).toArray t) := rfl
  have hsize : (B.w.alloc (.cells (ss.map Value.string).toArray t)).heap.size = B.w.heap.size + 1 := by rw [hheap, Array.size_push]
  refine ⟨_, [], ⟨rfl, rfl⟩, _, B.mu, B.n, fun _ => 0, fun _ => 0, fun _ => 0, he, by omega, fun _ _ => rfl, ⟨rfl, rfl, rfl, ?_, fun b hb' _ => ?_, fun b => ?_, fun b hb' => ?_⟩, fun _ => rfl, ?_, fun _ => rfl⟩
  · rw [hsize]; omega
  · rw [hheap, Array.getElem?_push_lt hb']
    exact (Array.getElem?_eq_getElem hb').symm
  · exact Nat.zero_le _
  · exact absurd rfl hb'
  · have hb : (B.w.alloc (.cells (ss.map Value.string).toArray t)).heap[B.w.heap.size]? = some (.cells (ss.map Value.string).toArray t) := by rw [hheap]; simp
    refine ⟨⟨_, _, by rw [List.length_map], by rw [List.length_map]; exact Nat.le_refl _, by rw [List.length_map]; exact h2, ?_⟩, fun _ => rfl⟩
    refine repR_strs (C := (cx B (B.w.alloc (.cells (ss.map Value.string).toArray t)) B.mu (fun _ => 0) B.n).pu) B.w.heap.size ⟨by show B.w.heap.size < (B.w.alloc _).heap.size; rw [hsize]; omega, rfl, .inr (.inl (Nat.le_refl _))⟩ _ _ _ hb ss 0 h1 (fun i hi => by simp [hi])
theorem spl_mem : ∀ (l w : List UInt8), w ∈ spl l → w.length ≤ l.length
  | [], w, h => by simp [spl] at h; simp [h]
  | b :: l, w, h => by
    unfold spl at h
    cases hb : b == 32 with
    | true =>
      rw [hb, cond_true] at h
      rcases List.mem_cons.1 h with rfl | h
      · simp
      · have := spl_mem l w h; simp; omega
    | false =>
      rw [hb, cond_false] at h
      obtain ⟨x, r, e⟩ := List.exists_cons_of_ne_nil (spl_ne l)
      rw [e] at h
      rcases List.mem_cons.1 h with rfl | h
      · have := spl_mem l x (by rw [e]; simp); simpa using this
      · have := spl_mem l w (by rw [e]; exact List.mem_cons_of_mem _ (by simpa using h)); simp; omega
theorem idx_hit (b : UInt8) (l : List UInt8) (h : (b == 32) = true) : Lib.indexByte (b :: l) 32 = 0 := by
  unfold Lib.indexByte; rw [if_pos h]
theorem splitK_spl : ∀ l : List UInt8, Lib.splitK [32] 0 (l.count 32) l = spl l
  | [] => rfl
  | b :: l => by
    have ih := splitK_spl l
    have hge := Lib.indexByte_ge l 32
    unfold spl
    cases hb : b == 32 with
    | true =>
      have e : b = 32 := by simpa using hb
      rw [cond_true, List.count_cons, if_pos hb, Lib.splitK, Lib.index_one, idx_hit b l hb, if_neg (by decide)]
      simp [ih]
    | false =>
      have e : ¬b = 32 := by simpa using hb
      rw [cond_false, List.count_cons_of_ne e, ← ih]
      generalize l.count 32 = k
      cases k with
      | zero => rfl
      | succ k =>
        have hi : Lib.indexByte (b :: l) 32 = if Lib.indexByte l 32 == -1 then -1 else Lib.indexByte l 32 + 1 := by
          rw [Lib.indexByte, if_neg (by simp [e])]
        rw [Lib.splitK, Lib.splitK, Lib.index_one, Lib.index_one, hi]
        by_cases hx : Lib.indexByte l 32 = -1
        · simp [hx]
        · have hx' : (Lib.indexByte l 32 == -1) = false := by simpa using hx
          obtain ⟨m, hm⟩ : ∃ m : Nat, Lib.indexByte l 32 = m := ⟨(Lib.indexByte l 32).toNat, by omega⟩
          rw [hm] at hx' ⊢
          have h3 : ((m : Int) + 1 == -1) = false := by simpa using (show ¬(m : Int) + 1 = -1 by omega)
          have h4 : ((m : Int) + 1).toNat = m + 1 := by omega
          simp [hx', h3, h4]
theorem genSplit {P : Program} [Known P] (hP : P = Tryd.prog) (s : ByteArray) (hs : s.size < 4294967281) : Fun P 91 [.str s, .str ⟨#[32]⟩, .int .i64 0, .int .i64 (-1)] (.sl 1 ((spl s.data.toList).map fun w => [.str ⟨w.toArray⟩]) [.str ⟨#[]⟩]) := by
  have hsz : s.data.toList.length = s.size := rfl
  have e : (((spl s.data.toList).map fun w => (⟨w.toArray⟩ : ByteArray)).map fun s => [AV.str s]) = (spl s.data.toList).map fun w => [.str ⟨w.toArray⟩] := by rw [List.map_map]; rfl
  rw [← e]
  have hB : Lib.splitB ⟨#[32]⟩ 0 (s.data.toList.count 32) s = (spl s.data.toList).map fun w => (⟨w.toArray⟩ : ByteArray) := by
    have := Lib.splitB_data ⟨#[32]⟩ 0 (s.data.toList.count 32) s
    rw [show (ByteArray.mk #[32]).data.toList = [32] from rfl, splitK_spl] at this
    rw [← this, List.map_map]
    conv => lhs; rw [← List.map_id (Lib.splitB _ _ _ _)]
    apply List.map_congr_left
    intro a _
    rfl
  have hcount : s.data.toList.count 32 ≤ s.data.toList.length := List.count_le_length
  have hlen := spl_length s.data.toList
  subst hP
  refine fun_strs _ _ Tryd.func91 (by kernel_rfl) (by kernel_rfl) (fun x hx => ?_) ?_ fun C vs hvs => ?_
  · obtain ⟨w, hw, rfl⟩ := List.mem_map.1 hx
    have := spl_mem _ _ hw
    show w.length ≤ lim
    unfold lim; omega
  · rw [List.length_map, hlen]; unfold lim; omega
  · obtain ⟨v1, r1, F1, G1, rfl, ⟨rfl, _⟩, ⟨v2, r2, F2, G2, rfl, ⟨rfl, _⟩, ⟨v3, r3, F3, G3, rfl, ⟨rfl, _⟩, ⟨v4, r4, F4, G4, rfl, ⟨rfl, _⟩, ⟨rfl, _⟩, _⟩, _⟩, _⟩, _⟩ := hvs
    have hc : Lib.countB s ⟨#[32]⟩ = s.data.toList.count 32 := Lib.count_one 32 _
    have := Any.strings_genSplit_core Tryd.lays221 (by kernel_rfl) s ⟨#[32]⟩ 0 (-1) (Lib.countB s ⟨#[32]⟩ + 1) C.w hs (by decide) (Nat.zero_le _)
      (fun x c hx => by
        have h := Any.strings_Index_one { Tryd.lays221 with } x 32 (C.w.alloc (.cells c (Tryd.lays221_ren.t 9)))
        rw [← Lib.index_one] at h
        exact h)
      (by
        have h := Any.strings_Count_one { Tryd.lays221 with } s 32 C.w
        rw [hc]
        exact h) (by decide) (by decide) (by rw [if_pos (by decide), hc]; omega)
    refine this.mono fun e w' ⟨h1, h2⟩ => ?_
    rw [Nat.add_sub_cancel, hc, hB] at h1 h2
    have hl2 : ((spl s.data.toList).map fun w => (⟨w.toArray⟩ : ByteArray)).length = s.data.toList.count 32 + 1 := by rw [List.length_map, hlen]
    refine ⟨by rw [h1, hl2], _, by rw [h2, ← hl2, Lib.cellsOf_full]⟩
theorem TY_split {P : Program} (hP : P = Tryd.prog) : True := trivial
theorem split {P : Program} [Known P] (hP : P = Tryd.prog) (s : ByteArray) (hs : s.size < 4294967281) : Fun P 76 [.str s, .str ⟨#[32]⟩] (.sl 1 ((spl s.data.toList).map fun w => [.str ⟨w.toArray⟩]) [.str ⟨#[]⟩]) := by
  refine fun_of (fn := Tryd.f76) (hP ▸ Tryd.func76) (by kernel_rfl) (by kernel_rfl) (by kernel_rfl) (by kernel_rfl) ?_
  have hT := TY_split hP
  have gs := genSplit hP s hs
  clear hP
  intro hl
  clear hl
  simp only [Tryd.f76, hT, List.append_eq, bytB, boo, eqK, isC, convK, fitsK, List.length_append, inst, instV, instC, instT, Bool.and_false, Bool.true_and, Bool.false_and, Bool.and_true, Bool.or_true, Bool.or_false, argTm, Option.getD_some, wpcE, SeqE, BlkE, RndE, wopsE, RetE, RetXE, RetRE, resR, stp, bin, binI, numK, dstOf, St.ev, St.put, gtm, geth, seth, setAll, setRow, srcW, bndW, bldW, rowsW, setC, rdR, rdL, remh, Nat.beq, cond_true, cond_false, ofVal, resW, absC, pkR, selH, List.headD, true_and, and_true, List.toArray, AV.cells?, AV.nb, List.map_cons, List.map_nil, List.length_cons, List.length_nil, List.getD_cons_zero, List.getD_cons_succ, Nat.zero_add, Nat.reduceAdd, Nat.reduceLT, Nat.reduceLeDiff, List.drop, List.take, puL, AV.pu, Bool.and_self, packT, Nat.lt_add_one, Nat.le_refl, Bool.not_true, Bool.not_false, List.set, List.all, AV.one, List.cons_append, List.nil_append, Bool.true_or, Bool.false_or, npL, AV.np, sub, subL, List.length_map, Bool.or_self, Nat.add_zero, Int.toNat_natCast, Int.reduceToNat, List.replicate_zero, Int.toNat_zero]
  refine Fun.plain (gs) rfl rfl rfl rfl ?_; simp only [hT, nneg, beq_self_eq_true, decide_true, decide_false, ↓If_lit, Int.cast_ofNat_Int, Int.reduceLT, Int.reduceLE, List.append_eq, bytB, boo, eqK, isC, convK, fitsK, List.length_append, inst, instV, instC, instT, Bool.and_false, Bool.true_and, Bool.false_and, Bool.and_true, Bool.or_true, Bool.or_false, argTm, Option.getD_some, wpcE, SeqE, BlkE, RndE, wopsE, RetE, RetXE, RetRE, resR, stp, bin, binI, numK, dstOf, St.ev, St.put, gtm, geth, seth, setAll, setRow, srcW, bndW, bldW, rowsW, setC, rdR, rdL, remh, Nat.beq, cond_true, cond_false, ofVal, resW, absC, pkR, selH, List.headD, true_and, and_true, List.toArray, AV.cells?, AV.nb, List.map_cons, List.map_nil, List.length_cons, List.length_nil, List.getD_cons_zero, List.getD_cons_succ, Nat.zero_add, Nat.reduceAdd, Nat.reduceLT, Nat.reduceLeDiff, List.drop, List.take, puL, AV.pu, Bool.and_self, packT, Nat.lt_add_one, Nat.le_refl, Bool.not_true, Bool.not_false, List.set, List.all, AV.one, List.cons_append, List.nil_append, Bool.true_or, Bool.false_or, npL, AV.np, sub, subL, List.length_map, Bool.or_self, Nat.add_zero, Int.toNat_natCast, Int.reduceToNat, List.replicate_zero, Int.toNat_zero]; (try unfold lim); repeat first | ((with_reducible refine And.intro ?_ ?_); (first | omega | exact ⟨by omega, by omega⟩ | rfl)) | intro _
end Go.Proofs.YtiaokhgfolbhnaaDoor.C
