/- strconv.Itoa, by the shelf: a promise of Av. -/
import Derived.Test.YtiaokhgfolbhnaaDoorAvX
import Derived.Shelf.Strconv.Itoa4
import Derived.Lib.ItoaLen
import Derived.Test.YtiaokhgfolbhnaaDoorProg
set_option maxRecDepth 100000
set_option linter.unusedSimpArgs false
set_option linter.unusedVariables false
namespace Go.Proofs
open Go.Shelf
def Tryd.lays171_ren : Go.Shelf.Ren := ⟨fun | 171 => 62 | 243 => 87 | 246 => 99 | 283 => 108 | 284 => 109 | 285 => 110 | 286 => 111 | 129 => 117 | 317 => 116 | 318 => 118 | 319 => 119 | 320 => 120 | 337 => 126 | 338 => 127 | n => n, fun | 3 => 3 | 9 => 9 | 2 => 2 | 4 => 4 | 171 => 154 | 0 => 0 | 53 => 155 | 37 => 22 | 5 => 5 | 173 => 158 | 212 => 164 | 51 => 165 | 20 => 20 | 213 => 166 | 46 => 123 | 232 => 176 | 233 => 177 | n => n, fun | 17 => 1 | 18 => 5 | 19 => 6 | n => n⟩
theorem Tryd.lays171 : Go.Proofs.LaysM.n171 Tryd.prog Tryd.lays171_ren := {
  mixed := by kernel_rfl
  f129 := Tryd.func117.trans (congrArg some (by kernel_rfl))
  f171 := Tryd.func62.trans (congrArg some (by kernel_rfl))
  f243 := Tryd.func87.trans (congrArg some (by kernel_rfl))
  f246 := Tryd.func99.trans (congrArg some (by kernel_rfl))
  f283 := Tryd.func108.trans (congrArg some (by kernel_rfl))
  f284 := Tryd.func109.trans (congrArg some (by kernel_rfl))
  f285 := Tryd.func110.trans (congrArg some (by kernel_rfl))
  f286 := Tryd.func111.trans (congrArg some (by kernel_rfl))
  f317 := Tryd.func116.trans (congrArg some (by kernel_rfl))
  f318 := Tryd.func118.trans (congrArg some (by kernel_rfl))
  f319 := Tryd.func119.trans (congrArg some (by kernel_rfl))
  f320 := Tryd.func120.trans (congrArg some (by kernel_rfl))
  f337 := Tryd.func126.trans (congrArg some (by kernel_rfl))
  f338 := Tryd.func127.trans (congrArg some (by kernel_rfl))
  t0 := Tryd.underlying0
  a0 := Tryd.isAgg0
  z0 := Tryd.sizeOf0
  v0 := Tryd.zeroValue0
  t2 := Tryd.underlying2
  a2 := Tryd.isAgg2
  z2 := Tryd.sizeOf2
  v2 := Tryd.zeroValue2
  t3 := Tryd.underlying3
  a3 := Tryd.isAgg3
  z3 := Tryd.sizeOf3
  v3 := Tryd.zeroValue3
  t4 := Tryd.underlying4
  a4 := Tryd.isAgg4
  z4 := Tryd.sizeOf4
  v4 := Tryd.zeroValue4
  t5 := Tryd.underlying5
  a5 := Tryd.isAgg5
  z5 := Tryd.sizeOf5
  v5 := Tryd.zeroValue5
  t9 := Tryd.underlying9
  a9 := Tryd.isAgg9
  z9 := Tryd.sizeOf9
  v9 := Tryd.zeroValue9
  t20 := Tryd.underlying20
  a20 := Tryd.isAgg20
  z20 := Tryd.sizeOf20
  v20 := Tryd.zeroValue20
  t37 := Tryd.underlying22
  a37 := Tryd.isAgg22
  z37 := Tryd.sizeOf22
  v37 := Tryd.zeroValue22
  t46 := Tryd.underlying123
  a46 := Tryd.isAgg123
  z46 := Tryd.sizeOf123
  v46 := Tryd.zeroValue123
  t51 := Tryd.underlying165
  a51 := Tryd.isAgg165
  z51 := Tryd.sizeOf165
  v51 := Tryd.zeroValue165
  t53 := Tryd.underlying155
  a53 := Tryd.isAgg155
  z53 := Tryd.sizeOf155
  v53 := Tryd.zeroValue155
  t171 := Tryd.underlying154
  a171 := Tryd.isAgg154
  z171 := Tryd.sizeOf154
  v171 := Tryd.zeroValue154
  t173 := Tryd.underlying158
  a173 := Tryd.isAgg158
  z173 := Tryd.sizeOf158
  v173 := Tryd.zeroValue158
  t212 := Tryd.underlying164
  a212 := Tryd.isAgg164
  z212 := Tryd.sizeOf164
  v212 := Tryd.zeroValue164
  t213 := Tryd.underlying166
  a213 := Tryd.isAgg166
  z213 := Tryd.sizeOf166
  t232 := Tryd.underlying176
  a232 := Tryd.isAgg176
  z232 := Tryd.sizeOf176
  v232 := Tryd.zeroValue176
  t233 := Tryd.underlying177
  a233 := Tryd.isAgg177
  z233 := Tryd.sizeOf177
  v233 := Tryd.zeroValue177
  g17 := by kernel_rfl
  g18 := by kernel_rfl
  g19 := by kernel_rfl
  i0 := by kernel_rfl
  i2 := by kernel_rfl
  i3 := by kernel_rfl
  i4 := by kernel_rfl
  i5 := by kernel_rfl
  i9 := by kernel_rfl
  i20 := by kernel_rfl
  i37 := by kernel_rfl
  i46 := by kernel_rfl
  i51 := by kernel_rfl
  i53 := by kernel_rfl
  i171 := by kernel_rfl
  i173 := by kernel_rfl
  i212 := by kernel_rfl
  i232 := by kernel_rfl
  i233 := by kernel_rfl
  m17 := by kernel_rfl
  m18 := by kernel_rfl
  m19 := by kernel_rfl }
end Go.Proofs
namespace Go.Proofs.YtiaokhgfolbhnaaDoor.C
open Go Go.Av Go.Proofs Go.Shelf Go.Sort
/-- The numeral. -/
def num (n : Int) : ByteArray := ⟨(Lib.itoa n).toArray⟩
/-- A function of the library that grows the world: a promise. -/
theorem fun_grow {P : Program} [Known P] {f : FuncId} {fn : Func} {args : List AV} {r : AV} (hf : P.funcs[f]? = some fn) (hn : (fn.name == "runtime.NumGoroutine") = false) (hb : fn.body.isNone = false)
    (hr : ∀ (C : Cx) (vs : List Value), RepL C args vs (fun _ => 0) → Gx P C.w → ∃ v, Rep ⟨C.w, fun _ => False, fun _ => default, 0⟩ r v (fun _ => 0) ∧ (∀ C' : Cx, Rep C' r v (fun _ => 0)) ∧ Calls P f vs.toArray C.w (fun e w' => e = .returned v ∧ ∃ k os, w' = grow (C.w.drewN k) os)) : Fun P f args r := by
  refine ⟨Go.Av.enters_of hf hn hb, fun B vs hBn hF hFb hargs hh => ?_⟩
  obtain ⟨v, _, hv, hc⟩ := hr _ vs hargs B.gx
  refine hc.mono fun e w' ⟨he, k, os, hw⟩ => ?_
  subst hw
  have hF0 : ∀ b, B.F b = 0 := hh
  have hh1 : (grow (B.w.drewN k) os).heap = B.w.heap ++ os := rfl
  refine ⟨r, [], ⟨rfl, rfl⟩, v, B.mu, B.n, fun _ => 0, fun _ => 0, fun _ => 0, he, by omega, fun _ _ => rfl, ⟨rfl, rfl, rfl, ?_, fun b hb' _ => ?_, fun _ => Nat.zero_le _, fun b hb' => absurd rfl hb'⟩, fun _ => rfl, hv _, fun _ => rfl⟩
  · show B.w.heap.size ≤ (B.w.heap ++ os).size
    rw [Array.size_append]; omega
  · show (B.w.heap ++ os)[b]? = B.w.heap[b]?
    rw [Array.getElem?_append_left hb']
theorem itoa {P : Program} [Known P] (hP : P = Tryd.prog) (g : Nat) (hg : P.globalNamed "internal/strconv.uint64pow10" = some g) (hk : (g, (Lib.pow10Tab.map fun z => Value.int .u64 z).toArray) ∈ Known.tab P) (n : Int) (h0 : -9223372036854775808 ≤ n) (h1 : n ≤ 9223372036854775807) : Fun P 62 [.int .i64 n] (.str (num n)) := by
  subst hP
  refine fun_grow Tryd.func62 (by kernel_rfl) (by kernel_rfl) fun C vs hvs hgx => ?_
  obtain ⟨v, vs', F1, F2, rfl, ⟨rfl, hw, _⟩, ⟨rfl, _⟩, _⟩ := hvs
  have hl := Lib.itoa_length_le n h0 h1
  have hs : (num n).size ≤ lim := Nat.le_trans (show (Lib.itoa n).length ≤ 21 from hl) (by decide)
  refine ⟨.string (num n), ⟨rfl, hs, fun _ => rfl⟩, fun _ => ⟨rfl, hs, fun _ => rfl⟩, ?_⟩
  obtain ⟨t, z, ht⟩ := hgx.at_ _ hk
  exact Any.strconv_Itoa Tryd.lays171 n h0 h1 C.w (by
    unfold Lib.TabIs World.var?
    rw [hg]
    simp only [Option.bind_some, ht])
end Go.Proofs.YtiaokhgfolbhnaaDoor.C
