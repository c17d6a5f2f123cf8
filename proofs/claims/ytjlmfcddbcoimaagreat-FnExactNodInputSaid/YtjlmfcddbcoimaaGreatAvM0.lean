/- The engine, part 1 of 3: abstract values and an evaluator of code over them. -/
import Derived.Calls
import Derived.Below
import Derived.KernelRfl
import Derived.Laws.IdiomCopy
import Derived.Laws.Cells
import GoSem.ClaimJoined
import Derived.Laws.Tables
import Derived.Deep.MidRow
import Derived.Laws.Strings
import Derived.Laws.StructEq
import Derived.Laws.BytesString
import Derived.Laws.IdiomStrings
section
/- Engine, part 1: abstract values, what a value of memory must be to read as one, and how that outlives other steps. -/
set_option linter.unusedVariables false
set_option linter.unusedSimpArgs false
set_option autoImplicit false
namespace Go.Av

/-- Abstract values. A row is its list of cells. 'sl': a slice that nobody writes; 'own': a slice that is nobody else's; 'os', 'cp': a slice of, a place in, an object of the state. -/
inductive AV : Type where
  | dead
  | int (k : IntKind) (n : Int)
  | tt | ff
  | bool (b : Bool)
  | str (s : ByteArray)
  | agg (l : List AV)
  | tup (l : List AV)
  | sl (e : Nat) (rows : List (List AV)) (d : List AV)
  | own (e : Nat) (rows : List (List AV)) (d : List AV)
  | nils
  | os (o : Nat)
  | rp (cells : List AV)
  | cp (o i off : Nat)
  | nilp
  | fn (f : FuncId) (caps : List AV)
  | nilfn
  | iface (t : TypeId) (v : AV)
  | nilif

/-- How the head of an object of the state looks in memory. -/
structure Hdr where
  b : Option Nat
  len : Nat
  cap : Nat
  e : Nat
instance : Inhabited Hdr := ⟨⟨none, 0, 0, 0⟩⟩

/-- The object: rows of e cells; 'g': places of other objects may lie in it. -/
structure Ob where
  e : Nat
  rows : List (List AV)
  d : List AV
  g : Bool

abbrev Foot := Nat → Nat
def Z (F : Foot) : Prop := ∀ b, F b = 0

/-- What a reading leans on: the world, the blocks that stay as they are, the heads of the objects, the next free number. -/
structure Cx where
  w : World
  ok : Nat → Prop
  mu : Nat → Hdr
  nx : Nat

/-- The same for what lies in memory that nobody writes: no object of the state is named there. -/
def Cx.pu (C : Cx) : Cx := ⟨C.w, C.ok, fun _ => default, 0⟩
def Cx.sel (C : Cx) : Bool → Cx
  | true => C
  | false => C.pu
/-- No slice and no string is longer. -/
def lim : Nat := 140737488355328

mutual
def Rep : Cx → AV → Value → Foot → Prop
  | C, .dead, _, F => Z F
  | C, .int k n, v, F => v = .int k n ∧ k.wrap n = n ∧ Z F
  | C, .tt, v, F => v = .bool true ∧ Z F
  | C, .ff, v, F => v = .bool false ∧ Z F
  | C, .bool b, v, F => v = .bool b ∧ Z F
  | C, .str s, v, F => v = .string s ∧ s.size ≤ lim ∧ Z F
  | C, .agg l, v, F => ∃ cs : List Value, v = .agg cs.toArray ∧ RepL C l cs F
  | C, .tup l, v, F => ∃ cs : List Value, v = .tuple cs.toArray ∧ RepL C l cs F
  | C, .sl e rows _, v, F => (∃ a cap, v = .slice a rows.length cap ∧ rows.length ≤ cap ∧ rows.length ≤ lim ∧ RepR C.pu e rows a 0) ∧ Z F
  | C, .own e rows _, v, F => (v = .slice none 0 0 ∧ rows = [] ∧ Z F) ∨
      ∃ b cap c t FR, v = .slice (some ⟨b, 0, none⟩) rows.length cap ∧ rows.length ≤ cap ∧ rows.length ≤ lim ∧
        C.w.heap[b]? = some (.cells c t (0, 0)) ∧ c.size = cap * e ∧ RepO C.pu e rows c 0 FR ∧ ∀ x, F x = (if x = b then 1 else 0) + FR x
  | C, .nils, v, F => v = .slice none 0 0 ∧ Z F
  | C, .os o, v, F => o < C.nx ∧ v = .slice ((C.mu o).b.map fun b => ⟨b, 0, none⟩) (C.mu o).len (C.mu o).cap ∧ Z F
  | C, .rp cells, v, F => (∃ ad, v = .pointer (some ad) ∧ RepA C.pu cells ad 0) ∧ Z F
  | C, .cp o i off, v, F => o < C.nx ∧ (∃ b, (C.mu o).b = some b ∧ v = .pointer (some ⟨b, i * (C.mu o).e + off, none⟩)) ∧ Z F
  | C, .nilp, v, F => v = .pointer none ∧ Z F
  | C, .fn f caps, v, F => ∃ cs : List Value, v = .func (.func f) #[] cs.toArray ∧ RepL C caps cs F
  | C, .nilfn, v, F => v = .nilFunc ∧ Z F
  | C, .iface t x, v, F => ∃ u, v = .iface t u ∧ Rep C x u F
  | C, .nilif, v, F => v = .nilIface ∧ Z F
/-- A list of values. -/
def RepL : Cx → List AV → List Value → Foot → Prop
  | C, [], vs, F => vs = [] ∧ Z F
  | C, a :: l, vs, F => ∃ v vs' F1 F2, vs = v :: vs' ∧ Rep C a v F1 ∧ RepL C l vs' F2 ∧ ∀ b, F b = F1 b + F2 b
/-- Cells that lie in memory, one behind the other, and that nobody writes. -/
def RepA : Cx → List AV → Addr → Nat → Prop
  | C, [], _, _ => True
  | C, c :: l, ad, j => (C.ok ad.block ∧ ∃ u, C.w.cell? (ad.add j) = some u ∧ u.oneCell' = true ∧ Rep C c u (fun _ => 0)) ∧ RepA C l ad (j + 1)
/-- Rows of such cells. -/
def RepR : Cx → Nat → List (List AV) → Option Addr → Nat → Prop
  | C, e, [], _, _ => True
  | C, e, r :: l, a, i => (∃ ad, a = some ad ∧ r.length = e ∧ RepA C r ad (i * e)) ∧ RepR C e l a (i + 1)
/-- Cells of a block of one's own. -/
def RepB : Cx → List AV → Array Value → Nat → Foot → Prop
  | C, [], _, _, F => Z F
  | C, x :: l, c, off, F => ∃ u F1 F2, c[off]? = some u ∧ u.oneCell' = true ∧ Rep C x u F1 ∧ RepB C l c (off + 1) F2 ∧ ∀ b, F b = F1 b + F2 b
/-- Rows of a block of one's own. -/
def RepO : Cx → Nat → List (List AV) → Array Value → Nat → Foot → Prop
  | C, e, [], _, _, F => Z F
  | C, e, r :: l, c, off, F => ∃ F1 F2, r.length = e ∧ RepB C r c off F1 ∧ RepO C e l c (off + e) F2 ∧ ∀ b, F b = F1 b + F2 b
end
end Go.Av
end

section
/- Engine, part 2: a reading outlives what does not touch it; reading cells and rows by their numbers. -/
set_option linter.unusedVariables false
set_option linter.unusedSimpArgs false
set_option autoImplicit false
namespace Go.Av

structure Ext (C C' : Cx) : Prop where
  ok : ∀ b, C.ok b → C'.ok b
  keep : ∀ b, C.ok b → C'.w.heap[b]? = C.w.heap[b]?
  nx : C.nx ≤ C'.nx
  mu : ∀ o, o < C.nx → C'.mu o = C.mu o

theorem Ext.refl (C : Cx) : Ext C C := ⟨fun _ h => h, fun _ _ => rfl, Nat.le_refl _, fun _ _ => rfl⟩
theorem Ext.pu {C C' : Cx} (h : Ext C C') : Ext C.pu C'.pu := ⟨h.ok, h.keep, Nat.le_refl _, fun _ _ => rfl⟩
theorem Ext.sel {C C' : Cx} (h : Ext C C') : ∀ g, Ext (C.sel g) (C'.sel g)
  | true => h
  | false => h.pu
theorem Cx.sel_w (C : Cx) : ∀ g, (C.sel g).w = C.w
  | true => rfl
  | false => rfl
theorem cell_of_heap {w w' : World} {a : Addr} {n : Nat} (h : w'.heap[a.block]? = w.heap[a.block]?) : w'.cell? (a.add n) = w.cell? (a.add n) := by
  have e : (a.add n).block = a.block := by unfold Addr.add; split <;> rfl
  unfold World.cell?
  rw [e, h]

mutual
theorem Rep.mono {C C' : Cx} (hx : Ext C C') : ∀ (a : AV) (v : Value) (F : Foot), Rep C a v F → (∀ b, F b ≠ 0 → C'.w.heap[b]? = C.w.heap[b]?) → Rep C' a v F
  | .dead, v, F, h, k => h
  | .int _ _, v, F, h, k => h
  | .tt, v, F, h, k => h
  | .ff, v, F, h, k => h
  | .bool _, v, F, h, k => h
  | .str _, v, F, h, k => h
  | .agg l, v, F, h, k => by obtain ⟨cs, e, h⟩ := h; exact ⟨cs, e, RepL.mono hx l cs F h k⟩
  | .tup l, v, F, h, k => by obtain ⟨cs, e, h⟩ := h; exact ⟨cs, e, RepL.mono hx l cs F h k⟩
  | .sl e rows d, v, F, h, k => by
    obtain ⟨⟨a, cap, e1, h1, h2, h3⟩, hz⟩ := h
    exact ⟨⟨a, cap, e1, h1, h2, RepR.mono hx.pu e rows a 0 h3⟩, hz⟩
  | .own e rows d, v, F, h, k => by
    rcases h with h | ⟨b, cap, c, t, FR, h1, h2, h3, h4, h5, h6, h7⟩
    · exact .inl h
    · refine .inr ⟨b, cap, c, t, FR, h1, h2, h3, ?_, h5, RepO.mono hx.pu e rows c 0 FR h6 (fun x hx' => k x (by have := h7 x; omega)), h7⟩
      rw [k b (by have := h7 b; simp at this; omega)]; exact h4
  | .nils, v, F, h, k => h
  | .os o, v, F, h, k => by
    obtain ⟨h0, h1, h2⟩ := h
    exact ⟨Nat.lt_of_lt_of_le h0 hx.nx, by rw [hx.mu o h0]; exact h1, h2⟩
  | .rp cells, v, F, h, k => by
    obtain ⟨⟨ad, e, h1⟩, hz⟩ := h
    exact ⟨⟨ad, e, RepA.mono hx.pu cells ad 0 h1⟩, hz⟩
  | .cp o i off, v, F, h, k => by
    obtain ⟨h0, h1, h2⟩ := h
    exact ⟨Nat.lt_of_lt_of_le h0 hx.nx, by rw [hx.mu o h0]; exact h1, h2⟩
  | .nilp, v, F, h, k => h
  | .fn _ l, v, F, h, k => by obtain ⟨cs, e, h⟩ := h; exact ⟨cs, e, RepL.mono hx l cs F h k⟩
  | .nilfn, v, F, h, k => h
  | .iface _ x, v, F, h, k => by obtain ⟨u, e, h⟩ := h; exact ⟨u, e, Rep.mono hx x u F h k⟩
  | .nilif, v, F, h, k => h
theorem RepL.mono {C C' : Cx} (hx : Ext C C') : ∀ (l : List AV) (vs : List Value) (F : Foot), RepL C l vs F → (∀ b, F b ≠ 0 → C'.w.heap[b]? = C.w.heap[b]?) → RepL C' l vs F
  | [], vs, F, h, k => h
  | a :: l, vs, F, h, k => by
    obtain ⟨v, vs', F1, F2, e, h1, h2, h3⟩ := h
    exact ⟨v, vs', F1, F2, e, Rep.mono hx a v F1 h1 (fun b hb => k b (by have := h3 b; omega)), RepL.mono hx l vs' F2 h2 (fun b hb => k b (by have := h3 b; omega)), h3⟩
theorem RepA.mono {C C' : Cx} (hx : Ext C C') : ∀ (l : List AV) (ad : Addr) (j : Nat), RepA C l ad j → RepA C' l ad j
  | [], ad, j, h => h
  | a :: l, ad, j, h => by
    obtain ⟨⟨h0, u, h1, o1, h2⟩, h3⟩ := h
    exact ⟨⟨hx.ok _ h0, u, by rw [cell_of_heap (hx.keep _ h0)]; exact h1, o1, Rep.mono hx a u _ h2 (fun b hb => absurd rfl hb)⟩, RepA.mono hx l ad (j + 1) h3⟩
theorem RepR.mono {C C' : Cx} (hx : Ext C C') (e : Nat) : ∀ (l : List (List AV)) (a : Option Addr) (i : Nat), RepR C e l a i → RepR C' e l a i
  | [], a, i, h => h
  | r :: l, a, i, h => by
    obtain ⟨⟨ad, e1, e2, h1⟩, h2⟩ := h
    exact ⟨⟨ad, e1, e2, RepA.mono hx r ad (i * e) h1⟩, RepR.mono hx e l a (i + 1) h2⟩
theorem RepB.mono {C C' : Cx} (hx : Ext C C') : ∀ (l : List AV) (c : Array Value) (off : Nat) (F : Foot), RepB C l c off F → (∀ b, F b ≠ 0 → C'.w.heap[b]? = C.w.heap[b]?) → RepB C' l c off F
  | [], c, off, F, h, k => h
  | a :: l, c, off, F, h, k => by
    obtain ⟨u, F1, F2, e, o1, h1, h2, h3⟩ := h
    exact ⟨u, F1, F2, e, o1, Rep.mono hx a u F1 h1 (fun b hb => k b (by have := h3 b; omega)), RepB.mono hx l c (off + 1) F2 h2 (fun b hb => k b (by have := h3 b; omega)), h3⟩
theorem RepO.mono {C C' : Cx} (hx : Ext C C') (e : Nat) : ∀ (l : List (List AV)) (c : Array Value) (off : Nat) (F : Foot), RepO C e l c off F → (∀ b, F b ≠ 0 → C'.w.heap[b]? = C.w.heap[b]?) → RepO C' e l c off F
  | [], c, off, F, h, k => h
  | r :: l, c, off, F, h, k => by
    obtain ⟨F1, F2, e1, h1, h2, h3⟩ := h
    exact ⟨F1, F2, e1, RepB.mono hx r c off F1 h1 (fun b hb => k b (by have := h3 b; omega)), RepO.mono hx e l c (off + e) F2 h2 (fun b hb => k b (by have := h3 b; omega)), h3⟩
end
end Go.Av
end

section
/- Engine, part 3: the abstract state and what each operation makes of it. -/
set_option linter.unusedVariables false
set_option linter.unusedSimpArgs false
set_option autoImplicit false
namespace Go.Av

abbrev Hp := List (Nat × Ob)
structure St where
  tm : List (Nat × AV)
  hp : Hp
  nx : Nat

def gtm : List (Nat × AV) → Nat → AV
  | [], _ => .dead
  | (n, v) :: s, m => bif Nat.beq n m then v else gtm s m
def geth : Hp → Nat → Option Ob
  | [], _ => none
  | (n, v) :: s, m => bif Nat.beq n m then some v else geth s m
def remh : Hp → Nat → Hp
  | [], _ => []
  | (n, v) :: s, m => bif Nat.beq n m then s else (n, v) :: remh s m
def seth : Hp → Nat → Ob → Hp
  | [], _, _ => []
  | (n, v) :: s, m, x => bif Nat.beq n m then (n, x) :: s else (n, v) :: seth s m x

def St.put (s : St) (d : Option Tmp) (v : AV) : St := match d with
  | some d => ⟨(d, v) :: s.tm, s.hp, s.nx⟩
  | none => s

/-- Constants. -/
def ofVal : Nat → Value → AV
  | _, .int k n => .int k n
  | _, .bool true => .tt
  | _, .bool false => .ff
  | _, .string s => .str s
  | _, .slice none 0 0 => .nils
  | _, .pointer none => .nilp
  | _, .nilFunc => .nilfn
  | _, .nilIface => .nilif
  | n + 1, .agg cs => .agg (cs.toList.map (ofVal n))
  | _, _ => .dead
/-- Each number is of its kind, no string too long. -/
def okV : Nat → Value → Bool
  | _, .int k n => decide (k.wrap n = n)
  | _, .string s => Nat.ble s.size lim
  | n + 1, .agg cs => cs.toList.all (okV n)
  | _, _ => true
def okO : Operand → Bool
  | .const v => okV 3 v
  | _ => true
def St.ev (s : St) : Operand → AV
  | .tmp t => gtm s.tm t
  | .const v => ofVal 3 v
  | .func f => .fn f []
  | .global _ => .dead

/-- A test that is not decided: both ways. -/
structure If (b : Bool) (X Y : Prop) : Prop where
  t : b = true → X
  f : b = false → Y
/-- A number of 64 bits. -/
def In64 (x : Int) : Prop := -9223372036854775808 ≤ x ∧ x ≤ 9223372036854775807

/-- The cells of a value that is known. -/
def AV.cells? : AV → Option (List AV)
  | .agg l => some l
  | .dead => none
  | .tup _ => none
  | v => some [v]
/-- It is one cell. -/
def AV.one : AV → Bool
  | .agg _ => false
  | .dead => false
  | .tup _ => false
  | _ => true

/-- A test that is known, as any other. -/
def AV.nb : AV → AV
  | .tt => .bool true
  | .ff => .bool false
  | x => x
def AV.nbV : AV → AV
  | .agg l => .agg (l.map AV.nb)
  | x => x.nb
/-! ### Types -/
def rowD : TypeDesc → Bool
  | .struct _ => true
  | .array _ _ => true
  | _ => false
/-- Whether a value of the type is an aggregate, and how many cells it has. -/
def tyT (P : Program) (t : TypeId) : Option (Bool × Nat) := match P.underlying t with
  | some d => match P.info? t with
    | some i => some (rowD d, i.size)
    | none => none
  | none => none
/-- Of a field: its offset, how many cells it has, whether they are several. -/
def fldT (P : Program) (t : TypeId) (f : Nat) : Option (Nat × Bool × Nat) := match P.underlying t with
  | some (.struct fs) => match fs[f]? with
    | some x => match tyT P x.type with
      | some (g, n) => bif Nat.beq n 0 then none else some (x.offset, g, n)
      | none => none
    | none => none
  | _ => none
/-- Of a slice type: the cells of an element, whether they are several, the bytes. -/
def elT (P : Program) (t : TypeId) : Option (Bool × Nat × Nat) := match P.underlying t with
  | some (.slice e) => match tyT P e with
    | some (g, n) => bif Nat.beq n 0 then none else some (g, n, P.bytesOf e)
    | none => none
  | _ => none
def arT (P : Program) (t : TypeId) : Option (Nat × Bool × Nat) := match P.underlying t with
  | some (.array n e) => match tyT P e with
    | some (g, k) => some (n, g, k)
    | none => none
  | _ => none
def zeroT (P : Program) (t : TypeId) : Option (List AV) := match P.info? t with
  | some i => match i.zero with
    | some v => match (ofVal 3 v).cells? with
      | some l => bif okV 3 v && l.all AV.one then some (l.map AV.nb) else none
      | none => none
    | none => none
  | none => none
/-- Kinds of whole numbers. -/
def intT (P : Program) (t : TypeId) : Option IntKind := match P.underlying t with
  | some (.int k) => some k
  | _ => none
/-- No interface. -/
def byT (P : Program) (t : TypeId) : Bool := match P.underlying t with
  | some (.slice e) => match P.underlying e with
    | some (.int .u8) => true
    | _ => false
  | _ => false
def isB : List AV → Bool
  | [.int .u8 _] => true
  | _ => false
def cB : List AV → UInt8
  | [.int .u8 n] => UInt8.ofNat n.toNat
  | _ => 0
def utT (P : Program) (t : TypeId) : Bool := (P.underlying t).isSome
def ncT (P : Program) (t : TypeId) : Bool := match P.underlying t with
  | some (.interface _) => false
  | some _ => true
  | none => false
def itT (P : Program) (t : TypeId) : Bool := match P.underlying t with
  | some (.interface _) => true
  | _ => false
/-- Of a slice type: an element's cells, its bytes, its zero. -/
def mkT (P : Program) (t : TypeId) : Option (Nat × Nat × List AV) := match P.underlying t with
  | some (.slice e) => match P.info? e with
    | some i => match i.zero with
      | some z => match (ofVal 3 z).cells? with
        | some l => bif okV 3 z && l.all AV.one && Nat.beq l.length i.size && !Nat.beq i.size 0 && !Nat.beq i.bytes 0 then some (i.size, i.bytes, l.map AV.nb) else none
        | none => none
      | none => none
    | none => none
  | _ => none
/-- Where the parts of a struct or an array lie. -/
def plT (P : Program) (t : TypeId) (i : Nat) : Option (Nat × Nat) := match P.underlying t with
  | some (.struct fs) => match fs[i]? with
    | some f => match tyT P f.type with
      | some (_, n) => some (f.offset, n)
      | none => none
    | none => none
  | some (.array _ e) => match tyT P e with
    | some (_, n) => some (i * n, n)
    | none => none
  | _ => none
/-- It is a struct or an array whose parts' types are there. -/
def bldT (P : Program) (t : TypeId) : Bool := match P.underlying t with
  | some (.struct fs) => fs.toList.all fun f => (P.info? f.type).isSome
  | some (.array _ e) => (P.info? e).isSome
  | _ => false
/-- A slice's type: 1; a string's: 2. -/
def lkT (P : Program) (t : TypeId) : Nat := match P.underlying t with
  | some (.slice _) => 1
  | some .string => 2
  | _ => 0
def zeroA (P : Program) (t : TypeId) : Option AV := match P.info? t with
  | some i => match i.zero with
    | some v => bif okV 3 v then some (ofVal 3 v).nbV else none
    | none => none
  | none => none
def packT (g : Bool) (cells : List AV) : AV := match g with
  | true => .agg cells
  | false => cells.headD .dead

/-! ### Own slices inside rows -/
def absC : Hp → List AV → List AV × Hp
  | h, [] => ([], h)
  | h, x :: l => match x with
    | .os o => match geth h o with
      | some ob => match ob.g with
        | false => ((.own ob.e ob.rows ob.d) :: (absC (remh h o) l).1, (absC (remh h o) l).2)
        | true => (x :: (absC h l).1, (absC h l).2)
      | none => (x :: (absC h l).1, (absC h l).2)
    | _ => (x :: (absC h l).1, (absC h l).2)

/-! ### Operations -/
def fitsK : IntKind → IntKind → Bool
  | .i64, .i64 => true
  | .u8, .u8 => true
  | .u8, .i64 => true
  | .u32, .u32 => true
  | .u32, .i64 => true
  | .i32, .i32 => true
  | .i32, .i64 => true
  | .u64, .u64 => true
  | .u16, .u16 => true
  | .u16, .i64 => true
  | .u8, .u32 => true
  | .u8, .u64 => true
  | .u32, .u64 => true
  | _, _ => false
def convK (k k' : IntKind) (n : Int) : Int := match fitsK k k' with
  | true => n
  | false => k'.wrap n
/-- Bits of two numbers. -/
def bitK (op : BinOp) (k : IntKind) (x y : Int) : Int := match op with
  | .and => k.wrap (BitVec.ofInt k.bits x &&& BitVec.ofInt k.bits y).toNat
  | .or => k.wrap (BitVec.ofInt k.bits x ||| BitVec.ofInt k.bits y).toNat
  | .xor => k.wrap (BitVec.ofInt k.bits x ^^^ BitVec.ofInt k.bits y).toNat
  | _ => k.wrap (BitVec.ofInt k.bits x &&& ~~~BitVec.ofInt k.bits y).toNat
def shlK (k : IntKind) (x y : Int) : Int := k.wrap (x * 2 ^ min y.toNat k.bits)
def shrK (k : IntKind) (x y : Int) : Int := x.fdiv (2 ^ min y.toNat k.bits)
/-- A sum: of 64 bits it is owed that it fits, of others it wraps. -/
def numK (k : IntKind) (x : Int) (K : AV → Prop) : Prop := match k with
  | .i64 => In64 x ∧ K (.int .i64 x)
  | k => K (.int k (k.wrap x))
def binI (op : BinOp) (k : IntKind) (x : Int) (k' : IntKind) (y : Int) (K : AV → Prop) : Prop :=
  match op with
  | .add => k = k' ∧ numK k (x + y) K
  | .sub => k = k' ∧ numK k (x - y) K
  | .mul => k = k' ∧ numK k (x * y) K
  | .quo => k = k' ∧ y ≠ 0 ∧ numK k (x.tdiv y) K
  | .rem => k = k' ∧ y ≠ 0 ∧ K (.int k (x.tmod y))
  | .and => k = k' ∧ K (.int k (bitK .and k x y))
  | .or => k = k' ∧ K (.int k (bitK .or k x y))
  | .xor => k = k' ∧ K (.int k (bitK .xor k x y))
  | .andNot => k = k' ∧ K (.int k (bitK .andNot k x y))
  | .shl => 0 ≤ y ∧ K (.int k (shlK k x y))
  | .shr => 0 ≤ y ∧ K (.int k (shrK k x y))
  | .eql => k = k' ∧ K (.bool (decide (x = y)))
  | .neq => k = k' ∧ K (.bool (!decide (x = y)))
  | .lss => k = k' ∧ K (.bool (decide (x < y)))
  | .leq => k = k' ∧ K (.bool (decide (x ≤ y)))
  | .gtr => k = k' ∧ K (.bool (decide (y < x)))
  | .geq => k = k' ∧ K (.bool (decide (y ≤ x)))
def AV.isNil : AV → Option Bool
  | .nilif => some true
  | .iface _ _ => some false
  | _ => none
def AV.isNilp : AV → Option Bool
  | .nilp => some true
  | .rp _ => some false
  | .cp _ _ _ => some false
  | _ => none
/-- Whether the type is a pointer's, an interface's. -/
def ptT (P : Program) (t : TypeId) : Bool := match P.underlying t with
  | some (.pointer _) => true
  | _ => false
def bolT (P : Program) (t : TypeId) : Bool := match P.underlying t with
  | some .bool => true
  | _ => false
def boo : AV → Option Bool
  | .tt => some true
  | .ff => some false
  | .bool b => some b
  | _ => none
def isC : Operand → Bool
  | .const _ => true
  | _ => false
/-- A struct of numbers, each in its place. -/
def flatF (P : Program) : Nat → List Field → Bool
  | _, [] => true
  | j, f :: fs => (f.name != "_") && (match intT P f.type with
    | some _ => true
    | none => false) && Nat.beq f.offset j && (match tyT P f.type with
    | some (false, 1) => true
    | _ => false) && flatF P (j + 1) fs
def flatT (P : Program) (t : TypeId) (n : Nat) : Bool := match P.underlying t with
  | some (.struct fs) => Nat.beq fs.toList.length n && !P.stoodInHeld t && !P.eqGuardType P.depth t && flatF P 0 fs.toList
  | _ => false
def eqK : List AV → List AV → (Bool → Prop) → Prop
  | [], [], K => K true
  | .int k x :: l, .int k' y :: l', K => k = k' ∧ eqK l l' (fun b => K (decide (x = y) && b))
  | _, _, _ => False
def bin (P : Program) (op : BinOp) (t : TypeId) (cx cy : Bool) (a b : AV) (K : AV → Prop) : Prop :=
  match a, b with
  | .int k x, .int k' y => binI op k x k' y K
  | .str x, .str y => match op with
    | .add => x.size + y.size ≤ lim ∧ K (.str (x ++ y))
    | .eql => K (.bool (decide (x = y)))
    | .neq => K (.bool (!decide (x = y)))
    | _ => False
  | .nilif, .nilif => itT P t = true ∧ (cx || cy) = true ∧ (match op with
    | .eql => K .tt
    | .neq => K .ff
    | _ => False)
  | .nilif, .iface _ _ => itT P t = true ∧ (match op with
    | .eql => K .ff
    | .neq => K .tt
    | _ => False)
  | .iface _ _, .nilif => itT P t = true ∧ (match op with
    | .eql => K .ff
    | .neq => K .tt
    | _ => False)
  | .agg l, .agg l' => flatT P t l.length = true ∧ (match op with
    | .eql => eqK l l' (fun b => K (.bool b))
    | .neq => eqK l l' (fun b => K (.bool (!b)))
    | _ => False)
  | a, b => match boo a, boo b with
    | some x, some y => bolT P t = true ∧ (match op with
      | .eql => K (.bool (x == y))
      | .neq => K (.bool (!(x == y)))
      | _ => False)
    | _, _ => False

/-- Store into the row i of an object, from its cell 'off' on. -/
def setRow (ob : Ob) (i off : Nat) (cells : List AV) : Ob :=
  ⟨ob.e, ob.rows.set i ((ob.rows.getD i ob.d).take off ++ cells ++ (ob.rows.getD i ob.d).drop (off + cells.length)), ob.d, ob.g⟩

/-- The same; a whole row takes the old one's place. -/
def setAll (ob : Ob) (i off : Nat) (cells : List AV) : Ob := match Nat.beq off 0 && Nat.beq cells.length ob.e with
  | true => ⟨ob.e, ob.rows.set i cells, ob.d, ob.g⟩
  | false => setRow ob i off cells
theorem setAll_eq {ob : Ob} {i off : Nat} {cells : List AV} (h : (ob.rows.getD i ob.d).length = ob.e) : setAll ob i off cells = setRow ob i off cells := by
  unfold setAll
  split
  · rename_i hb
    simp only [Bool.and_eq_true] at hb
    obtain rfl := Nat.eq_of_beq_eq_true hb.1
    have h2 := Nat.eq_of_beq_eq_true hb.2
    simp only [setRow, List.take_zero, List.nil_append, Nat.zero_add]
    rw [List.drop_of_length_le (by omega), List.append_nil]
  · rfl

mutual
/-- Nothing of one's own lies in it. -/
def AV.pu : AV → Bool
  | .own _ _ _ => false
  | .agg l => puL l
  | .tup l => puL l
  | .fn _ l => puL l
  | .iface _ x => x.pu
  | _ => true
def puL : List AV → Bool
  | [] => true
  | a :: l => a.pu && puL l
end

end Go.Av
end

section
/- Engine, part 4: the relation between abstract and real states; rows of a block by their numbers. -/
set_option linter.unusedVariables false
set_option linter.unusedSimpArgs false
set_option autoImplicit false
namespace Go.Av

/-! ### Rows of a block -/
theorem RepB.congr {C : Cx} {c c' : Array Value} : ∀ (l : List AV) (off : Nat) (F : Foot), (∀ j, off ≤ j → j < off + l.length → c'[j]? = c[j]?) → RepB C l c off F → RepB C l c' off F
  | [], off, F, k, h => h
  | x :: l, off, F, k, h => by
    obtain ⟨u, F1, F2, e, o1, h1, h2, h3⟩ := h
    exact ⟨u, F1, F2, by rw [k off (Nat.le_refl _) (by simp)]; exact e, o1, h1, RepB.congr l (off + 1) F2 (fun j h5 h6 => k j (by omega) (by simp; omega)) h2, h3⟩
theorem RepO.congr {C : Cx} {e : Nat} {c c' : Array Value} : ∀ (l : List (List AV)) (off : Nat) (F : Foot), (∀ j, off ≤ j → j < off + l.length * e → c'[j]? = c[j]?) → RepO C e l c off F → RepO C e l c' off F
  | [], off, F, k, h => h
  | x :: l, off, F, k, h => by
    obtain ⟨F1, F2, e1, h1, h2, h3⟩ := h
    have e2 : (x :: l).length * e = l.length * e + e := by rw [List.length_cons, Nat.add_mul, Nat.one_mul]
    exact ⟨F1, F2, e1, RepB.congr x off F1 (fun j h5 h6 => k j h5 (by omega)) h1, RepO.congr l (off + e) F2 (fun j h5 h6 => k j (by omega) (by omega)) h2, h3⟩
theorem RepB.append {C : Cx} {c : Array Value} : ∀ (l l' : List AV) (off : Nat) (F : Foot), RepB C (l ++ l') c off F ↔ ∃ F1 F2, RepB C l c off F1 ∧ RepB C l' c (off + l.length) F2 ∧ ∀ b, F b = F1 b + F2 b
  | [], l', off, F => by
    constructor
    · intro h; exact ⟨fun _ => 0, F, fun _ => rfl, by simpa using h, fun b => by simp⟩
    · rintro ⟨F1, F2, h1, h2, h3⟩
      have : F = F2 := funext fun b => by have := h1 b; have := h3 b; omega
      subst this; simpa using h2
  | x :: l, l', off, F => by
    constructor
    · rintro ⟨u, G1, G2, e, o1, h1, h2, h3⟩
      obtain ⟨F1, F2, k1, k2, k3⟩ := (RepB.append l l' (off + 1) G2).1 h2
      refine ⟨fun b => G1 b + F1 b, F2, ⟨u, G1, F1, e, o1, h1, k1, fun _ => rfl⟩, ?_, fun b => by have := h3 b; have := k3 b; simp; omega⟩
      rw [List.length_cons, show off + (l.length + 1) = off + 1 + l.length by omega]; exact k2
    · rintro ⟨F1, F2, ⟨u, G1, G2, e, o1, h1, h2, h3⟩, k1, k2⟩
      refine ⟨u, G1, fun b => G2 b + F2 b, e, o1, h1, (RepB.append l l' (off + 1) _).2 ⟨G2, F2, h2, ?_, fun _ => rfl⟩, fun b => by have := h3 b; have := k2 b; simp; omega⟩
      rw [List.length_cons, show off + (l.length + 1) = off + 1 + l.length by omega] at k1; exact k1
theorem RepO.append {C : Cx} {e : Nat} {c : Array Value} : ∀ (l l' : List (List AV)) (off : Nat) (F : Foot), RepO C e (l ++ l') c off F ↔ ∃ F1 F2, RepO C e l c off F1 ∧ RepO C e l' c (off + l.length * e) F2 ∧ ∀ b, F b = F1 b + F2 b
  | [], l', off, F => by
    constructor
    · intro h; exact ⟨fun _ => 0, F, fun _ => rfl, by simpa using h, fun b => by simp⟩
    · rintro ⟨F1, F2, h1, h2, h3⟩
      have : F = F2 := funext fun b => by have := h1 b; have := h3 b; omega
      subst this; simpa using h2
  | x :: l, l', off, F => by
    have e2 : off + (x :: l).length * e = off + e + l.length * e := by rw [List.length_cons, Nat.add_mul, Nat.one_mul]; omega
    rw [e2]
    constructor
    · rintro ⟨G1, G2, e1, h1, h2, h3⟩
      obtain ⟨F1, F2, k1, k2, k3⟩ := (RepO.append l l' (off + e) G2).1 h2
      exact ⟨fun b => G1 b + F1 b, F2, ⟨G1, F1, e1, h1, k1, fun _ => rfl⟩, k2, fun b => by have := h3 b; have := k3 b; simp; omega⟩
    · rintro ⟨F1, F2, ⟨G1, G2, e1, h1, h2, h3⟩, k1, k2⟩
      exact ⟨G1, fun b => G2 b + F2 b, e1, h1, (RepO.append l l' (off + e) _).2 ⟨G2, F2, h2, k1, fun _ => rfl⟩, fun b => by have := h3 b; have := k2 b; simp; omega⟩

/-- The cells of a list of values, as an array. -/
theorem RepB.of_list {C : Cx} {c : Array Value} : ∀ (l : List AV) (vs : List Value) (off : Nat) (F : Foot), (∀ j v, vs[j]? = some v → c[off + j]? = some v) → (∀ v ∈ vs, v.oneCell' = true) → RepL C l vs F → RepB C l c off F
  | [], vs, off, F, k, ho, h => h.2
  | x :: l, vs, off, F, k, ho, h => by
    obtain ⟨v, vs', F1, F2, rfl, h1, h2, h3⟩ := h
    exact ⟨v, F1, F2, by simpa using k 0 v rfl, ho v (by simp), h1, RepB.of_list l vs' (off + 1) F2 (fun j u hj => by rw [show off + 1 + j = off + (j + 1) by omega]; exact k (j + 1) u hj) (fun u hu => ho u (by simp [hu])) h2, h3⟩
theorem RepB.to_list {C : Cx} {c : Array Value} : ∀ (l : List AV) (off : Nat) (F : Foot), RepB C l c off F → ∃ vs : List Value, RepL C l vs F ∧ vs.length = l.length ∧ (∀ j v, vs[j]? = some v → c[off + j]? = some v) ∧ ∀ v ∈ vs, v.oneCell' = true
  | [], off, F, h => ⟨[], ⟨rfl, h⟩, rfl, fun j v hj => by simp at hj, fun v hv => by simp at hv⟩
  | x :: l, off, F, h => by
    obtain ⟨u, F1, F2, e, o1, h1, h2, h3⟩ := h
    obtain ⟨vs, k1, k2, k3, k4⟩ := RepB.to_list l (off + 1) F2 h2
    refine ⟨u :: vs, ⟨u, vs, F1, F2, rfl, h1, k1, h3⟩, by simp [k2], fun j v hj => ?_, fun v hv => (List.mem_cons.1 hv).elim (fun e => e ▸ o1) (k4 v)⟩
    cases j with
    | zero => simp at hj; subst hj; simpa using e
    | succ j => rw [show off + (j + 1) = off + 1 + j by omega]; exact k3 j v (by simpa using hj)
theorem RepL.length {C : Cx} : ∀ (l : List AV) (vs : List Value) (F : Foot), RepL C l vs F → vs.length = l.length
  | [], vs, F, h => by simp [h.1]
  | x :: l, vs, F, h => by
    obtain ⟨v, vs', F1, F2, rfl, h1, h2, h3⟩ := h
    simp [RepL.length l vs' F2 h2]
theorem RepB.foot {C : Cx} {c : Array Value} {l : List AV} {off : Nat} {F F' : Foot} (h : RepB C l c off F) (e : ∀ b, F' b = F b) : RepB C l c off F' := (funext e : F' = F) ▸ h
theorem RepO.foot {C : Cx} {e : Nat} {c : Array Value} {l : List (List AV)} {off : Nat} {F F' : Foot} (h : RepO C e l c off F) (k : ∀ b, F' b = F b) : RepO C e l c off F' := (funext k : F' = F) ▸ h
theorem RepL.foot {C : Cx} {l : List AV} {vs : List Value} {F F' : Foot} (h : RepL C l vs F) (k : ∀ b, F' b = F b) : RepL C l vs F' := (funext k : F' = F) ▸ h
theorem Rep.foot {C : Cx} {a : AV} {v : Value} {F F' : Foot} (h : Rep C a v F) (k : ∀ b, F' b = F b) : Rep C a v F' := (funext k : F' = F) ▸ h

/-- The row i of a block, and what it takes to put another one in its place. -/
theorem RepO.focus {C : Cx} {e : Nat} {c : Array Value} : ∀ (l : List (List AV)) (off : Nat) (F : Foot) (i : Nat) (r : List AV), RepO C e l c off F → l[i]? = some r →
    r.length = e ∧ ∃ F1 F2 : Foot, RepB C r c (off + i * e) F1 ∧ (∀ b, F b = F1 b + F2 b) ∧
      ∀ (C' : Cx) (r' : List AV) (c' : Array Value) (F' : Foot), Ext C C' → (∀ b, F2 b ≠ 0 → C'.w.heap[b]? = C.w.heap[b]?) → r'.length = e → RepB C' r' c' (off + i * e) F' → (∀ j, (j < off + i * e ∨ off + i * e + e ≤ j) → c'[j]? = c[j]?) →
        RepO C' e (l.set i r') c' off (fun b => F' b + F2 b)
  | [], off, F, i, r, h, hi => by simp at hi
  | x :: l, off, F, 0, r, h, hi => by
    obtain ⟨G1, G2, e1, h1, h2, h3⟩ := h
    obtain rfl : x = r := by simpa using hi
    refine ⟨e1, G1, G2, by simpa using h1, h3, fun C' r' c' F' hx hk k1 k2 k3 => ⟨F', G2, k1, by simpa using k2, RepO.congr l (off + e) G2 (fun j h5 h6 => k3 j (by simp; omega)) (h2.mono hx _ _ _ _ _ hk), fun _ => rfl⟩⟩
  | x :: l, off, F, i + 1, r, h, hi => by
    obtain ⟨G1, G2, e1, h1, h2, h3⟩ := h
    have e2 : off + (i + 1) * e = off + e + i * e := by rw [Nat.add_mul, Nat.one_mul]; omega
    obtain ⟨k0, F1, F2, k1, k2, k3⟩ := RepO.focus l (off + e) G2 i r h2 (by simpa using hi)
    refine ⟨k0, F1, fun b => G1 b + F2 b, by rw [e2]; exact k1, fun b => by have := h3 b; have := k2 b; simp; omega, fun C' r' c' F' hx hk m1 m2 m3 => ?_⟩
    rw [e2] at m2 m3
    refine ⟨G1, fun b => F' b + F2 b, e1, RepB.congr x off G1 (fun j h5 h6 => m3 j (by omega)) (h1.mono hx _ _ _ _ (fun b hb => hk b (by simp; omega))), k3 C' r' c' F' hx (fun b hb => hk b (by simp; omega)) m1 m2 m3, fun b => by simp; omega⟩
end Go.Av
end

section
/- Engine, part 5: abstract and real states; steps that keep them together. -/
set_option linter.unusedVariables false
set_option linter.unusedSimpArgs false
set_option autoImplicit false
namespace Go.Av

/-- The head of an object in memory. -/
def RepOb (C : Cx) (o : Nat) (ob : Ob) (F : Foot) : Prop :=
  o < C.nx ∧ (((C.mu o).b = none ∧ (C.mu o).len = 0 ∧ (C.mu o).cap = 0 ∧ ob.rows = [] ∧ Z F) ∨
    ∃ b c t FR, (C.mu o).b = some b ∧ (C.mu o).len = ob.rows.length ∧ (C.mu o).e = ob.e ∧ ob.rows.length ≤ (C.mu o).cap ∧ ob.rows.length ≤ lim ∧
      C.w.heap[b]? = some (.cells c t (0, 0)) ∧ c.size = (C.mu o).cap * ob.e ∧ RepO (C.sel ob.g) ob.e ob.rows c 0 FR ∧ ∀ x, F x = (if x = b then 1 else 0) + FR x)
def RepH (C : Cx) : Hp → Foot → Prop
  | [], F => Z F
  | (o, ob) :: h, F => ∃ F1 F2, RepOb C o ob F1 ∧ RepH C h F2 ∧ ∀ b, F b = F1 b + F2 b

theorem RepOb.mono {C C' : Cx} (hx : Ext C C') {o : Nat} {ob : Ob} {F : Foot} (h : RepOb C o ob F) (k : ∀ b, F b ≠ 0 → C'.w.heap[b]? = C.w.heap[b]?) : RepOb C' o ob F := by
  obtain ⟨h0, h⟩ := h
  refine ⟨Nat.lt_of_lt_of_le h0 hx.nx, ?_⟩
  rw [hx.mu o h0]
  rcases h with h | ⟨b, c, t, FR, h1, h2, h3, h4, h5, h6, h7, h8, h9⟩
  · exact .inl h
  · refine .inr ⟨b, c, t, FR, h1, h2, h3, h4, h5, ?_, h7, RepO.mono (hx.sel _) _ _ _ _ _ h8 (fun x hx' => by rw [Cx.sel_w, Cx.sel_w]; exact k x (by have := h9 x; omega)), h9⟩
    rw [k b (by have := h9 b; simp at this; omega)]; exact h6
theorem RepH.mono {C C' : Cx} (hx : Ext C C') : ∀ (h : Hp) (F : Foot), RepH C h F → (∀ b, F b ≠ 0 → C'.w.heap[b]? = C.w.heap[b]?) → RepH C' h F
  | [], F, h, k => h
  | (o, ob) :: h, F, hh, k => by
    obtain ⟨F1, F2, h1, h2, h3⟩ := hh
    exact ⟨F1, F2, h1.mono hx (fun b hb => k b (by have := h3 b; omega)), RepH.mono hx h F2 h2 (fun b hb => k b (by have := h3 b; omega)), h3⟩
/-- One object taken out. -/
theorem RepH.take {C : Cx} : ∀ (h : Hp) (F : Foot) (o : Nat) (ob : Ob), RepH C h F → geth h o = some ob →
    ∃ F1 F2 : Foot, RepOb C o ob F1 ∧ RepH C (remh h o) F2 ∧ (∀ b, F b = F1 b + F2 b)
  | [], F, o, ob, h, e => by simp [geth] at e
  | (n, x) :: h, F, o, ob, hh, e => by
    obtain ⟨F1, F2, h1, h2, h3⟩ := hh
    simp only [geth, remh] at *
    cases hb : Nat.beq n o with
    | true =>
      rw [hb] at e; simp at e; subst e
      obtain rfl := Nat.eq_of_beq_eq_true hb
      exact ⟨F1, F2, h1, by simpa using h2, h3⟩
    | false =>
      rw [hb] at e; simp at e
      obtain ⟨G1, G2, k1, k2, k3⟩ := RepH.take h F2 o ob h2 e
      exact ⟨G1, fun b => F1 b + G2 b, k1, ⟨F1, G2, h1, k2, fun _ => rfl⟩, fun b => by have := h3 b; have := k3 b; simp; omega⟩
/-- One object put in another's place. -/
theorem RepH.put {C : Cx} : ∀ (h : Hp) (F : Foot) (o : Nat) (ob : Ob), RepH C h F → geth h o = some ob →
    ∃ F1 F2 : Foot, RepOb C o ob F1 ∧ (∀ b, F b = F1 b + F2 b) ∧ RepH C (remh h o) F2 ∧
      (∀ C' ob' F1', RepOb C' o ob' F1' → (Ext C C' ∧ ∀ b, F2 b ≠ 0 → C'.w.heap[b]? = C.w.heap[b]?) → RepH C' (seth h o ob') (fun b => F1' b + F2 b))
  | [], F, o, ob, h, e => by simp [geth] at e
  | (n, x) :: h, F, o, ob, hh, e => by
    obtain ⟨F1, F2, h1, h2, h3⟩ := hh
    simp only [geth, seth, remh] at *
    cases hb : Nat.beq n o with
    | true =>
      rw [hb] at e; simp at e; subst e
      obtain rfl := Nat.eq_of_beq_eq_true hb
      exact ⟨F1, F2, h1, h3, by simpa using h2, fun C' ob' F1' k1 k2 => ⟨F1', F2, k1, RepH.mono k2.1 h F2 h2 k2.2, fun _ => rfl⟩⟩
    | false =>
      rw [hb] at e; simp at e
      obtain ⟨G1, G2, k1, k2, k4, k3⟩ := RepH.put h F2 o ob h2 e
      refine ⟨G1, fun b => F1 b + G2 b, k1, fun b => by have := h3 b; have := k2 b; simp; omega, ⟨F1, G2, h1, k4, fun _ => rfl⟩, fun C' ob' F1' m1 m2 => ?_⟩
      exact ⟨F1, fun b => F1' b + G2 b, h1.mono m2.1 (fun b hb => m2.2 b (by simp; omega)), k3 C' ob' F1' m1 ⟨m2.1, fun b hb => m2.2 b (by simp; omega)⟩, fun b => by simp; omega⟩

/-- What is known of variables of the program: the cells of each. -/
class Known (P : Program) where
  tab : List (Nat × Array Value)
def gl (P : Program) [Known P] (b : Nat) : Prop := ∃ p ∈ Known.tab P, p.1 = b
structure Gx (P : Program) [Known P] (w : World) : Prop where
  at_ : ∀ p ∈ Known.tab P, ∃ t z, w.heap[p.1]? = some (.cells p.2 t z)
theorem Gx.keep {P : Program} [Known P] {w w' : World} (h : Gx P w) (k : ∀ b, gl P b → w'.heap[b]? = w.heap[b]?) : Gx P w' :=
  ⟨fun p hp => by rw [k p.1 ⟨p, hp, rfl⟩]; exact h.at_ p hp⟩
/-- Where a call began: its world, the blocks that it may lean on, the blocks that it may write. -/
structure Base (P : Program) [Known P] where
  w : World
  ok : Nat → Prop
  F : Foot
  n : Nat
  mu : Nat → Hdr
  gz : ∀ b, gl P b → b < w.heap.size ∧ F b = 0
  gx : Gx P w
  ds : List Deferred := []
variable {P : Program}
def cx [Known P] (B : Base P) (w : World) (mu : Nat → Hdr) (F : Foot) (nx : Nat) : Cx :=
  ⟨w, fun b => b < w.heap.size ∧ F b = 0 ∧ (B.ok b ∨ B.w.heap.size ≤ b ∨ B.F b ≠ 0), mu, nx⟩
structure Core [Known P] (B : Base P) (s : St) (a : Act) (w : World) (mu : Nat → Hdr) (F : Foot) : Prop where
  defers : a.defers = B.ds
  nx : B.n ≤ s.nx
  mub : ∀ o, o < B.n → mu o = B.mu o
  os : w.os = B.w.os
  tape : w.tape = B.w.tape
  output : w.output = B.w.output
  size : B.w.heap.size ≤ w.heap.size
  old : ∀ b, b < B.w.heap.size → B.F b = 0 → w.heap[b]? = B.w.heap[b]?
  one : ∀ b, F b ≤ 1
  blk : ∀ b, F b ≠ 0 → b < w.heap.size ∧ (B.w.heap.size ≤ b ∨ B.F b ≠ 0)
  tm : ∀ t, Rep (cx B w mu F s.nx) (gtm s.tm t) (a.tmps.getD t undef) (fun _ => 0)
  hp : RepH (cx B w mu F s.nx) s.hp F
theorem Core.gz [Known P] {B : Base P} {s : St} {a : Act} {w : World} {mu : Nat → Hdr} {F : Foot} (c : Core B s a w mu F) : ∀ b, gl P b → b < w.heap.size ∧ F b = 0 := fun b hb => by
  obtain ⟨h1, h2⟩ := B.gz b hb
  refine ⟨Nat.lt_of_lt_of_le h1 c.size, Classical.byContradiction fun hne => ?_⟩
  rcases (c.blk b hne).2 with h | h
  · omega
  · exact h h2
theorem Core.gx [Known P] {B : Base P} {s : St} {a : Act} {w : World} {mu : Nat → Hdr} {F : Foot} (c : Core B s a w mu F) : Gx P w := B.gx.keep fun b hb => c.old b (B.gz b hb).1 (B.gz b hb).2
def Rel [Known P] (B : Base P) (s : St) (a : Act) (w : World) : Prop := ∃ mu F, Core B s a w mu F
/-- The state beside a value. -/
def RelV [Known P] (B : Base P) (s : St) (a : Act) (w : World) (v : AV) (x : Value) : Prop := ∃ mu F, Core B s a w mu F ∧ Rep (cx B w mu F s.nx) v x (fun _ => 0)

theorem getD_set {xs : Array Value} {d t : Nat} {v : Value} (h : d < xs.size) : (xs.setIfInBounds d v).getD t undef = if d = t then v else xs.getD t undef := by
  by_cases e : d = t
  · subst e; simp [Array.getD, h]
  · rw [if_neg e]
    simp only [Array.getD, Array.size_setIfInBounds]
    split
    · exact Array.getElem_setIfInBounds_ne _ e
    · rfl
theorem RelV.put [Known P] {B : Base P} {s : St} {a : Act} {w : World} {v : AV} {x : Value} (h : RelV B s a w v x) (d : Option Tmp) (hd : ∀ t, d = some t → t < a.tmps.size) : Rel B (s.put d v) (a.put d x) w := by
  obtain ⟨mu, F, c, r⟩ := h
  refine ⟨mu, F, ?_⟩
  cases d with
  | none => exact c
  | some d =>
    refine ⟨c.defers, c.nx, c.mub, c.os, c.tape, c.output, c.size, c.old, c.one, c.blk, fun t => ?_, c.hp⟩
    have hd' := hd d rfl
    simp only [St.put, gtm, Act.put, getD_set hd']
    by_cases e : d = t
    · subst e
      rw [if_pos rfl, show Nat.beq d d = true from Nat.beq_refl d]
      exact r
    · rw [if_neg e, show Nat.beq d t = false from by cases hb : Nat.beq d t with | false => rfl | true => exact absurd (Nat.eq_of_beq_eq_true hb) e]
      exact c.tm t
/-- A value that nobody knows. -/
theorem Rel.dead [Known P] {B : Base P} {s : St} {a : Act} {w : World} (h : Rel B s a w) (x : Value) : RelV B s a w .dead x := by
  obtain ⟨mu, F, c⟩ := h
  exact ⟨mu, F, c, fun _ => rfl⟩

/-- What an operation that isn't wanted leaves. -/
theorem Rel.skip [Known P] {B : Base P} {s : St} {a : Act} {w : World} (h : Rel B s a w) : RelV B s a w (.tup []) undef := by
  obtain ⟨mu, F, c⟩ := h
  exact ⟨mu, F, c, [], rfl, rfl, fun _ => rfl⟩

/-! ### Operands -/
theorem rep_int {C : Cx} {k : IntKind} {n : Int} (h : k.wrap n = n) : Rep C (.int k n) (.int k n) (fun _ => 0) := ⟨rfl, h, fun _ => rfl⟩
theorem repL_ofVal {C : Cx} (f : Value → AV) : ∀ (l : List Value), (∀ v ∈ l, Rep C (f v) v (fun _ => 0)) → RepL C (l.map f) l (fun _ => 0)
  | [], h => ⟨rfl, fun _ => rfl⟩
  | v :: l, h => ⟨v, l, _, _, rfl, h v (by simp), repL_ofVal f l (fun u hu => h u (by simp [hu])), fun _ => rfl⟩
theorem rep_ofVal {C : Cx} : ∀ (n : Nat) (v : Value), okV n v = true → Rep C (ofVal n v) v (fun _ => 0) := by
  intro n
  induction n with
  | zero =>
    intro v hv
    unfold ofVal
    split <;> first
      | exact ⟨rfl, fun _ => rfl⟩
      | (simp [okV] at hv; exact ⟨rfl, hv, fun _ => rfl⟩)
      | exact ⟨rfl, Nat.le_of_ble_eq_true hv, fun _ => rfl⟩
      | exact fun _ => rfl
      | (rename_i h; cases h)
  | succ n ih =>
    intro v hv
    unfold ofVal
    split <;> first
      | exact ⟨rfl, fun _ => rfl⟩
      | (simp only [okV, decide_eq_true_eq] at hv; exact ⟨rfl, hv, fun _ => rfl⟩)
      | exact ⟨rfl, Nat.le_of_ble_eq_true hv, fun _ => rfl⟩
      | exact fun _ => rfl
      | skip
    rename_i m cs he
    obtain rfl : n = m := by omega
    exact ⟨cs.toList, by simp, repL_ofVal _ _ (fun v hm => ih v (List.all_eq_true.1 hv v hm))⟩
theorem Core.ev [Known P] {B : Base P} {s : St} {a : Act} {w : World} {mu : Nat → Hdr} {F : Foot} (c : Core B s a w mu F) (x : Operand) (hx : okO x = true) : Rep (cx B w mu F s.nx) (s.ev x) (a.eval x) (fun _ => 0) := by
  cases x with
  | tmp t => exact c.tm t
  | const v => exact rep_ofVal 3 v hx
  | global g => exact fun _ => rfl
  | func f => exact ⟨[], rfl, rfl, fun _ => rfl⟩
theorem nb_rep {C : Cx} {a : AV} {v : Value} {F : Foot} (h : Rep C a v F) : Rep C a.nb v F := by cases a <;> exact h
theorem nbL_rep {C : Cx} : ∀ (l : List AV) (vs : List Value) (F : Foot), RepL C l vs F → RepL C (l.map AV.nb) vs F
  | [], vs, F, h => h
  | x :: l, vs, F, h => by
    obtain ⟨v, us, F1, F2, e, h1, h2, h3⟩ := h
    exact ⟨v, us, F1, F2, e, nb_rep h1, nbL_rep l us F2 h2, h3⟩
theorem nbV_rep {C : Cx} {a : AV} {v : Value} {F : Foot} (h : Rep C a v F) : Rep C a.nbV v F := by
  cases a with
  | agg l => obtain ⟨cs, e, h⟩ := h; exact ⟨cs, e, nbL_rep l cs F h⟩
  | _ => exact h
end Go.Av
end

section
/- Engine, part 5a: values that say less; other names for objects. -/
set_option linter.unusedVariables false
set_option linter.unusedSimpArgs false
set_option autoImplicit false
namespace Go.Av

mutual
/-- The first reads as the second too. -/
def sub : AV → AV → Prop
  | .int k n, .int k' n' => k = k' ∧ n = n'
  | .str x, .str y => x = y
  | .bool x, .bool y => x = y
  | .tt, .bool y => y = true
  | .ff, .bool y => y = false
  | .nils, .own _ rows _ => rows = []
  | .nils, .sl _ rows _ => rows = []
  | .own e rows _, .own e' rows' _ => e = e' ∧ rows = rows'
  | .sl e rows _, .sl e' rows' _ => e = e' ∧ rows = rows'
  | .agg l, .agg l' => subL l l'
  | .tup l, .tup l' => subL l l'
  | .iface t x, .iface t' y => t = t' ∧ sub x y
  | .fn f l, .fn g l' => f = g ∧ subL l l'
  | .os _, .dead => True
  | x, y => x = y
def subL : List AV → List AV → Prop
  | [], [] => True
  | x :: l, y :: l' => sub x y ∧ subL l l'
  | _, _ => False
end
abbrev Ren := List (Nat × Option Nat)
def lkR : Ren → Nat → Option (Option Nat)
  | [], _ => none
  | (n, x) :: r, m => bif Nat.beq n m then some x else lkR r m
mutual
/-- New names to old ones; an object without a old name is an empty slice. -/
def ren (ρ : Ren) : AV → AV
  | .os o => match lkR ρ o with
    | none => .os o
    | some none => .nils
    | some (some x) => .os x
  | .cp o i off => match lkR ρ o with
    | none => .cp o i off
    | some none => .dead
    | some (some x) => .cp x i off
  | .agg l => .agg (renL ρ l)
  | .tup l => .tup (renL ρ l)
  | .fn f l => .fn f (renL ρ l)
  | .iface t x => .iface t (ren ρ x)
  | x => x
def renL (ρ : Ren) : List AV → List AV
  | [] => []
  | x :: l => ren ρ x :: renL ρ l
end
mutual
/-- The new names in it are all below. -/
def nbl (ρ : Ren) (N : Nat) : AV → Prop
  | .os o => o < N
  | .cp o _ _ => o < N ∧ (match lkR ρ o with
    | some none => False
    | _ => True)
  | .agg l => nblL ρ N l
  | .tup l => nblL ρ N l
  | .fn _ l => nblL ρ N l
  | .iface _ x => nbl ρ N x
  | _ => True
def nblL (ρ : Ren) (N : Nat) : List AV → Prop
  | [] => True
  | x :: l => nbl ρ N x ∧ nblL ρ N l
end
/-- Rows that may name objects. -/
def leR (ρ : Ren) (N : Nat) : List (List AV) → List (List AV) → Prop
  | [], [] => True
  | r :: l, r' :: l' => nblL ρ N r' ∧ subL r (renL ρ r') ∧ leR ρ N l l'
  | _, _ => False
def leO (ρ : Ren) (N : Nat) (h : Hp) (o : Nat) (ob' : Ob) (K : Hp → Prop) : Prop := match geth h o with
  | some ob => ob.e = ob'.e ∧ (match ob.g, ob'.g with
    | true, true => leR ρ N ob.rows ob'.rows
    | true, false => False
    | false, _ => ob.rows = ob'.rows) ∧ K (remh h o)
  | none => False
def leH (ρ : Ren) (N : Nat) : Hp → Hp → Prop
  | _, [] => True
  | h, (o', ob') :: l => o' < N ∧ match lkR ρ o' with
    | some none => ob'.rows = [] ∧ leH ρ N h l
    | some (some o) => leO ρ N h o ob' (fun h => leH ρ N h l)
    | none => leO ρ N h o' ob' (fun h => leH ρ N h l)
/-- What is left of the heap. -/
def takeH (ρ : Ren) : Hp → Hp → Hp
  | h, [] => h
  | h, (o', _) :: l => match lkR ρ o' with
    | some none => takeH ρ h l
    | some (some o) => takeH ρ (remh h o) l
    | none => takeH ρ (remh h o') l
mutual
/-- Names put on anew. -/
def mapN (σ : Nat → Nat) : AV → AV
  | .os o => .os (σ o)
  | .cp o i off => .cp (σ o) i off
  | .agg l => .agg (mapNL σ l)
  | .tup l => .tup (mapNL σ l)
  | .fn f l => .fn f (mapNL σ l)
  | .iface t x => .iface t (mapN σ x)
  | x => x
def mapNL (σ : Nat → Nat) : List AV → List AV
  | [] => []
  | x :: l => mapN σ x :: mapNL σ l
end
mutual
def blw (N : Nat) : AV → Prop
  | .os o => o < N
  | .cp o _ _ => o < N
  | .agg l => blwL N l
  | .tup l => blwL N l
  | .fn _ l => blwL N l
  | .iface _ x => blw N x
  | _ => True
def blwL (N : Nat) : List AV → Prop
  | [] => True
  | x :: l => blw N x ∧ blwL N l
end
def mapNR (σ : Nat → Nat) : List (List AV) → List (List AV)
  | [] => []
  | r :: l => mapNL σ r :: mapNR σ l
def blwR (N : Nat) : List (List AV) → Prop
  | [] => True
  | r :: l => blwL N r ∧ blwR N l
def mapO (σ : Nat → Nat) (ob : Ob) : Ob := match ob.g with
  | true => ⟨ob.e, mapNR σ ob.rows, ob.d, true⟩
  | false => ob
def mapH (σ : Nat → Nat) : Hp → Hp
  | [] => []
  | (o, ob) :: l => (σ o, mapO σ ob) :: mapH σ l
def blwH (N : Nat) : Hp → Prop
  | [] => True
  | (o, ob) :: l => o < N ∧ (match ob.g with
    | true => blwR N ob.rows
    | false => True) ∧ blwH N l
/-- A lent object's old name; a new object's next one. -/
def sg (ρ : Ren) (nx n : Nat) (o : Nat) : Nat := match lkR ρ o with
  | some (some x) => x
  | _ => nx + (o - n)
def fullR (ρ : Ren) (nx : Nat) : Nat → Prop
  | 0 => True
  | n + 1 => (match lkR ρ n with
    | some (some o) => o < nx
    | _ => False) ∧ fullR ρ nx n
def keysR (n : Nat) : Ren → Prop
  | [] => True
  | (o, _) :: r => o < n ∧ keysR n r
end Go.Av
end

section
/- Engine, part 5b: what a call promises; what each operation makes of the state. -/
set_option linter.unusedVariables false
set_option linter.unusedSimpArgs false
set_option autoImplicit false
namespace Go.Av

/-- What a call leaves of memory. -/
structure Fin {P : Program} [Known P] (B : Base P) (w : World) (F : Foot) : Prop where
  os : w.os = B.w.os
  tape : w.tape = B.w.tape
  output : w.output = B.w.output
  size : B.w.heap.size ≤ w.heap.size
  old : ∀ b, b < B.w.heap.size → B.F b = 0 → w.heap[b]? = B.w.heap[b]?
  one : ∀ b, F b ≤ 1
  blk : ∀ b, F b ≠ 0 → b < w.heap.size ∧ (B.w.heap.size ≤ b ∨ B.F b ≠ 0)
/-- A call's promise: of arguments and of n objects that it may write; what it returns, what the objects are then. -/
def CallX (P : Program) [Known P] (f : FuncId) (n : Nat) (args : List AV) (hin : Hp) (Q : AV → Hp → Prop) : Prop :=
  ∀ (B : Base P) (vs : List Value), B.n = n → (∀ b, B.F b ≤ 1) → (∀ b, B.F b ≠ 0 → b < B.w.heap.size) →
    RepL (cx B B.w B.mu B.F n) args vs (fun _ => 0) → RepH (cx B B.w B.mu B.F n) hin B.F →
    Calls P f vs.toArray B.w (fun e w' => ∃ (r : AV) (hout : Hp), Q r hout ∧ ∃ (v : Value) (mu' : Nat → Hdr) (n' : Nat) (F' Fr Fh : Foot), e = .returned v ∧ n ≤ n' ∧ (∀ o, o < n → mu' o = B.mu o) ∧ Fin B w' F' ∧
      (∀ b, F' b = Fr b + Fh b) ∧ Rep (cx B w' mu' F' n') r v Fr ∧ RepH (cx B w' mu' F' n') hout Fh)
def CallM (P : Program) [Known P] (f : FuncId) (n : Nat) (args : List AV) (hin : Hp) (r : AV) (hout : Hp) : Prop := CallX P f n args hin fun r' h' => r' = r ∧ h' = hout
def Enters (P : Program) [Known P] (f : FuncId) : Prop := ∀ (args : Array Value) (w : World), (callFunc f args).run P w = .ok (.enter f args) w
abbrev CallA (P : Program) [Known P] (f : FuncId) (args : List AV) (r : AV) : Prop := CallM P f 0 args [] r []

mutual
/-- No object is named in it. -/
def AV.np : AV → Bool
  | .os _ => false
  | .cp _ _ _ => false
  | .agg l => npL l
  | .tup l => npL l
  | .fn _ l => npL l
  | .iface _ x => x.np
  | _ => true
def npL : List AV → Bool
  | [] => true
  | a :: l => a.np && npL l
end
/-- Slices of one's own in a result become objects. -/
def instC : Nat → List AV → List AV × Hp × Nat
  | n, [] => ([], [], n)
  | n, x :: l => match x with
    | .own e rows d => (.os n :: (instC (n + 1) l).1, (n, ⟨e, rows, d, false⟩) :: (instC (n + 1) l).2.1, (instC (n + 1) l).2.2)
    | _ => (x :: (instC n l).1, (instC n l).2.1, (instC n l).2.2)
def instV (n : Nat) : AV → AV × Hp × Nat
  | .agg l => (.agg (instC n l).1, (instC n l).2.1, (instC n l).2.2)
  | .own e rows d => (.os n, [(n, ⟨e, rows, d, false⟩)], n + 1)
  | x => (x, [], n)
def instT : Nat → List AV → List AV × Hp × Nat
  | n, [] => ([], [], n)
  | n, x :: l => ((instV n x).1 :: (instT (instV n x).2.2 l).1, (instV n x).2.1 ++ (instT (instV n x).2.2 l).2.1, (instT (instV n x).2.2 l).2.2)
def inst (n : Nat) : AV → AV × Hp × Nat
  | .tup l => (.tup (instT n l).1, (instT n l).2.1, (instT n l).2.2)
  | x => instV n x

def AV.top : AV → Bool
  | .own _ _ _ => true
  | x => x.pu
def AV.top1 : AV → Bool
  | .agg l => l.all AV.top
  | x => x.top
def AV.top2 : AV → Bool
  | .tup l => l.all AV.top1
  | x => x.top1
mutual
/-- Nothing in it lies in memory that came in. -/
def AV.na : AV → Bool
  | .sl _ _ _ => false
  | .rp _ => false
  | .dead => false
  | .own _ rows _ => naR rows
  | .agg l => naL l
  | .tup l => naL l
  | .fn _ l => naL l
  | .iface _ x => x.na
  | _ => true
def naL : List AV → Bool
  | [] => true
  | a :: l => a.na && naL l
def naR : List (List AV) → Bool
  | [] => true
  | r :: l => naL r && naR l
end
mutual
/-- One's own slices, read only. -/
def AV.rd : AV → AV
  | .own e rows d => .sl e (rdR rows) (rdL d)
  | .agg l => .agg (rdL l)
  | .tup l => .tup (rdL l)
  | .fn f l => .fn f (rdL l)
  | .iface t x => .iface t x.rd
  | x => x
def rdL : List AV → List AV
  | [] => []
  | a :: l => a.rd :: rdL l
def rdR : List (List AV) → List (List AV)
  | [] => []
  | r :: l => rdL r :: rdR l
end
/-- An object that is only read for a while. -/
def pur : Nat → Hp → AV → AV
  | 0, _, _ => .dead
  | n + 1, h, .os o => match geth h o with
    | some ob => match ob.g with
      | false => .sl ob.e (rdR ob.rows) (rdL ob.d)
      | true => .dead
    | none => .dead
  | n + 1, h, .cp o i off => match geth h o with
    | some ob => match Nat.blt i ob.rows.length with
      | true => .rp (((ob.rows.getD i ob.d).drop off).map (pur n h))
      | false => .dead
    | none => .dead
  | _ + 1, _, .own e rows d => .sl e (rdR rows) (rdL d)
  | n + 1, h, .agg l => .agg (l.map (pur n h))
  | n + 1, h, .tup l => .tup (l.map (pur n h))
  | n + 1, h, .fn f l => .fn f (l.map (pur n h))
  | n + 1, h, .iface t x => .iface t (pur n h x)
  | _ + 1, _, x => x

/-- How a call goes on: arguments that name no object; arguments whose objects are read only, where nothing of them comes back. -/
inductive CallW (P : Program) [Known P] (f : FuncId) (args : List AV) (s : St) (K : St → AV → Prop) : Prop where
  | plain (Q : AV → Prop) (np : npL args = true) (en : Enters P f) (h : CallX P f 0 (args.map AV.nbV) [] (fun r h => Q r ∧ h = [])) (k : ∀ r, Q r → r.top2 = true ∧ r.np = true ∧ K ⟨s.tm, (inst s.nx r).2.1 ++ s.hp, (inst s.nx r).2.2⟩ (inst s.nx r).1)
  | lent (Q : AV → Prop) (np : npL (args.map (pur 4 s.hp)) = true) (en : Enters P f) (h : CallX P f 0 ((args.map (pur 4 s.hp)).map AV.nbV) [] (fun r h => Q r ∧ h = [])) (k : ∀ r, Q r → r.top2 = true ∧ r.np = true ∧ r.na = true ∧ K ⟨s.tm, (inst s.nx r).2.1 ++ s.hp, (inst s.nx r).2.2⟩ (inst s.nx r).1)
  | lend (ρ : Ren) (n : Nat) (args' : List AV) (hin : Hp) (Q : AV → Hp → Prop) (fu : fullR ρ s.nx n) (ke : keysR n ρ) (ha : subL (args.map AV.nbV) (renL ρ args') ∧ nblL ρ n args') (hh : leH ρ n s.hp hin) (en : Enters P f) (h : CallX P f n args' hin Q)
      (k : ∀ r hout, Q r hout → ∃ N, blwH (n + N) hout ∧ blw (n + N) r ∧ r.pu = true ∧ K ⟨s.tm, mapH (sg ρ s.nx n) hout ++ takeH ρ s.hp hin, s.nx + N⟩ (mapN (sg ρ s.nx n) r))

/-- A method of a type: its function, and what of the value it takes. -/
def Meth (P : Program) [Known P] (t : TypeId) (name : String) (f : FuncId) (v v' : AV) : Prop := ∀ (C : Cx) (u : Value), Rep C v u (fun _ => 0) → ∃ u', Rep C v' u' (fun _ => 0) ∧ ∀ (args : Array Value) (w : World), (callMethod (.iface t u) name args).run P w = .ok (.enter f (#[u'] ++ args)) w

/-- The bounds of a slice expression. -/
def bndW (s : St) (lo hi : Option Operand) (n : Nat) (K : Nat → Nat → Prop) : Prop := match lo, hi with
  | none, none => K 0 n
  | some a, none => match s.ev a with
    | .int _ l => 0 ≤ l ∧ l ≤ n ∧ K l.toNat n
    | _ => False
  | none, some b => match s.ev b with
    | .int _ h => 0 ≤ h ∧ h ≤ n ∧ K 0 h.toNat
    | _ => False
  | some a, some b => match s.ev a, s.ev b with
    | .int _ l, .int _ h => 0 ≤ l ∧ l ≤ h ∧ h ≤ n ∧ K l.toNat h.toNat
    | _, _ => False
/-- A list with a few cells written anew. -/
def setC (l : List AV) (off : Nat) (c : List AV) : List AV := l.take off ++ c ++ l.drop (off + c.length)
/-- The parts of a struct or an array, laid into its zero. -/
def bldW (P : Program) [Known P] (s : St) (t : TypeId) : List (Nat × Operand) → List AV → (List AV → Prop) → Prop
  | [], z, K => K z
  | (i, x) :: r, z, K => match plT P t i, (s.ev x).cells? with
    | some (off, n), some c => c.length = n ∧ off + n ≤ z.length ∧ bldW P s t r (setC z off c) K
    | _, _ => False
/-- The parts of a slice, each in its place. -/
def rowsW (s : St) (e : Nat) : Nat → List (Nat × Operand) → Hp → (List (List AV) → Hp → Prop) → Prop
  | _, [], h, K => K [] h
  | n, (i, x) :: r, h, K => match Nat.beq n i, (s.ev x).cells? with
    | true, some c => c.length = e ∧ c.all AV.one = true ∧ npL (absC h (c.map AV.nb)).1 = true ∧ rowsW s e (n + 1) r (absC h (c.map AV.nb)).2 (fun rows h' => K ((absC h (c.map AV.nb)).1 :: rows) h')
    | _, _ => False
/-- What is appended, or copied. -/
def srcW (s : St) (e : Nat) (y : AV) (h : Hp) (K : List (List AV) → Hp → Prop) : Prop := match y with
  | .nils => K [] h
  | .sl e' rows _ => e = e' ∧ (rows.length ≤ lim → K rows h)
  | .os o => match geth h o with
    | some ob => e = ob.e ∧ ob.g = false ∧ (ob.rows.length ≤ lim → K ob.rows (remh h o))
    | none => False
  | _ => False

def stp (P : Program) [Known P] (op : Op) (s : St) (K : St → AV → Prop) : Prop :=
  match op with
  | .move x | .assign x => K s (s.ev x)
  | .pick c a b => match s.ev c with
    | .tt => K s (s.ev a)
    | .ff => K s (s.ev b)
    | .bool c => If c (K s (s.ev a)) (K s (s.ev b))
    | _ => False
  | .box _ x => match (s.ev x).cells? with
    | some l => l.all AV.one = true ∧ K ⟨s.tm, (s.nx, ⟨l.length, [(absC s.hp (l.map AV.nb)).1], [], true⟩) :: (absC s.hp (l.map AV.nb)).2, s.nx + 1⟩ (.cp s.nx 0 0)
    | none => False
  | .alloc t => match zeroT P t with
    | some z => K ⟨s.tm, (s.nx, ⟨z.length, [z], [], true⟩) :: s.hp, s.nx + 1⟩ (.cp s.nx 0 0)
    | none => False
  | .load t a => match tyT P t with
    | some (g, n) => match s.ev a with
      | .rp l => n ≤ l.length ∧ 0 < n ∧ K s (packT g (l.take n))
      | .cp o i off => match geth s.hp o with
        | some ob => i < ob.rows.length ∧ 0 < n ∧ off + n ≤ ob.e ∧ (match puL (((ob.rows.getD i ob.d).drop off).take n) with
          | true => K s (packT g (((ob.rows.getD i ob.d).drop off).take n))
          | false => (((ob.rows.getD i ob.d).drop off).take n).all AV.top = true ∧
            K ⟨s.tm, (instC s.nx (((ob.rows.getD i ob.d).drop off).take n)).2.1 ++ seth s.hp o (setRow ⟨ob.e, ob.rows, ob.d, true⟩ i off (instC s.nx (((ob.rows.getD i ob.d).drop off).take n)).1), (instC s.nx (((ob.rows.getD i ob.d).drop off).take n)).2.2⟩
              (packT g (instC s.nx (((ob.rows.getD i ob.d).drop off).take n)).1))
        | none => False
      | _ => False
    | none => False
  | .store t a x => match tyT P t, (s.ev x).cells?, s.ev a with
    | some (_, n), some l, .cp o i off => match geth (absC s.hp (l.map AV.nb)).2 o with
        | some ob => i < ob.rows.length ∧ l.length = n ∧ l.all AV.one = true ∧ (ob.g || npL (absC s.hp (l.map AV.nb)).1) = true ∧ off + n ≤ ob.e ∧
            K ⟨s.tm, seth (absC s.hp (l.map AV.nb)).2 o (setAll ob i off (absC s.hp (l.map AV.nb)).1), s.nx⟩ .dead
        | none => False
    | _, _, _ => False
  | .nilCheck x => match s.ev x with
    | .rp l => K s (.rp l)
    | .cp o i off => K s (.cp o i off)
    | .fn f c => K s (.fn f c)
    | _ => False
  | .fieldAddr t x f => match fldT P t f with
    | some (o', _, _) => match s.ev x with
      | .rp l => K s (.rp (l.drop o'))
      | .cp o i off => K s (.cp o i (off + o'))
      | _ => False
    | none => False
  | .field t x f => match fldT P t f, s.ev x with
    | some (o', g, n), .agg l => o' + n ≤ l.length ∧ K s (packT g ((l.drop o').take n))
    | _, _ => False
  | .indexAddr t x i => match elT P t with
    | some (_, e, _) => match s.ev x, s.ev i with
      | .sl e' rows d, .int _ j => e = e' ∧ 0 ≤ j ∧ j < rows.length ∧ K s (.rp (rows.getD j.toNat d))
      | .os o, .int _ j => match geth s.hp o with
        | some ob => e = ob.e ∧ 0 ≤ j ∧ j < ob.rows.length ∧ K s (.cp o j.toNat 0)
        | none => False
      | _, _ => False
    | none => match arT P t, s.ev x, s.ev i with
      | some (n, _, e), .cp o r off, .int _ j => 0 ≤ j ∧ j < n ∧ K s (.cp o r (off + j.toNat * e))
      | some (n, _, e), .rp l, .int _ j => 0 ≤ j ∧ j < n ∧ K s (.rp (l.drop (j.toNat * e)))
      | _, _, _ => False
  | .index t x i => match arT P t, s.ev x, s.ev i with
    | some (n, false, 1), .agg l, .int _ j => 0 ≤ j ∧ j < n ∧ n ≤ l.length ∧ K s (l.getD j.toNat .dead)
    | some (n, true, m), .agg l, .int _ j => 0 ≤ j ∧ j < n ∧ n * m ≤ l.length ∧ K s (.agg ((l.drop (j.toNat * m)).take m))
    | none, .str b, .int _ j => lkT P t = 2 ∧ 0 ≤ j ∧ j < b.size ∧ K s (.int .u8 (b.data.getD j.toNat 0).toNat)
    | _, _, _ => False
  | .slice t x lo hi none => match lkT P t, s.ev x with
    | 2, .str b => bndW s lo hi b.size (fun l h => K s (.str (b.extract l h)))
    | 1, .sl e rows d => match elT P t with
      | some (_, e', _) => e = e' ∧ bndW s lo hi rows.length (fun l h => K s (.sl e ((rows.take h).drop l) d))
      | none => False
    | 1, .os o => match elT P t, geth s.hp o with
      | some (_, e', _), some ob => ob.e = e' ∧ ob.g = false ∧ bndW s lo hi ob.rows.length (fun l h => K ⟨s.tm, remh s.hp o, s.nx⟩ (.sl ob.e (((rdR ob.rows).take h).drop l) (rdL ob.d)))
      | _, _ => False
    | 0, .cp o 0 0 => match arT P t, geth s.hp o with
      | some (n, false, 1), some ⟨e, [row], _, true⟩ => e = n ∧ npL row = true ∧ n ≤ lim ∧ bndW s lo hi n (fun l h => K ⟨s.tm, remh s.hp o, s.nx⟩ (.sl 1 (((rdR (row.map fun c => [c])).take h).drop l) []))
      | _, _ => False
    | _, _ => False
  | .binOp op t x y _ => bin P op t (isC x) (isC y) (s.ev x) (s.ev y) (K s)
  | .unOp .not _ x => match s.ev x with
    | .tt => K s .ff
    | .ff => K s .tt
    | .bool b => K s (.bool (!b))
    | _ => False
  | .unOp .neg _ x => match s.ev x with
    | .int k n => numK k (0 - n) (K s)
    | _ => False
  | .convert src dst x => utT P src = true ∧ (match intT P dst, lkT P dst, s.ev x with
    | some k', _, .int k n => K s (.int k' (convK k k' n))
    | none, 2, .str b => K s (.str b)
    | none, 2, .sl 1 rows _ => byT P src = true ∧ rows.all isB = true ∧ K s (.str ⟨(rows.map cB).toArray⟩)
    | none, 2, .os o => (match geth s.hp o with
      | some ob => ob.e = 1 ∧ ob.g = false ∧ byT P src = true ∧ ob.rows.all isB = true ∧ K s (.str ⟨(ob.rows.map cB).toArray⟩)
      | none => False)
    | _, _, _ => False)
  | .build t parts => match zeroT P t with
    | some z => bldT P t = true ∧ bldW P s t parts.toList z (fun l => K s (.agg l))
    | none => False
  | .buildSlice t n parts => match mkT P t with
    | some (e, _, z) => Nat.beq parts.toList.length n = true ∧ n * e ≤ 16777216 ∧ rowsW s e 0 parts.toList s.hp (fun rows h => rows.length ≤ lim ∧ K ⟨s.tm, (s.nx, ⟨e, rows, z, false⟩) :: h, s.nx + 1⟩ (.os s.nx))
    | none => False
  | .makeSlice t n c => match mkT P t, s.ev n, s.ev c with
    | some (e, by_, z), .int .i64 n, .int .i64 c => 0 ≤ n ∧ n ≤ c ∧ c * by_ ≤ 140737488355328 ∧ K ⟨s.tm, (s.nx, ⟨e, List.replicate n.toNat z, z, false⟩) :: s.hp, s.nx + 1⟩ (.os s.nx)
    | _, _, _ => False
  | .makeInterface t x => ncT P t = true ∧ K s (.iface t (s.ev x))
  | .makeFunc (.func f) first caps => first.toList = [] ∧ K s (.fn f (caps.toList.map s.ev))
  | .typeAssert x _ t true => match s.ev x with
    | .iface t' v => ncT P t = true ∧ (match Nat.beq t' t with
      | true => K s (.tup [v, .tt])
      | false => match zeroA P t with
        | some z => K s (.tup [z, .ff])
        | none => False)
    | .nilif => ncT P t = true ∧ (match zeroA P t with
        | some z => K s (.tup [z, .ff])
        | none => False)
    | _ => False
  | .call c => match c.callee with
    | .builtin .len => match c.args.toList, c.argTypes.toList with
      | [x], [t] => match lkT P t, s.ev x with
        | 1, .sl _ rows _ => rows.length ≤ lim → K s (.int .i64 rows.length)
        | 1, .nils => K s (.int .i64 0)
        | 1, .os o => match geth s.hp o with
          | some ob => ob.rows.length ≤ lim → K s (.int .i64 ob.rows.length)
          | none => False
        | 2, .str b => b.size ≤ lim → K s (.int .i64 b.size)
        | _, _ => False
      | _, _ => False
    | .builtin .append => match c.args.toList, c.argTypes.toList with
      | [x, y], [t, t'] => match mkT P t, lkT P t', s.ev x with
        | some (e, by_, z), 1, .nils => srcW s e (s.ev y) s.hp (fun rows h => rows.length * by_ ≤ 140737488355328 ∧ K ⟨s.tm, (s.nx, ⟨e, rows, z, false⟩) :: h, s.nx + 1⟩ (.os s.nx))
        | some (e, by_, z), 1, .os o => match geth s.hp o with
          | some ob => ob.e = e ∧ ob.g = false ∧ srcW s e (s.ev y) (remh s.hp o) (fun rows h => (ob.rows.length + rows.length) * by_ ≤ 140737488355328 ∧
              K ⟨s.tm, (s.nx, ⟨e, ob.rows ++ rows, z, false⟩) :: h, s.nx + 1⟩ (.os s.nx))
          | none => False
        | _, _, _ => False
      | _, _ => False
    | .builtin .copy => match c.args.toList, c.argTypes.toList with
      | [x, y], [t, _] => match elT P t, s.ev x with
        | some (_, e, _), .os o => match geth s.hp o with
          | some ob => ob.e = e ∧ ob.g = false ∧ srcW s e (s.ev y) s.hp (fun rows h => geth h o = some ob ∧
              K ⟨s.tm, seth h o ⟨ob.e, rows.take ob.rows.length ++ ob.rows.drop rows.length, ob.d, false⟩, s.nx⟩ (.int .i64 (min rows.length ob.rows.length : Nat)))
          | none => False
        | _, _ => False
      | _, _ => False
    | .builtin .min => match c.args.toList with
      | [x, y] => match s.ev x, s.ev y with
        | .int k a, .int k' b => k = k' ∧ K s (.int k (min a b))
        | _, _ => False
      | _ => False
    | .builtin _ => False
    | .value f => match s.ev f with
      | .fn g caps => CallW P g ((c.args.toList.map s.ev) ++ caps) s K
      | _ => False
    | .invoke r name => match s.ev r with
      | .iface t v => ∃ f v', Meth P t name f v v' ∧ CallW P f (v' :: c.args.toList.map s.ev) s K
      | _ => False
  | .extract x i => match s.ev x with
    | .tup l => i < l.length ∧ K s (l.getD i .dead)
    | _ => False
  | _ => False
end Go.Av
end

section
/- Engine, part 6: each operation does in memory what the evaluator says. -/
set_option linter.unusedVariables false
set_option linter.unusedSimpArgs false
set_option autoImplicit false
namespace Go.Av

/-- The operation yields a value and a world that are so; a call returns such. -/
def Yields (P : Program) [Known P] (o : Oper) (a : Act) (w : World) (R : Value → World → Prop) : Prop :=
  match (execOp a.eval o).run P w with
  | .ok (.value v) w' => R v w'
  | .ok .skip w' => R undef w'
  | .ok (.enter f args) w' => Calls P f args w' (fun e w'' => ∃ v, e = .returned v ∧ R v w'')
  | _ => False
theorem Yields.wp {P : Program} [Known P] {o : Oper} {a : Act} {w : World} {R : Value → World → Prop} (h : Yields P o a w R) {next : Act → World → Prop} {Q : Exit → Act → World → Prop}
    (hn : ∀ v w', R v w' → next (a.put o.dst v) w') : o.wp P a w next Q := by
  unfold Yields at h
  unfold Oper.wp
  split at h
  · rename_i v w' e; rw [e]; exact hn _ _ h
  · rename_i w' e; rw [e]; exact hn _ _ h
  · rename_i f args w' e; rw [e, Oper.upon_enter]
    exact h.mono fun e w'' ⟨v, he, hv⟩ => by subst he; exact hn _ _ hv
  · exact h.elim

theorem add_add (a : Addr) (m n : Nat) : (a.add m).add n = a.add (m + n) := by
  unfold Addr.add
  by_cases h : m = 0
  · subst h; simp
  · by_cases h' : n = 0
    · subst h'; simp [h]
    · rw [if_neg h', if_neg h, if_neg (by omega)]; simp; omega
theorem add_block (a : Addr) (m : Nat) : (a.add m).block = a.block := by unfold Addr.add; split <;> rfl
theorem add_none (b o n : Nat) : (⟨b, o, none⟩ : Addr).add n = ⟨b, o + n, none⟩ := by unfold Addr.add; split <;> simp_all

theorem RepA.shift {C : Cx} : ∀ (l : List AV) (ad : Addr) (m j : Nat), RepA C l ad (m + j) ↔ RepA C l (ad.add m) j
  | [], ad, m, j => Iff.rfl
  | x :: l, ad, m, j => by
    simp only [RepA]
    rw [add_block, add_add, show m + j + 1 = m + (j + 1) by omega, RepA.shift l ad m (j + 1)]
theorem RepA.drop {C : Cx} : ∀ (k : Nat) (l : List AV) (ad : Addr) (j : Nat), RepA C l ad j → RepA C (l.drop k) ad (j + k)
  | 0, l, ad, j, h => by simpa using h
  | k + 1, [], ad, j, h => trivial
  | k + 1, x :: l, ad, j, h => by
    rw [List.drop_succ_cons, show j + (k + 1) = j + 1 + k by omega]
    exact RepA.drop k l ad (j + 1) h.2
theorem RepR.at_ {C : Cx} {e : Nat} : ∀ (l : List (List AV)) (a : Option Addr) (i j : Nat) (r : List AV), RepR C e l a i → l[j]? = some r → ∃ ad, a = some ad ∧ r.length = e ∧ RepA C r ad ((i + j) * e)
  | [], a, i, j, r, h, hj => by simp at hj
  | x :: l, a, i, 0, r, h, hj => by
    obtain rfl : x = r := by simpa using hj
    simpa using h.1
  | x :: l, a, i, j + 1, r, h, hj => by
    have := RepR.at_ l a (i + 1) j r h.2 (by simpa using hj)
    rwa [show i + 1 + j = i + (j + 1) by omega] at this
theorem ext_pu (C : Cx) : Ext C.pu C := ⟨fun _ h => h, fun _ _ => rfl, Nat.zero_le _, fun o h => absurd h (Nat.not_lt_zero _)⟩
theorem ext_sel (C : Cx) : ∀ g, Ext (C.sel g) C
  | true => ⟨fun _ h => h, fun _ _ => rfl, Nat.le_refl _, fun _ _ => rfl⟩
  | false => ext_pu C
theorem zero_split {F1 F2 : Foot} (h : ∀ b, (fun _ => 0 : Foot) b = F1 b + F2 b) : F1 = (fun _ => 0) ∧ F2 = fun _ => 0 := by
  refine ⟨funext fun b => ?_, funext fun b => ?_⟩ <;> (have h' : 0 = F1 b + F2 b := h b; omega)
/-- The cells that lie there, as values. -/
theorem RepA.vals {C : Cx} : ∀ (l : List AV) (ad : Addr) (j : Nat), RepA C l ad j → ∃ us : List Value, RepL C l us (fun _ => 0) ∧ us.length = l.length ∧ (∀ i u, us[i]? = some u → C.w.cell? (ad.add (j + i)) = some u) ∧ ∀ u ∈ us, u.oneCell' = true
  | [], ad, j, h => ⟨[], ⟨rfl, fun _ => rfl⟩, rfl, fun i u hi => by simp at hi, fun u hu => by simp at hu⟩
  | x :: l, ad, j, h => by
    obtain ⟨⟨h0, u, h1, o1, h2⟩, h3⟩ := h
    obtain ⟨us, k1, k2, k3, k4⟩ := RepA.vals l ad (j + 1) h3
    refine ⟨u :: us, ⟨u, us, _, _, rfl, h2, k1, fun _ => rfl⟩, by simp [k2], fun i v hi => ?_, fun v hv => (List.mem_cons.1 hv).elim (fun e => e ▸ o1) (k4 v)⟩
    cases i with
    | zero => simp at hi; subst hi; exact h1
    | succ i => rw [show j + (i + 1) = j + 1 + i by omega]; exact k3 i v (by simpa using hi)
theorem RepL.take {C : Cx} : ∀ (k : Nat) (l : List AV) (us : List Value), RepL C l us (fun _ => 0) → RepL C (l.take k) (us.take k) (fun _ => 0)
  | 0, l, us, h => ⟨by simp, fun _ => rfl⟩
  | k + 1, [], us, h => by obtain ⟨rfl, _⟩ := h; exact ⟨by simp, fun _ => rfl⟩
  | k + 1, x :: l, us, h => by
    obtain ⟨v, vs', F1, F2, rfl, h1, h2, h3⟩ := h
    obtain ⟨rfl, rfl⟩ := zero_split h3
    exact ⟨v, vs'.take k, _, _, by simp, h1, RepL.take k l vs' h2, fun _ => rfl⟩

theorem tyT_run {P : Program} [Known P] {t : TypeId} {g : Bool} {n : Nat} (h : tyT P t = some (g, n)) (w : World) :
    (isAgg t).run P w = .ok g w ∧ (sizeOf t).run P w = .ok n w := by
  unfold tyT at h
  split at h
  · rename_i d hd
    split at h
    · rename_i i hi
      obtain ⟨rfl, rfl⟩ : rowD d = g ∧ i.size = n := by simpa using h
      refine ⟨?_, by simp [sizeOf, typeInfo, hi]⟩
      cases d <;> simp [isAgg, underlying, hd, rowD]
    · simp at h
  · simp at h
theorem loadVar_run {P : Program} [Known P] {t : TypeId} {g : Bool} {n : Nat} (h : tyT P t = some (g, n)) {w : World} {ad : Addr} {us : List Value} (hl : us.length = n) (hn : 0 < n)
    (hc : ∀ i u, us[i]? = some u → w.cell? (ad.add i) = some u) : (loadVar t ad).run P w = .ok (if g then .agg us.toArray else us.headD undef) w := by
  obtain ⟨h1, h2⟩ := tyT_run h w
  cases g with
  | true =>
    subst hl
    have := run_loadCells_list (P := P) w ad us hc
    simp [loadVar, h1, h2, this]
  | false =>
    cases us with
    | nil => simp at hl; omega
    | cons u us =>
      have := hc 0 u rfl
      rw [show ad.add 0 = ad from rfl] at this
      simp [loadVar, h1, this]
theorem packT_rep {C : Cx} {g : Bool} {l : List AV} {us : List Value} (h : RepL C l us (fun _ => 0)) (hn : 0 < l.length) : Rep C (packT g l) (if g then .agg us.toArray else us.headD undef) (fun _ => 0) := by
  cases g with
  | true => exact ⟨us, rfl, h⟩
  | false =>
    cases l with
    | nil => simp at hn
    | cons x l =>
      obtain ⟨v, vs', F1, F2, rfl, h1, h2, h3⟩ := h
      obtain ⟨rfl, rfl⟩ := zero_split h3
      exact h1
end Go.Av
end

section
/- Engine, part 7: steps of the world: a new block, a store. -/
set_option linter.unusedVariables false
set_option linter.unusedSimpArgs false
set_option autoImplicit false
namespace Go.Av
variable {P : Program}

/-- What a step of the world leaves alone. -/
structure Stp (w w' : World) (F F' : Foot) : Prop where
  os : w'.os = w.os
  tape : w'.tape = w.tape
  output : w'.output = w.output
  size : w.heap.size ≤ w'.heap.size
  keep : ∀ b, b < w.heap.size → F b = 0 → w'.heap[b]? = w.heap[b]?
  free : ∀ b, b < w.heap.size → F b = 0 → F' b = 0
  one : ∀ b, F' b ≤ 1
  blk : ∀ b, F' b ≠ 0 → b < w'.heap.size
theorem Stp.ext [Known P] {B : Base P} {w w' : World} {F F' : Foot} {mu mu' : Nat → Hdr} {n n' : Nat} (h : Stp w w' F F') (hn : n ≤ n') (hm : ∀ o, o < n → mu' o = mu o) :
    Ext (cx B w mu F n) (cx B w' mu' F' n') :=
  ⟨fun b hb => ⟨Nat.lt_of_lt_of_le hb.1 h.size, h.free b hb.1 hb.2.1, hb.2.2⟩, fun b hb => h.keep b hb.1 hb.2.1, hn, hm⟩
theorem Core.step [Known P] {B : Base P} {s s' : St} {a : Act} {w w' : World} {mu mu' : Nat → Hdr} {F F' : Foot} (c : Core B s a w mu F) (h : Stp w w' F F') (hn : s.nx ≤ s'.nx) (hm : ∀ o, o < s.nx → mu' o = mu o)
    (ht : s'.tm = s.tm) (hh : RepH (cx B w' mu' F' s'.nx) s'.hp F') : Core B s' a w' mu' F' := by
  have hx : Ext (cx B w mu F s.nx) (cx B w' mu' F' s'.nx) := h.ext hn hm
  refine ⟨c.defers, Nat.le_trans c.nx hn, fun o ho => (hm o (Nat.lt_of_lt_of_le ho c.nx)).trans (c.mub o ho), h.os.trans c.os, h.tape.trans c.tape, h.output.trans c.output, Nat.le_trans c.size h.size, fun b hb hz => ?_, h.one, fun b hb => ⟨h.blk b hb, ?_⟩, fun t => ?_, hh⟩
  · have hF : F b = 0 := by
      refine Classical.byContradiction fun hne => ?_
      rcases (c.blk b hne).2 with h1 | h1
      · omega
      · exact h1 hz
    rw [h.keep b (Nat.lt_of_lt_of_le hb c.size) hF]
    exact c.old b hb hz
  · by_cases hs : b < w.heap.size
    · have : F b ≠ 0 := fun h0 => hb (h.free b hs h0)
      exact (c.blk b this).2
    · exact .inl (Nat.le_trans c.size (by omega))
  · rw [ht]
    exact (c.tm t).mono hx _ _ _ (fun b hb => absurd rfl hb)

theorem alloc_heap (w : World) (o : Obj) (b : Nat) : (w.alloc o).heap[b]? = if b = w.heap.size then some o else w.heap[b]? := by
  show (w.heap.push o)[b]? = _
  rw [Array.getElem?_push]
theorem stp_alloc {w : World} {F F' : Foot} (o : Obj) (hb : ∀ b, F b ≠ 0 → b < w.heap.size) (h1 : ∀ b, F b ≤ 1) (hF : ∀ b, F' b ≤ (if b = w.heap.size then 1 else 0) + F b) : Stp w (w.alloc o) F F' where
  os := rfl
  tape := rfl
  output := rfl
  size := by show _ ≤ (w.heap.push o).size; simp
  keep b h _ := by rw [alloc_heap, if_neg (by omega)]
  free b h h0 := by have := hF b; rw [if_neg (by omega)] at this; omega
  one b := by
    have h2 := hF b
    by_cases e : b = w.heap.size
    · have : F b = 0 := Classical.byContradiction fun hne => by have := hb b hne; omega
      rw [if_pos e] at h2; omega
    · rw [if_neg e] at h2; have := h1 b; omega
  blk b h := by
    have h2 := hF b
    show b < (w.heap.push o).size
    rw [Array.size_push]
    by_cases e : b = w.heap.size
    · omega
    · rw [if_neg e] at h2; have := hb b (by omega); omega
def updMu (mu : Nat → Hdr) (o : Nat) (h : Hdr) : Nat → Hdr := fun n => if n = o then h else mu n

/-- A new object: its rows are known, the objects that went into it are gone. -/
theorem Core.new [Known P] {B : Base P} {s : St} {a : Act} {w : World} {mu : Nat → Hdr} {F : Foot} (c : Core B s a w mu F) {h' : Hp} {rows : List (List AV)} {d : List AV} {cc : Array Value} {e cap : Nat} {t : TypeId} {g : Bool} {FR Fh : Foot}
    (ho : RepO ((cx B w mu F s.nx).sel g) e rows cc 0 FR) (hh : RepH (cx B w mu F s.nx) h' Fh) (hs : ∀ b, FR b + Fh b ≤ F b) (hcap : rows.length ≤ cap) (hlim : rows.length ≤ lim) (hsz : cc.size = cap * e) :
    ∃ F', Core B ⟨s.tm, (s.nx, ⟨e, rows, d, g⟩) :: h', s.nx + 1⟩ a (w.alloc (.cells cc t (0, 0))) (updMu mu s.nx ⟨some w.heap.size, rows.length, cap, e⟩) F' := by
  let F' : Foot := fun b => (if b = w.heap.size then 1 else 0) + (FR b + Fh b)
  have st : Stp w (w.alloc (.cells cc t (0, 0))) F F' := stp_alloc _ (fun b hb => (c.blk b hb).1) c.one (fun b => by have := hs b; simp only [F']; omega)
  have hm : ∀ o, o < s.nx → updMu mu s.nx ⟨some w.heap.size, rows.length, cap, e⟩ o = mu o := fun o ho => by unfold updMu; rw [if_neg (by omega)]
  have hx := st.ext (B := B) (mu := mu) (mu' := updMu mu s.nx ⟨some w.heap.size, rows.length, cap, e⟩) (n := s.nx) (n' := s.nx + 1) (by omega) hm
  have hkeep : ∀ b, F b ≠ 0 → (w.alloc (.cells cc t (0, 0))).heap[b]? = w.heap[b]? := fun b hb => by
    rw [alloc_heap, if_neg (by have := (c.blk b hb).1; omega)]
  refine ⟨F', c.step st (by simp) hm rfl ⟨fun b => (if b = w.heap.size then 1 else 0) + FR b, Fh, ⟨by simp [cx], .inr ⟨w.heap.size, cc, t, FR, ?_, ?_, ?_, ?_, hlim, ?_, ?_, ?_, fun _ => rfl⟩⟩, ?_, fun b => ?_⟩⟩
  · simp [cx, updMu]
  · simp [cx, updMu]
  · simp [cx, updMu]
  · simpa [cx, updMu] using hcap
  · show (w.alloc _).heap[w.heap.size]? = _
    rw [alloc_heap, if_pos rfl]
  · simpa [cx, updMu] using hsz
  · exact ho.mono (hx.sel g) _ _ _ _ _ (fun b hb => by rw [Cx.sel_w, Cx.sel_w]; exact hkeep b (by have := hs b; omega))
  · exact RepH.mono hx h' Fh hh (fun b hb => hkeep b (by have := hs b; omega))
  · simp only [F']; omega

/-! ### Stores -/
def wr : Array Value → Nat → List Value → Array Value
  | c, _, [] => c
  | c, o, v :: r => wr (c.setIfInBounds o v) (o + 1) r
theorem wr_size : ∀ (vs : List Value) (c : Array Value) (o : Nat), (wr c o vs).size = c.size
  | [], c, o => rfl
  | v :: r, c, o => by rw [wr, wr_size r]; simp
theorem wr_out : ∀ (vs : List Value) (c : Array Value) (o j : Nat), (j < o ∨ o + vs.length ≤ j) → (wr c o vs)[j]? = c[j]?
  | [], c, o, j, h => rfl
  | v :: r, c, o, j, h => by
    rw [wr, wr_out r _ _ _ (by simp at h; omega), Array.getElem?_setIfInBounds_ne (by simp at h; omega)]
theorem wr_in : ∀ (vs : List Value) (c : Array Value) (o j : Nat) (v : Value), o + vs.length ≤ c.size → vs[j]? = some v → (wr c o vs)[o + j]? = some v
  | [], c, o, j, v, h, hj => by simp at hj
  | u :: r, c, o, 0, v, h, hj => by
    obtain rfl : u = v := by simpa using hj
    rw [wr, wr_out r _ _ _ (by omega)]
    rw [List.length_cons] at h
    rw [Nat.add_zero, Array.getElem?_setIfInBounds_self_of_lt (by omega)]
  | u :: r, c, o, j + 1, v, h, hj => by
    rw [wr, show o + (j + 1) = o + 1 + j by omega]
    exact wr_in r _ _ j v (by rw [List.length_cons] at h; rw [Array.size_setIfInBounds]; omega) (by simpa using hj)
theorem setCells_heap : ∀ (vs : List Value) (w : World) (b o : Nat) (c : Array Value) (t : TypeId) (fr : Nat × Nat), w.heap[b]? = some (.cells c t fr) →
    (w.setCells b o vs).heap[b]? = some (.cells (wr c o vs) t fr)
  | [], w, b, o, c, t, fr, h => h
  | v :: r, w, b, o, c, t, fr, h => by
    rw [World.setCells, wr]
    refine setCells_heap r _ b (o + 1) _ t fr ?_
    show (w.heap.modify b _)[b]? = _
    rw [Array.getElem?_modify, if_pos rfl, h]; rfl
theorem setCells_other : ∀ (vs : List Value) (w : World) (b o k : Nat), k ≠ b → (w.setCells b o vs).heap[k]? = w.heap[k]?
  | [], w, b, o, k, h => rfl
  | v :: r, w, b, o, k, h => by
    rw [World.setCells, setCells_other r _ _ _ _ h]
    exact Go.RowKit.Below.heap_setCell _ _ _ _ h
theorem setCells_same : ∀ (vs : List Value) (w : World) (b o : Nat), (w.setCells b o vs).os = w.os ∧ (w.setCells b o vs).tape = w.tape ∧ (w.setCells b o vs).output = w.output ∧ (w.setCells b o vs).heap.size = w.heap.size
  | [], w, b, o => ⟨rfl, rfl, rfl, rfl⟩
  | v :: r, w, b, o => by
    obtain ⟨h1, h2, h3, h4⟩ := setCells_same r (w.setCell ⟨b, o, none⟩ v) b (o + 1)
    rw [World.setCells]
    exact ⟨h1, h2, h3, by rw [h4]; simp [World.setCell]⟩
theorem stp_write {w : World} {F F' : Foot} (b o : Nat) (vs : List Value) (hb : F b ≠ 0) (hle : ∀ x, F' x ≤ F x) (h1 : ∀ x, F x ≤ 1) (hk : ∀ x, F x ≠ 0 → x < w.heap.size) : Stp w (w.setCells b o vs) F F' := by
  obtain ⟨e1, e2, e3, e4⟩ := setCells_same vs w b o
  refine ⟨e1, e2, e3, by omega, fun x hx h0 => setCells_other _ _ _ _ _ (fun e => hb (e ▸ h0)), fun x hx h0 => by have := hle x; omega, fun x => by have := hle x; have := h1 x; omega, fun x hx => ?_⟩
  rw [e4]; exact hk x (by have := hle x; omega)
/-- Writing cells into a block of one's own. -/
theorem storeCells_run {w : World} {b o : Nat} {c : Array Value} {t : TypeId} {vs : List Value} (h : w.heap[b]? = some (.cells c t (0, 0))) (hs : o + vs.length ≤ c.size) (h1 : ∀ v ∈ vs, v.oneCell' = true) :
    (storeCells ⟨b, o, none⟩ vs).run P w = .ok () (w.setCells b o vs) := by
  refine run_storeCells_cells (P := P) b o vs 0 w (fun j hj => ?_) (fun j hj => ?_) h1
  · simp only [World.cell?, h, Nat.add_zero]
    simp; omega
  · simp only [World.frozen?, h]
    simp
end Go.Av
end

section
/- Engine, part 8: each operation does in memory what the evaluator says. -/
set_option linter.unusedVariables false
set_option linter.unusedSimpArgs false
set_option autoImplicit false
namespace Go.Av

theorem cells_rep {C : Cx} {a : AV} {v : Value} {l : List AV} (h : Rep C a v (fun _ => 0)) (e : a.cells? = some l) : RepL C l v.cells.toList (fun _ => 0) := by
  have one : ∀ (x : AV), Rep C x v (fun _ => 0) → v.cells = #[v] → RepL C [x] v.cells.toList (fun _ => 0) := fun x hx hv => by
    rw [hv]; exact ⟨v, [], _, _, rfl, hx, ⟨rfl, fun _ => rfl⟩, fun _ => rfl⟩
  cases a <;> simp only [AV.cells?, Option.some.injEq, reduceCtorEq] at e
  case agg l' =>
    subst e
    obtain ⟨cs, rfl, h⟩ := h
    simpa [Value.cells] using h
  case own e' rows d =>
    subst e
    refine one _ h ?_
    rcases h with h | ⟨b, cap, c, t, FR, h1, _⟩
    · rw [h.1]; rfl
    · rw [h1]; rfl
  case sl => subst e; refine one _ h ?_; obtain ⟨⟨a, cap, h1, _⟩, _⟩ := h; rw [h1]; rfl
  case rp => subst e; refine one _ h ?_; obtain ⟨⟨ad, h1, _⟩, _⟩ := h; rw [h1]; rfl
  case os => subst e; refine one _ h ?_; rw [h.2.1]; rfl
  case cp => subst e; refine one _ h ?_; obtain ⟨_, ⟨b, _, h1⟩, _⟩ := h; rw [h1]; rfl
  case fn => subst e; refine one _ h ?_; obtain ⟨cs, h1, _⟩ := h; rw [h1]; rfl
  case iface => subst e; refine one _ h ?_; obtain ⟨u, h1, _⟩ := h; rw [h1]; rfl
  all_goals (subst e; refine one _ h ?_; rw [h.1]; rfl)
theorem one_rep {C : Cx} {a : AV} {v : Value} {F : Foot} (h : Rep C a v F) (e : a.one = true) : v.oneCell' = true := by
  cases a <;> simp only [AV.one, Bool.false_eq_true] at e
  case own e' rows d =>
    rcases h with h | ⟨b, cap, c, t, FR, h1, _⟩
    · rw [h.1]; rfl
    · rw [h1]; rfl
  case sl => obtain ⟨⟨a, cap, h1, _⟩, _⟩ := h; rw [h1]; rfl
  case rp => obtain ⟨⟨ad, h1, _⟩, _⟩ := h; rw [h1]; rfl
  case os => rw [h.2.1]; rfl
  case cp => obtain ⟨_, ⟨b, _, h1⟩, _⟩ := h; rw [h1]; rfl
  case fn => obtain ⟨cs, h1, _⟩ := h; rw [h1]; rfl
  case iface => obtain ⟨u, h1, _⟩ := h; rw [h1]; rfl
  all_goals (rw [h.1]; rfl)
theorem all_one_rep {C : Cx} : ∀ (l : List AV) (vs : List Value) (F : Foot), RepL C l vs F → l.all AV.one = true → ∀ v ∈ vs, v.oneCell' = true
  | [], vs, F, h, e => by obtain ⟨rfl, _⟩ := h; simp
  | x :: l, vs, F, h, e => by
    obtain ⟨v, vs', F1, F2, rfl, h1, h2, h3⟩ := h
    simp only [List.all_cons, Bool.and_eq_true] at e
    intro u hu
    rcases List.mem_cons.1 hu with rfl | hu
    · exact one_rep h1 e.1
    · exact all_one_rep l vs' F2 h2 e.2 u hu

theorem own_of {C : Cx} {o : Nat} {ob : Ob} {F : Foot} {v : Value} (hg : ob.g = false) (h : RepOb C o ob F) (hv : Rep C (.os o) v (fun _ => 0)) : Rep C (.own ob.e ob.rows ob.d) v F := by
  obtain ⟨_, hv, _⟩ := hv
  rcases h with ⟨h0, ⟨h1, h2, h3, h4, h5⟩ | ⟨b, c, t, FR, h1, h2, h3, h4, h5, h6, h7, h8, h9⟩⟩
  · refine .inl ⟨?_, h4, h5⟩
    rw [hv, h1, h2, h3]; rfl
  · rw [hg] at h8
    refine .inr ⟨b, (C.mu o).cap, c, t, FR, ?_, h4, h5, h6, h7, h8, h9⟩
    rw [hv, h1, h2]; rfl
theorem absC_sound' {C : Cx} : ∀ (l : List AV) (hp : Hp) (F0 F : Foot) (vs : List Value), RepL C l vs F0 → RepH C hp F →
    ∃ F1 F2 : Foot, RepL C (absC hp l).1 vs F1 ∧ RepH C (absC hp l).2 F2 ∧ ∀ b, F0 b + F b = F1 b + F2 b
  | [], hp, F0, F, vs, h, hh => ⟨F0, F, h, hh, fun b => rfl⟩
  | x :: l, hp, F0, F, vs, h, hh => by
    obtain ⟨v, vs', F1, F2, rfl, h1, h2, h3⟩ := h
    have plain : absC hp (x :: l) = (x :: (absC hp l).1, (absC hp l).2) → ∃ G1 G2 : Foot, RepL C (absC hp (x :: l)).1 (v :: vs') G1 ∧ RepH C (absC hp (x :: l)).2 G2 ∧ ∀ b, F0 b + F b = G1 b + G2 b := fun e => by
      obtain ⟨G1, G2, k1, k2, k3⟩ := absC_sound' l hp F2 F vs' h2 hh
      rw [e]
      exact ⟨fun b => F1 b + G1 b, G2, ⟨v, vs', _, _, rfl, h1, k1, fun b => rfl⟩, k2, fun b => by have := h3 b; have := k3 b; simp; omega⟩
    cases x with
    | os o =>
      cases hg : geth hp o with
      | none => exact plain (by simp only [absC, hg])
      | some ob =>
        cases hq : ob.g with
        | true => exact plain (by simp only [absC, hg, hq])
        | false =>
        obtain ⟨G1, G2, m1, m2, m3⟩ := RepH.take hp F o ob hh hg
        obtain ⟨H1, H2, k1, k2, k3⟩ := absC_sound' l (remh hp o) F2 G2 vs' h2 m2
        have hz : Z F1 := h1.2.2
        have h1' := h1.foot (F' := fun _ => 0) (fun b => (hz b).symm)
        simp only [absC, hg, hq]
        exact ⟨fun b => G1 b + H1 b, H2, ⟨v, vs', G1, H1, rfl, own_of hq m1 h1', k1, fun _ => rfl⟩, k2, fun b => by have := h3 b; have := hz b; have := m3 b; have := k3 b; simp; omega⟩
    | _ => exact plain rfl
theorem absC_sound {C : Cx} (l : List AV) (hp : Hp) (F : Foot) (vs : List Value) (h : RepL C l vs (fun _ => 0)) (hh : RepH C hp F) :
    ∃ F1 F2 : Foot, RepL C (absC hp l).1 vs F1 ∧ RepH C (absC hp l).2 F2 ∧ ∀ b, F b = F1 b + F2 b := by
  obtain ⟨F1, F2, k1, k2, k3⟩ := absC_sound' l hp _ F vs h hh
  exact ⟨F1, F2, k1, k2, fun b => by have := k3 b; simp at this; omega⟩
theorem absC_length : ∀ (l : List AV) (hp : Hp), (absC hp l).1.length = l.length
  | [], hp => rfl
  | x :: l, hp => by
    have plain : absC hp (x :: l) = (x :: (absC hp l).1, (absC hp l).2) → (absC hp (x :: l)).1.length = (x :: l).length := fun e => by
      rw [e]; simp [absC_length l hp]
    cases x with
    | os o =>
      cases hg : geth hp o with
      | none => exact plain (by simp only [absC, hg])
      | some ob =>
        cases hq : ob.g with
        | true => exact plain (by simp only [absC, hg, hq])
        | false => simp only [absC, hg, hq]; simp [absC_length l (remh hp o)]
    | _ => exact plain rfl

/-- One row made of a list of values. -/
theorem RepO.single {C : Cx} {l : List AV} {vs : List Value} {F : Foot} (h : RepL C l vs F) (ho : ∀ v ∈ vs, v.oneCell' = true) : RepO C l.length [l] vs.toArray 0 F :=
  ⟨F, fun _ => 0, rfl, RepB.of_list l vs 0 F (fun j v hj => by simpa using hj) ho h, fun _ => rfl, fun b => by simp⟩

mutual
theorem pu_zero {C : Cx} : ∀ (a : AV) (v : Value) (F : Foot), Rep C a v F → a.pu = true → Z F
  | .dead, v, F, h, e => h
  | .int _ _, v, F, h, e => h.2.2
  | .tt, v, F, h, e => h.2
  | .ff, v, F, h, e => h.2
  | .bool _, v, F, h, e => h.2
  | .str _, v, F, h, e => h.2.2
  | .agg l, v, F, h, e => by obtain ⟨cs, _, h⟩ := h; exact puL_zero l cs F h e
  | .tup l, v, F, h, e => by obtain ⟨cs, _, h⟩ := h; exact puL_zero l cs F h e
  | .sl _ _ _, v, F, h, e => h.2
  | .own _ _ _, v, F, h, e => by simp [AV.pu] at e
  | .nils, v, F, h, e => h.2
  | .os o, v, F, h, e => h.2.2
  | .rp _, v, F, h, e => h.2
  | .cp _ _ _, v, F, h, e => h.2.2
  | .nilp, v, F, h, e => h.2
  | .fn _ l, v, F, h, e => by obtain ⟨cs, _, h⟩ := h; exact puL_zero l cs F h e
  | .nilfn, v, F, h, e => h.2
  | .iface _ x, v, F, h, e => by obtain ⟨u, _, h⟩ := h; exact pu_zero x u F h e
  | .nilif, v, F, h, e => h.2
theorem puL_zero {C : Cx} : ∀ (l : List AV) (vs : List Value) (F : Foot), RepL C l vs F → puL l = true → Z F
  | [], vs, F, h, e => h.2
  | x :: l, vs, F, h, e => by
    obtain ⟨v, vs', F1, F2, rfl, h1, h2, h3⟩ := h
    simp only [puL, Bool.and_eq_true] at e
    intro b
    rw [h3, pu_zero x v F1 h1 e.1 b, puL_zero l vs' F2 h2 e.2 b]
end

mutual
/-- What names no object reads the same whatever the objects are. -/
theorem np_rep {C C' : Cx} (hx : Ext C.pu C') : ∀ (a : AV) (v : Value) (F : Foot), Rep C a v F → (∀ b, F b ≠ 0 → C'.w.heap[b]? = C.w.heap[b]?) → a.np = true → Rep C' a v F
  | .dead, v, F, h, k, e => h
  | .int _ _, v, F, h, k, e => h
  | .tt, v, F, h, k, e => h
  | .ff, v, F, h, k, e => h
  | .bool _, v, F, h, k, e => h
  | .str _, v, F, h, k, e => h
  | .agg l, v, F, h, k, e => by obtain ⟨cs, r, h⟩ := h; exact ⟨cs, r, npL_rep hx l cs F h k e⟩
  | .tup l, v, F, h, k, e => by obtain ⟨cs, r, h⟩ := h; exact ⟨cs, r, npL_rep hx l cs F h k e⟩
  | .sl x y z, v, F, h, k, e => (show Rep C.pu (.sl x y z) v F from h).mono hx _ _ _ k
  | .own x y z, v, F, h, k, e => (show Rep C.pu (.own x y z) v F from h).mono hx _ _ _ k
  | .nils, v, F, h, k, e => h
  | .os _, v, F, h, k, e => by simp [AV.np] at e
  | .rp x, v, F, h, k, e => (show Rep C.pu (.rp x) v F from h).mono hx _ _ _ k
  | .cp _ _ _, v, F, h, k, e => by simp [AV.np] at e
  | .nilp, v, F, h, k, e => h
  | .fn _ l, v, F, h, k, e => by obtain ⟨cs, r, h⟩ := h; exact ⟨cs, r, npL_rep hx l cs F h k e⟩
  | .nilfn, v, F, h, k, e => h
  | .iface _ x, v, F, h, k, e => by obtain ⟨u, r, h⟩ := h; exact ⟨u, r, np_rep hx x u F h k e⟩
  | .nilif, v, F, h, k, e => h
theorem npL_rep {C C' : Cx} (hx : Ext C.pu C') : ∀ (l : List AV) (vs : List Value) (F : Foot), RepL C l vs F → (∀ b, F b ≠ 0 → C'.w.heap[b]? = C.w.heap[b]?) → npL l = true → RepL C' l vs F
  | [], vs, F, h, k, e => h
  | x :: l, vs, F, h, k, e => by
    obtain ⟨v, vs', F1, F2, r, h1, h2, h3⟩ := h
    simp only [npL, Bool.and_eq_true] at e
    exact ⟨v, vs', F1, F2, r, np_rep hx x v F1 h1 (fun b hb => k b (by have := h3 b; omega)) e.1, npL_rep hx l vs' F2 h2 (fun b hb => k b (by have := h3 b; omega)) e.2, h3⟩
end
theorem npL_sel {C : Cx} {l : List AV} {vs : List Value} {F : Foot} (g : Bool) (h : RepL C l vs F) (e : (g || npL l) = true) : RepL (C.sel g) l vs F := by
  cases g with
  | true => exact h
  | false => exact npL_rep ⟨fun _ h => h, fun _ _ => rfl, Nat.le_refl _, fun _ _ => rfl⟩ l vs F h (fun _ _ => rfl) e
/-! ### Results of calls -/
/-- What a result makes of the heads: more objects, whose blocks are those of the result. -/
structure Inst (C C' : Cx) (n' : Nat) (hp' : Hp) (F : Foot) : Prop where
  nx : C'.nx = n'
  le : C.nx ≤ C'.nx
  mu : ∀ o, o < C.nx → C'.mu o = C.mu o
  w : C'.w = C.w
  ok : C'.ok = C.ok
  hp : RepH C' hp' F
theorem RepH.app {C : Cx} : ∀ (h h' : Hp) (F F' : Foot), RepH C h F → RepH C h' F' → RepH C (h ++ h') (fun b => F b + F' b)
  | [], h', F, F', k, k' => by
    have : (fun b => F b + F' b) = F' := funext fun b => by rw [k b]; omega
    rw [this]; exact k'
  | (o, ob) :: h, h', F, F', k, k' => by
    obtain ⟨F1, F2, k1, k2, k3⟩ := k
    exact ⟨F1, fun b => F2 b + F' b, k1, RepH.app h h' F2 F' k2 k', fun b => by have := k3 b; simp; omega⟩
theorem Inst.ext {C C' : Cx} {n' : Nat} {hp' : Hp} {F : Foot} (h : Inst C C' n' hp' F) : Ext C C' := ⟨fun b hb => by rw [h.ok]; exact hb, fun b _ => by rw [h.w], h.le, h.mu⟩
theorem Inst.refl (C : Cx) {F : Foot} (h : Z F) : Inst C C C.nx [] F := ⟨rfl, Nat.le_refl _, fun _ _ => rfl, rfl, rfl, h⟩
theorem Inst.trans {C C1 C2 : Cx} {n1 n2 : Nat} {h1 h2 : Hp} {F1 F2 F : Foot} (a : Inst C C1 n1 h1 F1) (b : Inst C1 C2 n2 h2 F2) (e : ∀ x, F x = F1 x + F2 x) : Inst C C2 n2 (h1 ++ h2) F where
  nx := b.nx
  le := Nat.le_trans a.le b.le
  mu o ho := (b.mu o (Nat.lt_of_lt_of_le ho a.le)).trans (a.mu o ho)
  w := b.w.trans a.w
  ok := b.ok.trans a.ok
  hp := by
    have : F = fun x => F1 x + F2 x := funext e
    rw [this]
    exact RepH.app _ _ _ _ (RepH.mono b.ext _ _ a.hp (fun x _ => by rw [b.w])) b.hp
/-- One slice of one's own gets a head. -/
theorem inst_own {C : Cx} {e : Nat} {rows : List (List AV)} {d : List AV} {v : Value} {F : Foot} (h : Rep C (.own e rows d) v F) :
    ∃ C', Inst C C' (C.nx + 1) [(C.nx, ⟨e, rows, d, false⟩)] F ∧ Rep C' (.os C.nx) v (fun _ => 0) := by
  rcases h with ⟨h1, h2, h3⟩ | ⟨b, cap, c, t, FR, h1, h2, h3, h4, h5, h6, h7⟩
  · let C' : Cx := ⟨C.w, C.ok, updMu C.mu C.nx ⟨none, 0, 0, e⟩, C.nx + 1⟩
    refine ⟨C', ⟨rfl, by simp [C'], fun o ho => by simp only [C', updMu]; rw [if_neg (by omega)], rfl, rfl, ⟨F, fun _ => 0, ⟨by simp [C'], .inl ⟨by simp [C', updMu], by simp [C', updMu], by simp [C', updMu], h2, h3⟩⟩, fun _ => rfl, fun b => by simp⟩⟩, by simp [C'], ?_, fun _ => rfl⟩
    rw [h1]; simp [C', updMu]
  · let C' : Cx := ⟨C.w, C.ok, updMu C.mu C.nx ⟨some b, rows.length, cap, e⟩, C.nx + 1⟩
    refine ⟨C', ⟨rfl, by simp [C'], fun o ho => by simp only [C', updMu]; rw [if_neg (by omega)], rfl, rfl, ⟨F, fun _ => 0, ⟨by simp [C'], .inr ⟨b, c, t, FR, by simp [C', updMu], by simp [C', updMu], by simp [C', updMu], by simpa [C', updMu] using h2, h3, h4, by simpa [C', updMu] using h5, h6, h7⟩⟩, fun _ => rfl, fun b => by simp⟩⟩, by simp [C'], ?_, fun _ => rfl⟩
    rw [h1]; simp [C', updMu]
theorem instC_sound : ∀ (l : List AV) (C : Cx) (vs : List Value) (F : Foot), RepL C l vs F → l.all AV.top = true →
    ∃ C', Inst C C' (instC C.nx l).2.2 (instC C.nx l).2.1 F ∧ RepL C' (instC C.nx l).1 vs (fun _ => 0)
  | [], C, vs, F, h, _ => ⟨C, Inst.refl C h.2, h.1, fun _ => rfl⟩
  | x :: l, C, vs, F, h, hq => by
    obtain ⟨v, us, F1, F2, rfl, h1, h2, h3⟩ := h
    simp only [List.all_cons, Bool.and_eq_true] at hq
    have plain : instC C.nx (x :: l) = (x :: (instC C.nx l).1, (instC C.nx l).2.1, (instC C.nx l).2.2) → Z F1 → ∃ C', Inst C C' (instC C.nx (x :: l)).2.2 (instC C.nx (x :: l)).2.1 F ∧ RepL C' (instC C.nx (x :: l)).1 (v :: us) (fun _ => 0) := fun e hz => by
      obtain ⟨C', k1, k2⟩ := instC_sound l C us F2 h2 hq.2
      rw [e]
      have : F = F2 := funext fun b => by have := h3 b; have := hz b; omega
      subst this
      refine ⟨C', k1, v, us, _, _, rfl, ?_, k2, fun _ => rfl⟩
      exact (h1.foot (F' := fun _ => 0) (fun b => (hz b).symm)).mono k1.ext _ _ _ (fun b hb => absurd rfl hb)
    by_cases ho : ∃ e r d, x = .own e r d
    · obtain ⟨e, r, d, rfl⟩ := ho
      obtain ⟨C1, k1, k2⟩ := inst_own h1
      have h2' := h2.mono k1.ext _ _ _ (fun b _ => by rw [k1.w])
      obtain ⟨C2, m1, m2⟩ := instC_sound l C1 us F2 h2' hq.2
      rw [k1.nx] at m1 m2
      exact ⟨C2, k1.trans m1 h3, v, us, _, _, rfl, k2.mono m1.ext _ _ _ (fun b hb => absurd rfl hb), m2, fun _ => rfl⟩
    · have hp : x.pu = true := by
        have := hq.1
        cases x with
        | own e r d => exact absurd ⟨e, r, d, rfl⟩ ho
        | _ => exact this
      have hz := pu_zero x v F1 h1 hp
      cases x with
      | own e r d => exact absurd ⟨e, r, d, rfl⟩ ho
      | _ => exact plain rfl hz
theorem instV_sound {C : Cx} (x : AV) (v : Value) (F : Foot) (h : Rep C x v F) (hq : x.top1 = true) :
    ∃ C', Inst C C' (instV C.nx x).2.2 (instV C.nx x).2.1 F ∧ Rep C' (instV C.nx x).1 v (fun _ => 0) := by
  have plain : instV C.nx x = (x, [], C.nx) → x.pu = true → ∃ C', Inst C C' (instV C.nx x).2.2 (instV C.nx x).2.1 F ∧ Rep C' (instV C.nx x).1 v (fun _ => 0) := fun e hp => by
    have hz := pu_zero x v F h hp
    rw [e]
    exact ⟨C, Inst.refl C hz, h.foot (fun b => (hz b).symm)⟩
  cases x with
  | agg l =>
    obtain ⟨cs, rfl, hL⟩ := h
    obtain ⟨C', k1, k2⟩ := instC_sound l C cs F hL hq
    exact ⟨C', k1, cs, rfl, k2⟩
  | own e rows d => exact inst_own h
  | _ => exact plain rfl hq
theorem instT_sound : ∀ (l : List AV) (C : Cx) (vs : List Value) (F : Foot), RepL C l vs F → l.all AV.top1 = true →
    ∃ C', Inst C C' (instT C.nx l).2.2 (instT C.nx l).2.1 F ∧ RepL C' (instT C.nx l).1 vs (fun _ => 0)
  | [], C, vs, F, h, _ => ⟨C, Inst.refl C h.2, h.1, fun _ => rfl⟩
  | x :: l, C, vs, F, h, hq => by
    obtain ⟨v, us, F1, F2, rfl, h1, h2, h3⟩ := h
    simp only [List.all_cons, Bool.and_eq_true] at hq
    obtain ⟨C1, k1, k2⟩ := instV_sound x v F1 h1 hq.1
    have h2' := h2.mono k1.ext _ _ _ (fun b _ => by rw [k1.w])
    obtain ⟨C2, m1, m2⟩ := instT_sound l C1 us F2 h2' hq.2
    rw [k1.nx] at m1 m2
    exact ⟨C2, k1.trans m1 h3, v, us, _, _, rfl, k2.mono m1.ext _ _ _ (fun b hb => absurd rfl hb), m2, fun _ => rfl⟩
theorem inst_sound {C : Cx} (x : AV) (v : Value) (F : Foot) (h : Rep C x v F) (hq : x.top2 = true) :
    ∃ C', Inst C C' (inst C.nx x).2.2 (inst C.nx x).2.1 F ∧ Rep C' (inst C.nx x).1 v (fun _ => 0) := by
  cases x with
  | tup l =>
    obtain ⟨cs, rfl, hL⟩ := h
    obtain ⟨C', k1, k2⟩ := instT_sound l C cs F hL hq
    exact ⟨C', k1, cs, rfl, k2⟩
  | _ => exact instV_sound _ v F h hq

end Go.Av
end

section
/- Engine, part 8a: the same, of memory. -/
set_option linter.unusedVariables false
set_option linter.unusedSimpArgs false
set_option autoImplicit false
namespace Go.Av

mutual
theorem sub_rep {C : Cx} : ∀ (x y : AV) (v : Value) (F : Foot), Rep C x v F → sub x y → Rep C y v F
  | x, y, v, F, h, hs => by
    unfold sub at hs
    split at hs
    · obtain ⟨rfl, rfl⟩ := hs; exact h
    · subst hs; exact h
    · subst hs; exact h
    · subst hs; exact h
    · subst hs; exact h
    · subst hs; exact .inl ⟨h.1, rfl, h.2⟩
    · subst hs; exact ⟨⟨none, 0, h.1, Nat.le_refl _, Nat.zero_le _, trivial⟩, h.2⟩
    · obtain ⟨rfl, rfl⟩ := hs; exact h
    · obtain ⟨rfl, rfl⟩ := hs; exact h
    · rename_i l l'
      obtain ⟨cs, e, k⟩ := h
      exact ⟨cs, e, subL_rep l l' cs F k hs⟩
    · rename_i l l'
      obtain ⟨cs, e, k⟩ := h
      exact ⟨cs, e, subL_rep l l' cs F k hs⟩
    · rename_i t x t' y
      obtain ⟨rfl, hs⟩ := hs
      obtain ⟨u, e, k⟩ := h
      exact ⟨u, e, sub_rep x y u F k hs⟩
    · rename_i f l g l'
      obtain ⟨rfl, hs⟩ := hs
      obtain ⟨cs, e, k⟩ := h
      exact ⟨cs, e, subL_rep l l' cs F k hs⟩
    · exact h.2.2
    · subst hs; exact h
theorem subL_rep {C : Cx} : ∀ (l l' : List AV) (vs : List Value) (F : Foot), RepL C l vs F → subL l l' → RepL C l' vs F
  | [], [], vs, F, h, hs => h
  | x :: l, y :: l', vs, F, h, hs => by
    obtain ⟨v, us, F1, F2, e, h1, h2, h3⟩ := h
    exact ⟨v, us, F1, F2, e, sub_rep x y v F1 h1 hs.1, subL_rep l l' us F2 h2 hs.2, h3⟩
  | [], _ :: _, vs, F, h, hs => hs.elim
  | _ :: _, [], vs, F, h, hs => hs.elim
end
structure RC (ρ : Ren) (C C' : Cx) : Prop where
  ext : Ext C.pu C'.pu
  w : C'.w = C.w
  mu : ∀ o, o < C'.nx → C'.mu o = match lkR ρ o with
    | none => C.mu o
    | some none => default
    | some (some x) => C.mu x
mutual
theorem ren_rep {ρ : Ren} {C C' : Cx} (h : RC ρ C C') : ∀ (v : AV) (x : Value) (F : Foot), nbl ρ C'.nx v → Rep C (ren ρ v) x F → Rep C' v x F
  | .dead, x, F, hn, hr => hr
  | .int _ _, x, F, hn, hr => hr
  | .tt, x, F, hn, hr => hr
  | .ff, x, F, hn, hr => hr
  | .bool _, x, F, hn, hr => hr
  | .str _, x, F, hn, hr => hr
  | .agg l, x, F, hn, hr => by obtain ⟨cs, e, k⟩ := hr; exact ⟨cs, e, renL_rep h l cs F hn k⟩
  | .tup l, x, F, hn, hr => by obtain ⟨cs, e, k⟩ := hr; exact ⟨cs, e, renL_rep h l cs F hn k⟩
  | .sl a b c, x, F, hn, hr => (show Rep C'.pu (.sl a b c) x F from (show Rep C.pu (.sl a b c) x F from hr).mono h.ext _ _ _ (fun b _ => by show C'.w.heap[b]? = C.w.heap[b]?; rw [h.w]))
  | .own a b c, x, F, hn, hr => (show Rep C'.pu (.own a b c) x F from (show Rep C.pu (.own a b c) x F from hr).mono h.ext _ _ _ (fun b _ => by show C'.w.heap[b]? = C.w.heap[b]?; rw [h.w]))
  | .nils, x, F, hn, hr => hr
  | .os o, x, F, hn, hr => by
    have hm := h.mu o hn
    unfold ren at hr
    split at hr
    · rename_i e
      rw [e] at hm
      refine ⟨hn, ?_, hr.2.2⟩
      rw [hm]; exact hr.2.1
    · rename_i e
      rw [e] at hm
      refine ⟨hn, ?_, hr.2⟩
      rw [hm]; exact hr.1
    · rename_i y e
      rw [e] at hm
      refine ⟨hn, ?_, hr.2.2⟩
      rw [hm]; exact hr.2.1
  | .rp l, x, F, hn, hr => (show Rep C'.pu (.rp l) x F from (show Rep C.pu (.rp l) x F from hr).mono h.ext _ _ _ (fun b _ => by show C'.w.heap[b]? = C.w.heap[b]?; rw [h.w]))
  | .cp o i off, x, F, hn, hr => by
    have hm := h.mu o hn.1
    have hn2 := hn.2
    unfold ren at hr
    split at hr
    · rename_i e
      rw [e] at hm
      refine ⟨hn.1, ?_, hr.2.2⟩
      rw [hm]; exact hr.2.1
    · rename_i e
      rw [e] at hn2; exact hn2.elim
    · rename_i y e
      rw [e] at hm
      refine ⟨hn.1, ?_, hr.2.2⟩
      rw [hm]; exact hr.2.1
  | .nilp, x, F, hn, hr => hr
  | .fn f l, x, F, hn, hr => by obtain ⟨cs, e, k⟩ := hr; exact ⟨cs, e, renL_rep h l cs F hn k⟩
  | .nilfn, x, F, hn, hr => hr
  | .iface t y, x, F, hn, hr => by obtain ⟨u, e, k⟩ := hr; exact ⟨u, e, ren_rep h y u F hn k⟩
  | .nilif, x, F, hn, hr => hr
theorem renL_rep {ρ : Ren} {C C' : Cx} (h : RC ρ C C') : ∀ (l : List AV) (vs : List Value) (F : Foot), nblL ρ C'.nx l → RepL C (renL ρ l) vs F → RepL C' l vs F
  | [], vs, F, hn, hr => hr
  | x :: l, vs, F, hn, hr => by
    obtain ⟨v, us, F1, F2, e, h1, h2, h3⟩ := hr
    exact ⟨v, us, F1, F2, e, ren_rep h x v F1 hn.1 h1, renL_rep h l us F2 hn.2 h2, h3⟩
end
theorem renB_rep {ρ : Ren} {C C' : Cx} (h : RC ρ C C') {c : Array Value} : ∀ (l : List AV) (off : Nat) (F : Foot), nblL ρ C'.nx l → RepB C (renL ρ l) c off F → RepB C' l c off F
  | [], off, F, hn, hr => hr
  | x :: l, off, F, hn, hr => by
    obtain ⟨u, F1, F2, e, o1, h1, h2, h3⟩ := hr
    exact ⟨u, F1, F2, e, o1, ren_rep h x u F1 hn.1 h1, renB_rep h l (off + 1) F2 hn.2 h2, h3⟩
theorem subB_rep {C : Cx} {c : Array Value} : ∀ (l l' : List AV) (off : Nat) (F : Foot), RepB C l c off F → subL l l' → RepB C l' c off F
  | [], [], off, F, hr, hs => hr
  | x :: l, y :: l', off, F, hr, hs => by
    obtain ⟨u, F1, F2, e, o1, h1, h2, h3⟩ := hr
    exact ⟨u, F1, F2, e, o1, sub_rep x y u F1 h1 hs.1, subB_rep l l' (off + 1) F2 h2 hs.2, h3⟩
  | [], _ :: _, off, F, hr, hs => hs.elim
  | _ :: _, [], off, F, hr, hs => hs.elim
theorem subL_length : ∀ (l l' : List AV), subL l l' → l.length = l'.length
  | [], [], _ => rfl
  | _ :: l, _ :: l', h => congrArg (· + 1) (subL_length l l' h.2)
  | [], _ :: _, h => h.elim
  | _ :: _, [], h => h.elim
theorem renL_length (ρ : Ren) : ∀ (l : List AV), (renL ρ l).length = l.length
  | [] => rfl
  | _ :: l => congrArg (· + 1) (renL_length ρ l)
theorem leR_length {ρ : Ren} {N : Nat} : ∀ (l l' : List (List AV)), leR ρ N l l' → l.length = l'.length
  | [], [], _ => rfl
  | _ :: l, _ :: l', h => congrArg (· + 1) (leR_length l l' h.2.2)
  | [], _ :: _, h => h.elim
  | _ :: _, [], h => h.elim
theorem leR_rep {ρ : Ren} {C C' : Cx} (h : RC ρ C C') {e : Nat} {c : Array Value} : ∀ (l l' : List (List AV)) (off : Nat) (F : Foot), leR ρ C'.nx l l' → RepO C e l c off F → RepO C' e l' c off F
  | [], [], off, F, hl, hr => hr
  | r :: l, r' :: l', off, F, hl, hr => by
    obtain ⟨F1, F2, e1, h1, h2, h3⟩ := hr
    refine ⟨F1, F2, ?_, renB_rep h r' off F1 hl.1 (subB_rep _ _ _ _ h1 hl.2.1), leR_rep h l l' _ F2 hl.2.2 h2, h3⟩
    have := subL_length _ _ hl.2.1
    rw [renL_length] at this
    omega
  | [], _ :: _, off, F, hl, hr => hl.elim
  | _ :: _, [], off, F, hl, hr => hl.elim

theorem leOb_rep {ρ : Ren} {C C' : Cx} (h : RC ρ C C') {o o' : Nat} {ob ob' : Ob} {F : Foot} (ho : o' < C'.nx) (hm : C'.mu o' = C.mu o) (he : ob.e = ob'.e) (hr : match ob.g, ob'.g with
    | true, true => leR ρ C'.nx ob.rows ob'.rows
    | true, false => False
    | false, _ => ob.rows = ob'.rows) (hob : RepOb C o ob F) : RepOb C' o' ob' F := by
  have hlen : ob.rows.length = ob'.rows.length := by
    split at hr
    · exact leR_length _ _ hr
    · exact hr.elim
    · rw [hr]
  refine ⟨ho, ?_⟩
  rw [hm]
  rcases hob.2 with ⟨h1, h2, h3, h4, h5⟩ | ⟨b, c, t, FR, h1, h2, h3, h4, h5, h6, h7, h8, h9⟩
  · exact .inl ⟨h1, h2, h3, List.length_eq_zero_iff.1 (by rw [← hlen, h4]; rfl), h5⟩
  · rw [hlen] at h2 h4 h5
    rw [he] at h3 h7 h8
    refine .inr ⟨b, c, t, FR, h1, h2, h3, h4, h5, by rw [h.w]; exact h6, h7, ?_, h9⟩
    split at hr
    · rename_i e e'
      rw [e] at h8
      rw [e']
      exact leR_rep h _ _ _ _ hr h8
    · exact hr.elim
    · rename_i e
      rw [e] at h8
      rw [← hr]
      have h10 : RepO C'.pu ob'.e ob.rows c 0 FR := h8.mono h.ext _ _ _ _ _ (fun _ _ => by rw [show C'.pu.w = C'.w from rfl, h.w]; rfl)
      cases ob'.g with
      | false => exact h10
      | true => exact h10.mono (ext_sel C' false) _ _ _ _ _ (fun _ _ => rfl)
theorem leH_rep {ρ : Ren} {C C' : Cx} (h : RC ρ C C') : ∀ (l hp : Hp) (F : Foot), leH ρ C'.nx hp l → RepH C hp F → ∃ F', RepH C' l F' ∧ ∀ b, F' b ≤ F b
  | [], hp, F, hl, hh => ⟨fun _ => 0, fun _ => rfl, fun b => Nat.zero_le _⟩
  | (o', ob') :: l, hp, F, hl, hh => by
    obtain ⟨ho, hl⟩ := hl
    have hm := h.mu o' ho
    have take : ∀ o, C'.mu o' = C.mu o → leO ρ C'.nx hp o ob' (fun h => leH ρ C'.nx h l) → ∃ F', RepH C' ((o', ob') :: l) F' ∧ ∀ b, F' b ≤ F b := fun o hm hk => by
      unfold leO at hk
      split at hk
      · rename_i ob hob
        obtain ⟨k1, k3, k4⟩ := hk
        obtain ⟨G1, G2, m1, m2, m3⟩ := RepH.take hp F o ob hh hob
        obtain ⟨F', q1, q2⟩ := leH_rep h l _ G2 k4 m2
        exact ⟨fun b => G1 b + F' b, ⟨G1, F', leOb_rep h ho hm k1 k3 m1, q1, fun _ => rfl⟩, fun b => by have := m3 b; have := q2 b; simp; omega⟩
      · exact hk.elim
    split at hl
    · rename_i e
      rw [e] at hm
      obtain ⟨F', q1, q2⟩ := leH_rep h l _ F hl.2 hh
      refine ⟨F', ⟨fun _ => 0, F', ⟨ho, .inl ?_⟩, q1, fun b => by simp⟩, q2⟩
      rw [hm]
      exact ⟨rfl, rfl, rfl, hl.1, fun _ => rfl⟩
    · rename_i o e
      rw [e] at hm
      exact take o hm hl
    · rename_i e
      rw [e] at hm
      exact take o' hm hl
theorem leH_rest {ρ : Ren} {C C' : Cx} (h : RC ρ C C') : ∀ (l hp : Hp) (F : Foot), leH ρ C'.nx hp l → RepH C hp F → ∃ F' F'', RepH C' l F' ∧ RepH C (takeH ρ hp l) F'' ∧ ∀ b, F b = F' b + F'' b
  | [], hp, F, hl, hh => ⟨fun _ => 0, F, fun _ => rfl, hh, fun b => by simp⟩
  | (o', ob') :: l, hp, F, hl, hh => by
    obtain ⟨ho, hl⟩ := hl
    have hm := h.mu o' ho
    have take : ∀ o, C'.mu o' = C.mu o → leO ρ C'.nx hp o ob' (fun h => leH ρ C'.nx h l) → ∃ F' F'', RepH C' ((o', ob') :: l) F' ∧ RepH C (takeH ρ (remh hp o) l) F'' ∧ ∀ b, F b = F' b + F'' b := fun o hm hk => by
      unfold leO at hk
      split at hk
      · rename_i ob hob
        obtain ⟨k1, k3, k4⟩ := hk
        obtain ⟨G1, G2, m1, m2, m3⟩ := RepH.take hp F o ob hh hob
        obtain ⟨F', F'', q1, q2, q3⟩ := leH_rest h l _ G2 k4 m2
        exact ⟨fun b => G1 b + F' b, F'', ⟨G1, F', leOb_rep h ho hm k1 k3 m1, q1, fun _ => rfl⟩, q2, fun b => by have := m3 b; have := q3 b; simp; omega⟩
      · exact hk.elim
    simp only [takeH]
    split at hl
    · rename_i e
      rw [e] at hm
      first | simp only [e] | skip
      obtain ⟨F', F'', q1, q2, q3⟩ := leH_rest h l _ F hl.2 hh
      refine ⟨F', F'', ⟨fun _ => 0, F', ⟨ho, .inl ?_⟩, q1, fun b => by simp⟩, q2, q3⟩
      rw [hm]
      exact ⟨rfl, rfl, rfl, hl.1, fun _ => rfl⟩
    · rename_i o e
      rw [e] at hm
      first | simp only [e] | skip
      exact take o hm hl
    · rename_i e
      rw [e] at hm
      first | simp only [e] | skip
      exact take o' hm hl

/-! ### Names put on anew -/
structure MC (σ : Nat → Nat) (N : Nat) (C C' : Cx) : Prop where
  ext : Ext C.pu C'.pu
  w : C'.w = C.w
  mu : ∀ o, o < N → C'.mu (σ o) = C.mu o
  lt : ∀ o, o < N → σ o < C'.nx
mutual
theorem mapN_rep {σ : Nat → Nat} {N : Nat} {C C' : Cx} (h : MC σ N C C') : ∀ (v : AV) (x : Value) (F : Foot), blw N v → Rep C v x F → Rep C' (mapN σ v) x F
  | .dead, x, F, hn, hr => hr
  | .int _ _, x, F, hn, hr => hr
  | .tt, x, F, hn, hr => hr
  | .ff, x, F, hn, hr => hr
  | .bool _, x, F, hn, hr => hr
  | .str _, x, F, hn, hr => hr
  | .agg l, x, F, hn, hr => by obtain ⟨cs, e, k⟩ := hr; exact ⟨cs, e, mapNL_rep h l cs F hn k⟩
  | .tup l, x, F, hn, hr => by obtain ⟨cs, e, k⟩ := hr; exact ⟨cs, e, mapNL_rep h l cs F hn k⟩
  | .sl a b c, x, F, hn, hr => (show Rep C'.pu (.sl a b c) x F from (show Rep C.pu (.sl a b c) x F from hr).mono h.ext _ _ _ (fun b _ => by show C'.w.heap[b]? = C.w.heap[b]?; rw [h.w]))
  | .own a b c, x, F, hn, hr => (show Rep C'.pu (.own a b c) x F from (show Rep C.pu (.own a b c) x F from hr).mono h.ext _ _ _ (fun b _ => by show C'.w.heap[b]? = C.w.heap[b]?; rw [h.w]))
  | .nils, x, F, hn, hr => hr
  | .os o, x, F, hn, hr => by
    refine ⟨h.lt o hn, ?_, hr.2.2⟩
    rw [h.mu o hn]; exact hr.2.1
  | .rp l, x, F, hn, hr => (show Rep C'.pu (.rp l) x F from (show Rep C.pu (.rp l) x F from hr).mono h.ext _ _ _ (fun b _ => by show C'.w.heap[b]? = C.w.heap[b]?; rw [h.w]))
  | .cp o i off, x, F, hn, hr => by
    refine ⟨h.lt o hn, ?_, hr.2.2⟩
    rw [h.mu o hn]; exact hr.2.1
  | .nilp, x, F, hn, hr => hr
  | .fn f l, x, F, hn, hr => by obtain ⟨cs, e, k⟩ := hr; exact ⟨cs, e, mapNL_rep h l cs F hn k⟩
  | .nilfn, x, F, hn, hr => hr
  | .iface t y, x, F, hn, hr => by obtain ⟨u, e, k⟩ := hr; exact ⟨u, e, mapN_rep h y u F hn k⟩
  | .nilif, x, F, hn, hr => hr
theorem mapNL_rep {σ : Nat → Nat} {N : Nat} {C C' : Cx} (h : MC σ N C C') : ∀ (l : List AV) (vs : List Value) (F : Foot), blwL N l → RepL C l vs F → RepL C' (mapNL σ l) vs F
  | [], vs, F, hn, hr => hr
  | x :: l, vs, F, hn, hr => by
    obtain ⟨v, us, F1, F2, e, h1, h2, h3⟩ := hr
    exact ⟨v, us, F1, F2, e, mapN_rep h x v F1 hn.1 h1, mapNL_rep h l us F2 hn.2 h2, h3⟩
end
theorem mapNB_rep {σ : Nat → Nat} {N : Nat} {C C' : Cx} (h : MC σ N C C') {c : Array Value} : ∀ (l : List AV) (off : Nat) (F : Foot), blwL N l → RepB C l c off F → RepB C' (mapNL σ l) c off F
  | [], off, F, hn, hr => hr
  | x :: l, off, F, hn, hr => by
    obtain ⟨u, F1, F2, e, o1, h1, h2, h3⟩ := hr
    exact ⟨u, F1, F2, e, o1, mapN_rep h x u F1 hn.1 h1, mapNB_rep h l (off + 1) F2 hn.2 h2, h3⟩
theorem mapNL_length (σ : Nat → Nat) : ∀ (l : List AV), (mapNL σ l).length = l.length
  | [] => rfl
  | _ :: l => congrArg (· + 1) (mapNL_length σ l)
theorem mapNR_length (σ : Nat → Nat) : ∀ (l : List (List AV)), (mapNR σ l).length = l.length
  | [] => rfl
  | _ :: l => congrArg (· + 1) (mapNR_length σ l)
theorem mapNR_rep {σ : Nat → Nat} {N : Nat} {C C' : Cx} (h : MC σ N C C') {e : Nat} {c : Array Value} : ∀ (l : List (List AV)) (off : Nat) (F : Foot), blwR N l → RepO C e l c off F → RepO C' e (mapNR σ l) c off F
  | [], off, F, hn, hr => hr
  | r :: l, off, F, hn, hr => by
    obtain ⟨F1, F2, e1, h1, h2, h3⟩ := hr
    exact ⟨F1, F2, by rw [mapNL_length]; exact e1, mapNB_rep h r off F1 hn.1 h1, mapNR_rep h l _ F2 hn.2 h2, h3⟩
theorem mapO_rep {σ : Nat → Nat} {N : Nat} {C C' : Cx} (h : MC σ N C C') {o : Nat} {ob : Ob} {F : Foot} (ho : o < N) (hb : match ob.g with
    | true => blwR N ob.rows
    | false => True) (hr : RepOb C o ob F) : RepOb C' (σ o) (mapO σ ob) F := by
  refine ⟨h.lt o ho, ?_⟩
  rw [h.mu o ho]
  obtain ⟨e, rows, d, g⟩ := ob
  cases g with
  | true =>
    rcases hr.2 with ⟨h1, h2, h3, h4, h5⟩ | ⟨b, c, t, FR, h1, h2, h3, h4, h5, h6, h7, h8, h9⟩
    · simp only at h4
      subst h4
      exact .inl ⟨h1, h2, h3, rfl, h5⟩
    · exact .inr ⟨b, c, t, FR, h1, by simp only [mapO, mapNR_length]; exact h2, h3, by simp only [mapO, mapNR_length]; exact h4, by simp only [mapO, mapNR_length]; exact h5, by rw [h.w]; exact h6, h7, mapNR_rep h _ _ _ hb h8, h9⟩
  | false =>
    rcases hr.2 with h1 | ⟨b, c, t, FR, h1, h2, h3, h4, h5, h6, h7, h8, h9⟩
    · exact .inl h1
    · exact .inr ⟨b, c, t, FR, h1, h2, h3, h4, h5, by rw [h.w]; exact h6, h7, h8.mono h.ext _ _ _ _ _ (fun _ _ => by rw [show C'.pu.w = C'.w from rfl, h.w]; rfl), h9⟩
theorem mapH_rep {σ : Nat → Nat} {N : Nat} {C C' : Cx} (h : MC σ N C C') : ∀ (l : Hp) (F : Foot), blwH N l → RepH C l F → RepH C' (mapH σ l) F
  | [], F, hn, hr => hr
  | (o, ob) :: l, F, hn, hr => by
    obtain ⟨F1, F2, h1, h2, h3⟩ := hr
    exact ⟨F1, F2, mapO_rep h hn.1 hn.2.1 h1, mapH_rep h l F2 hn.2.2 h2, h3⟩
theorem fullR_at {ρ : Ren} {nx : Nat} : ∀ (n : Nat), fullR ρ nx n → ∀ o, o < n → ∃ x, lkR ρ o = some (some x) ∧ x < nx
  | n + 1, h, o, ho => by
    by_cases e : o = n
    · subst e
      have h1 := h.1
      split at h1
      · rename_i x hx; exact ⟨x, hx, h1⟩
      · exact h1.elim
    · exact fullR_at n h.2 o (by omega)
theorem keysR_at {n : Nat} : ∀ (ρ : Ren), keysR n ρ → ∀ o, n ≤ o → lkR ρ o = none
  | [], h, o, ho => rfl
  | (m, x) :: r, h, o, ho => by
    rw [lkR]
    cases hb : Nat.beq m o with
    | true => have := Nat.eq_of_beq_eq_true hb; have := h.1; omega
    | false => exact keysR_at r h.2 o ho
end Go.Av
end

section
/- Engine, part 9: each operation, one by one. -/
set_option linter.unusedVariables false
set_option linter.unusedSimpArgs false
set_option autoImplicit false
namespace Go.Av
variable {P : Program} [Known P] {B : Base P} {o : Oper} {s : St} {a : Act} {w : World} {K : St → AV → Prop}

def Out (B : Base P) (a : Act) (K : St → AV → Prop) (x : Value) (w : World) : Prop := ∃ s v, K s v ∧ RelV B s a w v x

theorem yields_of {R : Value → World → Prop} {v : Value} {w' : World} (h : (execOp a.eval o).run P w = .ok (.value v) w') (hr : R v w') : Yields P o a w R := by unfold Yields; rw [h]; exact hr
theorem yields_skip {R : Value → World → Prop} {w' : World} (h : (execOp a.eval o).run P w = .ok .skip w') (hr : R undef w') : Yields P o a w R := by unfold Yields; rw [h]; exact hr

theorem y_ev {x : Operand} (hx : okO x = true) (hr : Rel B s a w) (h : K s (s.ev x)) : Out B a K (a.eval x) w := by
  obtain ⟨mu, F, c⟩ := hr
  exact ⟨s, _, h, mu, F, c, c.ev x hx⟩

theorem y_box {t : TypeId} {x : Operand} (e : o.op = .box t x) (hx : okO x = true) (hr : Rel B s a w) (h : stp P (.box t x) s K) : Yields P o a w (Out B a K) := by
  obtain ⟨mu, F, c⟩ := hr
  simp only [stp] at h
  split at h
  · rename_i l hl
    have hv := cells_rep (c.ev x hx) hl
    obtain ⟨hone, h⟩ := h
    obtain ⟨F1, F2, k1, k2, k3⟩ := absC_sound (l.map AV.nb) s.hp F _ (nbL_rep _ _ _ hv) c.hp
    have ho := RepO.single k1 (all_one_rep _ _ _ hv hone)
    rw [absC_length, List.length_map] at ho
    have hlen : (a.eval x).cells.size = l.length := by have := RepL.length _ _ _ hv; simpa using this
    obtain ⟨F', c'⟩ := c.new (t := t) (d := []) (cap := 1) (g := true) ho k2 (fun b => by rw [k3 b]; exact Nat.le_refl _) (by simp) (by simp [lim]) (by simpa using hlen)
    refine yields_of (v := .pointer (some ⟨w.heap.size, 0, none⟩)) (w' := w.alloc (.cells (a.eval x).cells t)) ?_ ?_
    · simp [execOp, e, Instr.box, newVar, newRow]
    · exact ⟨_, _, h, _, F', c', by simp [cx], ⟨w.heap.size, by simp [cx, updMu], by simp⟩, fun _ => rfl⟩
  · exact h.elim

theorem zeroT_run {P : Program} {t : TypeId} {z : List AV} (h : zeroT P t = some z) : ∃ v : Value, (∀ w, (zeroValue t).run P w = .ok v w) ∧ (∀ C : Cx, RepL C z v.cells.toList (fun _ => 0)) ∧ v.cells.size = z.length ∧ ∀ u ∈ v.cells.toList, u.oneCell' = true := by
  unfold zeroT at h
  split at h
  · rename_i i hi
    split at h
    · rename_i v hz
      split at h
      · rename_i l hl
        cases hok : okV 3 v && l.all AV.one with
        | false => rw [hok] at h; simp at h
        | true =>
          rw [hok] at h
          simp only [cond_true, Option.some.injEq] at h
          subst h
          simp only [Bool.and_eq_true] at hok
          have hr0 : ∀ C : Cx, RepL C l v.cells.toList (fun _ => 0) := fun C => cells_rep (C := C) (rep_ofVal 3 v hok.1) hl
          have hr : ∀ C : Cx, RepL C (l.map AV.nb) v.cells.toList (fun _ => 0) := fun C => nbL_rep _ _ _ (hr0 C)
          refine ⟨v, fun w => by simp [zeroValue, typeInfo, hi, hz], hr, ?_, all_one_rep l _ _ (hr0 ⟨default, fun _ => False, fun _ => default, 0⟩) hok.2⟩
          have := RepL.length _ _ _ (hr ⟨default, fun _ => False, fun _ => default, 0⟩)
          simpa using this
      · simp at h
    · simp at h
  · simp at h
theorem y_alloc {t : TypeId} (e : o.op = .alloc t) (hr : Rel B s a w) (h : stp P (.alloc t) s K) : Yields P o a w (Out B a K) := by
  obtain ⟨mu, F, c⟩ := hr
  simp only [stp] at h
  split at h
  · rename_i l hl
    obtain ⟨v, hrun, hv, hlen, hone⟩ := zeroT_run hl
    have ho := RepO.single (hv (cx B w mu F s.nx)) hone
    obtain ⟨F', c'⟩ := c.new (t := t) (d := []) (cap := 1) (g := true) (FR := fun _ => 0) ho c.hp (fun b => by simp) (by simp) (by simp [lim]) (by simpa using hlen)
    refine yields_of (v := .pointer (some ⟨w.heap.size, 0, none⟩)) (w' := w.alloc (.cells v.cells t)) ?_ ?_
    · simp [execOp, e, Instr.alloc, newVar, newRow, hrun]
    · exact ⟨_, _, h, _, F', c', by simp [cx], ⟨w.heap.size, by simp [cx, updMu], by simp⟩, fun _ => rfl⟩
  · exact h.elim

theorem cell_heap {w : World} {b i : Nat} {c : Array Value} {t : TypeId} {fr : Nat × Nat} (h : w.heap[b]? = some (.cells c t fr)) : w.cell? ⟨b, i, none⟩ = c[i]? := by
  simp [World.cell?, h]

/-- What an object of the state is in memory, where it has a row. -/
theorem RepOb.rows {C : Cx} {o : Nat} {ob : Ob} {F : Foot} (h : RepOb C o ob F) (hn : 0 < ob.rows.length) :
    ∃ b c t FR, (C.mu o).b = some b ∧ (C.mu o).len = ob.rows.length ∧ (C.mu o).e = ob.e ∧ ob.rows.length ≤ (C.mu o).cap ∧ ob.rows.length ≤ lim ∧
      C.w.heap[b]? = some (.cells c t (0, 0)) ∧ c.size = (C.mu o).cap * ob.e ∧ RepO (C.sel ob.g) ob.e ob.rows c 0 FR ∧ ∀ x, F x = (if x = b then 1 else 0) + FR x := by
  rcases h.2 with ⟨_, _, _, h4, _⟩ | h
  · rw [h4] at hn; simp at hn
  · exact h
theorem getD_some {l : List (List AV)} {i : Nat} {d : List AV} (h : i < l.length) : l[i]? = some (l.getD i d) := by
  rw [List.getD_eq_getElem?_getD, List.getElem?_eq_getElem h]; rfl

theorem y_load {t : TypeId} {x : Operand} (e : o.op = .load t x) (hx0 : okO x = true) (hr : Rel B s a w) (h : stp P (.load t x) s K) : Yields P o a w (Out B a K) := by
  obtain ⟨mu, F, c⟩ := hr
  simp only [stp] at h
  have hx := c.ev x hx0
  split at h
  · rename_i g n ht
    split at h
    · rename_i l hl
      obtain ⟨h1, h2, h3⟩ := h
      rw [hl] at hx
      obtain ⟨⟨ad, hv, hA⟩, _⟩ := hx
      obtain ⟨us, k1, k2, k3, _⟩ := RepA.vals l ad 0 hA
      replace k1 := RepL.mono (ext_pu _) _ _ _ k1 (fun _ _ => rfl)
      have hlen : (us.take n).length = n := by simp; omega
      have hrun := loadVar_run (P := P) ht (w := w) (ad := ad) (us := us.take n) hlen h2 (fun i u hi => by
        have : i < n := by have := (List.getElem?_eq_some_iff.1 hi).1; omega
        have := k3 i u (by rw [List.getElem?_take] at hi; simpa [this] using hi)
        rwa [Nat.zero_add] at this)
      refine yields_of (w' := w) (v := if g then .agg (us.take n).toArray else (us.take n).headD undef) ?_ ?_
      · simp only [execOp, e, hv, Instr.loadAt, Instr.sureAddr, Sem.run_bind, Sem.run_pure, Result.andThen_ok, hrun]
      · exact ⟨s, _, h3, mu, F, c, packT_rep (RepL.take n l us k1) (by simp; omega)⟩
    · rename_i i_o i off hl
      split at h
      · rename_i ob hob
        obtain ⟨h1, h2, h3, h4⟩ := h
        rw [hl] at hx
        obtain ⟨hlt, ⟨b, hb, hv⟩, _⟩ := hx
        obtain ⟨G1, G2, m1, m2, m4, m3⟩ := RepH.put s.hp F _ ob c.hp hob
        obtain ⟨b', cc, tt, FR, q1, q2, q3, q4, q5, q6, q7, q8, q9⟩ := m1.rows (by omega)
        obtain rfl : b = b' := Option.some.inj (hb.symm.trans q1)
        obtain ⟨r1, F1, F2, r2, r3, r4⟩ := RepO.focus _ 0 FR i _ q8 (getD_some (d := ob.d) h1)
        have e3 : ob.rows.getD i ob.d = (ob.rows.getD i ob.d).take off ++ (((ob.rows.getD i ob.d).drop off).take n ++ ((ob.rows.getD i ob.d).drop off).drop n) := by
          rw [List.take_append_drop, List.take_append_drop]
        rw [e3] at r2
        obtain ⟨A1, A2, a1, a2, a3⟩ := (RepB.append _ _ _ _).1 r2
        obtain ⟨B1, B2, b1, b2, b3⟩ := (RepB.append _ _ _ _).1 a2
        obtain ⟨us, k1, k2, k3, k4⟩ := RepB.to_list _ _ _ b1
        replace k1 := RepL.mono (ext_sel _ _) _ _ _ k1 (fun _ _ => by rw [Cx.sel_w])
        have hmid : (((ob.rows.getD i ob.d).drop off).take n).length = n := by rw [List.length_take, List.length_drop, r1]; omega
        have hlen : us.length = n := by rw [k2, hmid]
        have hoff : ((ob.rows.getD i ob.d).take off).length = off := by rw [List.length_take, r1]; omega
        rw [hoff] at k3
        have hrun := loadVar_run (P := P) ht (w := w) (ad := ⟨b, i * ob.e + off, none⟩) (us := us) hlen h2 (fun j u hj => by
          rw [add_none, cell_heap (show w.heap[b]? = _ from q6)]
          have := k3 j u hj
          rwa [Nat.zero_add] at this)
        rw [q3] at hv
        have hex : (execOp a.eval o).run P w = .ok (.value (if g then .agg us.toArray else us.headD undef)) w := by
          simp only [execOp, e, hv, Instr.loadAt, Instr.sureAddr, Sem.run_bind, Sem.run_pure, Result.andThen_ok, hrun]
        refine yields_of hex ?_
        split at h4
        · rename_i hpu
          have hz : Z B1 := puL_zero _ _ _ k1 hpu
          have k1' := k1.foot (F' := fun _ => 0) (fun b => (hz b).symm)
          exact ⟨s, _, h4, mu, F, c, packT_rep k1' (by rw [← k2]; omega)⟩
        · rename_i hpu
          obtain ⟨htop, hK⟩ := h4
          generalize hrow : ob.rows.getD i ob.d = row at *
          obtain ⟨C', i1, i2⟩ := instC_sound _ (cx B w mu F s.nx) us B1 k1 htop
          have hC : C' = cx B w C'.mu F C'.nx := by
            have h1 := i1.w; have h2 := i1.ok
            cases C'; simp only [cx] at *; rw [h1, h2]
          have hCw : ∀ b : Nat, C'.w.heap[b]? = w.heap[b]? := fun b => by rw [i1.w]; rfl
          have hl' : (instC s.nx ((row.drop off).take n)).1.length = n := by
            have := RepL.length _ _ _ i2
            rw [hlen] at this; exact this.symm
          simp only [Nat.zero_add] at r4 a1 b1 b2
          rw [hoff] at b1 b2
          rw [hmid] at b2
          have hx1 := ext_sel (cx B w mu F s.nx) ob.g
          have hx2 : Ext ((cx B w mu F s.nx).sel ob.g) C' := ⟨fun b h => i1.ext.ok b (hx1.ok b h), fun b h => (i1.ext.keep b (hx1.ok b h)).trans (hx1.keep b h), Nat.le_trans hx1.nx i1.ext.nx, fun o ho => (i1.ext.mu o (Nat.lt_of_lt_of_le ho hx1.nx)).trans (hx1.mu o ho)⟩
          have hCw2 : ∀ b : Nat, C'.w.heap[b]? = ((cx B w mu F s.nx).sel ob.g).w.heap[b]? := fun b => by rw [Cx.sel_w]; exact hCw b
          have a1' := a1.mono hx2 _ _ _ _ (fun b _ => hCw2 b)
          have b2' := b2.mono hx2 _ _ _ _ (fun b _ => hCw2 b)
          have hlen2 : (row.take off ++ (instC s.nx ((row.drop off).take n)).1 ++ row.drop (off + (instC s.nx ((row.drop off).take n)).1.length)).length = ob.e := by
            simp only [List.length_append, List.length_take, List.length_drop, hl', r1]; omega
          have hB : RepB C' (row.take off ++ (instC s.nx ((row.drop off).take n)).1 ++ row.drop (off + (instC s.nx ((row.drop off).take n)).1.length)) cc (i * ob.e) (fun y => A1 y + (0 + B2 y)) := by
            rw [List.append_assoc]
            refine (RepB.append _ _ _ _).2 ⟨A1, fun y => 0 + B2 y, a1', (RepB.append _ _ _ _).2 ⟨fun _ => 0, B2, ?_, ?_, fun _ => rfl⟩, fun _ => rfl⟩
            · rw [hoff]; exact RepB.of_list _ us _ _ (fun j u hj => by have := k3 j u hj; rwa [Nat.zero_add] at this) k4 i2
            · rw [hoff, hl', ← List.drop_drop]; exact b2'
          have hO := r4 C' _ _ _ hx2 (fun b _ => hCw2 b) hlen2 hB (fun _ _ => rfl)
          have hmu : C'.mu i_o = mu i_o := i1.mu i_o hlt
          have hh' := m3 C' (setRow ⟨ob.e, ob.rows, ob.d, true⟩ i off (instC s.nx ((row.drop off).take n)).1) (fun y => (if y = b then 1 else 0) + ((A1 y + (0 + B2 y)) + F2 y))
            ⟨Nat.lt_of_lt_of_le hlt i1.le, .inr ⟨b, cc, tt, fun y => (A1 y + (0 + B2 y)) + F2 y, by rw [hmu]; exact q1, by rw [hmu]; show _ = (ob.rows.set _ _).length; rw [List.length_set]; exact q2, by rw [hmu]; exact q3, by rw [hmu]; show (ob.rows.set _ _).length ≤ _; rw [List.length_set]; exact q4,
              by show (ob.rows.set _ _).length ≤ _; rw [List.length_set]; exact q5, by rw [hCw]; exact q6, by rw [hmu]; exact q7, by
                have hsel : C'.sel (setRow ⟨ob.e, ob.rows, ob.d, true⟩ i off (instC s.nx ((row.drop off).take n)).1).g = C' := rfl
                rw [hsel]
                show RepO C' ob.e (ob.rows.set i ((ob.rows.getD i ob.d).take off ++ _ ++ (ob.rows.getD i ob.d).drop _)) cc 0 _
                rw [hrow]; exact hO, fun _ => rfl⟩⟩
            ⟨i1.ext, fun b _ => hCw b⟩
          have happ := RepH.app _ _ _ _ i1.hp hh'
          have hsum : (fun y => B1 y + ((if y = b then 1 else 0) + ((A1 y + (0 + B2 y)) + F2 y) + G2 y)) = F := funext fun y => by
            have := m2 y; have := q9 y; have := r3 y; have := a3 y; have := b3 y
            omega
          rw [hsum] at happ
          have st : Stp w w F F := ⟨rfl, rfl, rfl, Nat.le_refl _, fun _ _ _ => rfl, fun _ _ h => h, c.one, fun b hb => (c.blk b hb).1⟩
          have hC2 : cx B w C'.mu F (instC s.nx ((row.drop off).take n)).2.2 = C' := by rw [hC]; congr 1; exact i1.nx.symm
          refine ⟨_, _, hK, C'.mu, F, c.step (s' := ⟨s.tm, _, _⟩) st (by have := i1.le; rw [i1.nx] at this; exact this) i1.mu rfl ?_, ?_⟩
          · show RepH (cx B w C'.mu F (instC s.nx ((row.drop off).take n)).2.2) _ F
            rw [hC2]; exact happ
          · show Rep (cx B w C'.mu F (instC s.nx ((row.drop off).take n)).2.2) _ _ _
            rw [hC2]; exact packT_rep i2 (by rw [hl']; exact h2)
      · exact h.elim
    · exact h.elim
  · exact h.elim

theorem y_store {t : TypeId} {p x : Operand} (e : o.op = .store t p x) (hp0 : okO p = true) (hx0 : okO x = true) (hr : Rel B s a w) (h : stp P (.store t p x) s K) : Yields P o a w (Out B a K) := by
  obtain ⟨mu, F, c⟩ := hr
  simp only [stp] at h
  have hx := c.ev p hp0
  split at h
  · rename_i g n l i_o i off ht hl hp
    split at h
    · rename_i ob hob
      obtain ⟨h1, h2, h3, hnp, h4, h5⟩ := h
      rw [hp] at hx
      obtain ⟨_, ⟨b, hb, hv⟩, _⟩ := hx
      have hvs0 := cells_rep (c.ev x hx0) hl
      have hvs := nbL_rep _ _ _ hvs0
      obtain ⟨Fl, Fh, k1, k2, k3⟩ := absC_sound (l.map AV.nb) s.hp F _ hvs c.hp
      have hlen : (a.eval x).cells.toList.length = n := by rw [RepL.length _ _ _ hvs, List.length_map]; exact h2
      obtain ⟨G1, G2, m1, m2, m4, m3⟩ := RepH.put _ Fh i_o ob k2 hob
      obtain ⟨b', cc, tt, FR, q1, q2, q3, q4, q5, q6, q7, q8, q9⟩ := m1.rows (by omega)
      obtain rfl : b = b' := Option.some.inj (hb.symm.trans q1)
      obtain ⟨r1, F1, F2, r2, r3, r4⟩ := RepO.focus _ 0 FR i _ q8 (getD_some (d := ob.d) h1)
      rw [setAll_eq r1] at h5
      generalize hrow : ob.rows.getD i ob.d = row at *
      have e3 : row = row.take off ++ ((row.drop off).take n ++ row.drop (off + n)) := by
        rw [← List.drop_drop, List.take_append_drop, List.take_append_drop]
      have hoff : (row.take off).length = off := by rw [List.length_take, r1]; omega
      have hmid : ((row.drop off).take n).length = n := by rw [List.length_take, List.length_drop, r1]; omega
      rw [e3] at r2
      obtain ⟨A1, A2, a1, a2, a3⟩ := (RepB.append _ _ _ _).1 r2
      obtain ⟨B1, B2, b1, b2, b3⟩ := (RepB.append _ _ _ _).1 a2
      rw [hoff] at a2 b1 b2
      rw [hmid] at b2
      generalize hus : (a.eval x).cells.toList = vs at *
      have hsz : i * ob.e + off + vs.length ≤ cc.size := by
        rw [hlen, q7]
        have : (i + 1) * ob.e ≤ ((cx B w mu F s.nx).mu i_o).cap * ob.e := Nat.mul_le_mul_right _ (by omega)
        rw [Nat.add_mul, Nat.one_mul] at this
        omega
      have hone := all_one_rep l vs _ hvs0 h3
      simp only [Nat.zero_add] at r4 a1 b1 b2
      have hl' : (absC s.hp (l.map AV.nb)).1.length = n := by rw [absC_length, List.length_map]; exact h2
      have hrow' : RepB ((cx B w mu F s.nx).sel ob.g) (row.take off ++ (absC s.hp (l.map AV.nb)).1 ++ row.drop (off + (absC s.hp (l.map AV.nb)).1.length)) (wr cc (i * ob.e + off) vs) (i * ob.e) (fun y => A1 y + (Fl y + B2 y)) := by
        rw [List.append_assoc]
        refine (RepB.append _ _ _ _).2 ⟨A1, fun y => Fl y + B2 y, RepB.congr _ _ _ (fun j h6 h7 => wr_out _ _ _ _ (by rw [hoff] at h7; omega)) a1, (RepB.append _ _ _ _).2 ⟨Fl, B2, ?_, ?_, fun _ => rfl⟩, fun _ => rfl⟩
        · rw [hoff]
          exact RepB.of_list _ vs _ _ (fun j u hj => wr_in _ _ _ _ _ hsz hj) hone (npL_sel _ k1 hnp)
        · rw [hoff, hl']
          exact RepB.congr _ _ _ (fun j h6 h7 => wr_out _ _ _ _ (by rw [hlen]; omega)) b2
      have hlen' : (row.take off ++ (absC s.hp (l.map AV.nb)).1 ++ row.drop (off + (absC s.hp (l.map AV.nb)).1.length)).length = ob.e := by
        simp only [List.length_append, List.length_take, List.length_drop, hl', r1]; omega
      have hO := r4 _ _ _ _ (Ext.refl _) (fun _ _ => rfl) hlen' hrow' (fun j h6 => wr_out _ _ _ _ (by rw [hlen]; omega))
      let F' : Foot := fun y => ((if y = b then 1 else 0) + ((A1 y + (Fl y + B2 y)) + F2 y)) + G2 y
      have hF : ∀ y, F y = F' y + B1 y := fun y => by
        have := k3 y; have := m2 y; have := q9 y; have := r3 y; have := a3 y; have := b3 y
        simp only [F']; omega
      have hFb : F b ≠ 0 := by have := hF b; simp [F'] at this; omega
      have st : Stp w (w.setCells b (i * ob.e + off) vs) F F' := stp_write b _ vs hFb (fun y => by have := hF y; omega) c.one (fun y hy => (c.blk y hy).1)
      have hm : ∀ o, o < s.nx → mu o = mu o := fun _ _ => rfl
      have hx' := st.ext (B := B) (mu := mu) (mu' := mu) (n := s.nx) (n' := s.nx) (Nat.le_refl _) hm
      have hoth : ∀ y, y ≠ b → (w.setCells b (i * ob.e + off) vs).heap[y]? = w.heap[y]? := fun y hy => setCells_other _ _ _ _ _ hy
      have hbone : ∀ y, (A1 y + (Fl y + B2 y)) + F2 y + G2 y ≠ 0 → y ≠ b := fun y hy e => by
        subst e
        have h8 := c.one y; have := hF y; simp [F'] at this; omega
      have hh' := m3 (cx B (w.setCells b (i * ob.e + off) vs) mu F' s.nx) (setRow ob i off (absC s.hp (l.map AV.nb)).1) (fun y => (if y = b then 1 else 0) + ((A1 y + (Fl y + B2 y)) + F2 y))
        ⟨m1.1, .inr ⟨b, wr cc (i * ob.e + off) vs, tt, _, q1, by show _ = (ob.rows.set _ _).length; rw [List.length_set]; exact q2, q3, by show (ob.rows.set _ _).length ≤ _; rw [List.length_set]; exact q4, by show (ob.rows.set _ _).length ≤ _; rw [List.length_set]; exact q5, setCells_heap _ _ _ _ _ _ _ q6,
          by rw [wr_size]; exact q7, by
            have := hO.mono (hx'.sel _) _ _ _ _ _ (fun y hy => by rw [Cx.sel_w, Cx.sel_w]; exact hoth y (hbone y (by omega)))
            rw [← hrow] at this
            exact this, fun _ => rfl⟩⟩
        ⟨hx', fun y hy => hoth y (hbone y (by omega))⟩
      have c' := c.step (s' := ⟨s.tm, seth (absC s.hp (l.map AV.nb)).2 i_o (setRow ob i off (absC s.hp (l.map AV.nb)).1), s.nx⟩) st (Nat.le_refl _) hm rfl hh'
      refine yields_skip (w' := w.setCells b (i * ob.e + off) vs) ?_ ⟨_, _, h5, mu, F', c', fun _ => rfl⟩
      rw [q3] at hv
      have hsize : (a.eval x).cells.size = n := by rw [← hlen, ← hus]; simp
      have hst := storeCells_run (P := P) (w := w) (b := b) (o := i * ob.e + off) (vs := vs) q6 hsz hone
      simp only [execOp, e, hv, Instr.storeAt, Instr.sureAddr, storeVar, Sem.run_bind, Sem.run_pure, Result.andThen_ok, (tyT_run ht w).2, hsize, ne_eq, not_true_eq_false, if_false, hus, Sem.run_ite, hst]
    · exact h.elim
  · exact h.elim
end Go.Av
end

section
/- Engine, part 10: addresses, numbers, tests. -/
set_option linter.unusedVariables false
set_option linter.unusedSimpArgs false
set_option autoImplicit false
namespace Go.Av
variable {P : Program} [Known P] {B : Base P} {o : Oper} {s : St} {a : Act} {w : World} {K : St → AV → Prop}

theorem y_val {v : AV} {x : Value} (hrun : (execOp a.eval o).run P w = .ok (.value x) w) {mu : Nat → Hdr} {F : Foot} (c : Core B s a w mu F) (hv : Rep (cx B w mu F s.nx) v x (fun _ => 0)) (h : K s v) : Yields P o a w (Out B a K) :=
  yields_of hrun ⟨s, v, h, mu, F, c, hv⟩

theorem y_nilCheck {x : Operand} (e : o.op = .nilCheck x) (hx0 : okO x = true) (hr : Rel B s a w) (h : stp P (.nilCheck x) s K) : Yields P o a w (Out B a K) := by
  obtain ⟨mu, F, c⟩ := hr
  simp only [stp] at h
  have hx := c.ev x hx0
  split at h
  · rename_i l hl
    rw [hl] at hx
    have hx2 := hx
    obtain ⟨⟨ad, hv, hA⟩, _⟩ := hx
    exact y_val (x := a.eval x) (by simp [execOp, e, hv]) c hx2 h
  · rename_i i_o i off hl
    rw [hl] at hx
    have hx2 := hx
    obtain ⟨_, ⟨b, hb, hv⟩, _⟩ := hx
    exact y_val (x := a.eval x) (by simp [execOp, e, hv]) c hx2 h
  · rename_i f l hl
    rw [hl] at hx
    have hx2 := hx
    obtain ⟨cs, hv, hL⟩ := hx
    exact y_val (x := a.eval x) (by simp [execOp, e, hv]) c hx2 h
  · exact h.elim

theorem fldT_spec {P : Program} {t : TypeId} {f off n : Nat} {g : Bool} (h : fldT P t f = some (off, g, n)) : ∃ fs x, P.underlying t = some (.struct fs) ∧ fs[f]? = some x ∧ x.offset = off ∧ tyT P x.type = some (g, n) ∧ n ≠ 0 := by
  unfold fldT at h
  split at h
  · rename_i fs hu
    split at h
    · rename_i x hx
      split at h
      · rename_i g' n' ht
        cases hn : Nat.beq n' 0 with
        | true => rw [hn] at h; simp at h
        | false =>
          rw [hn] at h
          obtain ⟨rfl, rfl, rfl⟩ : x.offset = off ∧ g' = g ∧ n' = n := by simpa using h
          exact ⟨fs, x, hu, hx, rfl, ht, fun h0 => by subst h0; simp at hn⟩
      · simp at h
    · simp at h
  · simp at h
theorem fldT_run {t : TypeId} {f off n : Nat} {g : Bool} (h : fldT P t f = some (off, g, n)) (ad : Addr) (w : World) : (Instr.fieldAt t (.pointer (some ad)) f).run P w = .ok (.pointer (some (ad.add off))) w := by
  obtain ⟨fs, x, hu, hx, rfl, ht, hne⟩ := fldT_spec h
  simp [Instr.fieldAt, underlying, hu, hx, Instr.sureAddr, fieldPlace, (tyT_run ht w).2, hne]
theorem y_fieldAddr {t : TypeId} {x : Operand} {f : Nat} (e : o.op = .fieldAddr t x f) (hx0 : okO x = true) (hr : Rel B s a w) (h : stp P (.fieldAddr t x f) s K) : Yields P o a w (Out B a K) := by
  obtain ⟨mu, F, c⟩ := hr
  simp only [stp] at h
  have hx := c.ev x hx0
  split at h
  · rename_i off g n hf
    split at h
    · rename_i l hl
      rw [hl] at hx
      obtain ⟨⟨ad, hv, hA⟩, _⟩ := hx
      refine y_val (x := .pointer (some (ad.add off))) (by simp [execOp, e, hv, fldT_run hf]) c ?_ h
      exact ⟨⟨_, rfl, (RepA.shift _ ad off 0).1 (by simpa using RepA.drop off l ad 0 hA)⟩, fun _ => rfl⟩
    · rename_i i_o i off' hl
      rw [hl] at hx
      obtain ⟨hlt, ⟨b, hb, hv⟩, _⟩ := hx
      refine y_val (v := .cp i_o i (off' + off)) (x := .pointer (some ⟨b, i * (mu i_o).e + (off' + off), none⟩)) ?_ c ⟨hlt, ⟨b, hb, rfl⟩, fun _ => rfl⟩ h
      rw [show i * (mu i_o).e + (off' + off) = i * (mu i_o).e + off' + off by omega, ← add_none]
      simp only [execOp, e, hv, Sem.run_bind, fldT_run hf]; rfl
    · exact h.elim
  · exact h.elim

theorem repL_drop {C : Cx} : ∀ (k : Nat) (l : List AV) (us : List Value), RepL C l us (fun _ => 0) → RepL C (l.drop k) (us.drop k) (fun _ => 0)
  | 0, l, us, h => h
  | k + 1, [], us, h => by obtain ⟨rfl, _⟩ := h; exact ⟨by simp, fun _ => rfl⟩
  | k + 1, x :: l, us, h => by
    obtain ⟨v, vs', F1, F2, rfl, h1, h2, h3⟩ := h
    obtain ⟨rfl, rfl⟩ := zero_split h3
    exact repL_drop k l vs' h2
theorem part_run {t n : Nat} {g : Bool} (ht : tyT P t = some (g, n)) {cs : List Value} {off : Nat} (hn : 0 < n) (hl : off + n ≤ cs.length) (w : World) :
    (part t cs.toArray off).run P w = .ok (if g then .agg ((cs.drop off).take n).toArray else ((cs.drop off).take n).headD undef) w := by
  obtain ⟨h1, h2⟩ := tyT_run ht w
  cases g with
  | true =>
    simp only [part, Sem.run_bind, h1, Result.andThen_ok, if_true, h2, Sem.run_pure]
    congr 2
    rw [← Array.toList_inj]
    simp [List.extract_eq_take_drop]
  | false =>
    have hlt : off < cs.length := by omega
    simp only [part, Sem.run_bind, h1, Result.andThen_ok, Bool.false_eq_true, if_false]
    rw [show cs.toArray[off]? = some (cs[off]) by simp [hlt]]
    simp only [Sem.run_pure]
    congr 1
    obtain ⟨m, rfl⟩ : ∃ m, n = m + 1 := ⟨n - 1, by omega⟩
    rw [List.drop_eq_getElem_cons hlt]
    rfl
theorem y_field {t : TypeId} {x : Operand} {f : Nat} (e : o.op = .field t x f) (hx0 : okO x = true) (hr : Rel B s a w) (h : stp P (.field t x f) s K) : Yields P o a w (Out B a K) := by
  obtain ⟨mu, F, c⟩ := hr
  simp only [stp] at h
  have hx := c.ev x hx0
  split at h
  · rename_i off g n l hf hl
    rw [hl] at hx
    obtain ⟨cs, hv, hL⟩ := hx
    obtain ⟨fs, y, hu, hy, rfl, ht, hne⟩ := fldT_spec hf
    have hlen := RepL.length _ _ _ hL
    refine y_val (x := if g then .agg ((cs.drop y.offset).take n).toArray else ((cs.drop y.offset).take n).headD undef) ?_ c (packT_rep (RepL.take n _ _ (repL_drop y.offset _ _ hL)) (by rw [List.length_take, List.length_drop]; omega)) h.2
    simp only [execOp, e, hv, Instr.field, underlying, Sem.run_bind, run_program, Result.andThen_ok, hu, Sem.run_pure, hy, asAgg, part_run ht (Nat.pos_of_ne_zero hne) (by rw [hlen]; exact h.1)]
  · exact h.elim

theorem elT_slice {P : Program} {t e : Nat} {g : Bool} {by_ : Nat} (h : elT P t = some (g, e, by_)) : ∃ el, P.underlying t = some (.slice el) ∧ tyT P el = some (g, e) ∧ P.bytesOf el = by_ ∧ e ≠ 0 := by
  unfold elT at h
  split at h
  · rename_i el hu
    split at h
    · rename_i g' n' ht
      cases hn : Nat.beq n' 0 with
      | true => rw [hn] at h; simp at h
      | false =>
        rw [hn] at h
        obtain ⟨rfl, rfl, rfl⟩ : g' = g ∧ n' = e ∧ P.bytesOf el = by_ := by simpa using h
        exact ⟨el, hu, ht, rfl, fun h0 => by subst h0; simp at hn⟩
    · simp at h
  · simp at h
theorem indexAt_run {t e : Nat} {g : Bool} {by_ : Nat} (h : elT P t = some (g, e, by_)) {ad : Addr} {n cap : Nat} {k : IntKind} {j : Int} (h0 : 0 ≤ j) (h1 : j < n) (w : World) :
    (Instr.indexAt t (.slice (some ad) n cap) (.int k j)).run P w = .ok (.pointer (some (ad.add (j.toNat * e)))) w := by
  obtain ⟨el, hu, ht, _, _⟩ := elT_slice h
  simp [Instr.indexAt, asIntOf, underlying, hu, h0, h1, (tyT_run ht w).2]
theorem arT_spec {P : Program} {t n m : Nat} {g : Bool} (h : arT P t = some (n, g, m)) : ∃ e, P.underlying t = some (.array n e) ∧ tyT P e = some (g, m) := by
  unfold arT at h
  split at h
  · rename_i n' e hu
    split at h
    · rename_i g' k ht
      obtain ⟨rfl, rfl, rfl⟩ : n' = n ∧ g' = g ∧ k = m := by simpa using h
      exact ⟨e, hu, ht⟩
    · simp at h
  · simp at h
theorem y_indexAddr {t : TypeId} {x i : Operand} (e : o.op = .indexAddr t x i) (hx0 : okO x = true) (hi0 : okO i = true) (hr : Rel B s a w) (h : stp P (.indexAddr t x i) s K) : Yields P o a w (Out B a K) := by
  obtain ⟨mu, F, c⟩ := hr
  simp only [stp] at h
  have hx := c.ev x hx0
  have hi := c.ev i hi0
  split at h
  · rename_i g n by_ he
    split at h
    · rename_i e' rows d k j hl hj
      obtain ⟨h1, h2, h3, h4⟩ := h
      subst h1
      rw [hl] at hx
      rw [hj] at hi
      obtain ⟨⟨ad, cap, hv, k1, k2, k3⟩, _⟩ := hx
      obtain ⟨hiv, _⟩ := hi
      obtain ⟨ad', r1, r2, r3⟩ := RepR.at_ rows ad 0 j.toNat _ k3 (getD_some (d := d) (by omega))
      subst r1
      refine y_val (x := .pointer (some (ad'.add (j.toNat * n)))) (by simp only [execOp, e, hv, hiv, Sem.run_bind, indexAt_run he h2 h3]; rfl) c ?_ h4
      exact ⟨⟨_, rfl, (RepA.shift _ ad' _ 0).1 (by simpa using r3)⟩, fun _ => rfl⟩
    · rename_i i_o k j hl hj
      split at h
      · rename_i ob hob
        obtain ⟨h1, h2, h3, h4⟩ := h
        subst h1
        rw [hl] at hx
        rw [hj] at hi
        obtain ⟨hiv, _⟩ := hi
        obtain ⟨hlt, hv, _⟩ := hx
        obtain ⟨G1, G2, m1, m2, m3⟩ := RepH.take s.hp F _ ob c.hp hob
        obtain ⟨b, cc, tt, FR, q1, q2, q3, q4, q5, q6, q7, q8, q9⟩ := m1.rows (by omega)
        refine y_val (v := .cp i_o j.toNat 0) (x := .pointer (some ⟨b, j.toNat * (mu i_o).e + 0, none⟩)) ?_ c ⟨hlt, ⟨b, q1, rfl⟩, fun _ => rfl⟩ h4
        have q3' : (mu i_o).e = ob.e := q3
        have q2' : (mu i_o).len = ob.rows.length := q2
        have q1' : (mu i_o).b = some b := q1
        have hv' : a.eval x = .slice (some ⟨b, 0, none⟩) ob.rows.length (mu i_o).cap := by rw [hv, q1, q2]; rfl
        simp only [execOp, e, hv', hiv, Sem.run_bind, indexAt_run he h2 h3, q3']
        rw [add_none]
        simp
      · exact h.elim
    · exact h.elim
  · split at h
    · rename_i n g sz i_o r off k j hat hl hj
      obtain ⟨h2, h3, h4⟩ := h
      obtain ⟨el, hu, ht⟩ := arT_spec hat
      rw [hl] at hx
      rw [hj] at hi
      obtain ⟨hiv, _⟩ := hi
      obtain ⟨hlt, ⟨b, hb, hv⟩, _⟩ := hx
      refine y_val (v := .cp i_o r (off + j.toNat * sz)) (x := .pointer (some ⟨b, r * (mu i_o).e + (off + j.toNat * sz), none⟩)) ?_ c ⟨hlt, ⟨b, hb, rfl⟩, fun _ => rfl⟩ h4
      have e2 : (⟨b, r * (mu i_o).e + (off + j.toNat * sz), none⟩ : Addr) = Addr.add ⟨b, r * (mu i_o).e + off, none⟩ (j.toNat * sz) := by rw [add_none, Nat.add_assoc]
      rw [e2]
      simp only [execOp, e, hv, hiv]
      simp [Instr.indexAt, asIntOf, underlying, hu, Instr.sureAddr, h2, h3, (tyT_run ht w).2]
      rfl
    · rename_i n g sz l k j hat hl hj
      obtain ⟨h2, h3, h4⟩ := h
      obtain ⟨el, hu, ht⟩ := arT_spec hat
      rw [hl] at hx
      rw [hj] at hi
      obtain ⟨hiv, _⟩ := hi
      obtain ⟨⟨ad, hv, hA⟩, _⟩ := hx
      refine y_val (v := .rp (l.drop (j.toNat * sz))) (x := .pointer (some (ad.add (j.toNat * sz)))) ?_ c ⟨⟨_, rfl, (RepA.shift _ ad _ 0).1 (by simpa using RepA.drop (j.toNat * sz) l ad 0 hA)⟩, fun _ => rfl⟩ h4
      simp only [execOp, e, hv, hiv]
      simp [Instr.indexAt, asIntOf, underlying, hu, Instr.sureAddr, h2, h3, (tyT_run ht w).2]
    · exact h.elim

theorem wrap_i64 {x : Int} (h : In64 x) : IntKind.i64.wrap x = x := by
  unfold In64 at h
  simp only [IntKind.wrap, IntKind.bits, IntKind.signed, Bool.true_and, ge_iff_le, decide_eq_true_eq]
  omega
theorem wrap_wrap (k : IntKind) (x : Int) : k.wrap (k.wrap x) = k.wrap x := by
  cases k <;> simp only [IntKind.wrap, IntKind.bits, IntKind.signed, Bool.true_and, Bool.false_and, Bool.false_eq_true, if_false, ge_iff_le, decide_eq_true_eq] <;> omega
theorem wrap_iff (k : IntKind) (x : Int) : k.wrap x = x ↔ (if k.signed then -(2 ^ (k.bits - 1) : Int) ≤ x ∧ x < 2 ^ (k.bits - 1) else 0 ≤ x ∧ x < 2 ^ k.bits) := by
  cases k <;> simp only [IntKind.wrap, IntKind.bits, IntKind.signed, Bool.true_and, Bool.false_and, Bool.false_eq_true, if_false, if_true, ge_iff_le, decide_eq_true_eq] <;> omega
theorem in64_of {x : Int} (h : IntKind.i64.wrap x = x) : In64 x := by
  have := (wrap_iff _ _).1 h
  simp only [IntKind.bits, IntKind.signed, if_true] at this
  unfold In64; omega
theorem toList_inj {x y : ByteArray} : (x.toList == y.toList) = decide (x = y) := by
  have hl : ∀ x : ByteArray, x.toList = x.data.toList := ByteArray.toList_eq
  rw [hl, hl, Bool.eq_iff_iff]
  simp only [beq_iff_eq, decide_eq_true_eq]
  constructor
  · intro h
    cases x; cases y
    simp only [ByteArray.mk.injEq]
    exact Array.toList_inj.1 h
  · rintro rfl; rfl

theorem rep_bool {C : Cx} {b : Bool} : Rep C (.bool b) (.bool b) (fun _ => 0) := ⟨rfl, fun _ => rfl⟩
theorem numK_run {k : IntKind} {x : Int} {K : AV → Prop} (h : numK k x K) : ∃ v, (∀ C : Cx, Rep C v (.int k (k.wrap x)) (fun _ => 0)) ∧ K v := by
  cases k <;> simp only [numK] at h
  case i64 => exact ⟨_, fun C => by rw [wrap_i64 h.1]; exact rep_int (wrap_i64 h.1), h.2⟩
  all_goals exact ⟨_, fun C => rep_int (wrap_wrap _ _), h⟩
theorem tmod_wrap {k : IntKind} {x y : Int} (h : k.wrap x = x) : k.wrap (x.tmod y) = x.tmod y := by
  rw [wrap_iff] at h ⊢
  have h1 : (x.tmod y).natAbs ≤ x.natAbs := by rw [Int.natAbs_tmod]; exact Nat.mod_le _ _
  have h2 : 0 ≤ x → 0 ≤ x.tmod y := fun h => Int.tmod_nonneg _ h
  have h3 : x ≤ 0 → x.tmod y ≤ 0 := fun h => by
    have := Int.tmod_nonneg (a := -x) y (by omega)
    rw [Int.neg_tmod] at this; omega
  cases k <;> simp only [IntKind.bits, IntKind.signed, Bool.false_eq_true, if_false, if_true] at h ⊢ <;> omega
theorem fdiv_wrap {k : IntKind} {x : Int} {n : Nat} (h : k.wrap x = x) : k.wrap (x.fdiv (2 ^ n)) = x.fdiv (2 ^ n) := by
  rw [wrap_iff] at h ⊢
  have hp : (0 : Int) < 2 ^ n := Int.pow_pos (by omega)
  rw [Int.fdiv_eq_ediv_of_nonneg _ (Int.le_of_lt hp)]
  have h1 : 0 ≤ x → 0 ≤ x / 2 ^ n ∧ x / 2 ^ n ≤ x := fun h => ⟨Int.ediv_nonneg h (Int.le_of_lt hp), Int.ediv_le_self _ h⟩
  have h2 : x < 0 → x ≤ x / 2 ^ n ∧ x / 2 ^ n < 0 := fun h => by
    refine ⟨?_, Int.ediv_neg_of_neg_of_pos h hp⟩
    have h4 : x * 2 ^ n ≤ x * 1 := Int.mul_le_mul_of_nonpos_left (by omega) (by omega)
    have := Int.le_ediv_of_mul_le hp (by rw [Int.mul_one] at h4; exact h4)
    exact this
  cases k <;> simp only [IntKind.bits, IntKind.signed, Bool.false_eq_true, if_false, if_true] at h ⊢ <;> (rcases Int.lt_or_le x 0 with hx | hx <;> (first | (have := h1 hx; omega) | (have := h2 hx; omega)))
theorem binI_run {P : Program} {op : BinOp} {k k' : IntKind} {x y : Int} {K : AV → Prop} (hx : k.wrap x = x) (h : binI op k x k' y K) : ∃ v u, (binOp op 0 (.int k x) (.int k' y)).run P w = .ok u w ∧ (∀ t, binOp op t (.int k x) (.int k' y) = binOp op 0 (.int k x) (.int k' y)) ∧ (∀ C : Cx, Rep C v u (fun _ => 0)) ∧ K v := by
  cases op <;> simp only [binI] at h
  case add => obtain ⟨rfl, h⟩ := h; obtain ⟨v, h1, h2⟩ := numK_run h; exact ⟨v, _, by simp [binOp, Op.intArith], fun _ => rfl, h1, h2⟩
  case sub => obtain ⟨rfl, h⟩ := h; obtain ⟨v, h1, h2⟩ := numK_run h; exact ⟨v, _, by simp [binOp, Op.intArith], fun _ => rfl, h1, h2⟩
  case mul => obtain ⟨rfl, h⟩ := h; obtain ⟨v, h1, h2⟩ := numK_run h; exact ⟨v, _, by simp [binOp, Op.intArith], fun _ => rfl, h1, h2⟩
  case quo => obtain ⟨rfl, h0, h⟩ := h; obtain ⟨v, h1, h2⟩ := numK_run h; exact ⟨v, _, by simp [binOp, Op.intDiv, h0], fun _ => rfl, h1, h2⟩
  case rem => obtain ⟨rfl, h0, h⟩ := h; exact ⟨_, _, by simp [binOp, Op.intDiv, h0], fun _ => rfl, fun C => rep_int (tmod_wrap hx), h⟩
  case and => obtain ⟨rfl, h⟩ := h; exact ⟨_, _, by simp [binOp, Op.intBits], fun _ => rfl, fun C => rep_int (wrap_wrap _ _), h⟩
  case or => obtain ⟨rfl, h⟩ := h; exact ⟨_, _, by simp [binOp, Op.intBits], fun _ => rfl, fun C => rep_int (wrap_wrap _ _), h⟩
  case xor => obtain ⟨rfl, h⟩ := h; exact ⟨_, _, by simp [binOp, Op.intBits], fun _ => rfl, fun C => rep_int (wrap_wrap _ _), h⟩
  case andNot => obtain ⟨rfl, h⟩ := h; exact ⟨_, _, by simp [binOp, Op.intBits], fun _ => rfl, fun C => rep_int (wrap_wrap _ _), h⟩
  case shl => exact ⟨_, _, by simp [binOp, Op.shift, show ¬ y < 0 by omega], fun _ => rfl, fun C => rep_int (wrap_wrap _ _), h.2⟩
  case shr => exact ⟨_, _, by simp [binOp, Op.shift, show ¬ y < 0 by omega], fun _ => rfl, fun C => rep_int (fdiv_wrap hx), h.2⟩
  case eql => obtain ⟨rfl, h⟩ := h; exact ⟨_, _, by simp [binOp, Op.intCmp]; rfl, fun _ => rfl, fun C => rep_bool, h⟩
  case neq => obtain ⟨rfl, h⟩ := h; exact ⟨_, _, by simp [binOp, Op.intCmp]; rfl, fun _ => rfl, fun C => rep_bool, h⟩
  case lss => obtain ⟨rfl, h⟩ := h; exact ⟨_, _, by simp [binOp, Op.intCmp], fun _ => rfl, fun C => rep_bool, h⟩
  case leq => obtain ⟨rfl, h⟩ := h; exact ⟨_, _, by simp [binOp, Op.intCmp], fun _ => rfl, fun C => rep_bool, h⟩
  case gtr => obtain ⟨rfl, h⟩ := h; exact ⟨_, _, by simp [binOp, Op.intCmp], fun _ => rfl, fun C => rep_bool, h⟩
  case geq => obtain ⟨rfl, h⟩ := h; exact ⟨_, _, by simp [binOp, Op.intCmp], fun _ => rfl, fun C => rep_bool, h⟩
end Go.Av
end

section
/- Engine, part 10b: operations on values. -/
set_option linter.unusedVariables false
set_option linter.unusedSimpArgs false
set_option autoImplicit false
namespace Go.Av
variable {P : Program} [Known P] {B : Base P} {o : Oper} {s : St} {a : Act} {w : World} {K : St → AV → Prop}

theorem itT_run {P : Program} {t : TypeId} (h : itT P t = true) : ∃ ms, P.underlying t = some (.interface ms) := by
  unfold itT at h
  split at h
  · rename_i ms hm; exact ⟨ms, hm⟩
  · simp at h
theorem rep_tt {C : Cx} : Rep C .tt (.bool true) (fun _ => 0) := ⟨rfl, fun _ => rfl⟩
theorem rep_ff {C : Cx} : Rep C .ff (.bool false) (fun _ => 0) := ⟨rfl, fun _ => rfl⟩
theorem equal_if {P : Program} {t : TypeId} (h : itT P t = true) (w : World) : (Op.equal t .nilIface .nilIface).run P w = .ok true w ∧ (∀ {t' u}, (Op.equal t .nilIface (.iface t' u)).run P w = .ok false w) ∧ (∀ {t' u}, (Op.equal t (.iface t' u) .nilIface).run P w = .ok false w) := by
  obtain ⟨ms, hms⟩ := itT_run h
  have hu : (underlying t).run P w = .ok (.interface ms) w := by simp [underlying, hms]
  have h1 : ∀ d, (Op.equalIn (d + 1) t .nilIface .nilIface).run P w = .ok true w := fun d => by
    simp only [Op.equalIn, Sem.run_bind, hu, Result.andThen_ok, Sem.run_pure]
  have h2 : ∀ d t' u, (Op.equalIn (d + 1) t .nilIface (.iface t' u)).run P w = .ok false w := fun d t' u => by
    simp only [Op.equalIn, Sem.run_bind, hu, Result.andThen_ok, Sem.run_pure]
  have h3 : ∀ d t' u, (Op.equalIn (d + 1) t (.iface t' u) .nilIface).run P w = .ok false w := fun d t' u => by
    simp only [Op.equalIn, Sem.run_bind, hu, Result.andThen_ok, Sem.run_pure]
  exact ⟨h1 9999, fun {t' u} => h2 9999 t' u, fun {t' u} => h3 9999 t' u⟩
theorem guard_nil {P : Program} {x y : Operand} (op : BinOp) (t : TypeId) (h : (isC x || isC y) = true) : (eqGuard op t x y .nilIface .nilIface).run P w = .ok () w := by
  cases x <;> cases y <;> first
    | (cases op <;> rfl)
    | (simp [isC] at h)
theorem boo_rep {C : Cx} {a : AV} {v : Value} {F : Foot} {b : Bool} (h : Rep C a v F) (e : boo a = some b) : v = .bool b := by
  cases a <;> simp only [boo, Option.some.injEq, reduceCtorEq] at e <;> subst e <;> exact h.1
theorem bolT_run {P : Program} {t : TypeId} (h : bolT P t = true) : P.underlying t = some .bool := by
  unfold bolT at h
  split at h
  · assumption
  · simp at h
theorem intT_run {P : Program} {t : TypeId} {k : IntKind} (h : intT P t = some k) : P.underlying t = some (.int k) := by
  unfold intT at h
  split at h
  · rename_i k' hk; rw [hk]; simp at h; rw [h]
  · simp at h
theorem eqK_run {P : Program} [Known P] {w : World} {d : Nat} {xs ys : List Value} : ∀ (fs : List Field) (j : Nat) (l l' : List AV) (us us' : List Value) (K : Bool → Prop), flatF P j fs = true → l.length = fs.length → (∀ i u, us[i]? = some u → xs[j + i]? = some u) → (∀ i u, us'[i]? = some u → ys[j + i]? = some u) →
    (∃ C : Cx, RepL C l us (fun _ => 0)) → (∃ C : Cx, RepL C l' us' (fun _ => 0)) → eqK l l' K → ∃ b, K b ∧ (Op.eqFields (d + 1) xs.toArray ys.toArray fs).run P w = .ok b w
  | [], j, l, l', us, us', K, hf, hl, hx, hy, hL, hL', h => by
    obtain rfl : l = [] := List.length_eq_zero_iff.1 hl
    cases l' with
    | nil => exact ⟨_, h, rfl⟩
    | cons y l' => simp [eqK] at h
  | f :: fs, j, l, l', us, us', K, hf, hl, hx, hy, ⟨C, hL⟩, ⟨C', hL'⟩, h => by
    unfold eqK at h
    split at h
    · simp at hl
    · rename_i k x l k' y l'
      obtain ⟨rfl, h⟩ := h
      simp only [flatF, Bool.and_eq_true] at hf
      obtain ⟨⟨⟨⟨h1, h2⟩, h3⟩, h4⟩, h5⟩ := hf
      have h3 := Nat.eq_of_beq_eq_true h3
      split at h2 <;> first | cases h2 | skip
      rename_i ki hki
      split at h4 <;> first | cases h4 | skip
      rename_i ht
      obtain ⟨u, us1, F1, F2, rfl, r1, r2, r3⟩ := hL
      obtain ⟨u', us1', F1', F2', rfl, r1', r2', r3'⟩ := hL'
      obtain ⟨rfl, rfl⟩ := zero_split r3
      obtain ⟨rfl, rfl⟩ := zero_split r3'
      obtain ⟨b, hb, hrun⟩ := eqK_run fs (j + 1) l l' us1 us1' _ h5 (by simpa using hl) (fun i u hi => by have := hx (i + 1) u (by simpa using hi); rwa [show j + 1 + i = j + (i + 1) by omega]) (fun i u hi => by have := hy (i + 1) u (by simpa using hi); rwa [show j + 1 + i = j + (i + 1) by omega]) ⟨C, r2⟩ ⟨C', r2'⟩ h
      have ex := hx 0 u rfl
      have ey := hy 0 u' rfl
      have e1 : u = .int k x := r1.1
      have e2 : u' = .int k y := r1'.1
      subst e1; subst e2
      have lx : j < xs.length := (List.getElem?_eq_some_iff.1 ex).1
      have ly : j < ys.length := (List.getElem?_eq_some_iff.1 ey).1
      have px : (part f.type xs.toArray f.offset).run P w = .ok (.int k x) w := by
        rw [part_run ht (by decide) (by omega)]
        simp only [Bool.false_eq_true, if_false, h3]
        rw [List.take_one, List.head?_drop, show xs[j]? = some (.int k x) from ex]; rfl
      have py : (part f.type ys.toArray f.offset).run P w = .ok (.int k y) w := by
        rw [part_run ht (by decide) (by omega)]
        simp only [Bool.false_eq_true, if_false, h3]
        rw [List.take_one, List.head?_drop, show ys[j]? = some (.int k y) from ey]; rfl
      have hne : f.name ≠ "_" := by simpa using h1
      have hint := run_equalIn_int (P := P) (w := w) d f.type k ki x y (intT_run hki)
      refine ⟨_, hb, ?_⟩
      simp only [Op.eqFields, hne, ne_eq, not_false_eq_true, if_true, Sem.run_bind, px, py, hint, Result.andThen_ok]
      by_cases q : x = y
      · subst q
        simp only [beq_self_eq_true, Bool.not_true, Bool.false_eq_true, if_false, decide_true, Bool.true_and]
        exact hrun
      · have : (x == y) = false := by simpa using q
        simp only [this, Bool.not_false, if_true, Sem.run_pure, q, decide_false, Bool.false_and]
    · exact h.elim
theorem y_binOp {op : BinOp} {t yt : TypeId} {x y : Operand} (e : o.op = .binOp op t x y yt) (hx0 : okO x = true) (hy0 : okO y = true) (hr : Rel B s a w) (h : stp P (.binOp op t x y yt) s K) : Yields P o a w (Out B a K) := by
  obtain ⟨mu, F, c⟩ := hr
  simp only [stp] at h
  have hx := c.ev x hx0
  have hy := c.ev y hy0
  unfold bin at h
  split at h
  · rename_i k n k' m h1 h2
    rw [h1] at hx
    rw [h2] at hy
    obtain ⟨hx, hxw, _⟩ := hx
    obtain ⟨hy, _⟩ := hy
    obtain ⟨v, u, r1, r2, r3, r4⟩ := binI_run (P := P) (w := w) hxw h
    refine y_val (v := v) (x := u) ?_ c (r3 _) r4
    have hg : (eqGuard op t x y (.int k n) (.int k' m)).run P w = .ok () w := by
      unfold eqGuard; cases op <;> rfl
    simp only [execOp, e, hx, hy, Sem.run_bind, hg, Result.andThen_ok, r2, r1, Sem.run_pure]
  · rename_i n m h1 h2
    rw [h1] at hx
    rw [h2] at hy
    obtain ⟨hx, hxs, _⟩ := hx
    obtain ⟨hy, hys, _⟩ := hy
    have hg : (eqGuard op t x y (.string n) (.string m)).run P w = .ok () w := by
      unfold eqGuard; cases op <;> rfl
    cases op <;> simp only at h
    case add =>
      refine y_val (v := .str (n ++ m)) (x := .string (n ++ m)) ?_ c ⟨rfl, by rw [ByteArray.size_append]; exact h.1, fun _ => rfl⟩ h.2
      have : ¬ (((n.size + m.size : Nat) : Int) > IntKind.i64.max) := by have := h.1; unfold lim at this; simp only [IntKind.max, IntKind.bits, IntKind.signed]; simp; omega
      simp only [execOp, e, hx, hy, Sem.run_bind, hg, Result.andThen_ok, binOp, Op.stringOp, this, if_false, Sem.run_pure]
    case eql => exact y_val (v := .bool (decide (n = m))) (x := .bool (decide (n = m))) (by simp only [execOp, e, hx, hy, Sem.run_bind, hg, Result.andThen_ok, binOp, Op.stringOp, toList_inj, Sem.run_pure]) c rep_bool h
    case neq => exact y_val (v := .bool (!decide (n = m))) (x := .bool (!decide (n = m))) (by simp only [execOp, e, hx, hy, Sem.run_bind, hg, Result.andThen_ok, binOp, Op.stringOp, toList_inj, Sem.run_pure]) c rep_bool h
  · rename_i h1 h2
    obtain ⟨hit, hcc, h⟩ := h
    rw [h1] at hx
    rw [h2] at hy
    have hg := guard_nil (P := P) (w := w) op t hcc
    cases op <;> simp only at h
    case eql => exact y_val (v := .tt) (x := .bool true) (by simp only [execOp, e, hx.1, hy.1, Sem.run_bind, hg, Result.andThen_ok, binOp, (equal_if hit w).1, Sem.run_pure]) c rep_tt h
    case neq => exact y_val (v := .ff) (x := .bool false) (by simp only [execOp, e, hx.1, hy.1, Sem.run_bind, hg, Result.andThen_ok, binOp, (equal_if hit w).1, Sem.run_pure]; rfl) c rep_ff h
  · rename_i t' v h1 h2
    obtain ⟨hit, h⟩ := h
    rw [h1] at hx
    rw [h2] at hy
    obtain ⟨u, hyv, _⟩ := hy
    have hg : (eqGuard op t x y .nilIface (.iface t' u)).run P w = .ok () w := by
      unfold eqGuard; cases op <;> rfl
    cases op <;> simp only at h
    case eql => exact y_val (v := .ff) (x := .bool false) (by simp only [execOp, e, hx.1, hyv, Sem.run_bind, hg, Result.andThen_ok, binOp, (equal_if hit w).2.1, Sem.run_pure]) c rep_ff h
    case neq => exact y_val (v := .tt) (x := .bool true) (by simp only [execOp, e, hx.1, hyv, Sem.run_bind, hg, Result.andThen_ok, binOp, (equal_if hit w).2.1, Sem.run_pure]; rfl) c rep_tt h
  · rename_i t' v h1 h2
    obtain ⟨hit, h⟩ := h
    rw [h1] at hx
    rw [h2] at hy
    obtain ⟨u, hxv, _⟩ := hx
    have hg : (eqGuard op t x y (.iface t' u) .nilIface).run P w = .ok () w := by
      unfold eqGuard; cases op <;> rfl
    cases op <;> simp only at h
    case eql => exact y_val (v := .ff) (x := .bool false) (by simp only [execOp, e, hxv, hy.1, Sem.run_bind, hg, Result.andThen_ok, binOp, (equal_if hit w).2.2, Sem.run_pure]) c rep_ff h
    case neq => exact y_val (v := .tt) (x := .bool true) (by simp only [execOp, e, hxv, hy.1, Sem.run_bind, hg, Result.andThen_ok, binOp, (equal_if hit w).2.2, Sem.run_pure]; rfl) c rep_tt h
  · rename_i l l' h1 h2
    obtain ⟨hfl, h⟩ := h
    rw [h1] at hx
    rw [h2] at hy
    obtain ⟨cs, hxv, hL⟩ := hx
    obtain ⟨cs', hyv, hL'⟩ := hy
    unfold flatT at hfl
    split at hfl
    · rename_i fs hu
      simp only [Bool.and_eq_true, Bool.not_eq_true'] at hfl
      obtain ⟨⟨⟨g1, g2⟩, g3⟩, g4⟩ := hfl
      have g1 := Nat.eq_of_beq_eq_true g1
      have hfo : P.fieldsOf t = fs := by unfold Program.fieldsOf; rw [hu]
      have hg := run_eqGuard_agg (P := P) w op t x y cs.toArray cs'.toArray g3
      have main : ∀ K', eqK l l' K' → ∃ b, K' b ∧ (Op.equalIn 10000 t (.agg cs.toArray) (.agg cs'.toArray)).run P w = .ok b w := fun K' hk => by
        obtain ⟨b, hb, hr⟩ := eqK_run (P := P) (w := w) (d := 9998) (xs := cs) (ys := cs') fs.toList 0 l l' cs cs' K' g4 g1.symm (fun i u hi => by simpa using hi) (fun i u hi => by simpa using hi) ⟨_, hL⟩ ⟨_, hL'⟩ hk
        refine ⟨b, hb, ?_⟩
        rw [run_equalIn_struct (P := P) w 9999 t _ _ (by rw [hfo]; exact hu) g2, hfo]
        exact hr
      cases op <;> simp only at h
      case eql =>
        obtain ⟨b, hb, hr⟩ := main _ h
        exact y_val (v := .bool b) (x := .bool b) (by simp only [execOp, e, hxv, hyv, Sem.run_bind, hg, Result.andThen_ok, run_eql_struct, hr, Sem.run_pure]) c rep_bool hb
      case neq =>
        obtain ⟨b, hb, hr⟩ := main _ h
        exact y_val (v := .bool (!b)) (x := .bool (!b)) (by simp only [execOp, e, hxv, hyv, Sem.run_bind, hg, Result.andThen_ok, run_neq_struct, hr, Sem.run_pure]) c rep_bool hb
    · cases hfl
  · split at h
    · rename_i p q h1 h2
      obtain ⟨hb, h⟩ := h
      have ex := boo_rep hx h1
      have ey := boo_rep hy h2
      have hu := bolT_run hb
      have heq : (Op.equal t (.bool p) (.bool q)).run P w = .ok (p == q) w := by
        have : (underlying t).run P w = .ok .bool w := by simp [underlying, hu]
        have h9 : ∀ d, (Op.equalIn (d + 1) t (.bool p) (.bool q)).run P w = .ok (p == q) w := fun d => by
          simp only [Op.equalIn, Sem.run_bind, this, Result.andThen_ok, Sem.run_pure]
        exact h9 9999
      have hg : (eqGuard op t x y (.bool p) (.bool q)).run P w = .ok () w := by
        unfold eqGuard; cases op <;> rfl
      cases op <;> simp only at h
      case eql => exact y_val (v := .bool (p == q)) (x := .bool (p == q)) (by simp only [execOp, e, ex, ey, Sem.run_bind, hg, Result.andThen_ok, binOp, heq, Sem.run_pure]) c rep_bool h
      case neq => exact y_val (v := .bool (!(p == q))) (x := .bool (!(p == q))) (by simp only [execOp, e, ex, ey, Sem.run_bind, hg, Result.andThen_ok, binOp, heq, Sem.run_pure]) c rep_bool h
    · exact h.elim

theorem y_not {t : TypeId} {x : Operand} (e : o.op = .unOp .not t x) (hx0 : okO x = true) (hr : Rel B s a w) (h : stp P (.unOp .not t x) s K) : Yields P o a w (Out B a K) := by
  obtain ⟨mu, F, c⟩ := hr
  simp only [stp] at h
  have hx := c.ev x hx0
  split at h <;> rename_i h1
  · rw [h1] at hx; exact y_val (v := .ff) (x := .bool false) (by simp [execOp, e, hx.1, Op.unary]) c ⟨rfl, fun _ => rfl⟩ h
  · rw [h1] at hx; exact y_val (v := .tt) (x := .bool true) (by simp [execOp, e, hx.1, Op.unary]) c ⟨rfl, fun _ => rfl⟩ h
  · rename_i b; rw [h1] at hx; exact y_val (v := .bool (!b)) (x := .bool (!b)) (by simp [execOp, e, hx.1, Op.unary]) c rep_bool h
  · exact h.elim
theorem y_neg {t : TypeId} {x : Operand} (e : o.op = .unOp .neg t x) (hx0 : okO x = true) (hr : Rel B s a w) (h : stp P (.unOp .neg t x) s K) : Yields P o a w (Out B a K) := by
  obtain ⟨mu, F, c⟩ := hr
  simp only [stp] at h
  have hx := c.ev x hx0
  split at h
  · rename_i k n h1
    rw [h1] at hx
    obtain ⟨v, q1, q2⟩ := numK_run h
    exact y_val (x := .int k (k.wrap (0 - n))) (by simp [execOp, e, hx.1, Op.unary, Op.intArith]) c (q1 _) q2
  · exact h.elim
theorem y_pick {x y z : Operand} (e : o.op = .pick x y z) (hx0 : okO x = true) (hy0 : okO y = true) (hz0 : okO z = true) (hr : Rel B s a w) (h : stp P (.pick x y z) s K) : Yields P o a w (Out B a K) := by
  obtain ⟨mu, F, c⟩ := hr
  simp only [stp] at h
  have hx := c.ev x hx0
  split at h <;> rename_i h1
  · rw [h1] at hx; exact y_val (x := a.eval y) (by simp [execOp, e, hx.1, asBool]) c (c.ev y hy0) h
  · rw [h1] at hx; exact y_val (x := a.eval z) (by simp [execOp, e, hx.1, asBool]) c (c.ev z hz0) h
  · rename_i b
    rw [h1] at hx
    cases b with
    | true => exact y_val (x := a.eval y) (by simp [execOp, e, hx.1, asBool]) c (c.ev y hy0) (h.t rfl)
    | false => exact y_val (x := a.eval z) (by simp [execOp, e, hx.1, asBool]) c (c.ev z hz0) (h.f rfl)
  · exact h.elim

theorem lkT_slice {P : Program} {t : TypeId} (h : lkT P t = 1) : ∃ e, P.underlying t = some (.slice e) := by
  unfold lkT at h
  split at h
  · rename_i e he; exact ⟨e, he⟩
  · simp at h
  · simp at h
theorem lkT_str {P : Program} {t : TypeId} (h : lkT P t = 2) : P.underlying t = some .string := by
  unfold lkT at h
  split at h
  · simp at h
  · rename_i he; exact he
  · simp at h
theorem fits_wrap {k k' : IntKind} {n : Int} (h : k.wrap n = n) (hf : fitsK k k' = true) : k'.wrap n = n := by
  cases k <;> cases k' <;> simp only [fitsK, Bool.false_eq_true] at hf <;> (rw [wrap_iff] at h ⊢; simp only [IntKind.bits, IntKind.signed, Bool.false_eq_true, if_false, if_true] at h ⊢; omega)
theorem byT_run {P : Program} {t : TypeId} (h : byT P t = true) : ∃ e, P.underlying t = some (.slice e) ∧ P.underlying e = some (.int .u8) := by
  unfold byT at h
  split at h
  · rename_i e he
    split at h
    · rename_i h2; exact ⟨e, he, h2⟩
    · cases h
  · cases h
theorem y_convert {src dst : TypeId} {x : Operand} (e : o.op = .convert src dst x) (hx0 : okO x = true) (hsrc : (P.underlying src).isSome = true) (hr : Rel B s a w) (h : stp P (.convert src dst x) s K) : Yields P o a w (Out B a K) := by
  obtain ⟨mu, F, c⟩ := hr
  simp only [stp] at h
  obtain ⟨_, h⟩ := h
  have hx := c.ev x hx0
  obtain ⟨ds, hds⟩ := Option.isSome_iff_exists.1 hsrc
  split at h
  · rename_i _ _ _ k' k n h1 h2
    rw [h2] at hx
    obtain ⟨hv, hw, _⟩ := hx
    have hu := intT_run h1
    refine y_val (v := .int k' (convK k k' n)) (x := .int k' (k'.wrap n)) (by cases ds <;> simp [execOp, e, hv, convert, underlying, hds, hu, Conv.intToInt]) c ?_ h
    unfold convK
    cases hf : fitsK k k' with
    | true => simp only; rw [fits_wrap hw hf]; exact rep_int (fits_wrap hw hf)
    | false => simp only; exact rep_int (wrap_wrap _ _)
  · rename_i b h1 h2 h3
    rw [h3] at hx
    have hu := lkT_str h2
    exact y_val (v := .str b) (x := .string b) (by cases ds <;> simp [execOp, e, hx.1, convert, underlying, hds, hu]) c ⟨rfl, hx.2.1, fun _ => rfl⟩ h
  · rename_i rows d h1 h2 h3
    rw [h3] at hx
    obtain ⟨hb, hall, h⟩ := h
    obtain ⟨⟨ad, cap, hv, hcap, hlim, hR⟩, _⟩ := hx
    have hu := lkT_str h2
    obtain ⟨el, hs1, hs2⟩ := byT_run hb
    have hsz : (⟨(rows.map cB).toArray⟩ : ByteArray).size = rows.length := by show (rows.map cB).toArray.size = _; simp
    refine y_val (v := .str ⟨(rows.map cB).toArray⟩) (x := .string ⟨(rows.map cB).toArray⟩) ?_ c ⟨rfl, by rw [hsz]; exact hlim, fun _ => rfl⟩ h
    simp only [execOp, e, hv, Sem.run_bind]
    cases ad with
    | none =>
      have hr0 : rows = [] := by
        cases rows with
        | nil => rfl
        | cons r l => obtain ⟨⟨ad, q, _⟩, _⟩ := hR; cases q
      subst hr0
      rw [run_convert_bytes_string _ _ _ el none _ _ hs1 hs2 hu]
      simp [Conv.bytesToString]; rfl
    | some ad =>
      have hcell : ∀ j (hj : j < (rows.map cB).length), w.cell? (ad.add j) = some (.int .u8 ((rows.map cB)[j].toNat : Int)) := fun j hj => by
        have hj' : j < rows.length := by simpa using hj
        obtain ⟨ad', he, hl, hA⟩ := RepR.at_ rows (some ad) 0 j rows[j] hR (List.getElem?_eq_getElem hj')
        obtain rfl := Option.some.inj he
        have hB := List.all_eq_true.1 hall rows[j] (List.getElem_mem hj')
        rw [List.getElem_map]
        generalize rows[j] = r at *
        unfold isB at hB
        split at hB
        · rename_i n
          obtain ⟨⟨_, u, hc, _, hu2, hw, _⟩, _⟩ := hA
          subst hu2
          rw [Nat.zero_add, Nat.mul_one] at hc
          have hc' : w.cell? (ad.add j) = some (.int .u8 n) := hc
          rw [hc']
          have h9 := (wrap_iff .u8 n).1 hw
          simp [IntKind.signed, IntKind.bits] at h9
          simp only [cB, UInt8.toNat_ofNat', Option.some.injEq, Value.int.injEq, true_and]
          omega
        · cases hB
      have := run_convert_bytes_back (P := P) w src dst el ad cap (rows.map cB) hs1 hs2 hu hcell
      rw [List.length_map] at this
      rw [this]; rfl
  · rename_i o1 h1 h2 h3
    rw [h3] at hx
    split at h
    · rename_i ob hob
      obtain ⟨he1, hg1, hb, hall, h⟩ := h
      obtain ⟨hlt, hv, _⟩ := hx
      have hu := lkT_str h2
      obtain ⟨el, hs1, hs2⟩ := byT_run hb
      obtain ⟨G1, G2, m1, m2, m3⟩ := RepH.take s.hp F o1 ob c.hp hob
      obtain ⟨oe, orows, od, og⟩ := ob
      simp only at he1 hg1 hall h
      subst he1 hg1
      have hsz : (⟨(orows.map cB).toArray⟩ : ByteArray).size = orows.length := by show (orows.map cB).toArray.size = _; simp
      rcases m1.2 with ⟨q1, q2, q3, q4, q5⟩ | ⟨b, cc, t, FR, q1, q2, q3, q4, q5, q6, q7, q8, q9⟩
      · simp only at q4
        subst q4
        refine y_val (v := .str ⟨#[]⟩) (x := .string ⟨#[]⟩) ?_ c ⟨rfl, Nat.zero_le _, fun _ => rfl⟩ h
        rw [q1, q2, q3] at hv
        simp only [execOp, e, hv, Sem.run_bind, Option.map_none]
        rw [run_convert_bytes_string _ _ _ el none _ _ hs1 hs2 hu]
        simp [Conv.bytesToString]; rfl
      · refine y_val (v := .str ⟨(orows.map cB).toArray⟩) (x := .string ⟨(orows.map cB).toArray⟩) ?_ c ⟨rfl, by rw [hsz]; exact q5, fun _ => rfl⟩ h
        rw [q1, q2] at hv
        simp only at q8
        simp only [execOp, e, hv, Sem.run_bind, Option.map_some]
        have hcell : ∀ j (hj : j < (orows.map cB).length), w.cell? ((⟨b, 0, none⟩ : Addr).add j) = some (.int .u8 ((orows.map cB)[j].toNat : Int)) := fun j hj => by
          have hj' : j < orows.length := by simpa using hj
          obtain ⟨r1, F1, F2, r2, r3, _⟩ := RepO.focus _ 0 FR j _ q8 (List.getElem?_eq_getElem hj')
          have hB := List.all_eq_true.1 hall orows[j] (List.getElem_mem hj')
          rw [List.getElem_map]
          generalize orows[j] = r at *
          unfold isB at hB
          split at hB
          · rename_i n
            obtain ⟨u, G3, G4, hc, _, hu2, _⟩ := r2
            have hu3 : u = .int .u8 n := hu2.1
            have hw : IntKind.u8.wrap n = n := hu2.2.1
            subst hu3
            rw [Nat.zero_add, Nat.mul_one] at hc
            rw [add_none, Nat.zero_add, cell_heap (w := w) q6, hc]
            have h9 := (wrap_iff .u8 n).1 hw
            simp [IntKind.signed, IntKind.bits] at h9
            simp only [cB, UInt8.toNat_ofNat', Option.some.injEq, Value.int.injEq, true_and]
            omega
          · cases hB
        have := run_convert_bytes_back (P := P) w src dst el ⟨b, 0, none⟩ (mu o1).cap (orows.map cB) hs1 hs2 hu hcell
        rw [List.length_map] at this
        show ((convert src dst (.slice (some ⟨b, 0, none⟩) orows.length (mu o1).cap)).run P w).andThen _ = _
        rw [this]; rfl
    · exact h.elim
  · exact h.elim
end Go.Av
end

section
/- Engine, part 11: lengths, results of calls, calls. -/
set_option linter.unusedVariables false
set_option linter.unusedSimpArgs false
set_option autoImplicit false
namespace Go.Av
variable {P : Program} [Known P] {B : Base P} {o : Oper} {s : St} {a : Act} {w : World} {K : St → AV → Prop}

theorem repL_get {C : Cx} : ∀ (l : List AV) (vs : List Value) (i : Nat), RepL C l vs (fun _ => 0) → i < l.length → ∃ v, vs[i]? = some v ∧ Rep C (l.getD i .dead) v (fun _ => 0)
  | [], vs, i, h, hi => by simp at hi
  | x :: l, vs, i, h, hi => by
    obtain ⟨v, vs', F1, F2, rfl, h1, h2, h3⟩ := h
    obtain ⟨rfl, rfl⟩ := zero_split h3
    cases i with
    | zero => exact ⟨v, rfl, h1⟩
    | succ i =>
      obtain ⟨u, k1, k2⟩ := repL_get l vs' i h2 (by simpa using hi)
      exact ⟨u, by simpa using k1, by simpa using k2⟩
theorem y_extract {x : Operand} {i : Nat} (e : o.op = .extract x i) (hx0 : okO x = true) (hr : Rel B s a w) (h : stp P (.extract x i) s K) : Yields P o a w (Out B a K) := by
  obtain ⟨mu, F, c⟩ := hr
  simp only [stp] at h
  have hx := c.ev x hx0
  split at h
  · rename_i l hl
    rw [hl] at hx
    obtain ⟨cs, hv, hL⟩ := hx
    obtain ⟨v, k1, k2⟩ := repL_get l cs i hL h.1
    exact y_val (x := v) (by simp [execOp, e, hv, Instr.extract, k1]) c k2 h.2
  · exact h.elim

/-- What 'len' needs to know of the type. -/
theorem RepOb.len {C : Cx} {o : Nat} {ob : Ob} {F : Foot} (h : RepOb C o ob F) : (C.mu o).len = ob.rows.length ∧ ob.rows.length ≤ lim := by
  rcases h.2 with ⟨_, h2, _, h4, _⟩ | ⟨b, c, t, FR, h1, h2, h3, h4, h5, _⟩
  · rw [h2, h4]; simp
  · exact ⟨h2, h5⟩

theorem repL_map {B : Base P} {s : St} {a : Act} {w : World} {mu : Nat → Hdr} {F : Foot} (c : Core B s a w mu F) : ∀ (l : List Operand), l.all okO = true → RepL (cx B w mu F s.nx) (l.map s.ev) (l.map a.eval) (fun _ => 0)
  | [], _ => ⟨rfl, fun _ => rfl⟩
  | x :: l, h => by
    simp only [List.all_cons, Bool.and_eq_true] at h
    exact ⟨_, _, _, _, rfl, c.ev x h.1, repL_map c l h.2, fun _ => rfl⟩
theorem nbVL_rep {C : Cx} : ∀ (l : List AV) (vs : List Value) (F : Foot), RepL C l vs F → RepL C (l.map AV.nbV) vs F
  | [], vs, F, h => h
  | x :: l, vs, F, h => by
    obtain ⟨v, us, F1, F2, e, h1, h2, h3⟩ := h
    exact ⟨v, us, F1, F2, e, nbV_rep h1, nbVL_rep l us F2 h2, h3⟩
theorem repL_app {C : Cx} : ∀ (l l' : List AV) (vs vs' : List Value), RepL C l vs (fun _ => 0) → RepL C l' vs' (fun _ => 0) → RepL C (l ++ l') (vs ++ vs') (fun _ => 0)
  | [], l', vs, vs', h, h' => by obtain ⟨rfl, _⟩ := h; simpa using h'
  | x :: l, l', vs, vs', h, h' => by
    obtain ⟨v, us, F1, F2, rfl, h1, h2, h3⟩ := h
    obtain ⟨rfl, rfl⟩ := zero_split h3
    exact ⟨v, us ++ vs', _, _, rfl, h1, repL_app l l' us vs' h2 h', fun _ => rfl⟩

/-- Behind a call whose arguments name no object. -/
theorem after_call {B : Base P} {s : St} {a : Act} {w w' : World} {mu : Nat → Hdr} {F : Foot} (c : Core B s a w mu F) {r : AV} {v : Value} {mu' : Nat → Hdr} {n' : Nat} {F' : Foot} {ok : Nat → Prop} {hgz0 : ∀ b, gl P b → b < w.heap.size ∧ (fun _ => 0 : Foot) b = 0} {hgx : Gx P w}
    (hok : ∀ b, ok b → F b = 0 ∧ (B.ok b ∨ B.w.heap.size ≤ b ∨ B.F b ≠ 0)) (hf : Fin ⟨w, ok, fun _ => 0, 0, fun _ => default, hgz0, hgx, []⟩ w' F') (hr : Rep (cx ⟨w, ok, fun _ => 0, 0, fun _ => default, hgz0, hgx, []⟩ w' mu' F' n') r v F') (hnp : r.np = true) (ht : r.top2 = true) :
    RelV B ⟨s.tm, (inst s.nx r).2.1 ++ s.hp, (inst s.nx r).2.2⟩ a w' (inst s.nx r).1 v := by
  have hold : ∀ b, F' b ≠ 0 → w.heap.size ≤ b := fun b hb => (hf.blk b hb).2.resolve_right (by simp)
  have hdis : ∀ b, F b ≠ 0 → F' b = 0 := fun b hb => Classical.byContradiction fun h => by have := hold b h; have := (c.blk b hb).1; omega
  let G : Foot := fun b => F' b + F b
  have st : Stp w w' F G := ⟨hf.os, hf.tape, hf.output, hf.size, fun b hb _ => hf.old b hb rfl, fun b hb h0 => by
      have : F' b = 0 := Classical.byContradiction fun h => by have := hold b h; omega
      simp only [G]; omega, fun b => by
      have h1 := hf.one b; have h2 := c.one b
      simp only [G]
      by_cases h : F b = 0
      · omega
      · have := hdis b h; omega, fun b hb => by
      simp only [G] at hb
      by_cases h : F b = 0
      · exact (hf.blk b (by omega)).1
      · exact Nat.lt_of_lt_of_le (c.blk b h).1 hf.size⟩
  have hx1 : Ext (cx ⟨w, ok, fun _ => 0, 0, fun _ => default, hgz0, hgx, []⟩ w' mu' F' n').pu (cx B w' mu G s.nx) := by
    refine ⟨fun b hb => ⟨hb.1, ?_, ?_⟩, fun b hb => rfl, Nat.zero_le _, fun o ho => absurd ho (Nat.not_lt_zero _)⟩
    · have h1 := hb.2.1
      simp only [G]
      rcases hb.2.2 with h | h | h
      · have := (hok b h).1; omega
      rotate_left
      · exact absurd rfl h
      · have h' : w.heap.size ≤ b := h
        have : F b = 0 := Classical.byContradiction fun hne => by have := (c.blk b hne).1; omega
        omega
    · rcases hb.2.2 with h | h | h
      · exact (hok b h).2
      · exact .inr (.inl (Nat.le_trans c.size h))
      · exact absurd rfl h
  have hr' := np_rep hx1 r v F' hr (fun _ _ => rfl) hnp
  obtain ⟨C', k1, k2⟩ := inst_sound (C := cx B w' mu G s.nx) r v F' hr' ht
  have hx2 := st.ext (B := B) (mu := mu) (mu' := mu) (n := s.nx) (n' := s.nx) (Nat.le_refl _) (fun _ _ => rfl)
  have hC : C' = cx B w' C'.mu G C'.nx := by
    have h1 := k1.w; have h2 := k1.ok
    cases C'; simp only [cx] at *; rw [h1, h2]
  have hh : RepH C' s.hp F := RepH.mono k1.ext _ _ (RepH.mono hx2 _ _ c.hp (fun b hb => hf.old b (c.blk b hb).1 rfl)) (fun b _ => by rw [k1.w])
  have happ := RepH.app _ _ _ _ k1.hp hh
  refine ⟨C'.mu, G, ?_, ?_⟩
  · refine c.step (s' := ⟨s.tm, (inst s.nx r).2.1 ++ s.hp, (inst s.nx r).2.2⟩) st ?_ k1.mu rfl ?_
    · show s.nx ≤ (inst s.nx r).2.2
      have := k1.le; rw [k1.nx] at this; exact this
    · have : cx B w' C'.mu G (inst s.nx r).2.2 = C' := by rw [hC]; congr 1; exact k1.nx.symm
      show RepH (cx B w' C'.mu G (inst s.nx r).2.2) ((inst s.nx r).2.1 ++ s.hp) G
      rw [this]; exact happ
  · have : cx B w' C'.mu G (inst s.nx r).2.2 = C' := by rw [hC]; congr 1; exact k1.nx.symm
    show Rep (cx B w' C'.mu G (inst s.nx r).2.2) _ _ _
    rw [this]; exact k2
theorem rdL_length : ∀ l : List AV, (rdL l).length = l.length
  | [] => rfl
  | x :: l => by simp [rdL, rdL_length l]
theorem rdR_length : ∀ l : List (List AV), (rdR l).length = l.length
  | [] => rfl
  | x :: l => by simp [rdR, rdR_length l]
theorem y_min {cl : Call} (e : o.op = .call cl) (hcal : cl.callee = .builtin .min) (hargs0 : cl.args.toList.all okO = true) (hr : Rel B s a w) (h : stp P (.call cl) s K) : Yields P o a w (Out B a K) := by
  obtain ⟨mu, F, c⟩ := hr
  simp only [stp, hcal] at h
  split at h
  · rename_i x y hargs
    have ha : cl.args = #[x, y] := by rw [← Array.toList_inj]; exact hargs
    rw [hargs] at hargs0
    have hargs0 : okO x = true ∧ okO y = true := by simpa using hargs0
    have hx := c.ev x hargs0.1
    have hy := c.ev y hargs0.2
    split at h
    · rename_i k n k' m h1 h2
      obtain ⟨rfl, h⟩ := h
      rw [h1] at hx
      rw [h2] at hy
      have hmin : (if m < n then m else n) = min n m := by
        by_cases hlt : m < n
        · rw [if_pos hlt]; omega
        · rw [if_neg hlt]; omega
      refine y_val (v := .int k (min n m)) (x := .int k (min n m)) ?_ c (rep_int ?_) h
      · rw [← hmin]
        simp [execOp, e, resolve, hcal, ha, invoke, builtin, Builtin.min_, Builtin.min2, hx.1, hy.1]
      · rcases (show min n m = n ∨ min n m = m by omega) with q | q
        · rw [q]; exact hx.2.1
        · rw [q]; exact hy.2.1
    · exact h.elim
  · exact h.elim
theorem y_len {cl : Call} (e : o.op = .call cl) (hcal : cl.callee = .builtin .len) (hargs0 : cl.args.toList.all okO = true) (hr : Rel B s a w) (h : stp P (.call cl) s K) : Yields P o a w (Out B a K) := by
  obtain ⟨mu, F, c⟩ := hr
  simp only [stp, hcal] at h
  split at h
  · rename_i x t hargs hty
    have ha : cl.args = #[x] := by rw [← Array.toList_inj]; exact hargs
    have ht : cl.argTypes = #[t] := by rw [← Array.toList_inj]; exact hty
    rw [hargs] at hargs0
    have hx := c.ev x (by simpa using hargs0)
    split at h
    · rename_i rows d h1 h2
      rw [h2] at hx
      obtain ⟨⟨ad, cap, hv, k1, k2, k3⟩, _⟩ := hx
      obtain ⟨el, hu⟩ := lkT_slice h1
      exact y_val (x := .int .i64 rows.length) (by simp [execOp, e, resolve, hcal, ha, ht, invoke, builtin, Builtin.len_, underlying, hu, hv, goInt]) c (rep_int (wrap_i64 (by unfold lim at k2; unfold In64; omega))) (h k2)
    · rename_i h1 h2
      rw [h2] at hx
      obtain ⟨el, hu⟩ := lkT_slice h1
      exact y_val (x := .int .i64 0) (by simp [execOp, e, resolve, hcal, ha, ht, invoke, builtin, Builtin.len_, underlying, hu, hx.1, goInt]) c (rep_int (by decide)) h
    · rename_i i_o h1 h2
      rw [h2] at hx
      obtain ⟨el, hu⟩ := lkT_slice h1
      split at h
      · rename_i ob hob
        obtain ⟨hlt, hv, _⟩ := hx
        obtain ⟨G1, G2, m1, m2, m3⟩ := RepH.take s.hp F _ ob c.hp hob
        have hl := m1.len
        refine y_val (v := .int .i64 ob.rows.length) (x := .int .i64 ob.rows.length) ?_ c (rep_int (wrap_i64 (by have := hl.2; unfold lim at this; unfold In64; omega))) (h hl.2)
        have hl1 : (mu i_o).len = ob.rows.length := hl.1
        simp only [cx] at hv
        simp [execOp, e, resolve, hcal, ha, ht, invoke, builtin, Builtin.len_, underlying, hu, hv, goInt, hl1]
      · exact h.elim
    · rename_i b h1 h2
      rw [h2] at hx
      have hu := lkT_str h1
      exact y_val (x := .int .i64 b.size) (by simp [execOp, e, resolve, hcal, ha, ht, invoke, builtin, Builtin.len_, underlying, hu, hx.1, goInt]) c (rep_int (wrap_i64 (by have := hx.2.1; unfold lim at this; unfold In64; omega))) (h hx.2.1)
    · exact h.elim
  · exact h.elim

theorem ext_rd {C : Cx} {w : World} {ok : Nat → Prop} (hw : C.w = w) (hok : ∀ b, C.ok b → ok b) : Ext C.pu ⟨w, ok, fun _ => default, 0⟩ := ⟨hok, fun b _ => by subst hw; rfl, Nat.le_refl _, fun _ _ => rfl⟩
mutual
theorem rd_rep {C : Cx} {w : World} {ok : Nat → Prop} (hw : C.w = w) (hok : ∀ b, C.ok b → ok b) : ∀ (a : AV) (v : Value) (F : Foot), Rep C.pu a v F → (∀ b, F b ≠ 0 → ok b) → Rep ⟨w, ok, fun _ => default, 0⟩ a.rd v (fun _ => 0)
  | .dead, v, F, h, k => fun _ => rfl
  | .int _ _, v, F, h, k => ⟨h.1, h.2.1, fun _ => rfl⟩
  | .tt, v, F, h, k => ⟨h.1, fun _ => rfl⟩
  | .ff, v, F, h, k => ⟨h.1, fun _ => rfl⟩
  | .bool _, v, F, h, k => ⟨h.1, fun _ => rfl⟩
  | .str _, v, F, h, k => ⟨h.1, h.2.1, fun _ => rfl⟩
  | .agg l, v, F, h, k => by obtain ⟨cs, r, h⟩ := h; exact ⟨cs, r, rdL_rep hw hok l cs F h k⟩
  | .tup l, v, F, h, k => by obtain ⟨cs, r, h⟩ := h; exact ⟨cs, r, rdL_rep hw hok l cs F h k⟩
  | .sl x y z, v, F, h, k => by
    obtain ⟨h1, h2⟩ := h
    exact Rep.mono (ext_rd hw hok) (.sl x y z) v (fun _ => 0) ⟨h1, fun _ => rfl⟩ (fun b hb => absurd rfl hb)
  | .own e rows d, v, F, h, k => by
    rcases h with ⟨h1, h2, h3⟩ | ⟨b, cap, c, t, FR, h1, h2, h3, h4, h5, h6, h7⟩
    · subst h2; rw [h1]; exact ⟨⟨none, 0, rfl, by simp [rdR], by simp [rdR], trivial⟩, fun _ => rfl⟩
    · have hb : ok b := k b (by rw [h7]; simp)
      have hl : (rdR rows).length = rows.length := rdR_length rows
      refine ⟨⟨some ⟨b, 0, none⟩, cap, by rw [hl]; exact h1, by rw [hl]; exact h2, by rw [hl]; exact h3, ?_⟩, fun _ => rfl⟩
      exact rdR_rep hw hok e b c t (by rw [← hw]; exact h4) hb rows 0 FR (by rw [Nat.zero_mul]; exact h6) (fun x hx => k x (by rw [h7]; omega))
  | .nils, v, F, h, k => ⟨h.1, fun _ => rfl⟩
  | .os _, v, F, h, k => absurd h.1 (Nat.not_lt_zero _)
  | .rp x, v, F, h, k => by
    obtain ⟨h1, h2⟩ := h
    exact Rep.mono (ext_rd hw hok) (.rp x) v (fun _ => 0) ⟨h1, fun _ => rfl⟩ (fun b hb => absurd rfl hb)
  | .cp _ _ _, v, F, h, k => absurd h.1 (Nat.not_lt_zero _)
  | .nilp, v, F, h, k => ⟨h.1, fun _ => rfl⟩
  | .fn _ l, v, F, h, k => by obtain ⟨cs, r, h⟩ := h; exact ⟨cs, r, rdL_rep hw hok l cs F h k⟩
  | .nilfn, v, F, h, k => ⟨h.1, fun _ => rfl⟩
  | .iface _ x, v, F, h, k => by obtain ⟨u, r, h⟩ := h; exact ⟨u, r, rd_rep hw hok x u F h k⟩
  | .nilif, v, F, h, k => ⟨h.1, fun _ => rfl⟩
theorem rdL_rep {C : Cx} {w : World} {ok : Nat → Prop} (hw : C.w = w) (hok : ∀ b, C.ok b → ok b) : ∀ (l : List AV) (vs : List Value) (F : Foot), RepL C.pu l vs F → (∀ b, F b ≠ 0 → ok b) → RepL ⟨w, ok, fun _ => default, 0⟩ (rdL l) vs (fun _ => 0)
  | [], vs, F, h, k => ⟨h.1, fun _ => rfl⟩
  | x :: l, vs, F, h, k => by
    obtain ⟨v, vs', F1, F2, r, h1, h2, h3⟩ := h
    exact ⟨v, vs', _, _, r, rd_rep hw hok x v F1 h1 (fun b hb => k b (by have := h3 b; omega)), rdL_rep hw hok l vs' F2 h2 (fun b hb => k b (by have := h3 b; omega)), fun _ => rfl⟩
theorem rdB_rep {C : Cx} {w : World} {ok : Nat → Prop} (hw : C.w = w) (hok : ∀ b, C.ok b → ok b) (b : Nat) (c : Array Value) (t : TypeId) (hb : w.heap[b]? = some (.cells c t (0, 0))) (hbo : ok b) :
    ∀ (l : List AV) (off : Nat) (F : Foot), RepB C.pu l c off F → (∀ b, F b ≠ 0 → ok b) → RepA ⟨w, ok, fun _ => default, 0⟩ (rdL l) ⟨b, 0, none⟩ off
  | [], off, F, h, k => trivial
  | x :: l, off, F, h, k => by
    obtain ⟨u, F1, F2, e, o1, h1, h2, h3⟩ := h
    exact ⟨⟨hbo, u, by rw [add_none, cell_heap hb, Nat.zero_add]; exact e, o1, rd_rep hw hok x u F1 h1 (fun b hb => k b (by have := h3 b; omega))⟩, rdB_rep hw hok b c t hb hbo l (off + 1) F2 h2 (fun b hb => k b (by have := h3 b; omega))⟩
theorem rdR_rep {C : Cx} {w : World} {ok : Nat → Prop} (hw : C.w = w) (hok : ∀ b, C.ok b → ok b) (e b : Nat) (c : Array Value) (t : TypeId) (hb : w.heap[b]? = some (.cells c t (0, 0))) (hbo : ok b) :
    ∀ (l : List (List AV)) (i : Nat) (F : Foot), RepO C.pu e l c (i * e) F → (∀ b, F b ≠ 0 → ok b) → RepR ⟨w, ok, fun _ => default, 0⟩ e (rdR l) (some ⟨b, 0, none⟩) i
  | [], i, F, h, k => trivial
  | r :: l, i, F, h, k => by
    obtain ⟨F1, F2, e1, h1, h2, h3⟩ := h
    refine ⟨⟨⟨b, 0, none⟩, rfl, by rw [rdL_length]; exact e1, rdB_rep hw hok b c t hb hbo r (i * e) F1 h1 (fun b hb => k b (by have := h3 b; omega))⟩, rdR_rep hw hok e b c t hb hbo l (i + 1) F2 (by rw [Nat.add_mul, Nat.one_mul]; exact h2) (fun b hb => k b (by have := h3 b; omega))⟩
end

theorem RepB.drop {C : Cx} {c : Array Value} : ∀ (k : Nat) (l : List AV) (off : Nat) (F : Foot), RepB C l c off F → ∃ F', RepB C (l.drop k) c (off + k) F' ∧ ∀ b, F' b ≤ F b
  | 0, l, off, F, h => ⟨F, h, fun b => Nat.le_refl _⟩
  | k + 1, [], off, F, h => ⟨fun _ => 0, fun _ => rfl, fun b => Nat.zero_le _⟩
  | k + 1, x :: l, off, F, h => by
    obtain ⟨u, F1, F2, e, o1, h1, h2, h3⟩ := h
    obtain ⟨F', k1, k2⟩ := RepB.drop k l (off + 1) F2 h2
    exact ⟨F', by rw [List.drop_succ_cons, show off + (k + 1) = off + 1 + k by omega]; exact k1, fun b => by have := h3 b; have := k2 b; omega⟩
theorem pur_rep {C : Cx} {w : World} {ok : Nat → Prop} {hp : Hp} {F : Foot} (hw : C.w = w) (hok : ∀ b, C.ok b → ok b) (hH : RepH C hp F) (hF : ∀ b, F b ≠ 0 → ok b) :
    ∀ (n : Nat) (a : AV) (v : Value) (Fa : Foot), Rep C a v Fa → (∀ b, Fa b ≠ 0 → ok b) → Rep ⟨w, ok, fun _ => default, 0⟩ (pur n hp a) v (fun _ => 0) := by
  intro n
  induction n with
  | zero => intro a v Fa h k; exact fun _ => rfl
  | succ n ih =>
    have ihL : ∀ (l : List AV) (vs : List Value) (Fa : Foot), RepL C l vs Fa → (∀ b, Fa b ≠ 0 → ok b) → RepL ⟨w, ok, fun _ => default, 0⟩ (l.map (pur n hp)) vs (fun _ => 0) := by
      intro l
      induction l with
      | nil => intro vs Fa h k; exact ⟨h.1, fun _ => rfl⟩
      | cons x l ihl =>
        intro vs Fa h k
        obtain ⟨v, us, F1, F2, e, h1, h2, h3⟩ := h
        exact ⟨v, us, _, _, e, ih x v F1 h1 (fun b hb => k b (by have := h3 b; omega)), ihl us F2 h2 (fun b hb => k b (by have := h3 b; omega)), fun _ => rfl⟩
    have ihA : ∀ (b : Nat) (c : Array Value) (t : TypeId), w.heap[b]? = some (.cells c t (0, 0)) → ok b → ∀ (l : List AV) (off : Nat) (Fa : Foot), RepB C l c off Fa → (∀ b, Fa b ≠ 0 → ok b) → RepA ⟨w, ok, fun _ => default, 0⟩ (l.map (pur n hp)) ⟨b, 0, none⟩ off := by
      intro b c t hb hbo l
      induction l with
      | nil => intro off Fa h k; trivial
      | cons x l ihl =>
        intro off Fa h k
        obtain ⟨u, F1, F2, e, o1, h1, h2, h3⟩ := h
        exact ⟨⟨hbo, u, by rw [add_none, cell_heap hb, Nat.zero_add]; exact e, o1, ih x u F1 h1 (fun b hb => k b (by have := h3 b; omega))⟩, ihl (off + 1) F2 h2 (fun b hb => k b (by have := h3 b; omega))⟩
    intro a v Fa h k
    cases a with
    | os o =>
      simp only [pur]
      split
      · rename_i ob hob
        split
        · rename_i hg
          obtain ⟨hlt, hv, _⟩ := h
          obtain ⟨G1, G2, m1, m2, m3⟩ := RepH.take hp F o ob hH hob
          rcases m1.2 with ⟨q1, q2, q3, q4, q5⟩ | ⟨b, c, t, FR, q1, q2, q3, q4, q5, q6, q7, q8, q9⟩
          · rw [q1, q2, q3] at hv
            rw [q4]
            exact ⟨⟨none, 0, by rw [hv]; rfl, by simp [rdR], by simp [rdR], trivial⟩, fun _ => rfl⟩
          · have hb : ok b := hF b (by have := m3 b; have := q9 b; simp at this; omega)
            rw [hg] at q8
            have hl : (rdR ob.rows).length = ob.rows.length := rdR_length _
            refine ⟨⟨some ⟨b, 0, none⟩, (C.mu o).cap, by rw [hl, hv, q1, q2]; rfl, by rw [hl]; exact q4, by rw [hl]; exact q5, ?_⟩, fun _ => rfl⟩
            exact rdR_rep hw hok ob.e b c t (by rw [← hw]; exact q6) hb ob.rows 0 FR (by rw [Nat.zero_mul]; exact q8) (fun x hx => hF x (by have := m3 x; have := q9 x; omega))
        · exact fun _ => rfl
      · exact fun _ => rfl
    | cp o i off =>
      simp only [pur]
      split
      · rename_i ob hob
        split
        · rename_i hlt0
          have hi : i < ob.rows.length := Nat.le_of_ble_eq_true hlt0
          obtain ⟨hlt, ⟨b, hb, hv⟩, _⟩ := h
          obtain ⟨G1, G2, m1, m2, m3⟩ := RepH.take hp F o ob hH hob
          obtain ⟨b', c, t, FR, q1, q2, q3, q4, q5, q6, q7, q8, q9⟩ := m1.rows (by omega)
          obtain rfl : b = b' := Option.some.inj (hb.symm.trans q1)
          obtain ⟨r1, F1, F2, r2, r3, _⟩ := RepO.focus _ 0 FR i _ q8 (getD_some (d := ob.d) hi)
          obtain ⟨F3, r4, r5⟩ := RepB.drop off _ _ _ (r2.mono (ext_sel _ _) _ _ _ _ (fun _ _ => by rw [Cx.sel_w]))
          have hbo : ok b := hF b (by have := m3 b; have := q9 b; simp at this; omega)
          rw [q3] at hv
          refine ⟨⟨⟨b, i * ob.e + off, none⟩, hv, ?_⟩, fun _ => rfl⟩
          have := ihA b c t (by rw [← hw]; exact q6) hbo _ _ F3 r4 (fun x hx => hF x (by have := m3 x; have := q9 x; have := r3 x; have := r5 x; omega))
          have h2 := (RepA.shift _ ⟨b, 0, none⟩ (0 + i * ob.e + off) 0).1 (by rw [Nat.add_zero]; exact this)
          rw [add_none, Nat.zero_add, Nat.zero_add] at h2
          rw [List.map_drop] at h2 ⊢
          exact h2
        · exact fun _ => rfl
      · exact fun _ => rfl
    | own e rows d =>
      have := rd_rep hw hok (.own e rows d) v Fa h k
      simpa [AV.rd, pur] using this
    | agg l => obtain ⟨cs, r, h⟩ := h; exact ⟨cs, r, ihL l cs Fa h k⟩
    | tup l => obtain ⟨cs, r, h⟩ := h; exact ⟨cs, r, ihL l cs Fa h k⟩
    | fn f l => obtain ⟨cs, r, h⟩ := h; exact ⟨cs, r, ihL l cs Fa h k⟩
    | iface t x => obtain ⟨u, r, h⟩ := h; exact ⟨u, r, ih x u Fa h k⟩
    | dead => exact fun _ => rfl
    | int _ _ => exact ⟨h.1, h.2.1, fun _ => rfl⟩
    | str _ => exact ⟨h.1, h.2.1, fun _ => rfl⟩
    | sl x y z => exact rd_rep (C := C) hw hok (.sl x y z) v Fa h k
    | rp x => exact rd_rep (C := C) hw hok (.rp x) v Fa h k
    | _ => exact ⟨h.1, fun _ => rfl⟩

mutual
theorem na_rep {C C' : Cx} (hw : C'.w = C.w) : ∀ (a : AV) (v : Value) (F : Foot), Rep C.pu a v F → a.na = true → Rep C'.pu a v F
  | .dead, v, F, h, e => h
  | .int _ _, v, F, h, e => h
  | .tt, v, F, h, e => h
  | .ff, v, F, h, e => h
  | .bool _, v, F, h, e => h
  | .str _, v, F, h, e => h
  | .agg l, v, F, h, e => by obtain ⟨cs, r, h⟩ := h; exact ⟨cs, r, naL_rep hw l cs F h e⟩
  | .tup l, v, F, h, e => by obtain ⟨cs, r, h⟩ := h; exact ⟨cs, r, naL_rep hw l cs F h e⟩
  | .sl x y z, v, F, h, e => by simp [AV.na] at e
  | .own e' rows d, v, F, h, e => by
    rcases h with h | ⟨b, cap, c, t, FR, h1, h2, h3, h4, h5, h6, h7⟩
    · exact .inl h
    · exact .inr ⟨b, cap, c, t, FR, h1, h2, h3, by show C'.w.heap[b]? = _; rw [hw]; exact h4, h5, naR_rep hw e' rows c 0 FR h6 e, h7⟩
  | .nils, v, F, h, e => h
  | .os _, v, F, h, e => absurd h.1 (Nat.not_lt_zero _)
  | .rp x, v, F, h, e => by simp [AV.na] at e
  | .cp _ _ _, v, F, h, e => absurd h.1 (Nat.not_lt_zero _)
  | .nilp, v, F, h, e => h
  | .fn _ l, v, F, h, e => by obtain ⟨cs, r, h⟩ := h; exact ⟨cs, r, naL_rep hw l cs F h e⟩
  | .nilfn, v, F, h, e => h
  | .iface _ x, v, F, h, e => by obtain ⟨u, r, h⟩ := h; exact ⟨u, r, na_rep hw x u F h e⟩
  | .nilif, v, F, h, e => h
theorem naL_rep {C C' : Cx} (hw : C'.w = C.w) : ∀ (l : List AV) (vs : List Value) (F : Foot), RepL C.pu l vs F → naL l = true → RepL C'.pu l vs F
  | [], vs, F, h, e => h
  | x :: l, vs, F, h, e => by
    obtain ⟨v, vs', F1, F2, r, h1, h2, h3⟩ := h
    simp only [naL, Bool.and_eq_true] at e
    exact ⟨v, vs', F1, F2, r, na_rep hw x v F1 h1 e.1, naL_rep hw l vs' F2 h2 e.2, h3⟩
theorem naB_rep {C C' : Cx} (hw : C'.w = C.w) : ∀ (l : List AV) (c : Array Value) (off : Nat) (F : Foot), RepB C.pu l c off F → naL l = true → RepB C'.pu l c off F
  | [], c, off, F, h, e => h
  | x :: l, c, off, F, h, e => by
    obtain ⟨u, F1, F2, r, o1, h1, h2, h3⟩ := h
    simp only [naL, Bool.and_eq_true] at e
    exact ⟨u, F1, F2, r, o1, na_rep hw x u F1 h1 e.1, naB_rep hw l c (off + 1) F2 h2 e.2, h3⟩
theorem naR_rep {C C' : Cx} (hw : C'.w = C.w) (n : Nat) : ∀ (l : List (List AV)) (c : Array Value) (off : Nat) (F : Foot), RepO C.pu n l c off F → naR l = true → RepO C'.pu n l c off F
  | [], c, off, F, h, e => h
  | r :: l, c, off, F, h, e => by
    obtain ⟨F1, F2, r1, h1, h2, h3⟩ := h
    simp only [naR, Bool.and_eq_true] at e
    exact ⟨F1, F2, r1, naB_rep hw r c off F1 h1 e.1, naR_rep hw n l c (off + n) F2 h2 e.2, h3⟩
end
theorem callW_sound {f : FuncId} {args : List AV} {vs : List Value} {mu : Nat → Hdr} {F : Foot} (c : Core B s a w mu F) (hargs : RepL (cx B w mu F s.nx) args vs (fun _ => 0)) (h : CallW P f args s K) :
    Enters P f ∧ Calls P f vs.toArray w (fun e w' => ∃ v, e = .returned v ∧ Out B a K v w') := by
  let ok : Nat → Prop := fun b => F b = 0 ∧ (B.ok b ∨ B.w.heap.size ≤ b ∨ B.F b ≠ 0)
  have hgx : Gx P w := c.gx
  have hgz1 : ∀ F1 : Foot, (∀ b, F1 b ≤ F b) → ∀ b, gl P b → b < w.heap.size ∧ F1 b = 0 := fun F1 h1 b hb => ⟨(c.gz b hb).1, by have := h1 b; have := (c.gz b hb).2; omega⟩
  have hgz0 : ∀ b, gl P b → b < w.heap.size ∧ (fun _ => 0 : Foot) b = 0 := fun b hb => ⟨(c.gz b hb).1, rfl⟩
  cases h with
  | plain Q np en hc hk =>
    refine ⟨en, ?_⟩
    have hx : Ext (cx B w mu F s.nx).pu (cx ⟨w, ok, fun _ => 0, 0, fun _ => default, hgz0, hgx, []⟩ w (fun _ => default) (fun _ => 0) 0) :=
      ⟨fun b hb => ⟨hb.1, rfl, .inl ⟨hb.2.1, hb.2.2⟩⟩, fun _ _ => rfl, Nat.le_refl _, fun o ho => absurd ho (Nat.not_lt_zero _)⟩
    have hargs' := nbVL_rep _ _ _ (npL_rep hx _ _ _ hargs (fun _ _ => rfl) np)
    refine (hc ⟨w, ok, fun _ => 0, 0, fun _ => default, hgz0, hgx, []⟩ _ rfl (fun b => by simp) (fun b hb => absurd rfl hb) hargs' (fun _ => rfl)).mono ?_
    rintro e' w' ⟨r, _, ⟨hQ, rfl⟩, v, mu', n', F', Fr, Fh, rfl, hn, hmu, hfin, hsum, hrep, hhp⟩
    obtain ⟨tp, rn, hk⟩ := hk r hQ
    have hFF : Fr = F' := funext fun b => by have := hsum b; have := hhp b; omega
    subst hFF
    exact ⟨v, rfl, _, _, hk, after_call c (fun b hb => hb) hfin hrep rn tp⟩
  | lent Q np en hc hk =>
    refine ⟨en, ?_⟩
    let ok2 : Nat → Prop := fun b => b < w.heap.size
    have hargs1 : RepL ⟨w, ok2, fun _ => default, 0⟩ (args.map (pur 4 s.hp)) vs (fun _ => 0) := by
      have : ∀ (l : List AV) (us : List Value), RepL (cx B w mu F s.nx) l us (fun _ => 0) → RepL ⟨w, ok2, fun _ => default, 0⟩ (l.map (pur 4 s.hp)) us (fun _ => 0) := by
        intro l
        induction l with
        | nil => intro us h; exact h
        | cons x l ih =>
          intro us h
          obtain ⟨v, us', F1, F2, e, h1, h2, h3⟩ := h
          obtain ⟨rfl, rfl⟩ := zero_split h3
          exact ⟨v, us', _, _, e, pur_rep (C := cx B w mu F s.nx) (ok := ok2) rfl (fun b hb => hb.1) c.hp (fun b hb => (c.blk b hb).1) 4 x v _ h1 (fun b hb => absurd rfl hb), ih us' h2, fun _ => rfl⟩
      exact this args vs hargs
    have hargs' : RepL (cx ⟨w, fun _ => True, fun _ => 0, 0, fun _ => default, hgz0, hgx, []⟩ w (fun _ => default) (fun _ => 0) 0) ((args.map (pur 4 s.hp)).map AV.nbV) vs (fun _ => 0) :=
      nbVL_rep _ _ _ (RepL.mono (C := ⟨w, ok2, fun _ => default, 0⟩) (C' := cx ⟨w, fun _ => True, fun _ => 0, 0, fun _ => default, hgz0, hgx, []⟩ w (fun _ => default) (fun _ => 0) 0) ⟨fun b hb => ⟨hb, rfl, .inl trivial⟩, fun _ _ => rfl, Nat.le_refl _, fun _ _ => rfl⟩ _ _ _ hargs1 (fun _ _ => rfl))
    refine (hc ⟨w, fun _ => True, fun _ => 0, 0, fun _ => default, hgz0, hgx, []⟩ _ rfl (fun b => by simp) (fun b hb => absurd rfl hb) hargs' (fun _ => rfl)).mono ?_
    rintro e' w' ⟨r, _, ⟨hQ, rfl⟩, v, mu', n', F', Fr, Fh, rfl, hn, hmu, hfin, hsum, hrep, hhp⟩
    obtain ⟨tp, rn, na, hk⟩ := hk r hQ
    have hFF : Fr = F' := funext fun b => by have := hsum b; have := hhp b; omega
    subst hFF
    have hrep1 : Rep (cx ⟨w, fun _ => True, fun _ => 0, 0, fun _ => default, hgz0, hgx, []⟩ w' mu' Fr n').pu r v Fr := np_rep (Ext.refl _) r v Fr hrep (fun _ _ => rfl) rn
    have hrep2 : Rep (cx ⟨w, ok, fun _ => 0, 0, fun _ => default, hgz0, hgx, []⟩ w' mu' Fr n').pu r v Fr := na_rep (C := cx ⟨w, fun _ => True, fun _ => 0, 0, fun _ => default, hgz0, hgx, []⟩ w' mu' Fr n') (C' := cx ⟨w, ok, fun _ => 0, 0, fun _ => default, hgz0, hgx, []⟩ w' mu' Fr n') rfl r v Fr hrep1 na
    have hrep3 := Rep.mono (ext_pu (cx ⟨w, ok, fun _ => 0, 0, fun _ => default, hgz0, hgx, []⟩ w' mu' Fr n')) r v Fr hrep2 (fun _ _ => rfl)
    exact ⟨v, rfl, _, _, hk, after_call c (fun b hb => hb) ⟨hfin.os, hfin.tape, hfin.output, hfin.size, hfin.old, hfin.one, hfin.blk⟩ hrep3 rn tp⟩
  | lend ρ n args' hin Q fu ke ha hh en hc hk =>
    refine ⟨en, ?_⟩
    let mu0 : Nat → Hdr := fun o => match lkR ρ o with
      | none => mu o
      | some none => default
      | some (some x) => mu x
    have rc : ∀ (F1 : Foot) (h1 : ∀ b, F1 b ≤ F b), RC ρ (cx B w mu F s.nx) (cx ⟨w, ok, F1, n, mu0, hgz1 F1 h1, hgx, []⟩ w mu0 F1 n) := fun F1 h1 =>
      ⟨⟨fun b hb => ⟨hb.1, by have := h1 b; have := hb.2.1; show F1 b = 0; omega, .inl ⟨hb.2.1, hb.2.2⟩⟩, fun _ _ => rfl, Nat.le_refl _, fun _ _ => rfl⟩, rfl, fun _ _ => rfl⟩
    have rc0 : RC ρ (cx B w mu F s.nx) (cx ⟨w, ok, fun _ => 0, n, mu0, hgz0, hgx, []⟩ w mu0 F n) :=
      ⟨⟨fun b hb => ⟨hb.1, hb.2.1, .inl ⟨hb.2.1, hb.2.2⟩⟩, fun _ _ => rfl, Nat.le_refl _, fun _ _ => rfl⟩, rfl, fun _ _ => rfl⟩
    obtain ⟨F1, F2, q1, q2, q3⟩ := leH_rest rc0 hin s.hp F hh c.hp
    have h1F : ∀ b, F1 b ≤ F b := fun b => by have := q3 b; omega
    have hargs' : RepL (cx ⟨w, ok, F1, n, mu0, hgz1 F1 h1F, hgx, []⟩ w mu0 F1 n) args' vs (fun _ => 0) := renL_rep (rc F1 h1F) args' vs _ ha.2 (subL_rep _ _ _ _ (nbVL_rep _ _ _ hargs) ha.1)
    have hxi : Ext (cx ⟨w, ok, fun _ => 0, n, mu0, hgz0, hgx, []⟩ w mu0 F n) (cx ⟨w, ok, F1, n, mu0, hgz1 F1 h1F, hgx, []⟩ w mu0 F1 n) := by
      refine ⟨fun b hb => ⟨hb.1, by have := h1F b; have := hb.2.1; show F1 b = 0; omega, ?_⟩, fun _ _ => rfl, Nat.le_refl _, fun _ _ => rfl⟩
      rcases hb.2.2 with h | h | h
      · exact .inl h
      · exact .inr (.inl h)
      · exact absurd rfl h
    have hin' : RepH (cx ⟨w, ok, F1, n, mu0, hgz1 F1 h1F, hgx, []⟩ w mu0 F1 n) hin F1 := RepH.mono hxi _ _ q1 (fun _ _ => rfl)
    refine (hc ⟨w, ok, F1, n, mu0, hgz1 F1 h1F, hgx, []⟩ _ rfl (fun b => by have := h1F b; have := c.one b; show F1 b ≤ 1; omega) (fun b hb => (c.blk b (by have := h1F b; have hb' : F1 b ≠ 0 := hb; omega)).1) hargs' hin').mono ?_
    rintro e' w' ⟨r, hout, hQ, v, mu', n', F', Fr, Fh, rfl, hn, hmu, hfin, hsum, hrep, hhp⟩
    obtain ⟨N, bh, br, rp, hk⟩ := hk r hout hQ
    have hz : Z Fr := pu_zero r v Fr hrep rp
    have hFh : Fh = F' := funext fun b => by have := hsum b; have := hz b; omega
    subst hFh
    let mun : Nat → Hdr := fun o => if o < s.nx then mu o else mu' (o - s.nx + n)
    let F3 : Foot := fun b => Fh b + F2 b
    have hdis : ∀ b, F2 b ≠ 0 → Fh b = 0 := fun b hb => by
      refine Classical.byContradiction fun hne => ?_
      have h4 := (c.blk b (by have := q3 b; omega)).1
      rcases (hfin.blk b hne).2 with h5 | h5
      · exact absurd h4 (Nat.not_lt.2 h5)
      · have := q3 b; have := c.one b; have h5' : F1 b ≠ 0 := h5; omega
    have st : Stp w w' F F3 := by
      refine ⟨hfin.os, hfin.tape, hfin.output, hfin.size, fun b hb h0 => hfin.old b hb (by have := h1F b; show F1 b = 0; omega), fun b hb h0 => ?_, fun b => ?_, fun b hb => ?_⟩
      · have h2 : F2 b = 0 := by have := q3 b; omega
        have h3 : Fh b = 0 := Classical.byContradiction fun hne => by
          rcases (hfin.blk b hne).2 with h5 | h5
          · exact absurd hb (Nat.not_lt.2 h5)
          · have := h1F b; have h5' : F1 b ≠ 0 := h5; omega
        show Fh b + F2 b = 0; omega
      · have h4 := hfin.one b; have h5 := hdis b; have h6 := q3 b; have h7 := c.one b
        show Fh b + F2 b ≤ 1
        by_cases h8 : F2 b = 0
        · omega
        · have := h5 h8; omega
      · have hb' : Fh b + F2 b ≠ 0 := hb
        by_cases h8 : F2 b = 0
        · exact (hfin.blk b (by omega)).1
        · exact Nat.lt_of_lt_of_le (c.blk b (by have := q3 b; omega)).1 hfin.size
    have hm : ∀ o, o < s.nx → mun o = mu o := fun o ho => by simp only [mun, ho, if_true]
    have mc : MC (sg ρ s.nx n) (n + N) (cx ⟨w, ok, F1, n, mu0, hgz1 F1 h1F, hgx, []⟩ w' mu' Fh n') (cx B w' mun F3 (s.nx + N)) := by
      refine ⟨⟨fun b hb => ?_, fun _ _ => rfl, Nat.le_refl _, fun _ _ => rfl⟩, rfl, fun o ho => ?_, fun o ho => ?_⟩
      · obtain ⟨h1, h2, h3⟩ := hb
        have h2' : Fh b = 0 := h2
        refine ⟨h1, ?_, ?_⟩
        · show Fh b + F2 b = 0
          have h9 : F2 b = 0 := by
            rcases h3 with h3 | h3 | h3
            · have := q3 b; have := h3.1; omega
            · refine Classical.byContradiction fun hne => absurd (c.blk b (by have := q3 b; omega)).1 (Nat.not_lt.2 h3)
            · have := q3 b; have := c.one b; have h3' : F1 b ≠ 0 := h3; omega
          omega
        · rcases h3 with h3 | h3 | h3
          · exact h3.2
          · exact .inr (.inl (Nat.le_trans c.size h3))
          · have h3' : F1 b ≠ 0 := h3
            exact .inr ((c.blk b (by have := h1F b; omega)).2)
      · show mun (sg ρ s.nx n o) = mu' o
        by_cases hon : o < n
        · obtain ⟨x, hx, hlt⟩ := fullR_at n fu o hon
          have := hmu o hon
          rw [this]
          simp only [sg, hx, mun, hlt, if_true, mu0]
        · have hl := keysR_at ρ ke o (by omega)
          simp only [sg, hl, mun]
          rw [if_neg (by omega)]
          congr 1; omega
      · show sg ρ s.nx n o < s.nx + N
        by_cases hon : o < n
        · obtain ⟨x, hx, hlt⟩ := fullR_at n fu o hon
          simp only [sg, hx]; omega
        · have hl := keysR_at ρ ke o (by omega)
          simp only [sg, hl]; omega
    have hx' := st.ext (B := B) (mu := mu) (mu' := mun) (n := s.nx) (n' := s.nx + N) (by omega) hm
    have hrest : RepH (cx B w' mun F3 (s.nx + N)) (takeH ρ s.hp hin) F2 := RepH.mono hx' _ _ q2 (fun b hb => hfin.old b (c.blk b (by have := q3 b; omega)).1 (by have := q3 b; have := c.one b; show F1 b = 0; omega))
    have hnew := RepH.app _ _ _ _ (mapH_rep mc hout Fh bh hhp) hrest
    have c' := c.step (s' := ⟨s.tm, mapH (sg ρ s.nx n) hout ++ takeH ρ s.hp hin, s.nx + N⟩) st (by simp) hm rfl hnew
    have hr' := mapN_rep mc r v Fr br hrep
    exact ⟨v, rfl, _, _, hk, mun, F3, c', by
      have : Fr = fun _ => 0 := funext hz
      rw [this] at hr'; exact hr'⟩
theorem y_callv {cl : Call} {f : Operand} (e : o.op = .call cl) (hcal : cl.callee = .value f) (hf0 : okO f = true) (hargs0 : cl.args.toList.all okO = true) (hr : Rel B s a w) (h : stp P (.call cl) s K) : Yields P o a w (Out B a K) := by
  obtain ⟨mu, F, c⟩ := hr
  simp only [stp, hcal] at h
  split at h
  · rename_i g caps hf
    have hx := c.ev f hf0
    rw [hf] at hx
    obtain ⟨cs, hv, hL⟩ := hx
    have hargs := repL_app _ _ _ _ (repL_map c cl.args.toList hargs0) hL
    obtain ⟨en, hc⟩ := callW_sound c hargs h
    have hrun : (execOp a.eval o).run P w = .ok (.enter g (cl.args.toList.map a.eval ++ cs).toArray) w := by
      simp only [execOp, e, resolve, hcal, hv, Deferred.ofValue, Sem.run_bind, Sem.run_pure, Result.andThen_ok, invoke]
      rw [show (#[] ++ cl.args.map a.eval ++ cs.toArray) = (cl.args.toList.map a.eval ++ cs).toArray by rw [← Array.toList_inj]; simp]
      exact en _ w
    unfold Yields
    rw [hrun]
    exact hc
  · exact h.elim
theorem y_invoke {cl : Call} {r : Operand} {name : String} (e : o.op = .call cl) (hcal : cl.callee = .invoke r name) (hf0 : okO r = true) (hargs0 : cl.args.toList.all okO = true) (hr : Rel B s a w) (h : stp P (.call cl) s K) : Yields P o a w (Out B a K) := by
  obtain ⟨mu, F, c⟩ := hr
  simp only [stp, hcal] at h
  split at h
  · rename_i t v hf
    obtain ⟨f, v', hm, h⟩ := h
    have hx := c.ev r hf0
    rw [hf] at hx
    obtain ⟨u, hv, hu0⟩ := hx
    obtain ⟨u', hu, hm⟩ := hm _ u hu0
    have hargs : RepL (cx B w mu F s.nx) (v' :: cl.args.toList.map s.ev) (u' :: cl.args.toList.map a.eval) (fun _ => 0) := ⟨u', _, _, _, rfl, hu, repL_map c _ hargs0, fun _ => rfl⟩
    obtain ⟨en, hc⟩ := callW_sound c hargs h
    have hrun : (execOp a.eval o).run P w = .ok (.enter f (u' :: cl.args.toList.map a.eval).toArray) w := by
      simp only [execOp, e, resolve, hcal, hv, Sem.run_bind, Sem.run_pure, Result.andThen_ok, invoke]
      have h1 := hm (cl.args.map a.eval) w
      have e1 : (#[Value.iface t u] ++ cl.args.map a.eval)[0]? = some (.iface t u) := by rw [Array.getElem?_append_left (by simp)]; rfl
      rw [e1]
      show (callMethod _ _ _).run P w = _
      rw [show (#[Value.iface t u] ++ cl.args.map a.eval).extract 1 (#[Value.iface t u] ++ cl.args.map a.eval).size = cl.args.map a.eval by rw [← Array.toList_inj]; simp; exact List.take_of_length_le (by simp)]
      rw [h1]
      congr 2
      rw [← Array.toList_inj]; simp
    unfold Yields
    rw [hrun]
    exact hc
  · exact h.elim
end Go.Av
end

section
/- Engine, part 11b: values made of parts; indices; interfaces. -/
set_option linter.unusedVariables false
set_option linter.unusedSimpArgs false
set_option autoImplicit false
namespace Go.Av
variable {P : Program} [Known P] {B : Base P} {o : Oper} {s : St} {a : Act} {w : World} {K : St → AV → Prop}

theorem y_index {t : TypeId} {x i : Operand} (e : o.op = .index t x i) (hx0 : okO x = true) (hi0 : okO i = true) (hr : Rel B s a w) (h : stp P (.index t x i) s K) : Yields P o a w (Out B a K) := by
  obtain ⟨mu, F, c⟩ := hr
  simp only [stp] at h
  have hx := c.ev x hx0
  have hi := c.ev i hi0
  split at h
  · rename_i n l k j h1 h2 h3
    rw [h2] at hx
    rw [h3] at hi
    obtain ⟨h4, h5, h6, h7⟩ := h
    obtain ⟨cs, hv, hL⟩ := hx
    obtain ⟨el, hu, ht⟩ := arT_spec h1
    have hlen := RepL.length _ _ _ hL
    obtain ⟨u, q1, q2⟩ := repL_get l cs j.toNat hL (by omega)
    refine y_val (x := u) ?_ c q2 h7
    obtain ⟨t1, t2⟩ := tyT_run ht w
    simp only [execOp, e, hv, hi.1, Instr.index, asIntOf, underlying, Sem.run_bind, run_program, Result.andThen_ok, hu, Sem.run_pure, Sem.run_ite, h4, h5, and_self, if_true, t2, part, t1, Bool.false_eq_true, if_false, Nat.mul_one]
    rw [show cs.toArray[j.toNat]? = some u by simpa using q1]
    simp
  · rename_i n m l k j h1 h2 h3
    rw [h2] at hx
    rw [h3] at hi
    obtain ⟨h4, h5, h6, h7⟩ := h
    obtain ⟨cs, hv, hL⟩ := hx
    obtain ⟨el, hu, ht⟩ := arT_spec h1
    obtain ⟨t1, t2⟩ := tyT_run ht w
    refine y_val (v := .agg ((l.drop (j.toNat * m)).take m)) (x := .agg ((cs.drop (j.toNat * m)).take m).toArray) ?_ c ⟨_, rfl, RepL.take m _ _ (repL_drop _ _ _ hL)⟩ h7
    simp only [execOp, e, hv, hi.1, Instr.index, asIntOf, underlying, Sem.run_bind, run_program, Result.andThen_ok, hu, Sem.run_pure, Sem.run_ite, h4, h5, and_self, if_true, t2, part, t1]
    congr 3
    rw [← Array.toList_inj]
    simp [List.extract_eq_take_drop]
  · rename_i b k j h1 h2 h3
    rw [h2] at hx
    rw [h3] at hi
    obtain ⟨h4, h5, h6, h7⟩ := h
    have hu := lkT_str h4
    refine y_val (x := .int .u8 (b.data.getD j.toNat 0).toNat) ?_ c (rep_int (by rw [wrap_iff]; simp only [IntKind.bits, IntKind.signed, Bool.false_eq_true, if_false]; have := (b.data.getD j.toNat 0).toNat_lt; omega)) h7
    have hlt : j.toNat < b.size := by omega
    have : b[j.toNat]? = some (b.data.getD j.toNat 0) := by
      rw [getElem?_pos b j.toNat hlt]
      have hl2 : j.toNat < b.data.size := hlt
      simp only [Array.getD, hl2, dif_pos]
      rfl
    simp only [execOp, e, hx.1, hi.1, Instr.index, asIntOf, underlying, Sem.run_bind, run_program, Result.andThen_ok, hu, Sem.run_pure, h5, if_true, this]
  · exact h.elim

theorem ncT_spec {P : Program} {t : TypeId} (h : ncT P t = true) : ∃ d, P.underlying t = some d ∧ ∀ ms, d ≠ .interface ms := by
  unfold ncT at h
  split at h
  · simp at h
  · rename_i d hne hd; exact ⟨d, hd, fun ms e => hne ms e⟩
  · simp at h
theorem y_makeInterface {t : TypeId} {x : Operand} (e : o.op = .makeInterface t x) (hx0 : okO x = true) (hr : Rel B s a w) (h : stp P (.makeInterface t x) s K) : Yields P o a w (Out B a K) := by
  obtain ⟨mu, F, c⟩ := hr
  simp only [stp] at h
  obtain ⟨d, hu, hne⟩ := ncT_spec h.1
  refine y_val (v := .iface t (s.ev x)) (x := .iface t (a.eval x)) ?_ c ⟨_, rfl, c.ev x hx0⟩ h.2
  cases d <;> first | (simp [execOp, e, Instr.makeInterface, underlying, hu]; done) | exact absurd rfl (hne _)
theorem y_makeFunc {fn : Fn} {first caps : Array Operand} (e : o.op = .makeFunc fn first caps) (hc0 : caps.toList.all okO = true) (hr : Rel B s a w) (h : stp P (.makeFunc fn first caps) s K) : Yields P o a w (Out B a K) := by
  obtain ⟨mu, F, c⟩ := hr
  cases fn <;> simp only [stp] at h
  rename_i f
  have hf : first = #[] := by rw [← Array.toList_inj]; exact h.1
  refine y_val (v := .fn f (caps.toList.map s.ev)) (x := .func (.func f) #[] (caps.toList.map a.eval).toArray) ?_ c ⟨_, rfl, repL_map c _ hc0⟩ h.2
  subst hf
  simp only [execOp, e, Instr.makeFunc, Sem.run_bind, Sem.run_pure, Result.andThen_ok]
  congr 2
  rw [show caps.map a.eval = (caps.toList.map a.eval).toArray by rw [← Array.toList_inj]; simp]
  simp
theorem zeroA_run {P : Program} {t : TypeId} {z : AV} (h : zeroA P t = some z) : ∃ v, (∀ w, (zeroValue t).run P w = .ok v w) ∧ (∀ C : Cx, Rep C z v (fun _ => 0)) := by
  unfold zeroA at h
  split at h
  · rename_i i hi
    split at h
    · rename_i v hz
      cases hok : okV 3 v with
      | false => rw [hok] at h; simp at h
      | true =>
        rw [hok] at h
        simp only [cond_true, Option.some.injEq] at h
        subst h
        exact ⟨v, fun w => by simp [zeroValue, typeInfo, hi, hz], fun C => nbV_rep (rep_ofVal 3 v hok)⟩
    · simp at h
  · simp at h
theorem y_typeAssert {xt t : TypeId} {x : Operand} (e : o.op = .typeAssert x xt t true) (hx0 : okO x = true) (hr : Rel B s a w) (h : stp P (.typeAssert x xt t true) s K) : Yields P o a w (Out B a K) := by
  obtain ⟨mu, F, c⟩ := hr
  simp only [stp] at h
  have hx := c.ev x hx0
  have pair : ∀ (v : AV) (u : Value) (b : Bool) (q : AV), q = (if b then .tt else .ff) → Rep (cx B w mu F s.nx) v u (fun _ => 0) → Rep (cx B w mu F s.nx) (.tup [v, q]) (.tuple #[u, .bool b]) (fun _ => 0) := fun v u b q hq hv => by
    refine ⟨[u, .bool b], rfl, u, _, fun _ => 0, fun _ => 0, rfl, hv, ⟨.bool b, _, fun _ => 0, fun _ => 0, rfl, ?_, ⟨rfl, fun _ => rfl⟩, fun _ => rfl⟩, fun _ => rfl⟩
    subst hq; cases b <;> exact ⟨rfl, fun _ => rfl⟩
  split at h
  · rename_i t' v hv
    rw [hv] at hx
    obtain ⟨u, hxv, hu⟩ := hx
    obtain ⟨d, hd, hne⟩ := ncT_spec h.1
    have h2 := h.2
    cases hb : Nat.beq t' t with
    | true =>
      rw [hb] at h2
      obtain rfl := Nat.eq_of_beq_eq_true hb
      refine y_val (x := .tuple #[u, .bool true]) ?_ c (pair v u true _ rfl hu) h2
      cases d <;> first | (simp [execOp, e, hxv, Instr.typeAssert, underlying, hd]; done) | exact absurd rfl (hne _)
    | false =>
      rw [hb] at h2
      simp only at h2
      have hne' : ¬ t' = t := fun e => by rw [e, Nat.beq_refl] at hb; cases hb
      split at h2
      · rename_i z hz
        obtain ⟨z', hz1, hz2⟩ := zeroA_run hz
        refine y_val (x := .tuple #[z', .bool false]) ?_ c (pair _ z' false _ rfl (hz2 _)) h2
        cases d <;> first | (simp [execOp, e, hxv, Instr.typeAssert, underlying, hd, hne', hz1]; done) | exact absurd rfl (hne _)
      · exact h2.elim
  · rename_i hv
    rw [hv] at hx
    obtain ⟨d, hd, hne⟩ := ncT_spec h.1
    have h2 := h.2
    split at h2
    · rename_i z hz
      obtain ⟨z', hz1, hz2⟩ := zeroA_run hz
      refine y_val (x := .tuple #[z', .bool false]) ?_ c (pair _ z' false _ rfl (hz2 _)) h2
      cases d <;> first | (simp [execOp, e, hx.1, Instr.typeAssert, underlying, hd, hz1]; done) | exact absurd rfl (hne _)
    · exact h2.elim
  · exact h.elim
end Go.Av
end
