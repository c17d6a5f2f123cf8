/- Engine, part 1: abstract values, what a value of memory must be to read as one, and how that outlives other steps. -/
import Derived.Calls
import Derived.Below
import Derived.KernelRfl
set_option linter.unusedVariables false
set_option linter.unusedSimpArgs false
set_option autoImplicit false
namespace Go.Av

/-- Abstract values. A row is its list of cells. 'sl': a slice that nobody writes; 'own': a slice that is nobody else's; 'os', 'cp': a slice of, a place in, an object of the state. -/
inductive AV : Type where
  | dead
  | int (k : IntKind) (n : Int)
  | tt | ff
  | bool (b : Bool)
  | str (s : ByteArray)
  | agg (l : List AV)
  | tup (l : List AV)
  | sl (e : Nat) (rows : List (List AV)) (d : List AV)
  | own (e : Nat) (rows : List (List AV)) (d : List AV)
  | nils
  | os (o : Nat)
  | rp (cells : List AV)
  | cp (o i off : Nat)
  | nilp
  | fn (f : FuncId) (caps : List AV)
  | nilfn
  | iface (t : TypeId) (v : AV)
  | nilif

/-- How the head of an object of the state looks in memory. -/
structure Hdr where
  b : Option Nat
  len : Nat
  cap : Nat
  e : Nat
instance : Inhabited Hdr := ⟨⟨none, 0, 0, 0⟩⟩

/-- The object: rows of e cells; 'g': places of other objects may lie in it. -/
structure Ob where
  e : Nat
  rows : List (List AV)
  d : List AV
  g : Bool

abbrev Foot := Nat → Nat
def Z (F : Foot) : Prop := ∀ b, F b = 0

/-- What a reading leans on: the world, the blocks that stay as they are, the heads of the objects, the next free number. -/
structure Cx where
  w : World
  ok : Nat → Prop
  mu : Nat → Hdr
  nx : Nat

/-- The same for what lies in memory that nobody writes: no object of the state is named there. -/
def Cx.pu (C : Cx) : Cx := ⟨C.w, C.ok, fun _ => default, 0⟩
def Cx.sel (C : Cx) : Bool → Cx
  | true => C
  | false => C.pu
/-- No slice and no string is longer. -/
def lim : Nat := 140737488355328

mutual
def Rep : Cx → AV → Value → Foot → Prop
  | C, .dead, _, F => Z F
  | C, .int k n, v, F => v = .int k n ∧ k.wrap n = n ∧ Z F
  | C, .tt, v, F => v = .bool true ∧ Z F
  | C, .ff, v, F => v = .bool false ∧ Z F
  | C, .bool b, v, F => v = .bool b ∧ Z F
  | C, .str s, v, F => v = .string s ∧ s.size ≤ lim ∧ Z F
  | C, .agg l, v, F => ∃ cs : List Value, v = .agg cs.toArray ∧ RepL C l cs F
  | C, .tup l, v, F => ∃ cs : List Value, v = .tuple cs.toArray ∧ RepL C l cs F
  | C, .sl e rows _, v, F => (∃ a cap, v = .slice a rows.length cap ∧ rows.length ≤ cap ∧ rows.length ≤ lim ∧ RepR C.pu e rows a 0) ∧ Z F
  | C, .own e rows _, v, F => (v = .slice none 0 0 ∧ rows = [] ∧ Z F) ∨
      ∃ b cap c t FR, v = .slice (some ⟨b, 0, none⟩) rows.length cap ∧ rows.length ≤ cap ∧ rows.length ≤ lim ∧
        C.w.heap[b]? = some (.cells c t (0, 0)) ∧ c.size = cap * e ∧ RepO C.pu e rows c 0 FR ∧ ∀ x, F x = (if x = b then 1 else 0) + FR x
  | C, .nils, v, F => v = .slice none 0 0 ∧ Z F
  | C, .os o, v, F => o < C.nx ∧ v = .slice ((C.mu o).b.map fun b => ⟨b, 0, none⟩) (C.mu o).len (C.mu o).cap ∧ Z F
  | C, .rp cells, v, F => (∃ ad, v = .pointer (some ad) ∧ RepA C.pu cells ad 0) ∧ Z F
  | C, .cp o i off, v, F => o < C.nx ∧ (∃ b, (C.mu o).b = some b ∧ v = .pointer (some ⟨b, i * (C.mu o).e + off, none⟩)) ∧ Z F
  | C, .nilp, v, F => v = .pointer none ∧ Z F
  | C, .fn f caps, v, F => ∃ cs : List Value, v = .func (.func f) #[] cs.toArray ∧ RepL C caps cs F
  | C, .nilfn, v, F => v = .nilFunc ∧ Z F
  | C, .iface t x, v, F => ∃ u, v = .iface t u ∧ Rep C x u F
  | C, .nilif, v, F => v = .nilIface ∧ Z F
/-- A list of values. -/
def RepL : Cx → List AV → List Value → Foot → Prop
  | C, [], vs, F => vs = [] ∧ Z F
  | C, a :: l, vs, F => ∃ v vs' F1 F2, vs = v :: vs' ∧ Rep C a v F1 ∧ RepL C l vs' F2 ∧ ∀ b, F b = F1 b + F2 b
/-- Cells that lie in memory, one behind the other, and that nobody writes. -/
def RepA : Cx → List AV → Addr → Nat → Prop
  | C, [], _, _ => True
  | C, c :: l, ad, j => (C.ok ad.block ∧ ∃ u, C.w.cell? (ad.add j) = some u ∧ u.oneCell' = true ∧ Rep C c u (fun _ => 0)) ∧ RepA C l ad (j + 1)
/-- Rows of such cells. -/
def RepR : Cx → Nat → List (List AV) → Option Addr → Nat → Prop
  | C, e, [], _, _ => True
  | C, e, r :: l, a, i => (∃ ad, a = some ad ∧ r.length = e ∧ RepA C r ad (i * e)) ∧ RepR C e l a (i + 1)
/-- Cells of a block of one's own. -/
def RepB : Cx → List AV → Array Value → Nat → Foot → Prop
  | C, [], _, _, F => Z F
  | C, x :: l, c, off, F => ∃ u F1 F2, c[off]? = some u ∧ u.oneCell' = true ∧ Rep C x u F1 ∧ RepB C l c (off + 1) F2 ∧ ∀ b, F b = F1 b + F2 b
/-- Rows of a block of one's own. -/
def RepO : Cx → Nat → List (List AV) → Array Value → Nat → Foot → Prop
  | C, e, [], _, _, F => Z F
  | C, e, r :: l, c, off, F => ∃ F1 F2, r.length = e ∧ RepB C r c off F1 ∧ RepO C e l c (off + e) F2 ∧ ∀ b, F b = F1 b + F2 b
end
end Go.Av
