/- What it means that the one machine and a world are ok, as plain functions. -/
import Derived.Test.YtjlmfcddbcoimaaGreatCOneA
import Derived.Test.YtjlmfcddbcoimaaGreatCNodH
set_option maxRecDepth 100000
set_option maxHeartbeats 4000000
set_option linter.unusedSimpArgs false
set_option linter.unusedVariables false
namespace Go.Proofs.YtjlmfcddbcoimaaGreat.C
open Go Go.Av Go.Proofs
def sigB (s : VSig) : Bool := bif decide (1 ≤ s.1) && decide (s.1 ≤ 4) then msgB s.2.2.1 && (decide (0 ≤ s.2.1) && decide (s.2.1 ≤ 9)) else decide (5 ≤ s.1) && (decide (s.1 ≤ 10) && (msgB s.2.2.1 && decide (s.2.1 = 0)))
def seenB (l : List VSig) : Bool := decide ((l.length : Int) ≤ 120) && l.all sigB
def seenAll (l : List (List VSig)) (n : Nat) : Bool := decide ((l.length : Int) = n) && l.all seenB
def airB (l : List (List UInt8)) : Bool := decide ((l.length : Int) ≤ 12) && l.all msgB
abbrev VOne.cell (n : VOne) (k : Nat) : VCel := n.cells.getD k cel0
abbrev VOne.ob (n : VOne) (k : Nat) : VBox := n.out.getD k box0
abbrev VOne.ib (n : VOne) (k : Nat) : VBox := n.inn.getD k box0
abbrev VOne.upAt (n : VOne) (k : Int) : Bool := n.up.getD k.toNat false
def oneCell (a : VOne) (k : Nat) : Bool := celB (a.cell k) (a.plan.cell k) (a.upAt (a.plan.cell k).1)
def oneWay (a : VOne) (k : Nat) : Bool := boxB (a.ob k) (a.plan.way k) (a.upAt (begins a.plan k)) && boxB (a.ib k) (a.plan.way k) (a.upAt (ends a.plan k))
def oneSz (a : VOne) : Bool := decide ((a.up.length : Int) = a.plan.1) && (decide ((a.cells.length : Int) = a.plan.cells.length) && (decide ((a.out.length : Int) = a.plan.ways.length) && decide ((a.inn.length : Int) = a.plan.ways.length)))
def airAll (a : VOne) : Bool := a.air.all airB && decide ((a.air.length : Int) = a.plan.ways.length)
def nowB (n : Int) : Bool := decide (0 ≤ n) && decide (n ≤ 20000)
def oneB (a : VOne) : Bool := (res a.plan).isNone && (oneSz a && (nowB a.now && ((List.range a.cells.length).all (oneCell a) && ((List.range a.plan.ways.length).all (oneWay a) && (airAll a && seenAll a.seen a.plan.cells.length)))))
abbrev VWld.node (w : VWld) (k : Nat) : VNod := w.nodes.getD k nd0
def wldHd (w : VWld) : Bool := (res w.plan).isNone && (decide ((w.nodes.length : Int) = w.plan.1) && (nowB w.now && decide ((w.log.length : Int) ≤ 12)))
def frmB (m : List UInt8) : Bool := decide ((m.length : Int) = 24)
def nodeAt (w : VWld) (k : Nat) : Bool := goodB w.plan (w.node k) k
def wldB (w : VWld) : Bool := wldHd w && ((List.range w.nodes.length).all (nodeAt w) && (w.log.all frmB && seenAll w.seen w.plan.cells.length))
def backAt (w : VWld) (i k : Nat) : Bool := decide (i = k) || decide ((w.node i).heard.1.getD k 0 = (w.node k).boot)
def backRow (w : VWld) (i : Nat) : Bool := (w.node i).up && (List.range w.nodes.length).all (backAt w i)
def backB (w : VWld) : Bool := wldB w && (List.range w.nodes.length).all (backRow w)
end Go.Proofs.YtjlmfcddbcoimaaGreat.C
