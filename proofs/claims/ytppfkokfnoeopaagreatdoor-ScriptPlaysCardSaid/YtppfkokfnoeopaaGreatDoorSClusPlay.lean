/- A part of a proof. -/
import Derived.Test.YtppfkokfnoeopaaGreatDoorSClusBack
import Derived.Test.YtppfkokfnoeopaaGreatDoorSCTell
set_option maxRecDepth 400000
set_option maxHeartbeats 6400000
namespace Go.Proofs.YtppfkokfnoeopaaGreatDoor
open Go.RowKit Go.Maps
def Bq(l:List Int):List Int:=Ao (A6 l) 16
def Ns(o:Option NP):Bool:=match o with
 | some x=>decide (x.st=2)
 | none=>false
def CP.crewN(c:CP):Nat:=A6 (c.plan.filter fun i=>Ns (c.f i))
def CP.slotF(c:CP)(lost:List Int):CP×Nat:=if c.time<200 then(c.slot (Da c.plan.length) lost,0) else(c,7)
def CP.slotT(c:CP):List UInt8:=if c.time<200 then c.sent else[]
theorem Ce.slotF{c:CP}(h:Ce c)(lost:List Int):Ce (c.slotF lost).1:=by
 unfold CP.slotF
 split
 ·rename_i ht;exact h.slot ht _ lost
 ·exact h
end Go.Proofs.YtppfkokfnoeopaaGreatDoor
