/- A part of a proof. -/
import Derived.Test.YtppfkokfnoeopaaGreatDoorDClusBack
import Derived.Test.YtppfkokfnoeopaaGreatDoorDClusEnd
namespace Go.Proofs.YtppfkokfnoeopaaGreatDoor
open Go.RowKit Go.Maps
def namesOf(l:List Int):List Int:=listTo (crewOf l) 16
def actB(o:Option NP):Bool:=match o with
 | some x=>decide (x.st=2)
 | none=>false
def CP.crewN(c:CP):Nat:=crewOf (c.plan.filter fun i=>actB (c.f i))
def CP.slotF(c:CP)(lost:List Int):CP×Nat:=if c.time<200 then(c.slot (stayB c.plan.length) lost,0) else(c,7)
def CP.slotT(c:CP):List UInt8:=if c.time<200 then c.sent else[]
theorem InvP.slotF{c:CP}(h:InvP c)(lost:List Int):InvP (c.slotF lost).1:=by
 unfold CP.slotF
 split
 ·rename_i ht;exact h.slot ht _ lost
 ·exact h
end Go.Proofs.YtppfkokfnoeopaaGreatDoor
