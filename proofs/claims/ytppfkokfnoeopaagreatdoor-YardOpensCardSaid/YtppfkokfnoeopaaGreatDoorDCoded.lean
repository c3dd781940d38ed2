/- A part of a proof. -/
import Derived.LaidEql
import Derived.Stop.Asserts
import Derived.RowKitTokens
import Derived.Test.YtppfkokfnoeopaaGreatDoorDLib
namespace Go.Proofs.YtppfkokfnoeopaaGreatDoor
open Go.RowKit Go.Extern.Stop Go.Stop Go.Extern
theorem eValueOfPP(t:Addr)(w:World):(ReflectliteValue.unpack (.iface 131 (.pointer (some t)))).run Tryz.prog w
 = .ok (.agg #[.pointer (some ⟨25,131,none⟩),.pointer (some ⟨w.heap.size,0,none⟩),.int .u64 150]) (w.alloc (.cells #[.pointer (some t)] 131)):=by kernel_rfl
theorem eTypePP (a : Addr) (w : World) : (ReflectliteValue.methodAny (ReflectliteValue.valueError "reflectlite.Value.Type" 0) (fun t _ _ _ => ReflectliteType.toType t) #[.agg #[.pointer (some ⟨25, 131, none⟩), .pointer (some a), .int .u64 150]]).run Tryz.prog w
 = .ok (.iface 238 (.agg #[.pointer (some ⟨25,131,none⟩)])) w:=by kernel_rfl
theorem eMethodKind (h : Value) (w : World) : (Go.method 484 238 (.agg #[h]) "Kind").run Tryz.prog w = .ok (295, h) w := by kernel_rfl
theorem eKindPP(w:World):((ReflectliteType.abiMethod fun t=>(fun a:Nat=>Value.int IntKind.u8 (a:Int)) <$> Rtype.kind t) #[.pointer (some ⟨25,131,none⟩)]).run Tryz.prog w=.ok (.int .u8 22) w:=by kernel_rfl
theorem eKindP(w:World):((ReflectliteType.abiMethod fun t=>(fun a:Nat=>Value.int IntKind.u8 (a:Int)) <$> Rtype.kind t) #[.pointer (some ⟨25,113,none⟩)]).run Tryz.prog w=.ok (.int .u8 22) w:=by kernel_rfl
theorem rlm(z:Sem Value)(f:TypeId→Addr→Nat→Nat→Sem Value)(v:Value) :
 ReflectliteValue.method z f #[v]=(do match ←ReflectliteValue.parts v with|none=>z|some (t,a,fl)=>f t a fl (fl%32)):=rfl
theorem ePartsPP(a:Addr)(w:World):(ReflectliteValue.parts (.agg #[.pointer (some ⟨25,131,none⟩),.pointer (some a),.int .u64 150])).run Tryz.prog w=.ok (some (131,a,150)) w:=by kernel_rfl
theorem eIsNilPP(a p:Addr)(W:World)(ha:W.cell? a=some (.pointer (some p))) :
 (ReflectliteValue.method (ReflectliteValue.valueError "reflectlite.Value.IsNil" 0) ReflectliteValue.isNil #[.agg #[.pointer (some ⟨25, 131, none⟩), .pointer (some a), .int .u64 150]]).run Tryz.prog W = .ok (.bool false) W := by
 rw[rlm];simp only[Sem.run_bind,ePartsPP,Result.andThen];simp[ReflectliteValue.isNil,loadVar,isAgg,underlying,Tryz.underlying131,ha,Result.andThen]
theorem eMethodElem (h : Value) (w : World) : (Go.method 484 238 (.agg #[h]) "Elem").run Tryz.prog w = .ok (308, .agg #[h]) w := by kernel_rfl
theorem eMethodImplements (h : Value) (w : World) : (Go.method 484 238 (.agg #[h]) "Implements").run Tryz.prog w = .ok (309, .agg #[h]) w := by kernel_rfl
theorem eMethodAssignableTo (h : Value) (w : World) : (Go.method 484 238 (.agg #[h]) "AssignableTo").run Tryz.prog w = .ok (306, .agg #[h]) w := by kernel_rfl
theorem eElemPP(w:World):(ReflectliteType.method ReflectliteType.elem #[.agg #[.pointer (some ⟨25,131,none⟩)]]).run Tryz.prog w=.ok (.iface 238 (.agg #[.pointer (some ⟨25,113,none⟩)])) w:=by kernel_rfl
theorem eImplementsP (w : World) : (ReflectliteType.relation "Implements" ReflectliteType.implements_ #[.agg #[.pointer (some ⟨25, 113, none⟩)], .iface 238 (.agg #[.pointer (some ⟨25, 33, none⟩)])]).run Tryz.prog w = .ok (.bool true) w := by kernel_rfl
theorem eTypeOfP(v:Value)(w:World):(ReflectliteType.typeOf #[.iface 113 v]).run Tryz.prog w=.ok (.iface 238 (.agg #[.pointer (some ⟨25,113,none⟩)])) w:=by kernel_rfl
theorem eTypeOfS(v:Value)(w:World):(ReflectliteType.typeOf #[.iface 346 v]).run Tryz.prog w=.ok (.iface 238 (.agg #[.pointer (some ⟨25,346,none⟩)])) w:=by kernel_rfl
theorem eAssignP (w : World) : (ReflectliteType.relation "AssignableTo" ReflectliteType.assignableTo #[.agg #[.pointer (some ⟨25, 113, none⟩)], .iface 238 (.agg #[.pointer (some ⟨25, 113, none⟩)])]).run Tryz.prog w = .ok (.bool true) w := by kernel_rfl
theorem eAssignS (w : World) : (ReflectliteType.relation "AssignableTo" ReflectliteType.assignableTo #[.agg #[.pointer (some ⟨25, 346, none⟩)], .iface 238 (.agg #[.pointer (some ⟨25, 113, none⟩)])]).run Tryz.prog w = .ok (.bool false) w := by kernel_rfl
theorem eValueOfP(e:Addr)(w:World):(ReflectliteValue.unpack (.iface 113 (.pointer (some e)))).run Tryz.prog w
 = .ok (.agg #[.pointer (some ⟨25,113,none⟩),.pointer (some ⟨w.heap.size,0,none⟩),.int .u64 150]) (w.alloc (.cells #[.pointer (some e)] 113)):=by kernel_rfl
theorem eElemOfPP(w:World):(Rtype.elem? 131).run Tryz.prog w=.ok (some 113) w:=by kernel_rfl
theorem eMkP(p:Addr)(w:World):(ReflectliteValue.mk 113 p ReflectliteValue.flagAddr).run Tryz.prog w=.ok (.agg #[.pointer (some ⟨25,113,none⟩),.pointer (some p),.int .u64 406]) w:=by kernel_rfl
theorem eElemVPP(a p:Addr)(W:World)(ha:W.cell? a=some (.pointer (some p))) :
 (ReflectliteValue.method (ReflectliteValue.valueError "reflectlite.Value.Elem" 0) ReflectliteValue.elem #[.agg #[.pointer (some ⟨25, 131, none⟩), .pointer (some a), .int .u64 150]]).run Tryz.prog W
  = .ok (.agg #[.pointer (some ⟨25,113,none⟩),.pointer (some p),.int .u64 406]) W:=by
 rw[rlm];simp only[Sem.run_bind,ePartsPP,Result.andThen];simp[ReflectliteValue.elem,loadVar,isAgg,underlying,Tryz.underlying131,ha,Result.andThen,eElemOfPP,eMkP]
theorem rls(v x:Value):ReflectliteValue.set #[v,x]=(do
 let (some (dst,a,fl),some (src,b,_)):=(←ReflectliteValue.parts v,←ReflectliteValue.parts x)
  | unsupported (.noEntry "extern/(internal/reflectlite.Value).Set.zeroValue")
 if fl / ReflectliteValue.flagAddr % 2 == 0 then unsupported (.noEntry "extern/(internal/reflectlite.Value).Set.unaddressable")
 let val ←loadVar src b
 if ←Rtype.directlyAssignable dst src then storeVar dst a val
 else if ←Rtype.implements dst src then
  if (←Rtype.kind src)==20 then
   match val with
   | .nilIface => unsupported (.noEntry "extern/reflectlite: a nil value of one interface type handed on as a value of another")
   | _=>storeVar dst a val
  else storeVar dst a (.iface src val)
 else panicString ("reflectlite.Set: value of type " ++ (← Rtype.spelt src) ++ " is not assignable to type " ++ (← Rtype.spelt dst))
 pure (.tuple #[])):=rfl
theorem ePartsPa(a:Addr)(w:World):(ReflectliteValue.parts (.agg #[.pointer (some ⟨25,113,none⟩),.pointer (some a),.int .u64 406])).run Tryz.prog w=.ok (some (113,a,406)) w:=by kernel_rfl
theorem ePartsP(a:Addr)(w:World):(ReflectliteValue.parts (.agg #[.pointer (some ⟨25,113,none⟩),.pointer (some a),.int .u64 150])).run Tryz.prog w=.ok (some (113,a,150)) w:=by kernel_rfl
theorem eDirectP(w:World):(Rtype.directlyAssignable 113 113).run Tryz.prog w=.ok true w:=by kernel_rfl
theorem eSetP(ta b e:Addr)(old:Value)(W:World)(hb:W.cell? b=some (.pointer (some e)))(ht:W.cell? ta=some old)(hf:W.frozen? ta=false) :
 (ReflectliteValue.set #[.agg #[.pointer (some ⟨25,113,none⟩),.pointer (some ta),.int .u64 406],.agg #[.pointer (some ⟨25,113,none⟩),.pointer (some b),.int .u64 150]]).run Tryz.prog W
  = .ok (.tuple #[]) (W.setCell ta (.pointer (some e))):=by
 rw[rls];simp only[Sem.run_bind,ePartsPa,ePartsP,Result.andThen];simp[ReflectliteValue.flagAddr,loadVar,isAgg,underlying,Tryz.underlying113,hb,Result.andThen,eDirectP,storeVar,Value.cells,storeCells,Addr.add];rw[run_store Tryz.prog W ta _ _ (by rfl)];simp[ht,hf]
def ErrType(w:World):Prop:=11<w.heap.size∧w.cell? ⟨11,0,none⟩=some (.iface 238 (.agg #[.pointer (some ⟨25,33,none⟩)]))
theorem ErrType.below{w w':World}(h:ErrType w)(hb:Below w.heap.size w w'):ErrType w':=
 ⟨Nat.lt_of_lt_of_le h.1 hb.size,(hb.cell (p:=⟨11,0,none⟩) h.1).trans h.2⟩
set_option maxHeartbeats 4000000 in
theorem as_hit(e t:Addr)(old:Value)(w:World)(hE:ErrType w)(ht0:w.cell? t=some old)(hf0:w.frozen? t=false) :
 Calls Tryz.prog 77 #[.iface 113 (.pointer (some e)),.iface 131 (.pointer (some t))] w fun ev w'=>ev=.returned (.bool true)∧w'=((((w.alloc (.cells #[.pointer (some t)] 131)).alloc (.cells #[.pointer (some ⟨25,131,none⟩),.pointer (some ⟨w.heap.size,0,none⟩),.int .u64 150] 193)).alloc (.cells #[.pointer (some ⟨25,131,none⟩),.pointer (some ⟨w.heap.size,0,none⟩),.int .u64 150] 193)).alloc (.cells #[.pointer (some e)] 113)).setCell t (.pointer (some e)):=by
 have h6:=@run_callFunc_extern Tryz.prog 131 _ (fun args=>ReflectliteValue.unpack (args.getD 0 (.tuple #[]))) Tryz.func131 (by kernel_rfl) (by kernel_rfl) (by kernel_rfl) (by kernel_rfl);have h7 := @run_callFunc_extern Tryz.prog 132 _ (ReflectliteValue.methodAny (ReflectliteValue.valueError "reflectlite.Value.Type" 0) (fun t _ _ _ => ReflectliteType.toType t)) Tryz.func132 (by kernel_rfl) (by kernel_rfl) (by kernel_rfl) (by kernel_rfl);have h8 := @run_callFunc_extern Tryz.prog 133 _ (ReflectliteValue.method (ReflectliteValue.valueError "reflectlite.Value.IsNil" 0) ReflectliteValue.isNil) Tryz.func133 (by kernel_rfl) (by kernel_rfl) (by kernel_rfl) (by kernel_rfl);have h27:=@run_callFunc_extern Tryz.prog 295 _ (ReflectliteType.abiMethod fun t=>do pure (.int .u8 (←Rtype.kind t))) Tryz.func295 (by kernel_rfl) (by kernel_rfl) (by kernel_rfl) (by kernel_rfl);have h37:=@run_callFunc_extern Tryz.prog 308 _ (ReflectliteType.method ReflectliteType.elem) Tryz.func308 (by kernel_rfl) (by kernel_rfl) (by kernel_rfl) (by kernel_rfl);have h38 := @run_callFunc_extern Tryz.prog 309 _ (ReflectliteType.relation "Implements" ReflectliteType.implements_) Tryz.func309 (by kernel_rfl) (by kernel_rfl) (by kernel_rfl) (by kernel_rfl);have h10:=@run_callFunc_extern Tryz.prog 148 _ ReflectliteType.typeOf Tryz.func148 (by kernel_rfl) (by kernel_rfl) (by kernel_rfl) (by kernel_rfl);have h35 := @run_callFunc_extern Tryz.prog 306 _ (ReflectliteType.relation "AssignableTo" ReflectliteType.assignableTo) Tryz.func306 (by kernel_rfl) (by kernel_rfl) (by kernel_rfl) (by kernel_rfl);have h11 := @run_callFunc_extern Tryz.prog 178 _ (ReflectliteValue.method (ReflectliteValue.valueError "reflectlite.Value.Elem" 0) ReflectliteValue.elem) Tryz.func178 (by kernel_rfl) (by kernel_rfl) (by kernel_rfl) (by kernel_rfl);have h12:=@run_callFunc_extern Tryz.prog 179 _ ReflectliteValue.set Tryz.func179 (by kernel_rfl) (by kernel_rfl) (by kernel_rfl) (by kernel_rfl);have tO:=eTypeOfP;have mA:=eMethodAssignableTo;have a25:=eAssignP;have v25:=eValueOfP;have f6:=eValueOfPP;have f7:=eTypePP;have mK:=eMethodKind;have mE:=eMethodElem;have mI:=eMethodImplements;have k27:=eKindPP;have k25:=eKindP;have e27:=eElemPP;have i25:=eImplementsP;obtain⟨hlt,hg⟩:=hE;have n8:=eIsNilPP ⟨w.heap.size,0,none⟩ t ((w.alloc (.cells #[.pointer (some t)] 131)).alloc (.cells #[.pointer (some ⟨25,131,none⟩),.pointer (some ⟨w.heap.size,0,none⟩),.int .u64 150] 193)) (by simp)
 have hg2:((w.alloc (.cells #[.pointer (some t)] 131)).alloc (.cells #[.pointer (some ⟨25,131,none⟩),.pointer (some ⟨w.heap.size,0,none⟩),.int .u64 150] 193)).cell? ⟨11,0,none⟩=some (.iface 238 (.agg #[.pointer (some ⟨25,33,none⟩)])):=by
  rw[World.cell?_alloc_lt _ _ ⟨11,0,none⟩ (by simp;omega),World.cell?_alloc_lt _ _ ⟨11,0,none⟩ hlt];exact hg
 have htl:t.block<w.heap.size:=by
  rcases Nat.lt_or_ge t.block w.heap.size with h|h
  ·exact h
  ·simp[World.cell?,Array.getElem?_eq_none h] at ht0
 have el:=eElemVPP ⟨w.heap.size,0,none⟩ t (((w.alloc (.cells #[.pointer (some t)] 131)).alloc (.cells #[.pointer (some ⟨25,131,none⟩),.pointer (some ⟨w.heap.size,0,none⟩),.int .u64 150] 193)).alloc (.cells #[.pointer (some ⟨25,131,none⟩),.pointer (some ⟨w.heap.size,0,none⟩),.int .u64 150] 193)) (by rw[World.cell?_alloc_lt _ _ ⟨w.heap.size,0,none⟩ (by simp;omega)];simp)
 have st:=eSetP t ⟨w.heap.size+1+1+1,0,none⟩ e old ((((w.alloc (.cells #[.pointer (some t)] 131)).alloc (.cells #[.pointer (some ⟨25,131,none⟩),.pointer (some ⟨w.heap.size,0,none⟩),.int .u64 150] 193)).alloc (.cells #[.pointer (some ⟨25,131,none⟩),.pointer (some ⟨w.heap.size,0,none⟩),.int .u64 150] 193)).alloc (.cells #[.pointer (some e)] 113))
  (by rw[World.cell?_alloc_at _ _ _ _ (by simp)];rfl)
  (by rw[World.cell?_alloc_lt _ _ t (by simp;omega),World.cell?_alloc_lt _ _ t (by simp;omega),World.cell?_alloc_lt _ _ t (by simp;omega),World.cell?_alloc_lt _ _ t htl];exact ht0)
  (by rw[World.frozen?_alloc_old _ _ t (by simp;omega),World.frozen?_alloc_old _ _ t (by simp;omega),World.frozen?_alloc_old _ _ t (by simp;omega),World.frozen?_alloc_old _ _ t (Nat.ne_of_lt htl)];exact hf0)
 go_enter Tryz.func77,Tryz.ntmps77;go_wp2;refine wp_loop_rounds 1 ?_;rw[rounds_succ];go_wp2;go_ret;exact⟨rfl,rfl⟩
theorem eNoAsS(v:Value)(xT:TypeId)(w:World):(Instr.typeAssert (.iface 346 v) xT 242 true).run Tryz.prog w=.ok (.tuple #[.nilIface,.bool false]) w:=run_typeAssert_lacksB Tryz.underlying242 (by kernel_rfl) (by kernel_rfl) v xT w
theorem eNoIsS(v:Value)(xT:TypeId)(w:World):(Instr.typeAssert (.iface 346 v) xT 266 true).run Tryz.prog w=.ok (.tuple #[.nilIface,.bool false]) w:=run_typeAssert_lacksB Tryz.underlying266 (by kernel_rfl) (by kernel_rfl) v xT w
theorem eNoUnwrapS(v:Value)(xT:TypeId)(w:World):(Instr.typeAssert (.iface 346 v) xT 245 true).run Tryz.prog w=.ok (.tuple #[.nilIface,.bool false]) w:=run_typeAssert_lacksB Tryz.underlying245 (by kernel_rfl) (by kernel_rfl) v xT w
theorem eNoUnwrapsS(v:Value)(xT:TypeId)(w:World):(Instr.typeAssert (.iface 346 v) xT 247 true).run Tryz.prog w=.ok (.tuple #[.nilIface,.bool false]) w:=run_typeAssert_lacksB Tryz.underlying247 (by kernel_rfl) (by kernel_rfl) v xT w
theorem eNoIsF(v:Value)(xT:TypeId)(w:World):(Instr.typeAssert (.iface 113 v) xT 266 true).run Tryz.prog w=.ok (.tuple #[.nilIface,.bool false]) w:=run_typeAssert_lacksB Tryz.underlying266 (by kernel_rfl) (by kernel_rfl) v xT w
theorem eHasUnwrapF(v:Value)(xT:TypeId)(w:World):(Instr.typeAssert (.iface 113 v) xT 245 true).run Tryz.prog w=.ok (.tuple #[.iface 113 v,.bool true]) w:=run_typeAssert_hasB Tryz.underlying245 (by kernel_rfl) v xT w
theorem eMethodUnwrap (v : Value) (w : World) : (Go.method 484 113 v "Unwrap").run Tryz.prog w = .ok (299, v) w := by kernel_rfl
set_option maxHeartbeats 4000000 in
theorem as_miss(e t:Addr)(w:World)(hE:ErrType w) :
 Calls Tryz.prog 77 #[.iface 346 (.pointer (some e)),.iface 131 (.pointer (some t))] w fun ev w'=>ev=.returned (.bool false)∧w'=(((w.alloc (.cells #[.pointer (some t)] 131)).alloc (.cells #[.pointer (some ⟨25,131,none⟩),.pointer (some ⟨w.heap.size,0,none⟩),.int .u64 150] 193)).alloc (.cells #[.pointer (some ⟨25,131,none⟩),.pointer (some ⟨w.heap.size,0,none⟩),.int .u64 150] 193)):=by
 have h6:=@run_callFunc_extern Tryz.prog 131 _ (fun args=>ReflectliteValue.unpack (args.getD 0 (.tuple #[]))) Tryz.func131 (by kernel_rfl) (by kernel_rfl) (by kernel_rfl) (by kernel_rfl);have h7 := @run_callFunc_extern Tryz.prog 132 _ (ReflectliteValue.methodAny (ReflectliteValue.valueError "reflectlite.Value.Type" 0) (fun t _ _ _ => ReflectliteType.toType t)) Tryz.func132 (by kernel_rfl) (by kernel_rfl) (by kernel_rfl) (by kernel_rfl);have h8 := @run_callFunc_extern Tryz.prog 133 _ (ReflectliteValue.method (ReflectliteValue.valueError "reflectlite.Value.IsNil" 0) ReflectliteValue.isNil) Tryz.func133 (by kernel_rfl) (by kernel_rfl) (by kernel_rfl) (by kernel_rfl);have h27:=@run_callFunc_extern Tryz.prog 295 _ (ReflectliteType.abiMethod fun t=>do pure (.int .u8 (←Rtype.kind t))) Tryz.func295 (by kernel_rfl) (by kernel_rfl) (by kernel_rfl) (by kernel_rfl);have h37:=@run_callFunc_extern Tryz.prog 308 _ (ReflectliteType.method ReflectliteType.elem) Tryz.func308 (by kernel_rfl) (by kernel_rfl) (by kernel_rfl) (by kernel_rfl);have h38 := @run_callFunc_extern Tryz.prog 309 _ (ReflectliteType.relation "Implements" ReflectliteType.implements_) Tryz.func309 (by kernel_rfl) (by kernel_rfl) (by kernel_rfl) (by kernel_rfl);have h10:=@run_callFunc_extern Tryz.prog 148 _ ReflectliteType.typeOf Tryz.func148 (by kernel_rfl) (by kernel_rfl) (by kernel_rfl) (by kernel_rfl);have h35 := @run_callFunc_extern Tryz.prog 306 _ (ReflectliteType.relation "AssignableTo" ReflectliteType.assignableTo) Tryz.func306 (by kernel_rfl) (by kernel_rfl) (by kernel_rfl) (by kernel_rfl);have tO:=eTypeOfS;have mA:=eMethodAssignableTo;have a25:=eAssignS;have f6:=eValueOfPP;have f7:=eTypePP;have mK:=eMethodKind;have mE:=eMethodElem;have mI:=eMethodImplements;have k27:=eKindPP;have k25:=eKindP;have e27:=eElemPP;have i25:=eImplementsP;have nA:=eNoAsS;have nU:=eNoUnwrapS;have nV:=eNoUnwrapsS;obtain⟨hlt,hg⟩:=hE;have n8:=eIsNilPP ⟨w.heap.size,0,none⟩ t ((w.alloc (.cells #[.pointer (some t)] 131)).alloc (.cells #[.pointer (some ⟨25,131,none⟩),.pointer (some ⟨w.heap.size,0,none⟩),.int .u64 150] 193)) (by simp)
 have hg2:((w.alloc (.cells #[.pointer (some t)] 131)).alloc (.cells #[.pointer (some ⟨25,131,none⟩),.pointer (some ⟨w.heap.size,0,none⟩),.int .u64 150] 193)).cell? ⟨11,0,none⟩=some (.iface 238 (.agg #[.pointer (some ⟨25,33,none⟩)])):=by
  rw[World.cell?_alloc_lt _ _ ⟨11,0,none⟩ (by simp;omega),World.cell?_alloc_lt _ _ ⟨11,0,none⟩ hlt];exact hg
 go_enter Tryz.func77,Tryz.ntmps77;go_wp2;refine wp_loop_rounds 1 ?_;rw[rounds_succ];go_wp2;go_ret;exact⟨rfl,rfl⟩
def cmpF : Array Value → Sem Value := Extern.ReflectliteType.method fun t => do Rtype.noPackHeld "Comparable" t; pure (.bool (← typeInfo t).comparable)
theorem eComparable(w:World):(cmpF #[.agg #[.pointer (some ⟨25,346,none⟩)]]).run Tryz.prog w=.ok (.bool true) w:=by kernel_rfl
theorem eMethodComparable (v : Value) (w : World) : (Go.method 484 238 v "Comparable").run Tryz.prog w = .ok (307, v) w := by kernel_rfl
theorem eIsComp:(Tryz.prog.info? 346).map (·.comparable)=some true:=by kernel_rfl
theorem eIsSize:(Tryz.prog.info? 348).map (·.size)=some 1:=by kernel_rfl
theorem is_same(a:Addr)(w:World) :
 Calls Tryz.prog 100 #[.iface 346 (.pointer (some a)),.iface 346 (.pointer (some a))] w fun e w'=>e=.returned (.bool true)∧w'=w:=by
 obtain⟨i,hi,hcmp⟩:=Option.map_eq_some_iff.1 eIsComp;obtain⟨j,hj,hjs⟩:=Option.map_eq_some_iff.1 eIsSize;have h8:=@run_callFunc_extern Tryz.prog 148 _ Extern.ReflectliteType.typeOf Tryz.func148 (by kernel_rfl) (by kernel_rfl) (by kernel_rfl) (by kernel_rfl);have h32:=@run_callFunc_extern Tryz.prog 307 _ cmpF Tryz.func307 (by kernel_rfl) (by kernel_rfl) (by kernel_rfl) (by kernel_rfl);have tT:=eTypeOfS;have cT:=eComparable;have mR:=eMethodComparable;have heq:=run_eql_iface_ptr_same (P:=Tryz.prog) w a Tryz.underlying33 Tryz.underlying346 hi hcmp hj;go_enter Tryz.func100,Tryz.ntmps100;go_wp2;refine wp_loop_rounds 1 ?_;rw[rounds_succ];go_wp2;go_ret;exact⟨rfl,rfl⟩
theorem is_other(a b:Addr)(ca cb:Array Value)(ta tb:TypeId)(w:World)(hne:a≠b)(ha:w.heap[a.block]?=some (.cells ca ta (0,0)))(hb:w.heap[b.block]?=some (.cells cb tb (0,0))) :
 Calls Tryz.prog 100 #[.iface 346 (.pointer (some a)),.iface 346 (.pointer (some b))] w fun e w'=>e=.returned (.bool false)∧w'=w:=by
 obtain⟨i,hi,hcmp⟩:=Option.map_eq_some_iff.1 eIsComp;obtain⟨j,hj,hjs⟩:=Option.map_eq_some_iff.1 eIsSize;have h8:=@run_callFunc_extern Tryz.prog 148 _ Extern.ReflectliteType.typeOf Tryz.func148 (by kernel_rfl) (by kernel_rfl) (by kernel_rfl) (by kernel_rfl);have h32:=@run_callFunc_extern Tryz.prog 307 _ cmpF Tryz.func307 (by kernel_rfl) (by kernel_rfl) (by kernel_rfl) (by kernel_rfl);have tT:=eTypeOfS;have cT:=eComparable;have mR:=eMethodComparable;have nE:=eNoIsS;have uE:=eNoUnwrapS;have vE:=eNoUnwrapsS;have heq:=run_eql_iface_ptr_other (P:=Tryz.prog) w Tryz.underlying33 Tryz.underlying346 hi hcmp hj (by rw[hjs];decide) hne ha hb;go_enter Tryz.func100,Tryz.ntmps100;go_wp2;refine wp_loop_rounds 1 ?_;rw[rounds_succ];go_wp2;go_ret;exact⟨rfl,rfl⟩
theorem is_flt_same(pb po:Nat)(b:Addr)(w:World)(h1:w.cell? ⟨pb,po+1,none⟩=some (.iface 346 (.pointer (some b)))) :
 Calls Tryz.prog 100 #[.iface 113 (.pointer (some ⟨pb,po,none⟩)),.iface 346 (.pointer (some b))] w fun e w'=>e=.returned (.bool true)∧w'=w:=by
 obtain⟨i,hi,hcmp⟩:=Option.map_eq_some_iff.1 eIsComp;obtain⟨j,hj,hjs⟩:=Option.map_eq_some_iff.1 eIsSize;have h8:=@run_callFunc_extern Tryz.prog 148 _ Extern.ReflectliteType.typeOf Tryz.func148 (by kernel_rfl) (by kernel_rfl) (by kernel_rfl) (by kernel_rfl);have h32:=@run_callFunc_extern Tryz.prog 307 _ cmpF Tryz.func307 (by kernel_rfl) (by kernel_rfl) (by kernel_rfl) (by kernel_rfl);have tT:=eTypeOfS;have cT:=eComparable;have mR:=eMethodComparable;have nE:=eNoIsS;have uE:=eNoUnwrapS;have vE:=eNoUnwrapsS;have nW:=eNoIsF;have uW:=eHasUnwrapF;have mU:=eMethodUnwrap;have heq:=run_eql_iface_ptr_same (P:=Tryz.prog) w b Tryz.underlying33 Tryz.underlying346 hi hcmp hj;have hty:=run_eql_iface_types (P:=Tryz.prog) 113 346 (.pointer (some ⟨pb,po,none⟩)) (.pointer (some b)) Tryz.underlying33 (by decide) w;go_enter Tryz.func100,Tryz.ntmps100;go_wp2;refine wp_loop_rounds 2 ?_;rw[rounds_succ];go_wp2;rw[rounds_succ];go_wp2;go_ret;exact⟨rfl,rfl⟩
theorem is_flt_other(pb po:Nat)(b a:Addr)(ca cb:Array Value)(ta tb:TypeId)(w:World)(h1:w.cell? ⟨pb,po+1,none⟩=some (.iface 346 (.pointer (some a))))(hne:a≠b)(ha:w.heap[a.block]?=some (.cells ca ta (0,0)))(hb:w.heap[b.block]?=some (.cells cb tb (0,0))) :
 Calls Tryz.prog 100 #[.iface 113 (.pointer (some ⟨pb,po,none⟩)),.iface 346 (.pointer (some b))] w fun e w'=>e=.returned (.bool false)∧w'=w:=by
 obtain⟨i,hi,hcmp⟩:=Option.map_eq_some_iff.1 eIsComp;obtain⟨j,hj,hjs⟩:=Option.map_eq_some_iff.1 eIsSize;have h8:=@run_callFunc_extern Tryz.prog 148 _ Extern.ReflectliteType.typeOf Tryz.func148 (by kernel_rfl) (by kernel_rfl) (by kernel_rfl) (by kernel_rfl);have h32:=@run_callFunc_extern Tryz.prog 307 _ cmpF Tryz.func307 (by kernel_rfl) (by kernel_rfl) (by kernel_rfl) (by kernel_rfl);have tT:=eTypeOfS;have cT:=eComparable;have mR:=eMethodComparable;have nE:=eNoIsS;have uE:=eNoUnwrapS;have vE:=eNoUnwrapsS;have nW:=eNoIsF;have uW:=eHasUnwrapF;have mU:=eMethodUnwrap;have heq:=run_eql_iface_ptr_other (P:=Tryz.prog) w Tryz.underlying33 Tryz.underlying346 hi hcmp hj (by rw[hjs];decide) hne ha hb;have hty:=run_eql_iface_types (P:=Tryz.prog) 113 346 (.pointer (some ⟨pb,po,none⟩)) (.pointer (some b)) Tryz.underlying33 (by decide) w;go_enter Tryz.func100,Tryz.ntmps100;go_wp2;refine wp_loop_rounds 2 ?_;rw[rounds_succ];go_wp2;rw[rounds_succ];go_wp2;go_ret;exact⟨rfl,rfl⟩
end Go.Proofs.YtppfkokfnoeopaaGreatDoor
namespace Go.Proofs.YtppfkokfnoeopaaGreatDoor
open Go.RowKit
structure GlobC(w:World)(ea:Nat→Addr):Prop where
 glob:Glob w ea [1,2,3,4,5,6,7,8,9,10,11]
 cells:∀k,1≤k→k≤11→∃ca ta,w.heap[(ea k).block]?=some (.cells ca ta (0,0))
 inj:∀j k,1≤j→j≤11→1≤k→k≤11→ea j=ea k→j=k
 typ:ErrType w
theorem GlobC.below{w w':World}{ea:Nat→Addr}(h:GlobC w ea)(hb:Below w.heap.size w w'):GlobC w' ea where
 glob:=h.glob.below hb
 cells:=fun k h1 h2=>by
  obtain⟨ca,ta,hc⟩:=h.cells k h1 h2;have hlt:(ea k).block<w.heap.size:=(Array.getElem?_eq_some_iff.1 hc).1;exact⟨ca,ta,(hb.block _ hlt).trans hc⟩
 inj:=h.inj
 typ:=h.typ.below hb
theorem GlobC.sub{w:World}{ea:Nat→Addr}(h:GlobC w ea){ls:List Nat}(hs:∀k∈ls,k∈[1,2,3,4,5,6,7,8,9,10,11]):Glob w ea ls:=h.glob.sub hs
theorem is_code(ea:Nat→Addr)(v:Value)(code:Nat)(pl:Int)(k:Nat)(w:World)(hG:GlobC w ea)(hE:ErrIs ea w v code pl)(h0:code≠0)(h11:code≤11)(hk:k<11) :
 Calls Tryz.prog 100 #[v,errV ea (k+1)] w fun e w'=>e=.returned (.bool (decide (k+1=code)))∧w=w':=by
 rw[errV_pos ea (show k+1≠0 by omega)];obtain⟨ca,ta,hca⟩:=hG.cells code (by omega) h11;obtain⟨cb,tb,hcb⟩:=hG.cells (k+1) (by omega) (by omega)
 rcases hE with⟨_,rfl⟩|⟨_,_,b,rfl,hlt,_,hc⟩
 ·rw[errV_pos ea h0]
  by_cases hx:k+1=code
  ·rw[hx,decide_eq_true rfl]
   exact(is_same (ea code) w).mono fun e w' ⟨h1,h2⟩=>⟨h1,h2.symm⟩
  ·rw[decide_eq_false hx]
   exact(is_other (ea code) (ea (k+1)) ca cb ta tb w (fun e=>hx (hG.inj _ _ (by omega) (by omega) (by omega) h11 e.symm)) hca hcb).mono fun e w' ⟨h1,h2⟩=>⟨h1,h2.symm⟩
 ·rw[errV_pos ea h0] at hc
  by_cases hx:k+1=code
  ·rw[hx,decide_eq_true rfl]
   exact(is_flt_same b 0 (ea code) w hc).mono fun e w' ⟨h1,h2⟩=>⟨h1,h2.symm⟩
  ·rw[decide_eq_false hx]
   exact(is_flt_other b 0 (ea (k+1)) (ea code) ca cb ta tb w hc (fun e=>hx (hG.inj _ _ (by omega) (by omega) (by omega) h11 e.symm)) hca hcb).mono fun e w' ⟨h1,h2⟩=>⟨h1,h2.symm⟩
def errsL(ea:Nat→Addr):List Value:=[.iface 346 (.pointer (some (ea 1))),.iface 346 (.pointer (some (ea 2))),.iface 346 (.pointer (some (ea 3))),.iface 346 (.pointer (some (ea 4))),.iface 346 (.pointer (some (ea 5))),.iface 346 (.pointer (some (ea 6))),.iface 346 (.pointer (some (ea 7))),.iface 346 (.pointer (some (ea 8))),.iface 346 (.pointer (some (ea 9))),.iface 346 (.pointer (some (ea 10))),.iface 346 (.pointer (some (ea 11)))]
theorem errsL_get(ea:Nat→Addr)(k:Nat)(hk:k<11):(errsL ea)[k]?=some (errV ea (k+1)):=by
 rw[errV_pos ea (by omega)];have h:k=0∨k=1∨k=2∨k=3∨k=4∨k=5∨k=6∨k=7∨k=8∨k=9∨k=10:=by omega
 rcases h with rfl|rfl|rfl|rfl|rfl|rfl|rfl|rfl|rfl|rfl|rfl<;>rfl
theorem ErrIs.place{ea:Nat→Addr}{w:World}{v:Value}{pl:Int}(h:ErrIs ea w v 0 pl):pl=-1:=by
 rcases h with⟨h,_⟩|⟨_,h,_⟩
 ·exact h
 ·exact absurd rfl h
theorem code_nil(w:World):Calls Tryz.prog 45 #[.nilIface] w fun e w'=>e=.returned (.tuple #[.int .i64 0,.int .i64 (-1)])∧w=w':=by
 go_enter Tryz.func45,Tryz.ntmps45;go_wp2;go_ret2;exact⟨rfl,rfl⟩
def codeV(code:Nat):Int:=if code≤11 then(code:Int) else -1
set_option maxRecDepth 100000 in
set_option maxHeartbeats 1600000 in
theorem code_gen(ea:Nat→Addr)(A:Addr)(code:Nat)(w:World)(hG:GlobC w ea)(h0:1≤code)
 (HI:Hid (∀k,k<11→∀W,Below w.heap.size w W→Calls Tryz.prog 100 #[.iface 346 (.pointer (some A)),errV ea (k+1)] W fun e w'=>e=.returned (.bool (decide (k+1=code)))∧W=w')) :
 Calls Tryz.prog 45 #[.iface 346 (.pointer (some A))] w fun e w'=>e=.returned (.tuple #[.int .i64 (codeV code),.int .i64 (-1)])∧Below w.heap.size w w':=by
 have HG:=Lib.hid hG;clear hG;go_enter Tryz.func45,Tryz.ntmps45;go_wp2_with fail;refine(as_miss A ⟨w.heap.size,0,none⟩ _ (HG.out.typ.below ((Below.refl _ _).alloc (Nat.le_refl _) _))).mono ?_;rintro e w2⟨rfl,hw2⟩
 have hb2:Below w.heap.size w w2:=by
  rw[hw2];exact((((Below.refl _ _).alloc (Nat.le_refl _) _).alloc (by simp) _).alloc (by simp;omega) _).alloc (by simp;omega) _
 clear hw2;have g1:=(HG.out.glob.below hb2).cell 1 (by simp);have g2:=(HG.out.glob.below hb2).cell 2 (by simp);have g3:=(HG.out.glob.below hb2).cell 3 (by simp);have g4:=(HG.out.glob.below hb2).cell 4 (by simp);have g5:=(HG.out.glob.below hb2).cell 5 (by simp);have g6:=(HG.out.glob.below hb2).cell 6 (by simp);have g7:=(HG.out.glob.below hb2).cell 7 (by simp);have g8:=(HG.out.glob.below hb2).cell 8 (by simp);have g9:=(HG.out.glob.below hb2).cell 9 (by simp);have g10:=(HG.out.glob.below hb2).cell 10 (by simp);have g11:=(HG.out.glob.below hb2).cell 11 (by simp);simp only[gOf] at g1 g2 g3 g4 g5 g6 g7 g8 g9 g10 g11;rw[errV_pos ea (by decide)] at g1;rw[errV_pos ea (by decide)] at g2;rw[errV_pos ea (by decide)] at g3;rw[errV_pos ea (by decide)] at g4;rw[errV_pos ea (by decide)] at g5;rw[errV_pos ea (by decide)] at g6;rw[errV_pos ea (by decide)] at g7;rw[errV_pos ea (by decide)] at g8;rw[errV_pos ea (by decide)] at g9;rw[errV_pos ea (by decide)] at g10;rw[errV_pos ea (by decide)] at g11;go_wp2;clear g1 g2 g3 g4 g5 g6 g7 g8 g9 g10 g11;have hb3:Below w.heap.size w (w2.alloc (.cells (errsL ea).toArray 33)):=hb2.alloc hb2.size _;have hcell:=Lib.hid (fun(k:Nat) (hk:k<11)=>(RowAt.new_at w2 (errsL ea) 33 _ rfl).cell (errsL_get ea k hk))
 change Code.wp _ _ _ _ (w2.alloc (.cells (errsL ea).toArray 33))
 generalize w2.alloc (.cells (errsL ea).toArray 33)=w3 at *;go_loop [3,29] (fun at3 i=>∃k:Nat,k≤11∧k<code∧i=.int .i64 k∧at3=.int .i64 (-1)) (fun _ i=>11-(intOf i).toNat)
 case atStart=>exact⟨0,by omega,by omega,rfl,rfl⟩
 case round=>
  obtain⟨k,hk,hkc,rfl,rfl⟩:=hrel
  by_cases hlt:k<11
  ·have hi0:(0:Int)≤(k:Int):=by omega
   have hi1:(k:Int)<11:=by omega
   have c0:=hcell.out k (by omega);simp only[Nat.zero_add] at c0
   by_cases hx:k+1=code
   ·have HCV:=Lib.hid (show codeV code=(code:Int) by rw[codeV,if_pos (by omega)])
    have HX:=Lib.hid hx;clear hx;go_wp2_with (go_at_call 100;refine(HI.out k (by omega) _ hb3).mono ?_;rintro e w4⟨rfl,rfl⟩;rw[decide_eq_true HX.out]);go_ret2;exact⟨by rw[HCV.out,←HX.out];simp,hb3⟩
   ·have HX:=Lib.hid hx
    clear hx;go_wp2_with (go_at_call 100;refine(HI.out k (by omega) _ hb3).mono ?_;rintro e w4⟨rfl,rfl⟩;rw[decide_eq_false HX.out]);go_round
    case rel=>exact⟨k+1,by omega,by have:=HX.out;omega,by go_num,rfl⟩
    case measure=>simp[intOf];omega
  ·obtain rfl:k=11:=by omega
   have hc:codeV code=-1:=by rw[codeV,if_neg (by omega)]
   have HC:=Lib.hid hc;clear hc;go_wp2;go_ret2;exact⟨by rw[HC.out];rfl,hb3⟩
set_option maxRecDepth 100000 in
set_option maxHeartbeats 1600000 in
theorem code_flt(ea:Nat→Addr)(b:Nat)(pl:Int)(code:Nat)(w:World)(hG:GlobC w ea)(h0:code≠0)(h11:code≤11)(hlt:b<w.heap.size)(hp:0≤pl)(hc0:w.cell? ⟨b,0,none⟩=some (.int .i64 pl))(hc1:w.cell? ⟨b,1,none⟩=some (errV ea code)) :
 Calls Tryz.prog 45 #[.iface 113 (.pointer (some ⟨b,0,none⟩))] w fun e w'=>e=.returned (.tuple #[.int .i64 code,.int .i64 pl])∧Below w.heap.size w w':=by
 have HI:=Lib.hid (fun(k:Nat) (hk:k<11) (W:World) (hb:Below w.heap.size w W)=>is_code ea (fltV b) code pl k W (hG.below hb) (Or.inr ⟨hp,h0,b,rfl,Nat.lt_of_lt_of_le hlt hb.size,(hb.cell (p:=⟨b,0,none⟩) hlt).trans hc0,(hb.cell (p:=⟨b,1,none⟩) hlt).trans hc1⟩) h0 h11 hk);rw[fltV] at HI;have HG:=Lib.hid hG;have HC0:=Lib.hid hc0;clear hG hc0 hc1;go_enter Tryz.func45,Tryz.ntmps45;go_wp2_with fail;refine(as_hit ⟨b,0,none⟩ ⟨w.heap.size,0,none⟩ (.pointer none) _ (HG.out.typ.below ((Below.refl _ _).alloc (Nat.le_refl _) _)) (by simp) (by simp)).mono ?_;rintro e w2⟨rfl,hw2⟩
 have hb2:Below w.heap.size w w2:=by
  rw[hw2];exact((((((Below.refl _ _).alloc (Nat.le_refl _) _).alloc (by simp) _).alloc (by simp;omega) _).alloc (by simp;omega) _).alloc (by simp;omega) _).setCell (by simp) _
 have ct:w2.cell? ⟨w.heap.size,0,none⟩=some (.pointer (some ⟨b,0,none⟩)):=by
  rw[hw2];refine World.cell?_setCell_same' _ _ _ ?_;rw[World.cell?_alloc_lt _ _ ⟨w.heap.size,0,none⟩ (by simp;omega),World.cell?_alloc_lt _ _ ⟨w.heap.size,0,none⟩ (by simp;omega),World.cell?_alloc_lt _ _ ⟨w.heap.size,0,none⟩ (by simp;omega),World.cell?_alloc_lt _ _ ⟨w.heap.size,0,none⟩ (by simp)];simp
 clear hw2;have c0:=(hb2.cell (p:=⟨b,0,none⟩) hlt).trans HC0.out;have g1:=(HG.out.glob.below hb2).cell 1 (by simp);have g2:=(HG.out.glob.below hb2).cell 2 (by simp);have g3:=(HG.out.glob.below hb2).cell 3 (by simp);have g4:=(HG.out.glob.below hb2).cell 4 (by simp);have g5:=(HG.out.glob.below hb2).cell 5 (by simp);have g6:=(HG.out.glob.below hb2).cell 6 (by simp);have g7:=(HG.out.glob.below hb2).cell 7 (by simp);have g8:=(HG.out.glob.below hb2).cell 8 (by simp);have g9:=(HG.out.glob.below hb2).cell 9 (by simp);have g10:=(HG.out.glob.below hb2).cell 10 (by simp);have g11:=(HG.out.glob.below hb2).cell 11 (by simp);simp only[gOf] at g1 g2 g3 g4 g5 g6 g7 g8 g9 g10 g11;rw[errV_pos ea (by decide)] at g1;rw[errV_pos ea (by decide)] at g2;rw[errV_pos ea (by decide)] at g3;rw[errV_pos ea (by decide)] at g4;rw[errV_pos ea (by decide)] at g5;rw[errV_pos ea (by decide)] at g6;rw[errV_pos ea (by decide)] at g7;rw[errV_pos ea (by decide)] at g8;rw[errV_pos ea (by decide)] at g9;rw[errV_pos ea (by decide)] at g10;rw[errV_pos ea (by decide)] at g11;go_wp2;clear g1 g2 g3 g4 g5 g6 g7 g8 g9 g10 g11;have hb3:Below w.heap.size w (w2.alloc (.cells (errsL ea).toArray 33)):=hb2.alloc hb2.size _;have hcell:=Lib.hid (fun(k:Nat) (hk:k<11)=>(RowAt.new_at w2 (errsL ea) 33 _ rfl).cell (errsL_get ea k hk))
 change Code.wp _ _ _ _ (w2.alloc (.cells (errsL ea).toArray 33))
 clear c0 ct;generalize w2.alloc (.cells (errsL ea).toArray 33)=w3 at *;go_loop [3,29] (fun at3 i=>∃k:Nat,k<code∧i=.int .i64 k∧at3=.int .i64 pl) (fun _ i=>11-(intOf i).toNat)
 case atStart=>exact⟨0,by omega,rfl,rfl⟩
 case round=>
  obtain⟨k,hkc,rfl,rfl⟩:=hrel;have hi0:(0:Int)≤(k:Int):=by omega
  have hi1:(k:Int)<11:=by omega
  have c0:=hcell.out k (by omega);simp only[Nat.zero_add] at c0
  by_cases hx:k+1=code
  ·have HX:=Lib.hid hx
   clear hx;go_wp2_with (go_at_call 100;refine(HI.out k (by omega) _ hb3).mono ?_;rintro e w4⟨rfl,rfl⟩;rw[decide_eq_true HX.out]);go_ret2;exact⟨by rw[←HX.out];simp,hb3⟩
  ·have HX:=Lib.hid hx
   clear hx;go_wp2_with (go_at_call 100;refine(HI.out k (by omega) _ hb3).mono ?_;rintro e w4⟨rfl,rfl⟩;rw[decide_eq_false HX.out]);go_round
   case rel=>exact⟨k+1,by have:=HX.out;omega,by go_num,rfl⟩
   case measure=>simp[intOf];omega
theorem code_bare(ea:Nat→Addr)(code:Nat)(w:World)(hG:GlobC w ea)(h0:code≠0)(h11:code≤11) :
 Calls Tryz.prog 45 #[errV ea code] w fun e w'=>e=.returned (.tuple #[.int .i64 code,.int .i64 (-1)])∧Below w.heap.size w w':=by
 have h:=code_gen ea (ea code) code w hG (by omega) (by
  intro k hk W hb;have h:=is_code ea (errV ea code) code (-1) k W (hG.below hb) (ErrIs.bare ea W code) h0 h11 hk
  rw[errV_pos ea h0] at h;exact h)
 rw[codeV,if_pos h11] at h;rw[errV_pos ea h0];exact h
theorem code_any(ea:Nat→Addr)(v:Value)(code:Nat)(pl:Int)(w:World)(hG:GlobC w ea)(hE:ErrIs ea w v code pl)(h11:code≤11) :
 Calls Tryz.prog 45 #[v] w fun e w'=>e=.returned (.tuple #[.int .i64 code,.int .i64 pl])∧Below w.heap.size w w':=by
 by_cases h0:code=0
 ·subst h0
  obtain rfl:=hE.place;obtain rfl:=hE.nil;exact(code_nil w).mono fun e w' ⟨h1,h2⟩=>⟨h1,by rw[h2];exact Below.refl _ _⟩
 ·rcases hE with⟨rfl,rfl⟩|⟨hp,_,b,rfl,hlt,hc0,hc1⟩
  ·exact code_bare ea code w hG h0 h11
  ·exact code_flt ea b pl code w hG h0 h11 hlt hp hc0 hc1
theorem coded3_any(ea:Nat→Addr)(v:Value)(code:Nat)(pl:Int)(c:Int)(w:World)(hG:GlobC w ea)(hE:ErrIs ea w v code pl)(h11:code≤11) :
 Calls Tryz.prog 12 #[v,.int .i64 c] w fun e w'=>e=.returned (.bool (decide ((code:Int)=c∧pl=-1)))∧Below w.heap.size w w':=by
 have HR:Hid (decide ((code:Int)=c∧pl=-1)=((code:Int)==c&&pl==-1)):=by unfold Hid;rw[Bool.eq_iff_iff];simp
 cases hx:((code:Int)==c)
 all_goals
  have HX:=Lib.hid hx;go_enter Tryz.func12,Tryz.ntmps12;go_wp2_with (go_at_call 45;refine(code_any ea v code pl w hG hE h11).mono ?_;rintro e w1⟨rfl,hb⟩);go_ret;exact⟨ret_bool (by rw[HR.out,HX.out];rfl),hb⟩
theorem faulted3_any(ea:Nat→Addr)(v:Value)(code:Nat)(pl:Int)(fc fa:Int)(w:World)(hG:GlobC w ea)(hE:ErrIs ea w v code pl)(h11:code≤11) :
 Calls Tryz.prog 23 #[v,.agg #[.int .i64 fc,.int .i64 fa]] w fun e w'=>e=.returned (.bool (decide ((code:Int)=fc∧(code=0∨pl=fa))))∧Below w.heap.size w w':=by
 have HR:Hid (decide ((code:Int)=fc∧(code=0∨pl=fa))=((code:Int)==fc&&((code:Int)==0||pl==fa))):=by unfold Hid;rw[Bool.eq_iff_iff];simp
 have hb0:Below w.heap.size w (w.alloc (.cells #[.int .i64 fc,.int .i64 fa] 55)):=(Below.refl _ _).alloc (Nat.le_refl _) _;have C:=Lib.hid (code_any ea v code pl _ (hG.below hb0) (hE.below hb0) h11);have HB:=Lib.hid hb0;clear hb0
 cases hx:((code:Int)==fc)<;>cases hy:((code:Int)==0)
 all_goals
  have HX:=Lib.hid hx;have HY:=Lib.hid hy;go_enter Tryz.func23,Tryz.ntmps23;go_wp2_with fail;refine C.out.mono ?_;rintro e w1⟨rfl,hb⟩;have c0:w1.cell? ⟨w.heap.size,0,none⟩=some (.int .i64 fc):=(hb.cell (p:=⟨w.heap.size,0,none⟩) (by simp)).trans (by simp);have c1:w1.cell? ⟨w.heap.size,1,none⟩=some (.int .i64 fa):=(hb.cell (p:=⟨w.heap.size,1,none⟩) (by simp)).trans (by simp);go_wp2;go_ret;exact⟨ret_bool (by rw[HR.out,HX.out,HY.out];rfl),HB.out.trans (hb.mono (by simp))⟩
theorem coded3_yes(ea:Nat→Addr)(v:Value)(code:Nat)(c:Int)(w:World)(hG:GlobC w ea)(hE:ErrIs ea w v code (-1))(h11:code≤11)(hc:(code:Int)=c) :
 Calls Tryz.prog 12 #[v,.int .i64 c] w fun e w'=>e=.returned (.bool true)∧Below w.heap.size w w':=
 (coded3_any ea v code (-1) c w hG hE h11).mono fun e w' ⟨h1,h2⟩=>⟨by rw[h1,decide_eq_true ⟨hc,rfl⟩],h2⟩
end Go.Proofs.YtppfkokfnoeopaaGreatDoor
