/- A part of a proof. -/
import Derived.LaidEql
import Derived.Stop.Asserts
import Derived.RowKitTokens
import Derived.Test.YtppfkokfnoeopaaGreatDoorSLib
set_option maxRecDepth 400000
set_option maxHeartbeats 6400000
namespace Go.Proofs.YtppfkokfnoeopaaGreatDoor
open Go.RowKit Go.Extern.Stop Go.Stop Go.Extern Go.Proofs.Tryz
theorem Rp(t:Addr)(w:World):(ReflectliteValue.unpack (.iface 131 (.pointer (some t)))).run prog w
 = .ok (.agg #[.pointer (some ⟨25,131,none⟩),.pointer (some ⟨w.heap.size,0,none⟩),.int .u64 150]) (w.alloc (.cells #[.pointer (some t)] 131)):=by kernel_rfl
theorem zBo (a : Addr) (w : World) : (ReflectliteValue.methodAny (ReflectliteValue.valueError "reflectlite.Value.Type" 0) (fun t _ _ _ => ReflectliteType.toType t) #[.agg #[.pointer (some ⟨25, 131, none⟩), .pointer (some a), .int .u64 150]]).run prog w
 = .ok (.iface 238 (.agg #[.pointer (some ⟨25,131,none⟩)])) w:=by kernel_rfl
theorem Pz (h : Value) (w : World) : (Go.method 484 238 (.agg #[h]) "Kind").run prog w = .ok (295, h) w := by kernel_rfl
theorem zBn(w:World):((ReflectliteType.abiMethod fun t=>(fun a:Nat=>Value.int IntKind.u8 (a:Int)) <$> Rtype.kind t) #[.pointer (some ⟨25,131,none⟩)]).run prog w=.ok (.int .u8 22) w:=by kernel_rfl
theorem zFr(w:World):((ReflectliteType.abiMethod fun t=>(fun a:Nat=>Value.int IntKind.u8 (a:Int)) <$> Rtype.kind t) #[.pointer (some ⟨25,113,none⟩)]).run prog w=.ok (.int .u8 22) w:=by kernel_rfl
theorem rlm(z:Sem Value)(f:TypeId→Addr→Nat→Nat→Sem Value)(v:Value) :
 ReflectliteValue.method z f #[v]=(do match ←ReflectliteValue.parts v with|none=>z|some (t,a,fl)=>f t a fl (fl%32)):=rfl
theorem Xm(a:Addr)(w:World):(ReflectliteValue.parts (.agg #[.pointer (some ⟨25,131,none⟩),.pointer (some a),.int .u64 150])).run prog w=.ok (some (131,a,150)) w:=by kernel_rfl
theorem Xl(a p:Addr)(W:World)(ha:W.cell? a=some (.pointer (some p))) :
 (ReflectliteValue.method (ReflectliteValue.valueError "reflectlite.Value.IsNil" 0) ReflectliteValue.isNil #[.agg #[.pointer (some ⟨25, 131, none⟩), .pointer (some a), .int .u64 150]]).run prog W = .ok (.bool false) W := by
 rw[rlm];simp only[Sem.run_bind,Xm,Result.andThen];simp[ReflectliteValue.isNil,loadVar,isAgg,underlying,underlying131,ha,Result.andThen]
theorem Py (h : Value) (w : World) : (Go.method 484 238 (.agg #[h]) "Elem").run prog w = .ok (308, .agg #[h]) w := by kernel_rfl
theorem I1 (h : Value) (w : World) : (Go.method 484 238 (.agg #[h]) "Implements").run prog w = .ok (309, .agg #[h]) w := by kernel_rfl
theorem Hc (h : Value) (w : World) : (Go.method 484 238 (.agg #[h]) "AssignableTo").run prog w = .ok (306, .agg #[h]) w := by kernel_rfl
theorem zBm(w:World):(ReflectliteType.method ReflectliteType.elem #[.agg #[.pointer (some ⟨25,131,none⟩)]]).run prog w=.ok (.iface 238 (.agg #[.pointer (some ⟨25,113,none⟩)])) w:=by kernel_rfl
theorem N2 (w : World) : (ReflectliteType.relation "Implements" ReflectliteType.implements_ #[.agg #[.pointer (some ⟨25, 113, none⟩)], .iface 238 (.agg #[.pointer (some ⟨25, 33, none⟩)])]).run prog w = .ok (.bool true) w := by kernel_rfl
theorem zFu(v:Value)(w:World):(ReflectliteType.typeOf #[.iface 113 v]).run prog w=.ok (.iface 238 (.agg #[.pointer (some ⟨25,113,none⟩)])) w:=by kernel_rfl
theorem Lq(v:Value)(w:World):(ReflectliteType.typeOf #[.iface 346 v]).run prog w=.ok (.iface 238 (.agg #[.pointer (some ⟨25,346,none⟩)])) w:=by kernel_rfl
theorem zFn (w : World) : (ReflectliteType.relation "AssignableTo" ReflectliteType.assignableTo #[.agg #[.pointer (some ⟨25, 113, none⟩)], .iface 238 (.agg #[.pointer (some ⟨25, 113, none⟩)])]).run prog w = .ok (.bool true) w := by kernel_rfl
theorem zFo (w : World) : (ReflectliteType.relation "AssignableTo" ReflectliteType.assignableTo #[.agg #[.pointer (some ⟨25, 346, none⟩)], .iface 238 (.agg #[.pointer (some ⟨25, 113, none⟩)])]).run prog w = .ok (.bool false) w := by kernel_rfl
theorem zCk(e:Addr)(w:World):(ReflectliteValue.unpack (.iface 113 (.pointer (some e)))).run prog w
 = .ok (.agg #[.pointer (some ⟨25,113,none⟩),.pointer (some ⟨w.heap.size,0,none⟩),.int .u64 150]) (w.alloc (.cells #[.pointer (some e)] 113)):=by kernel_rfl
theorem zCj(w:World):(Rtype.elem? 131).run prog w=.ok (some 113) w:=by kernel_rfl
theorem zKl(p:Addr)(w:World):(ReflectliteValue.mk 113 p ReflectliteValue.flagAddr).run prog w=.ok (.agg #[.pointer (some ⟨25,113,none⟩),.pointer (some p),.int .u64 406]) w:=by kernel_rfl
theorem zFq(a p:Addr)(W:World)(ha:W.cell? a=some (.pointer (some p))) :
 (ReflectliteValue.method (ReflectliteValue.valueError "reflectlite.Value.Elem" 0) ReflectliteValue.elem #[.agg #[.pointer (some ⟨25, 131, none⟩), .pointer (some a), .int .u64 150]]).run prog W
  = .ok (.agg #[.pointer (some ⟨25,113,none⟩),.pointer (some p),.int .u64 406]) W:=by
 rw[rlm];simp only[Sem.run_bind,Xm,Result.andThen];simp[ReflectliteValue.elem,loadVar,isAgg,underlying,underlying131,ha,Result.andThen,zCj,zKl]
theorem rls(v x:Value):ReflectliteValue.set #[v,x]=(do
 let (some (dst,a,fl),some (src,b,_)):=(←ReflectliteValue.parts v,←ReflectliteValue.parts x)
  | unsupported (.noEntry "extern/(internal/reflectlite.Value).Set.zeroValue")
 if fl / ReflectliteValue.flagAddr % 2 == 0 then unsupported (.noEntry "extern/(internal/reflectlite.Value).Set.unaddressable")
 let val ←loadVar src b
 if ←Rtype.directlyAssignable dst src then storeVar dst a val
 else if ←Rtype.implements dst src then
  if (←Rtype.kind src)==20 then
   match val with
   | .nilIface => unsupported (.noEntry "extern/reflectlite: a nil value of one interface type handed on as a value of another")
   | _=>storeVar dst a val
  else storeVar dst a (.iface src val)
 else panicString ("reflectlite.Set: value of type " ++ (← Rtype.spelt src) ++ " is not assignable to type " ++ (← Rtype.spelt dst))
 pure (.tuple #[])):=rfl
theorem zFt(a:Addr)(w:World):(ReflectliteValue.parts (.agg #[.pointer (some ⟨25,113,none⟩),.pointer (some a),.int .u64 406])).run prog w=.ok (some (113,a,406)) w:=by kernel_rfl
theorem zH4(a:Addr)(w:World):(ReflectliteValue.parts (.agg #[.pointer (some ⟨25,113,none⟩),.pointer (some a),.int .u64 150])).run prog w=.ok (some (113,a,150)) w:=by kernel_rfl
theorem zFp(w:World):(Rtype.directlyAssignable 113 113).run prog w=.ok true w:=by kernel_rfl
theorem zKb(ta b e:Addr)(old:Value)(W:World)(hb:W.cell? b=some (.pointer (some e)))(ht:W.cell? ta=some old)(hf:W.frozen? ta=false) :
 (ReflectliteValue.set #[.agg #[.pointer (some ⟨25,113,none⟩),.pointer (some ta),.int .u64 406],.agg #[.pointer (some ⟨25,113,none⟩),.pointer (some b),.int .u64 150]]).run prog W
  = .ok (.tuple #[]) (W.setCell ta (.pointer (some e))):=by
 rw[rls];simp only[Sem.run_bind,zFt,zH4,Result.andThen];simp[ReflectliteValue.flagAddr,loadVar,isAgg,underlying,underlying113,hb,Result.andThen,zFp,storeVar,Value.cells,storeCells,Addr.add];rw[run_store prog W ta _ _ (by rfl)];simp[ht,hf]
def Fs(w:World):Prop:=11<w.heap.size∧w.cell? ⟨11,0,none⟩=some (.iface 238 (.agg #[.pointer (some ⟨25,33,none⟩)]))
theorem Fs.below{w w':World}(h:Fs w)(hb:Below w.heap.size w w'):Fs w':=
 ⟨Nat.lt_of_lt_of_le h.1 hb.size,(hb.cell (p:=⟨11,0,none⟩) h.1).trans h.2⟩
theorem Zi(e t:Addr)(old:Value)(w:World)(hE:Fs w)(ht0:w.cell? t=some old)(hf0:w.frozen? t=false) :
 Calls prog 77 #[.iface 113 (.pointer (some e)),.iface 131 (.pointer (some t))] w fun ev w'=>ev=.returned (.bool true)∧w'=((((w.alloc (.cells #[.pointer (some t)] 131)).alloc (.cells #[.pointer (some ⟨25,131,none⟩),.pointer (some ⟨w.heap.size,0,none⟩),.int .u64 150] 193)).alloc (.cells #[.pointer (some ⟨25,131,none⟩),.pointer (some ⟨w.heap.size,0,none⟩),.int .u64 150] 193)).alloc (.cells #[.pointer (some e)] 113)).setCell t (.pointer (some e)):=by
 have h6:=@run_callFunc_extern prog 131 _ (fun args=>ReflectliteValue.unpack (args.getD 0 (.tuple #[]))) func131 (by kernel_rfl) (by kernel_rfl) (by kernel_rfl) (by kernel_rfl);have h7 := @run_callFunc_extern prog 132 _ (ReflectliteValue.methodAny (ReflectliteValue.valueError "reflectlite.Value.Type" 0) (fun t _ _ _ => ReflectliteType.toType t)) func132 (by kernel_rfl) (by kernel_rfl) (by kernel_rfl) (by kernel_rfl);have h8 := @run_callFunc_extern prog 133 _ (ReflectliteValue.method (ReflectliteValue.valueError "reflectlite.Value.IsNil" 0) ReflectliteValue.isNil) func133 (by kernel_rfl) (by kernel_rfl) (by kernel_rfl) (by kernel_rfl);have h27:=@run_callFunc_extern prog 295 _ (ReflectliteType.abiMethod fun t=>do pure (.int .u8 (←Rtype.kind t))) func295 (by kernel_rfl) (by kernel_rfl) (by kernel_rfl) (by kernel_rfl);have h37:=@run_callFunc_extern prog 308 _ (ReflectliteType.method ReflectliteType.elem) func308 (by kernel_rfl) (by kernel_rfl) (by kernel_rfl) (by kernel_rfl);have h38 := @run_callFunc_extern prog 309 _ (ReflectliteType.relation "Implements" ReflectliteType.implements_) func309 (by kernel_rfl) (by kernel_rfl) (by kernel_rfl) (by kernel_rfl);have h10:=@run_callFunc_extern prog 148 _ ReflectliteType.typeOf func148 (by kernel_rfl) (by kernel_rfl) (by kernel_rfl) (by kernel_rfl);have h35 := @run_callFunc_extern prog 306 _ (ReflectliteType.relation "AssignableTo" ReflectliteType.assignableTo) func306 (by kernel_rfl) (by kernel_rfl) (by kernel_rfl) (by kernel_rfl);have h11 := @run_callFunc_extern prog 178 _ (ReflectliteValue.method (ReflectliteValue.valueError "reflectlite.Value.Elem" 0) ReflectliteValue.elem) func178 (by kernel_rfl) (by kernel_rfl) (by kernel_rfl) (by kernel_rfl);have h12:=@run_callFunc_extern prog 179 _ ReflectliteValue.set func179 (by kernel_rfl) (by kernel_rfl) (by kernel_rfl) (by kernel_rfl);have tO:=zFu;have mA:=Hc;have a25:=zFn;have v25:=zCk;have f6:=Rp;have f7:=zBo;have mK:=Pz;have mE:=Py;have mI:=I1;have k27:=zBn;have k25:=zFr;have e27:=zBm;have i25:=N2;obtain⟨hlt,hg⟩:=hE;have n8:=Xl ⟨w.heap.size,0,none⟩ t ((w.alloc (.cells #[.pointer (some t)] 131)).alloc (.cells #[.pointer (some ⟨25,131,none⟩),.pointer (some ⟨w.heap.size,0,none⟩),.int .u64 150] 193)) (by simp)
 have hg2:((w.alloc (.cells #[.pointer (some t)] 131)).alloc (.cells #[.pointer (some ⟨25,131,none⟩),.pointer (some ⟨w.heap.size,0,none⟩),.int .u64 150] 193)).cell? ⟨11,0,none⟩=some (.iface 238 (.agg #[.pointer (some ⟨25,33,none⟩)])):=by
  rw[World.cell?_alloc_lt _ _ ⟨11,0,none⟩ (by simp;omega),World.cell?_alloc_lt _ _ ⟨11,0,none⟩ hlt];exact hg
 have htl:t.block<w.heap.size:=by
  rcases Nat.lt_or_ge t.block w.heap.size with h|h
  ·exact h
  ·simp[World.cell?,Array.getElem?_eq_none h] at ht0
 have el:=zFq ⟨w.heap.size,0,none⟩ t (((w.alloc (.cells #[.pointer (some t)] 131)).alloc (.cells #[.pointer (some ⟨25,131,none⟩),.pointer (some ⟨w.heap.size,0,none⟩),.int .u64 150] 193)).alloc (.cells #[.pointer (some ⟨25,131,none⟩),.pointer (some ⟨w.heap.size,0,none⟩),.int .u64 150] 193)) (by rw[World.cell?_alloc_lt _ _ ⟨w.heap.size,0,none⟩ (by simp;omega)];simp)
 have st:=zKb t ⟨w.heap.size+1+1+1,0,none⟩ e old ((((w.alloc (.cells #[.pointer (some t)] 131)).alloc (.cells #[.pointer (some ⟨25,131,none⟩),.pointer (some ⟨w.heap.size,0,none⟩),.int .u64 150] 193)).alloc (.cells #[.pointer (some ⟨25,131,none⟩),.pointer (some ⟨w.heap.size,0,none⟩),.int .u64 150] 193)).alloc (.cells #[.pointer (some e)] 113))
  (by rw[World.cell?_alloc_at _ _ _ _ (by simp)];rfl)
  (by rw[World.cell?_alloc_lt _ _ t (by simp;omega),World.cell?_alloc_lt _ _ t (by simp;omega),World.cell?_alloc_lt _ _ t (by simp;omega),World.cell?_alloc_lt _ _ t htl];exact ht0)
  (by rw[World.frozen?_alloc_old _ _ t (by simp;omega),World.frozen?_alloc_old _ _ t (by simp;omega),World.frozen?_alloc_old _ _ t (by simp;omega),World.frozen?_alloc_old _ _ t (Nat.ne_of_lt htl)];exact hf0)
 go_enter func77,ntmps77;go_wp2;refine wp_loop_rounds 1 ?_;rw[rounds_succ];go_wp2;go_ret;exact⟨rfl,rfl⟩
theorem zJp(v:Value)(xT:TypeId)(w:World):(Instr.typeAssert (.iface 346 v) xT 242 true).run prog w=.ok (.tuple #[.nilIface,.bool false]) w:=run_typeAssert_lacksB underlying242 (by kernel_rfl) (by kernel_rfl) v xT w
theorem Zt(v:Value)(xT:TypeId)(w:World):(Instr.typeAssert (.iface 346 v) xT 266 true).run prog w=.ok (.tuple #[.nilIface,.bool false]) w:=run_typeAssert_lacksB underlying266 (by kernel_rfl) (by kernel_rfl) v xT w
theorem Kk(v:Value)(xT:TypeId)(w:World):(Instr.typeAssert (.iface 346 v) xT 245 true).run prog w=.ok (.tuple #[.nilIface,.bool false]) w:=run_typeAssert_lacksB underlying245 (by kernel_rfl) (by kernel_rfl) v xT w
theorem I2(v:Value)(xT:TypeId)(w:World):(Instr.typeAssert (.iface 346 v) xT 247 true).run prog w=.ok (.tuple #[.nilIface,.bool false]) w:=run_typeAssert_lacksB underlying247 (by kernel_rfl) (by kernel_rfl) v xT w
theorem zFs(v:Value)(xT:TypeId)(w:World):(Instr.typeAssert (.iface 113 v) xT 266 true).run prog w=.ok (.tuple #[.nilIface,.bool false]) w:=run_typeAssert_lacksB underlying266 (by kernel_rfl) (by kernel_rfl) v xT w
theorem Px(v:Value)(xT:TypeId)(w:World):(Instr.typeAssert (.iface 113 v) xT 245 true).run prog w=.ok (.tuple #[.iface 113 v,.bool true]) w:=run_typeAssert_hasB underlying245 (by kernel_rfl) v xT w
theorem Mu (v : Value) (w : World) : (Go.method 484 113 v "Unwrap").run prog w = .ok (299, v) w := by kernel_rfl
theorem Vr(e t:Addr)(w:World)(hE:Fs w) :
 Calls prog 77 #[.iface 346 (.pointer (some e)),.iface 131 (.pointer (some t))] w fun ev w'=>ev=.returned (.bool false)∧w'=(((w.alloc (.cells #[.pointer (some t)] 131)).alloc (.cells #[.pointer (some ⟨25,131,none⟩),.pointer (some ⟨w.heap.size,0,none⟩),.int .u64 150] 193)).alloc (.cells #[.pointer (some ⟨25,131,none⟩),.pointer (some ⟨w.heap.size,0,none⟩),.int .u64 150] 193)):=by
 have h6:=@run_callFunc_extern prog 131 _ (fun args=>ReflectliteValue.unpack (args.getD 0 (.tuple #[]))) func131 (by kernel_rfl) (by kernel_rfl) (by kernel_rfl) (by kernel_rfl);have h7 := @run_callFunc_extern prog 132 _ (ReflectliteValue.methodAny (ReflectliteValue.valueError "reflectlite.Value.Type" 0) (fun t _ _ _ => ReflectliteType.toType t)) func132 (by kernel_rfl) (by kernel_rfl) (by kernel_rfl) (by kernel_rfl);have h8 := @run_callFunc_extern prog 133 _ (ReflectliteValue.method (ReflectliteValue.valueError "reflectlite.Value.IsNil" 0) ReflectliteValue.isNil) func133 (by kernel_rfl) (by kernel_rfl) (by kernel_rfl) (by kernel_rfl);have h27:=@run_callFunc_extern prog 295 _ (ReflectliteType.abiMethod fun t=>do pure (.int .u8 (←Rtype.kind t))) func295 (by kernel_rfl) (by kernel_rfl) (by kernel_rfl) (by kernel_rfl);have h37:=@run_callFunc_extern prog 308 _ (ReflectliteType.method ReflectliteType.elem) func308 (by kernel_rfl) (by kernel_rfl) (by kernel_rfl) (by kernel_rfl);have h38 := @run_callFunc_extern prog 309 _ (ReflectliteType.relation "Implements" ReflectliteType.implements_) func309 (by kernel_rfl) (by kernel_rfl) (by kernel_rfl) (by kernel_rfl);have h10:=@run_callFunc_extern prog 148 _ ReflectliteType.typeOf func148 (by kernel_rfl) (by kernel_rfl) (by kernel_rfl) (by kernel_rfl);have h35 := @run_callFunc_extern prog 306 _ (ReflectliteType.relation "AssignableTo" ReflectliteType.assignableTo) func306 (by kernel_rfl) (by kernel_rfl) (by kernel_rfl) (by kernel_rfl);have tO:=Lq;have mA:=Hc;have a25:=zFo;have f6:=Rp;have f7:=zBo;have mK:=Pz;have mE:=Py;have mI:=I1;have k27:=zBn;have k25:=zFr;have e27:=zBm;have i25:=N2;have nA:=zJp;have nU:=Kk;have nV:=I2;obtain⟨hlt,hg⟩:=hE;have n8:=Xl ⟨w.heap.size,0,none⟩ t ((w.alloc (.cells #[.pointer (some t)] 131)).alloc (.cells #[.pointer (some ⟨25,131,none⟩),.pointer (some ⟨w.heap.size,0,none⟩),.int .u64 150] 193)) (by simp)
 have hg2:((w.alloc (.cells #[.pointer (some t)] 131)).alloc (.cells #[.pointer (some ⟨25,131,none⟩),.pointer (some ⟨w.heap.size,0,none⟩),.int .u64 150] 193)).cell? ⟨11,0,none⟩=some (.iface 238 (.agg #[.pointer (some ⟨25,33,none⟩)])):=by
  rw[World.cell?_alloc_lt _ _ ⟨11,0,none⟩ (by simp;omega),World.cell?_alloc_lt _ _ ⟨11,0,none⟩ hlt];exact hg
 go_enter func77,ntmps77;go_wp2;refine wp_loop_rounds 1 ?_;rw[rounds_succ];go_wp2;go_ret;exact⟨rfl,rfl⟩
def zFd : Array Value → Sem Value := Extern.ReflectliteType.method fun t => do Rtype.noPackHeld "Comparable" t; pure (.bool (← typeInfo t).comparable)
theorem I0(w:World):(zFd #[.agg #[.pointer (some ⟨25,346,none⟩)]]).run prog w=.ok (.bool true) w:=by kernel_rfl
theorem E3 (v : Value) (w : World) : (Go.method 484 238 v "Comparable").run prog w = .ok (307, v) w := by kernel_rfl
theorem Q5:(prog.info? 346).map (·.comparable)=some true:=by kernel_rfl
theorem Q6:(prog.info? 348).map (·.size)=some 1:=by kernel_rfl
theorem zIa(a:Addr)(w:World) :
 Calls prog 100 #[.iface 346 (.pointer (some a)),.iface 346 (.pointer (some a))] w fun e w'=>e=.returned (.bool true)∧w'=w:=by
 obtain⟨i,hi,hcmp⟩:=Option.map_eq_some_iff.1 Q5;obtain⟨j,hj,hjs⟩:=Option.map_eq_some_iff.1 Q6;have h8:=@run_callFunc_extern prog 148 _ Extern.ReflectliteType.typeOf func148 (by kernel_rfl) (by kernel_rfl) (by kernel_rfl) (by kernel_rfl);have h32:=@run_callFunc_extern prog 307 _ zFd func307 (by kernel_rfl) (by kernel_rfl) (by kernel_rfl) (by kernel_rfl);have tT:=Lq;have cT:=I0;have mR:=E3;have heq:=run_eql_iface_ptr_same (P:=prog) w a underlying33 underlying346 hi hcmp hj;go_enter func100,ntmps100;go_wp2;refine wp_loop_rounds 1 ?_;rw[rounds_succ];go_wp2;go_ret;exact⟨rfl,rfl⟩
theorem zF9(a b:Addr)(ca cb:Array Value)(ta tb:TypeId)(w:World)(hne:a≠b)(ha:w.heap[a.block]?=some (.cells ca ta (0,0)))(hb:w.heap[b.block]?=some (.cells cb tb (0,0))) :
 Calls prog 100 #[.iface 346 (.pointer (some a)),.iface 346 (.pointer (some b))] w fun e w'=>e=.returned (.bool false)∧w'=w:=by
 obtain⟨i,hi,hcmp⟩:=Option.map_eq_some_iff.1 Q5;obtain⟨j,hj,hjs⟩:=Option.map_eq_some_iff.1 Q6;have h8:=@run_callFunc_extern prog 148 _ Extern.ReflectliteType.typeOf func148 (by kernel_rfl) (by kernel_rfl) (by kernel_rfl) (by kernel_rfl);have h32:=@run_callFunc_extern prog 307 _ zFd func307 (by kernel_rfl) (by kernel_rfl) (by kernel_rfl) (by kernel_rfl);have tT:=Lq;have cT:=I0;have mR:=E3;have nE:=Zt;have uE:=Kk;have vE:=I2;have heq:=run_eql_iface_ptr_other (P:=prog) w underlying33 underlying346 hi hcmp hj (by rw[hjs];decide) hne ha hb;go_enter func100,ntmps100;go_wp2;refine wp_loop_rounds 1 ?_;rw[rounds_succ];go_wp2;go_ret;exact⟨rfl,rfl⟩
theorem X1(pb po:Nat)(b:Addr)(w:World)(h1:w.cell? ⟨pb,po+1,none⟩=some (.iface 346 (.pointer (some b)))) :
 Calls prog 100 #[.iface 113 (.pointer (some ⟨pb,po,none⟩)),.iface 346 (.pointer (some b))] w fun e w'=>e=.returned (.bool true)∧w'=w:=by
 obtain⟨i,hi,hcmp⟩:=Option.map_eq_some_iff.1 Q5;obtain⟨j,hj,hjs⟩:=Option.map_eq_some_iff.1 Q6;have h8:=@run_callFunc_extern prog 148 _ Extern.ReflectliteType.typeOf func148 (by kernel_rfl) (by kernel_rfl) (by kernel_rfl) (by kernel_rfl);have h32:=@run_callFunc_extern prog 307 _ zFd func307 (by kernel_rfl) (by kernel_rfl) (by kernel_rfl) (by kernel_rfl);have tT:=Lq;have cT:=I0;have mR:=E3;have nE:=Zt;have uE:=Kk;have vE:=I2;have nW:=zFs;have uW:=Px;have mU:=Mu;have heq:=run_eql_iface_ptr_same (P:=prog) w b underlying33 underlying346 hi hcmp hj;have hty:=run_eql_iface_types (P:=prog) 113 346 (.pointer (some ⟨pb,po,none⟩)) (.pointer (some b)) underlying33 (by decide) w;go_enter func100,ntmps100;go_wp2;refine wp_loop_rounds 2 ?_;rw[rounds_succ];go_wp2;rw[rounds_succ];go_wp2;go_ret;exact⟨rfl,rfl⟩
theorem V4(pb po:Nat)(b a:Addr)(ca cb:Array Value)(ta tb:TypeId)(w:World)(h1:w.cell? ⟨pb,po+1,none⟩=some (.iface 346 (.pointer (some a))))(hne:a≠b)(ha:w.heap[a.block]?=some (.cells ca ta (0,0)))(hb:w.heap[b.block]?=some (.cells cb tb (0,0))) :
 Calls prog 100 #[.iface 113 (.pointer (some ⟨pb,po,none⟩)),.iface 346 (.pointer (some b))] w fun e w'=>e=.returned (.bool false)∧w'=w:=by
 obtain⟨i,hi,hcmp⟩:=Option.map_eq_some_iff.1 Q5;obtain⟨j,hj,hjs⟩:=Option.map_eq_some_iff.1 Q6;have h8:=@run_callFunc_extern prog 148 _ Extern.ReflectliteType.typeOf func148 (by kernel_rfl) (by kernel_rfl) (by kernel_rfl) (by kernel_rfl);have h32:=@run_callFunc_extern prog 307 _ zFd func307 (by kernel_rfl) (by kernel_rfl) (by kernel_rfl) (by kernel_rfl);have tT:=Lq;have cT:=I0;have mR:=E3;have nE:=Zt;have uE:=Kk;have vE:=I2;have nW:=zFs;have uW:=Px;have mU:=Mu;have heq:=run_eql_iface_ptr_other (P:=prog) w underlying33 underlying346 hi hcmp hj (by rw[hjs];decide) hne ha hb;have hty:=run_eql_iface_types (P:=prog) 113 346 (.pointer (some ⟨pb,po,none⟩)) (.pointer (some b)) underlying33 (by decide) w;go_enter func100,ntmps100;go_wp2;refine wp_loop_rounds 2 ?_;rw[rounds_succ];go_wp2;rw[rounds_succ];go_wp2;go_ret;exact⟨rfl,rfl⟩
end Go.Proofs.YtppfkokfnoeopaaGreatDoor
namespace Go.Proofs.YtppfkokfnoeopaaGreatDoor
open Go.RowKit Go.Proofs.Tryz
structure E6(w:World)(ea:Nat→Addr):Prop where
 glob:Bh w ea [1,2,3,4,5,6,7,8,9,10,11]
 cells:∀k,1≤k→k≤11→∃ca ta,w.heap[(ea k).block]?=some (.cells ca ta (0,0))
 inj:∀j k,1≤j→j≤11→1≤k→k≤11→ea j=ea k→j=k
 typ:Fs w
theorem E6.below{w w':World}{ea:Nat→Addr}(h:E6 w ea)(hb:Below w.heap.size w w'):E6 w' ea where
 glob:=h.glob.below hb
 cells:=fun k h1 h2=>by
  obtain⟨ca,ta,hc⟩:=h.cells k h1 h2;have hlt:(ea k).block<w.heap.size:=(Array.getElem?_eq_some_iff.1 hc).1;exact⟨ca,ta,(hb.block _ hlt).trans hc⟩
 inj:=h.inj
 typ:=h.typ.below hb
theorem E6.sub{w:World}{ea:Nat→Addr}(h:E6 w ea){ls:List Nat}(hs:∀k∈ls,k∈[1,2,3,4,5,6,7,8,9,10,11]):Bh w ea ls:=h.glob.sub hs
theorem zBu(ea:Nat→Addr)(v:Value)(code:Nat)(pl:Int)(k:Nat)(w:World)(hG:E6 w ea)(hE:Bg ea w v code pl)(h0:code≠0)(h11:code≤11)(hk:k<11) :
 Calls prog 100 #[v,Bm ea (k+1)] w fun e w'=>e=.returned (.bool (decide (k+1=code)))∧w=w':=by
 rw[Ae ea (show k+1≠0 by omega)];obtain⟨ca,ta,hca⟩:=hG.cells code (by omega) h11;obtain⟨cb,tb,hcb⟩:=hG.cells (k+1) (by omega) (by omega)
 rcases hE with⟨_,rfl⟩|⟨_,_,b,rfl,hlt,_,hc⟩
 ·rw[Ae ea h0]
  by_cases hx:k+1=code
  ·rw[hx,decide_eq_true rfl]
   exact(zIa (ea code) w).mono fun e w' ⟨h1,h2⟩=>⟨h1,h2.symm⟩
  ·rw[decide_eq_false hx]
   exact(zF9 (ea code) (ea (k+1)) ca cb ta tb w (fun e=>hx (hG.inj _ _ (by omega) (by omega) (by omega) h11 e.symm)) hca hcb).mono fun e w' ⟨h1,h2⟩=>⟨h1,h2.symm⟩
 ·rw[Ae ea h0] at hc
  by_cases hx:k+1=code
  ·rw[hx,decide_eq_true rfl]
   exact(X1 b 0 (ea code) w hc).mono fun e w' ⟨h1,h2⟩=>⟨h1,h2.symm⟩
  ·rw[decide_eq_false hx]
   exact(V4 b 0 (ea (k+1)) (ea code) ca cb ta tb w hc (fun e=>hx (hG.inj _ _ (by omega) (by omega) (by omega) h11 e.symm)) hca hcb).mono fun e w' ⟨h1,h2⟩=>⟨h1,h2.symm⟩
def N6(ea:Nat→Addr):List Value:=[.iface 346 (.pointer (some (ea 1))),.iface 346 (.pointer (some (ea 2))),.iface 346 (.pointer (some (ea 3))),.iface 346 (.pointer (some (ea 4))),.iface 346 (.pointer (some (ea 5))),.iface 346 (.pointer (some (ea 6))),.iface 346 (.pointer (some (ea 7))),.iface 346 (.pointer (some (ea 8))),.iface 346 (.pointer (some (ea 9))),.iface 346 (.pointer (some (ea 10))),.iface 346 (.pointer (some (ea 11)))]
theorem Un(ea:Nat→Addr)(k:Nat)(hk:k<11):(N6 ea)[k]?=some (Bm ea (k+1)):=by
 rw[Ae ea (by omega)];have h:k=0∨k=1∨k=2∨k=3∨k=4∨k=5∨k=6∨k=7∨k=8∨k=9∨k=10:=by omega
 rcases h with rfl|rfl|rfl|rfl|rfl|rfl|rfl|rfl|rfl|rfl|rfl<;>rfl
theorem Bg.place{ea:Nat→Addr}{w:World}{v:Value}{pl:Int}(h:Bg ea w v 0 pl):pl=-1:=by
 rcases h with⟨h,_⟩|⟨_,h,_⟩
 ·exact h
 ·exact absurd rfl h
theorem zFh(w:World):Calls prog 45 #[.nilIface] w fun e w'=>e=.returned (.tuple #[.int .i64 0,.int .i64 (-1)])∧w=w':=by
 go_enter func45,ntmps45;go_wp2;go_ret2;exact⟨rfl,rfl⟩
def Um(code:Nat):Int:=if code≤11 then(code:Int) else -1
theorem zFg(ea:Nat→Addr)(A:Addr)(code:Nat)(w:World)(hG:E6 w ea)(h0:1≤code)
 (HI:Hid (∀k,k<11→∀W,Below w.heap.size w W→Calls prog 100 #[.iface 346 (.pointer (some A)),Bm ea (k+1)] W fun e w'=>e=.returned (.bool (decide (k+1=code)))∧W=w')) :
 Calls prog 45 #[.iface 346 (.pointer (some A))] w fun e w'=>e=.returned (.tuple #[.int .i64 (Um code),.int .i64 (-1)])∧Below w.heap.size w w':=by
 have HG:=zh hG;clear hG;go_enter func45,ntmps45;go_wp2_with fail;refine(Vr A ⟨w.heap.size,0,none⟩ _ (HG.out.typ.below (zb.alloc zl _))).mono ?_;rintro e w2⟨rfl,hw2⟩
 have hb2:Below w.heap.size w w2:=by
  rw[hw2];exact(((zb.alloc zl _).alloc (by simp) _).alloc (by simp;omega) _).alloc (by simp;omega) _
 clear hw2;have g1:=(HG.out.glob.below hb2).cell 1 (by simp);have g2:=(HG.out.glob.below hb2).cell 2 (by simp);have g3:=(HG.out.glob.below hb2).cell 3 (by simp);have g4:=(HG.out.glob.below hb2).cell 4 (by simp);have g5:=(HG.out.glob.below hb2).cell 5 (by simp);have g6:=(HG.out.glob.below hb2).cell 6 (by simp);have g7:=(HG.out.glob.below hb2).cell 7 (by simp);have g8:=(HG.out.glob.below hb2).cell 8 (by simp);have g9:=(HG.out.glob.below hb2).cell 9 (by simp);have g10:=(HG.out.glob.below hb2).cell 10 (by simp);have g11:=(HG.out.glob.below hb2).cell 11 (by simp);simp only[gOf] at g1 g2 g3 g4 g5 g6 g7 g8 g9 g10 g11;rw[Ae ea (by decide)] at g1;rw[Ae ea (by decide)] at g2;rw[Ae ea (by decide)] at g3;rw[Ae ea (by decide)] at g4;rw[Ae ea (by decide)] at g5;rw[Ae ea (by decide)] at g6;rw[Ae ea (by decide)] at g7;rw[Ae ea (by decide)] at g8;rw[Ae ea (by decide)] at g9;rw[Ae ea (by decide)] at g10;rw[Ae ea (by decide)] at g11;go_wp2;clear g1 g2 g3 g4 g5 g6 g7 g8 g9 g10 g11;have hb3:Below w.heap.size w (w2.alloc (.cells (N6 ea).toArray 33)):=hb2.alloc hb2.size _;have hcell:=zh (fun(k:Nat) (hk:k<11)=>(Ac.new_at w2 (N6 ea) 33 _ rfl).cell (Un ea k hk))
 change Code.wp _ _ _ _ (w2.alloc (.cells (N6 ea).toArray 33))
 generalize w2.alloc (.cells (N6 ea).toArray 33)=w3 at *;go_loop [3,29] (fun at3 i=>∃k:Nat,k≤11∧k<code∧i=.int .i64 k∧at3=.int .i64 (-1)) (fun _ i=>11-(intOf i).toNat)
 case atStart=>exact⟨0,by omega,by omega,rfl,rfl⟩
 case round=>
  obtain⟨k,hk,hkc,rfl,rfl⟩:=hrel
  by_cases hlt:k<11
  ·have hi0:(0:Int)≤(k:Int):=by omega
   have hi1:(k:Int)<11:=by omega
   have c0:=hcell.out k (by omega);simp only[Nat.zero_add] at c0
   by_cases hx:k+1=code
   ·have HCV:=zh (show Um code=(code:Int) by rw[Um,if_pos (by omega)])
    have HX:=zh hx;clear hx;go_wp2_with (go_at_call 100;refine(HI.out k (by omega) _ hb3).mono ?_;rintro e w4⟨rfl,rfl⟩;rw[decide_eq_true HX.out]);go_ret2;exact⟨by rw[HCV.out,←HX.out];simp,hb3⟩
   ·have HX:=zh hx
    clear hx;go_wp2_with (go_at_call 100;refine(HI.out k (by omega) _ hb3).mono ?_;rintro e w4⟨rfl,rfl⟩;rw[decide_eq_false HX.out]);go_round
    case rel=>exact⟨k+1,by omega,by have:=HX.out;omega,by go_num,rfl⟩
    case measure=>simp[intOf];omega
  ·obtain rfl:k=11:=by omega
   have hc:Um code=-1:=by rw[Um,if_neg (by omega)]
   have HC:=zh hc;clear hc;go_wp2;go_ret2;exact⟨by rw[HC.out];rfl,hb3⟩
theorem zFf(ea:Nat→Addr)(b:Nat)(pl:Int)(code:Nat)(w:World)(hG:E6 w ea)(h0:code≠0)(h11:code≤11)(hlt:b<w.heap.size)(hp:0≤pl)(hc0:w.cell? ⟨b,0,none⟩=some (.int .i64 pl))(hc1:w.cell? ⟨b,1,none⟩=some (Bm ea code)) :
 Calls prog 45 #[.iface 113 (.pointer (some ⟨b,0,none⟩))] w fun e w'=>e=.returned (.tuple #[.int .i64 code,.int .i64 pl])∧Below w.heap.size w w':=by
 have HI:=zh (fun(k:Nat) (hk:k<11) (W:World) (hb:Below w.heap.size w W)=>zBu ea (Zx b) code pl k W (hG.below hb) (Or.inr ⟨hp,h0,b,rfl,Nat.lt_of_lt_of_le hlt hb.size,(hb.cell (p:=⟨b,0,none⟩) hlt).trans hc0,(hb.cell (p:=⟨b,1,none⟩) hlt).trans hc1⟩) h0 h11 hk);rw[Zx] at HI;have HG:=zh hG;have HC0:=zh hc0;clear hG hc0 hc1;go_enter func45,ntmps45;go_wp2_with fail;refine(Zi ⟨b,0,none⟩ ⟨w.heap.size,0,none⟩ (.pointer none) _ (HG.out.typ.below (zb.alloc zl _)) (by simp) (by simp)).mono ?_;rintro e w2⟨rfl,hw2⟩
 have hb2:Below w.heap.size w w2:=by
  rw[hw2];exact(((((zb.alloc zl _).alloc (by simp) _).alloc (by simp;omega) _).alloc (by simp;omega) _).alloc (by simp;omega) _).setCell (by simp) _
 have ct:w2.cell? ⟨w.heap.size,0,none⟩=some (.pointer (some ⟨b,0,none⟩)):=by
  rw[hw2];refine World.cell?_setCell_same' _ _ _ ?_;rw[World.cell?_alloc_lt _ _ ⟨w.heap.size,0,none⟩ (by simp;omega),World.cell?_alloc_lt _ _ ⟨w.heap.size,0,none⟩ (by simp;omega),World.cell?_alloc_lt _ _ ⟨w.heap.size,0,none⟩ (by simp;omega),World.cell?_alloc_lt _ _ ⟨w.heap.size,0,none⟩ (by simp)];simp
 clear hw2;have c0:=(hb2.cell (p:=⟨b,0,none⟩) hlt).trans HC0.out;have g1:=(HG.out.glob.below hb2).cell 1 (by simp);have g2:=(HG.out.glob.below hb2).cell 2 (by simp);have g3:=(HG.out.glob.below hb2).cell 3 (by simp);have g4:=(HG.out.glob.below hb2).cell 4 (by simp);have g5:=(HG.out.glob.below hb2).cell 5 (by simp);have g6:=(HG.out.glob.below hb2).cell 6 (by simp);have g7:=(HG.out.glob.below hb2).cell 7 (by simp);have g8:=(HG.out.glob.below hb2).cell 8 (by simp);have g9:=(HG.out.glob.below hb2).cell 9 (by simp);have g10:=(HG.out.glob.below hb2).cell 10 (by simp);have g11:=(HG.out.glob.below hb2).cell 11 (by simp);simp only[gOf] at g1 g2 g3 g4 g5 g6 g7 g8 g9 g10 g11;rw[Ae ea (by decide)] at g1;rw[Ae ea (by decide)] at g2;rw[Ae ea (by decide)] at g3;rw[Ae ea (by decide)] at g4;rw[Ae ea (by decide)] at g5;rw[Ae ea (by decide)] at g6;rw[Ae ea (by decide)] at g7;rw[Ae ea (by decide)] at g8;rw[Ae ea (by decide)] at g9;rw[Ae ea (by decide)] at g10;rw[Ae ea (by decide)] at g11;go_wp2;clear g1 g2 g3 g4 g5 g6 g7 g8 g9 g10 g11;have hb3:Below w.heap.size w (w2.alloc (.cells (N6 ea).toArray 33)):=hb2.alloc hb2.size _;have hcell:=zh (fun(k:Nat) (hk:k<11)=>(Ac.new_at w2 (N6 ea) 33 _ rfl).cell (Un ea k hk))
 change Code.wp _ _ _ _ (w2.alloc (.cells (N6 ea).toArray 33))
 clear c0 ct;generalize w2.alloc (.cells (N6 ea).toArray 33)=w3 at *;go_loop [3,29] (fun at3 i=>∃k:Nat,k<code∧i=.int .i64 k∧at3=.int .i64 pl) (fun _ i=>11-(intOf i).toNat)
 case atStart=>exact⟨0,by omega,rfl,rfl⟩
 case round=>
  obtain⟨k,hkc,rfl,rfl⟩:=hrel;have hi0:(0:Int)≤(k:Int):=by omega
  have hi1:(k:Int)<11:=by omega
  have c0:=hcell.out k (by omega);simp only[Nat.zero_add] at c0
  by_cases hx:k+1=code
  ·have HX:=zh hx
   clear hx;go_wp2_with (go_at_call 100;refine(HI.out k (by omega) _ hb3).mono ?_;rintro e w4⟨rfl,rfl⟩;rw[decide_eq_true HX.out]);go_ret2;exact⟨by rw[←HX.out];simp,hb3⟩
  ·have HX:=zh hx
   clear hx;go_wp2_with (go_at_call 100;refine(HI.out k (by omega) _ hb3).mono ?_;rintro e w4⟨rfl,rfl⟩;rw[decide_eq_false HX.out]);go_round
   case rel=>exact⟨k+1,by have:=HX.out;omega,by go_num,rfl⟩
   case measure=>simp[intOf];omega
theorem zCi(ea:Nat→Addr)(code:Nat)(w:World)(hG:E6 w ea)(h0:code≠0)(h11:code≤11) :
 Calls prog 45 #[Bm ea code] w fun e w'=>e=.returned (.tuple #[.int .i64 code,.int .i64 (-1)])∧Below w.heap.size w w':=by
 have h:=zFg ea (ea code) code w hG (by omega) (by
  intro k hk W hb;have h:=zBu ea (Bm ea code) code (-1) k W (hG.below hb) (Bg.bare ea W code) h0 h11 hk
  rw[Ae ea h0] at h;exact h)
 rw[Um,if_pos h11] at h;rw[Ae ea h0];exact h
theorem zFe(ea:Nat→Addr)(v:Value)(code:Nat)(pl:Int)(w:World)(hG:E6 w ea)(hE:Bg ea w v code pl)(h11:code≤11) :
 Calls prog 45 #[v] w fun e w'=>e=.returned (.tuple #[.int .i64 code,.int .i64 pl])∧Below w.heap.size w w':=by
 by_cases h0:code=0
 ·subst h0
  obtain rfl:=hE.place;obtain rfl:=hE.nil;exact(zFh w).mono fun e w' ⟨h1,h2⟩=>⟨h1,by rw[h2];exact Below.refl _ _⟩
 ·rcases hE with⟨rfl,rfl⟩|⟨hp,_,b,rfl,hlt,hc0,hc1⟩
  ·exact zCi ea code w hG h0 h11
  ·exact zFf ea b pl code w hG h0 h11 hlt hp hc0 hc1
theorem Zn(ea:Nat→Addr)(v:Value)(code:Nat)(pl:Int)(c:Int)(w:World)(hG:E6 w ea)(hE:Bg ea w v code pl)(h11:code≤11) :
 Calls prog 28 #[v,.int .i64 c] w fun e w'=>e=.returned (.bool (decide ((code:Int)=c∧pl=-1)))∧Below w.heap.size w w':=by
 have HR:Hid (decide ((code:Int)=c∧pl=-1)=((code:Int)==c&&pl==-1)):=by unfold Hid;rw[Bool.eq_iff_iff];simp
 cases hx:((code:Int)==c)
 all_goals
  have HX:=zh hx;go_enter func28,ntmps28;go_wp2_with (go_at_call 45;refine(zFe ea v code pl w hG hE h11).mono ?_;rintro e w1⟨rfl,hb⟩);go_ret;exact⟨Ca (by rw[HR.out,HX.out];rfl),hb⟩
theorem Zo(ea:Nat→Addr)(v:Value)(code:Nat)(c:Int)(w:World)(hG:E6 w ea)(hE:Bg ea w v code (-1))(h11:code≤11)(hc:(code:Int)=c) :
 Calls prog 28 #[v,.int .i64 c] w fun e w'=>e=.returned (.bool true)∧Below w.heap.size w w':=
 (Zn ea v code (-1) c w hG hE h11).mono fun e w' ⟨h1,h2⟩=>⟨by rw[h1,decide_eq_true ⟨hc,rfl⟩],h2⟩
end Go.Proofs.YtppfkokfnoeopaaGreatDoor
