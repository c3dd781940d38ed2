/- A part of a proof. -/
import Derived.LaidHandle
import Derived.Test.YtppfkokfnoeopaaGreatDoorSOpen
import Derived.Test.YtppfkokfnoeopaaGreatDoorSCoded
set_option maxRecDepth 400000
set_option maxHeartbeats 6400000
namespace Go.Proofs.YtppfkokfnoeopaaGreatDoor
open Go.ChangeShapes Go.WideShapes Go.ChangeAt Go.WideElems Go.RowKit Go.Proofs.Tryz
theorem J9 : "*errors.errorString" = "*" ++ "errors.errorString" := by decide
theorem La (u : TypeId) (h : prog.typeName? 3 u = some "*errors.errorString") : u = 346 :=
 typeName_ptr_named (nm := "errors.errorString") (by rw [← J9]; kernel_rfl) (by kernel_rfl) (by decide) u (by rw [← J9]; exact h)
theorem Iw:prog.cellsOf 348=1:=by kernel_rfl
theorem Nu:prog.cellsOf 9=1:=by kernel_rfl
theorem M3{W:World}{g:Nat}{n:String}{text:List UInt8}{r:List (String×DataW Unit)}(hg:prog.globalNamed n=some g)(ht:(prog.globals[g]?).map (·.type)=some 33)
 (h : laidMet prog ((n, .iface "*errors.errorString" (.ptr (.agg [.lit (.string text)]))) :: r) W) :
 ∃a,g<W.heap.size∧W.cell? ⟨g,0,none⟩=some (.iface 346 (.pointer (some a))):=by
 obtain⟨a,s,hv,_⟩:=laid_sentinel h hg ht underlying33 La underlying346 underlying348 rfl rfl underlying9 Iw Nu;have hc:W.cell? ⟨g,0,none⟩=some (.iface 346 (.pointer (some a))):=by simpa using World.var?_cell hg hv 0
 exact⟨a,World.block_lt_of_cell? W ⟨g,0,none⟩ hc,hc⟩
section
variable {H:Type} {enc:TypeId×Value→H}
theorem M5{W W':World}(hb:Below W.heap.size W W'):∀(ts:List TypeId) (vs:List Value) (ds:List (DataW H)) (ps:List MemPlace),(∀t∈ts,prog.readableRec t=true∧t<prog.types.size)→
 DataW.TrodAll enc prog W 0 (fun _=>true) true ts vs ds ps→(∀x∈ps,x.block<W.heap.size)→DataW.TrodAll enc prog W' 0 (fun b=>decide (b<W.heap.size)) true ts vs ds ps
 | [],[],[],_,_,h,_=>h
 | t::ts,v::vs,d::ds,_,hr,⟨p,q,h1,h2,rfl⟩,hlt=>
  ⟨p,q,Below.trod (by kernel_rfl) (hr t (by simp)).1 (hr t (by simp)).2 h1 hb (fun x hx=>hlt x (List.mem_append_left _ hx)),
   M5 hb ts vs ds q (fun t' ht'=>hr t' (List.mem_cons_of_mem _ ht')) h2 (fun x hx=>hlt x (List.mem_append_right _ hx)),rfl⟩
 | [],[],_::_,_,_,h,_=>h.elim
 | [],_::_,[],_,_,h,_=>h.elim
 | [],_::_,_::_,_,_,h,_=>h.elim
 | _::_,[],[],_,_,h,_=>h.elim
 | _::_,[],_::_,_,_,h,_=>h.elim
 | _::_,_::_,[],_,_,h,_=>h.elim
theorem zGa{f:Func}{s:ChangeSpec}{W W':World}{args:Array Value}{ds:List (DataW H)}{before:List MemPlace}(hvars:s.vars=[])(hs:s.fn H (ds++[]) = { results:=[.lit (.bool true)],args:=ds })
 (hres:f.resultTypes=#[4]) (hread:(f.params.toList.all fun t=>prog.readableRec t&&decide (t<prog.types.size))=true)
 (hW:DataW.Whole enc prog f.params.toList s.vars false W args.toList ds [] before) (hb:Below W.heap.size W W') :
 s.post enc prog f false true false false W args (.bool true) W':=by
 have hW0:=hW;obtain⟨p,q,hA,hV,hpq,_,_⟩:=hW;have hlt:∀x∈p,x.block<W.heap.size:=fun x hx=>hW0.lt x (by rw[hpq];exact List.mem_append_left _ hx)
 refine⟨ds,[],before,[],p,[],hW0,?_,?_,?_,hb.frame _,fun h=>by cases h⟩
 ·rw[hs,hres];exact trodAll_mk1 (shut_bool underlying4 true)
 ·rw[hs]
  exact M5 hb _ _ _ _ (fun t ht=>by have:=List.all_eq_true.1 hread t ht;simpa using this) hA hlt
 ·rw[hs,hvars];rfl
end
def Dl:Nat→List UInt8
 | 1=>[98,97,114,103,101,108,111,99,107,58,32,116,101,120,116]
 | 2=>[98,97,114,103,101,108,111,99,107,58,32,98,111,117,110,100]
 | 3=>[98,97,114,103,101,108,111,99,107,58,32,115,104,97,112,101]
 | 4=>[98,97,114,103,101,108,111,99,107,58,32,110,111,100,101]
 | 5=>[98,97,114,103,101,108,111,99,107,58,32,110,111,110,101]
 | 6=>[98,97,114,103,101,108,111,99,107,58,32,101,120,105,115,116]
 | 7=>[98,97,114,103,101,108,111,99,107,58,32,102,117,108,108]
 | 8=>[98,97,114,103,101,108,111,99,107,58,32,115,117,109]
 | 9=>[98,97,114,103,101,108,111,99,107,58,32,108,97,116,101]
 | 10=>[98,97,114,103,101,108,111,99,107,58,32,103,97,112]
 | 11=>[98,97,114,103,101,108,111,99,107,58,32,111,102,102]
 | _=>[]
theorem zD5{P:Program}{n nm:String}{text:List UInt8}{r:List (String×DataW Unit)}{W:World}{g:Nat}{ti tp te ts:TypeId}{ms:Array (String×TypeId)}{f:Field}
 (h:laidMet P ((n,.iface nm (.ptr (.agg [.lit (.string text)])))::r) W)
 (hg:P.globalNamed n=some g) (ht:(P.globals[g]?).map (·.type)=some ti) (hi:P.underlying ti=some (.interface ms)) (hrow:∀u,P.typeName? 3 u=some nm→u=tp)
 (hp:P.underlying tp=some (.pointer te)) (he:P.underlying te=some (.struct #[f])) (hft:f.type=ts) (hfo:f.offset=0) (hs:P.underlying ts=some .string) (hc:P.cellsOf te=1) (hcs:P.cellsOf ts=1) :
 ∃(a:Addr) (s:ByteArray),W.var? P n=some #[.iface tp (.pointer (some a))]∧W.cell? a=some (.string s)∧s.data.toList=text∧∃c t,W.heap[a.block]?=some (.cells c t (0,0)):=by
 obtain⟨ps,⟨g0,t0,cs0,f0,p0,q0,hg0,ht0,hv0,hd0,_,e0⟩,_,hrows⟩:=h;obtain rfl:=Option.some.inj (hg.symm.trans hg0);obtain rfl:=Option.some.inj (ht.symm.trans ht0);subst e0;obtain⟨l0⟩:=cs0
 have ok0:∀u v,l0=[.iface u v]→Value.okWide P W .any 0 u v:=fun u v e=>by
  subst e;exact(hrows g 0 (by simp[MemPlace.row])).2 u v (by simpa using World.var?_cell hg0 hv0 0)
 obtain⟨a0,s0,rfl,hc0,hs0,hz0,rfl⟩:=errorString_of_trod hi hrow hp he hft hfo hs hc hcs hd0 ok0;obtain⟨c0,t1,hb0⟩:=(hrows a0.block a0.off (by simp[MemPlace.row])).1;exact⟨a0,s0,hv0,hc0,hs0,c0,t1,hb0⟩
theorem Ej{W:World}{g:Nat}{n:String}{text:List UInt8}{r:List (String×DataW Unit)}(hg:prog.globalNamed n=some g)(ht:(prog.globals[g]?).map (·.type)=some 33)
 (h : laidMet prog ((n, .iface "*errors.errorString" (.ptr (.agg [.lit (.string text)]))) :: r) W) :
 ∃a,g<W.heap.size∧W.cell? ⟨g,0,none⟩=some (.iface 346 (.pointer (some a)))∧(∃c t,W.heap[a.block]?=some (.cells c t (0,0)))∧∃s,W.cell? a=some (.string s)∧s.data.toList=text:=by
 obtain⟨a0,s0,hv0,hc0,hs0,hb⟩:=zD5 h hg ht underlying33 La underlying346 underlying348 rfl rfl underlying9 Iw Nu;have hc:W.cell? ⟨g,0,none⟩=some (.iface 346 (.pointer (some a0))):=by simpa using World.var?_cell hg hv0 0
 exact⟨a0,World.block_lt_of_cell? W ⟨g,0,none⟩ hc,hc,hb,s0,hc0,hs0⟩
theorem zI5:∀j∈[1,2,3,4,5,6,7,8,9,10,11],∀k∈[1,2,3,4,5,6,7,8,9,10,11],Dl j=Dl k→j=k:=by decide
theorem zF4{W:World}{ea:Nat→Addr}(hE:Fs W)
 (H:∀k∈[1,2,3,4,5,6,7,8,9,10,11],gOf k<W.heap.size∧W.cell? ⟨gOf k,0,none⟩=some (.iface 346 (.pointer (some (ea k))))∧(∃c t,W.heap[(ea k).block]?=some (.cells c t (0,0)))∧∃s,W.cell? (ea k)=some (.string s)∧s.data.toList=Dl k):E6 W ea where
 glob:=fun k hk=>⟨(H k hk).1,by
  rw[Ae ea (show k≠0 by intro e;subst e;simp at hk)];exact(H k hk).2.1⟩
 cells:=fun k h1 h2=>(H k (by simp;omega)).2.2.1
 inj:=fun j k h1 h2 h3 h4 e=>by
  have hj:j∈[1,2,3,4,5,6,7,8,9,10,11]:=by simp;omega
  have hk:k∈[1,2,3,4,5,6,7,8,9,10,11]:=by simp;omega
  obtain⟨s,c1,t1⟩:=(H j hj).2.2.2;obtain⟨s',c2,t2⟩:=(H k hk).2.2.2;rw[e,c2] at c1;have hs:s'=s:=by simpa using c1
  exact zI5 j hj k hk (by rw[←t1,←t2,hs])
 typ:=hE
theorem zKc : prog.globalNamed "errors.errorType" = some 11 := by kernel_rfl
theorem zKk : (prog.cutTypes.find? (·.1 == "internal/reflectlite.rtype")).map (·.2) = some 238 := by kernel_rfl
theorem Wb:((List.range prog.types.size).filter fun t=>prog.rowNamed t [101,114,114,111,114])=[33]:=by kernel_rfl
theorem Zw {W : World} {r : List (String × DataW Unit)} (h : handlesMet prog (("errors.errorType", .iface "internal/reflectlite.rtype" (.agg [.ptr (.lit (.string [101, 114, 114, 111, 114]))])) :: r) W) : Fs W := by
 obtain⟨name,u,ty,e1,e2,e3,e4,e5⟩:=h _ (List.mem_cons_self ..);have en:name=[101,114,114,111,114]:=(Option.some.inj e1).symm;subst en;obtain rfl:=Option.some.inj (zKk.symm.trans e2);have hm:ty∈(List.range prog.types.size).filter fun t=>prog.rowNamed t [101,114,114,111,114]:=List.mem_filter.2 ⟨List.mem_range.2 e3,e4⟩
 rw[Wb] at hm;obtain rfl:=List.mem_singleton.1 hm;have hh:typeHandle prog 33=.pointer (some ⟨25,33,none⟩):=by kernel_rfl
 rw[hh] at e5;have hc:W.cell? ⟨11,0,none⟩=some (.iface 238 (.agg #[.pointer (some ⟨25,33,none⟩)])):=by simpa using World.var?_cell zKc e5 0
 exact⟨World.block_lt_of_cell? W ⟨11,0,none⟩ hc,hc⟩
end Go.Proofs.YtppfkokfnoeopaaGreatDoor
