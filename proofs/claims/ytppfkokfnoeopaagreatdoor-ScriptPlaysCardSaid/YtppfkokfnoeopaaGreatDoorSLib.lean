/- A part of a proof. -/
import Derived.WalkKit
import Derived.Lib.Hide
import Derived.Deep.Draws
import Derived.Laws.BitsAllLaws
import Derived.Laws.BitsLemmas
import Derived.IntWalk
import Derived.Test.YtppfkokfnoeopaaGreatDoorProg
import Derived.BigQuiet
import Derived.Deep.QuietTactic
import Derived.RangeFuncBox
set_option maxRecDepth 400000
set_option maxHeartbeats 6400000
namespace Go.Proofs.YtppfkokfnoeopaaGreatDoor
open Go.RowKit
theorem zh{p:Prop}(h:p):RowKit.Hid p:=h
theorem zb{B:Nat}{w:World}:Below B w w:=Below.refl _ _
theorem zl{n:Nat}:n≤n:=Nat.le_refl n
theorem Ab{B:Nat}{a w:World}(h:Below B a w)(n:Nat):Below B a (w.drewN n):=⟨h.os,h.tape,h.output,h.size,h.block⟩
def Ac(w:World)(a:Option Addr)(cs:List Value):Prop:=
 cs=[]∨∃b off,a=some ⟨b,off,none⟩∧b<w.heap.size∧∀i v,cs[i]?=some v→w.cell? ⟨b,off+i,none⟩=some v
theorem Ac.nil(w:World)(a:Option Addr):Ac w a []:=Or.inl rfl
theorem Ac.below{w w':World}{a:Option Addr}{cs:List Value}(h:Ac w a cs)(hb:Below w.heap.size w w'):Ac w' a cs:=by
 rcases h with h|⟨b,off,rfl,hlt,hc⟩
 ·exact Or.inl h
 ·exact Or.inr ⟨b,off,rfl,Nat.lt_of_lt_of_le hlt hb.size,fun i v hv=>(hb.cell (p:=⟨b,off+i,none⟩) hlt).trans (hc i v hv)⟩
theorem Ac.at{w:World}{a:Option Addr}{cs:List Value}(h:Ac w a cs)(hne:cs≠[]) :
 ∃b off,a=some ⟨b,off,none⟩∧b<w.heap.size∧∀i v,cs[i]?=some v→w.cell? ⟨b,off+i,none⟩=some v:=h.resolve_left hne
theorem Ac.cell{w:World}{b off:Nat}{cs:List Value}(h:Ac w (some ⟨b,off,none⟩) cs){i:Nat}{v:Value}(hv:cs[i]?=some v):w.cell? ⟨b,off+i,none⟩=some v:=by
 rcases h with rfl|⟨b',off',e,_,hc⟩
 ·simp at hv
 ·cases e;exact hc i v hv
theorem Ca{a b:Bool}(h:a=b):Ending.returned (.bool a)=.returned (.bool b):=by rw[h]
theorem Hn{k:IntKind}{a b:Int}(h:a=b):Ending.returned (.int k a)=.returned (.int k b):=by rw[h]
theorem zB5{a b:Value}(h:a=b):Ending.returned a=.returned b:=by rw[h]
theorem Ac.drop{w:World}{a:Option Addr}{cs:List Value}(h:Ac w a cs)(m:Nat):Ac w (a.map fun x=>x.add m) (cs.drop m):=by
 rcases h with rfl|⟨b,off,rfl,hlt,hc⟩
 ·exact Or.inl (by simp)
 ·refine Or.inr ⟨b,off+m,by simp only[Option.map_some,Addr.add];split<;>simp_all,hlt,fun i v hv=>?_⟩
  rw[List.getElem?_drop] at hv;rw[Nat.add_assoc];exact hc _ _ hv
theorem Ac.take{w:World}{a:Option Addr}{cs:List Value}(h:Ac w a cs)(m:Nat):Ac w a (cs.take m):=by
 rcases h with rfl|⟨b,off,rfl,hlt,hc⟩
 ·exact Or.inl (by simp)
 ·refine Or.inr ⟨b,off,rfl,hlt,fun i v hv=>hc i v ?_⟩
  rw[List.getElem?_take] at hv
  split at hv
  ·exact hv
  ·cases hv
def Aa(l:List Int):List Value:=l.map (Value.int .i64)
theorem Ci(l:List Int):(Aa l).length=l.length:=by simp[Aa]
theorem Ac.int{w:World}{a:Option Addr}{l:List Int}(h:Ac w a (Aa l))(k:Nat)(hk:k<l.length) :
 ∃b off,a=some ⟨b,off,none⟩∧b<w.heap.size∧w.cell? ⟨b,off+k,none⟩=some (.int .i64 l[k]):=by
 obtain⟨b,off,rfl,hlt,hc⟩:=h.at (fun e=>by have:=Ci l;rw[e] at this;simp at this;omega);exact⟨b,off,rfl,hlt,hc k _ (by simp[Aa,hk])⟩
def gOf:Nat→Nat
 | 1=>1
 | 2=>0
 | 3=>2
 | 4=>4
 | 5=>5
 | 6=>6
 | 7=>3
 | 8=>7
 | 9=>8
 | 10=>9
 | 11=>10
 | _=>0
def Bm(ea:Nat→Addr)(k:Nat):Value:=if k=0 then .nilIface else .iface 346 (.pointer (some (ea k)))
theorem Al(ea:Nat→Addr):Bm ea 0=.nilIface:=rfl
theorem Ae(ea:Nat→Addr){k:Nat}(h:k≠0):Bm ea k=.iface 346 (.pointer (some (ea k))):=by simp[Bm,h]
def Zx(b:Nat):Value:=.iface 113 (.pointer (some ⟨b,0,none⟩))
theorem Lz(ea:Nat→Addr){k:Nat}(h:k=0):Value.nilIface=Bm ea k:=by rw[h];rfl
attribute [irreducible] Bm
def Bh(w:World)(ea:Nat→Addr)(ks:List Nat):Prop:=∀k∈ks,gOf k<w.heap.size∧w.cell? ⟨gOf k,0,none⟩=some (Bm ea k)
theorem Bh.below{w w':World}{ea:Nat→Addr}{ks:List Nat}(h:Bh w ea ks)(hb:Below w.heap.size w w'):Bh w' ea ks:=fun k hk=>
 ⟨Nat.lt_of_lt_of_le (h k hk).1 hb.size,(hb.cell (p:=⟨gOf k,0,none⟩) (h k hk).1).trans (h k hk).2⟩
theorem Bh.lt{w:World}{ea:Nat→Addr}{ks:List Nat}(h:Bh w ea ks)(k:Nat)(hk:k∈ks):gOf k<w.heap.size:=(h k hk).1
theorem Bh.cell{w:World}{ea:Nat→Addr}{ks:List Nat}(h:Bh w ea ks)(k:Nat)(hk:k∈ks):w.cell? ⟨gOf k,0,none⟩=some (Bm ea k):=(h k hk).2
theorem Bh.sub{w:World}{ea:Nat→Addr}{ks ls:List Nat}(h:Bh w ea ks)(hs:∀k∈ls,k∈ks):Bh w ea ls:=fun k hk=>h k (hs k hk)
def Bg(ea:Nat→Addr)(w:World)(v:Value)(code:Nat)(pl:Int):Prop:=
 (pl=-1∧v=Bm ea code)∨(0≤pl∧code≠0∧∃b,v=Zx b∧b<w.heap.size∧w.cell? ⟨b,0,none⟩=some (.int .i64 pl)∧w.cell? ⟨b,1,none⟩=some (Bm ea code))
theorem Bg.below{ea:Nat→Addr}{w w':World}{v:Value}{code:Nat}{pl:Int}(h:Bg ea w v code pl)(hb:Below w.heap.size w w'):Bg ea w' v code pl:=by
 rcases h with h|⟨h0,h1,b,rfl,hlt,h2,h3⟩
 ·exact Or.inl h
 ·exact Or.inr ⟨h0,h1,b,rfl,Nat.lt_of_lt_of_le hlt hb.size,(hb.cell (p:=⟨b,0,none⟩) hlt).trans h2,(hb.cell (p:=⟨b,1,none⟩) hlt).trans h3⟩
theorem Bg.bare(ea:Nat→Addr)(w:World)(code:Nat):Bg ea w (Bm ea code) code (-1):=Or.inl ⟨rfl,rfl⟩
theorem Bg.nil{ea:Nat→Addr}{w:World}{v:Value}{pl:Int}(h:Bg ea w v 0 pl):v=.nilIface:=by
 rcases h with⟨_,rfl⟩|⟨_,h,_⟩
 ·exact Al ea
 ·exact absurd rfl h
theorem Bg.held{ea:Nat→Addr}{w:World}{v:Value}{code:Nat}{pl:Int}(h:Bg ea w v code pl)(hc:code≠0):∃t x,v=.iface t x:=by
 rcases h with⟨_,rfl⟩|⟨_,_,b,rfl,_⟩
 ·exact⟨_,_,Ae ea hc⟩
 ·exact⟨_,_,rfl⟩
structure Ent where
 slot:Int
 frm:Int
 heard:Bool
 value:Int
 deriving DecidableEq,Inhabited
def Ent.cells(e:Ent):List Value:=[.int .i64 e.slot,.int .i64 e.frm,.bool e.heard,.int .i64 e.value]
def Av(l:List Ent):List Value:=l.flatMap Ent.cells
def Ent.v(e:Ent):Value:=.agg #[.int .i64 e.slot,.int .i64 e.frm,.bool e.heard,.int .i64 e.value]
theorem E8(es:List Ent):(Av es).length=es.length*4:=by
 induction es with
 | nil=>rfl
 | cons e r ih=>simp only[Av,List.flatMap_cons,List.length_append,List.length_cons] at ih ⊢;rw[ih];simp[Ent.cells];omega
theorem I3(es:List Ent):∀(k:Nat) (hk:k<es.length) (j:Nat),j<4→(Av es)[k*4+j]?=(es[k].cells)[j]?:=by
 induction es with
 | nil=>intro k hk;simp at hk
 | cons e r ih=>
  intro k hk j hj;have e4:(e.cells).length=4:=rfl;simp only[Av,List.flatMap_cons]
  cases k with
  | zero=>rw[List.getElem?_append_left (by rw[e4];omega)];simp
  | succ k=>
   rw[List.getElem?_append_right (by rw[e4];omega),e4];have:=ih k (by simpa using hk) j hj;rw[show(k+1)*4+j-4=k*4+j by omega];simpa[Av] using this
theorem Vv(es:List Ent)(k:Nat):Av (es.drop k)=(Av es).drop (k*4):=by
 induction es generalizing k with
 | nil=>simp[Av]
 | cons e r ih=>
  cases k with
  | zero=>simp
  | succ k=>
   have e4:(e.cells).length=4:=rfl;have:=ih k;simp only[Av,List.flatMap_cons,List.drop_succ_cons] at this ⊢;rw[this,List.drop_append,e4,(show List.drop ((k+1)*4) e.cells=[] from List.drop_eq_nil_of_le (by rw[e4];omega)),List.nil_append,show(k+1)*4-4=k*4 by omega]
theorem Ac.ent{w:World}{a:Option Addr}{es:List Ent}(h:Ac w a (Av es))(k:Nat)(hk:k<es.length) :
 ∃b off,a=some ⟨b,off,none⟩∧b<w.heap.size∧w.cell? ⟨b,off+k*4,none⟩=some (.int .i64 es[k].slot)∧w.cell? ⟨b,off+k*4+1,none⟩=some (.int .i64 es[k].frm)
  ∧w.cell? ⟨b,off+k*4+2,none⟩=some (.bool es[k].heard)∧w.cell? ⟨b,off+k*4+3,none⟩=some (.int .i64 es[k].value):=by
 have hne:Av es≠[]:=fun e=>by have:=E8 es;rw[e] at this;simp at this;omega
 obtain⟨b,off,rfl,hlt,hc⟩:=h.at hne;refine⟨b,off,rfl,hlt,?_,?_,?_,?_⟩
 ·have:=hc (k*4) _ (by rw[show k*4=k*4+0 by omega,I3 es k hk 0 (by omega)];rfl);simpa using this
 ·have:=hc (k*4+1) _ (by rw[I3 es k hk 1 (by omega)];rfl);simpa[Nat.add_assoc] using this
 ·have:=hc (k*4+2) _ (by rw[I3 es k hk 2 (by omega)];rfl);simpa[Nat.add_assoc] using this
 ·have:=hc (k*4+3) _ (by rw[I3 es k hk 3 (by omega)];rfl);simpa[Nat.add_assoc] using this
end Go.Proofs.YtppfkokfnoeopaaGreatDoor
namespace Go.Proofs.YtppfkokfnoeopaaGreatDoor
def Aq(n:Int):Bool:=decide (1≤n∧n≤16)
def Cr(v:Int):Bool:=decide (-1048576≤v∧v≤1048576)
def Bn(c:Int):Bool:=decide (0≤c∧c≤65535)
def At(n:Int):Nat:=2^(n.toNat-1)
def Ep(c n:Int):Bool:=Bn c&&(Aq n&&c.toNat.testBit (n.toNat-1))
def A6(l:List Int):Nat:=l.foldl (fun c n=>c|||At n) 0
theorem Dx{n:Int}(h:Aq n=true):At n<65536:=by
 simp only[Aq,decide_eq_true_eq] at h;have:n.toNat-1<16:=by omega
 exact Nat.pow_lt_pow_right (by omega) this
theorem Hu(a:Nat)(ha:a<9223372036854775808):(BitVec.ofInt 64 (a:Int)).toNat=a:=by
 rw[BitVec.ofInt_natCast,BitVec.toNat_ofNat];exact Nat.mod_eq_of_lt (by omega)
theorem zHx(a b:Nat)(ha:a<9223372036854775808)(hb:b<9223372036854775808):bits .and .i64 (a:Int) (b:Int)=((a&&&b:Nat):Int):=by
 have hx:a&&&b<2^63:=Nat.and_lt_two_pow _ (by omega)
 show IntKind.i64.wrap ((BitVec.ofInt 64 (a:Int)&&&BitVec.ofInt 64 (b:Int)).toNat:Int)=_
 rw[BitVec.toNat_and,Hu a ha,Hu b hb,IntKind.wrap_i64];omega
theorem Wc(a b:Nat)(ha:a<9223372036854775808)(hb:b<9223372036854775808):bits .or .i64 (a:Int) (b:Int)=((a|||b:Nat):Int):=by
 have hx:a|||b<2^63:=Nat.or_lt_two_pow (by omega) (by omega)
 show IntKind.i64.wrap ((BitVec.ofInt 64 (a:Int)|||BitVec.ofInt 64 (b:Int)).toNat:Int)=_
 rw[BitVec.toNat_or,Hu a ha,Hu b hb,IntKind.wrap_i64];omega
theorem zHw(c k:Nat):c&&&2^k=if c.testBit k then 2^k else 0:=by
 apply Nat.eq_of_testBit_eq;intro i;rw[Nat.testBit_and,Nat.testBit_two_pow]
 by_cases h:k=i
 ·subst h;cases hc:c.testBit k<;>simp
 ·cases hc:c.testBit k<;>simp[h]
theorem Rl(l:List Int):∀c:Nat,c<65536→(∀n∈l,Aq n=true)→l.foldl (fun c n=>c|||At n) c<65536:=by
 induction l with
 | nil=>intro c h _;exact h
 | cons n r ih=>
  intro c hc hn;exact ih _ (Nat.or_lt_two_pow (n:=16) hc (Dx (hn n (by simp)))) (fun m hm=>hn m (List.mem_cons_of_mem _ hm))
theorem Hq{l:List Int}(h:∀n∈l,Aq n=true):A6 l<65536:=Rl l 0 (by omega) h
theorem Ho(l:List Int)(i:Nat):∀c:Nat,(l.foldl (fun c n=>c|||At n) c).testBit i=(c.testBit i||l.any fun n=>decide (n.toNat-1=i)):=by
 induction l with
 | nil=>intro c;simp
 | cons n r ih=>
  intro c;simp only[List.foldl_cons,List.any_cons];rw[ih,Nat.testBit_or,At,Nat.testBit_two_pow,Bool.or_assoc]
theorem Qb{l:List Int}(h:∀n∈l,Aq n=true)(m:Int):Ep (A6 l) m=decide (m∈l):=by
 have hl:=Hq h;have hc:Bn ((A6 l:Nat):Int)=true:=by simp only[Bn,decide_eq_true_eq];omega
 simp only[Ep,hc,Bool.true_and]
 by_cases hm:m∈l
 ·have hnm:=h m hm
  simp only[hnm,Bool.true_and,hm,decide_true];rw[Int.toNat_natCast,A6,Ho];simp only[Nat.zero_testBit,Bool.false_or,List.any_eq_true,decide_eq_true_eq];exact⟨m,hm,rfl⟩
 ·simp only[hm,decide_false]
  cases hnm:Aq m
  ·rfl
  ·rw[Bool.true_and,Int.toNat_natCast,A6,Ho]
   simp only[Nat.zero_testBit,Bool.false_or];rw[List.any_eq_false];intro n hn;simp only[decide_eq_true_eq];intro e;have hnn:=h n hn;simp only[Aq,decide_eq_true_eq] at hnm hnn;exact hm ((show m=n by omega)▸hn)
end Go.Proofs.YtppfkokfnoeopaaGreatDoor
namespace Go.Proofs.YtppfkokfnoeopaaGreatDoor
open Go.RowKit
theorem Fq(n:Int)(w:World):Calls Tryz.prog 154 #[.int .i64 n] w fun e w'=>e=.returned (.bool (Aq n))∧w=w':=by
 go_enter Tryz.func154,Tryz.ntmps154;go_wp2
 all_goals(go_ret;exact⟨Ca (by simp[Aq];try omega),rfl⟩)
section
variable {P:Program} (w:World)
def zEp(w:World)(v v':Value):Prop:=v'.ownBlock=v.ownBlock∨∃k,w.heap.size≤k∧v'.ownBlock=some k
theorem Ld(base:Nat)(t ty e:TypeId)(i:TypeInfo)(z:Value)(size bytes:Nat)(ht:P.underlying t=some (.slice e))(hi:P.info? e=some i)(hz:i.zero=some z)
 (hsize:i.size=size) (hby:i.bytes=bytes) (hzs:z.cells.size=size) (hsz:0<size)
 (v:Value) (n:Nat) (xs:List Value) (hown:w.ownsRow base e size v n xs)
 (sa:Option Addr) (m c:Nat) (news:List Value) (hl:news.length=m*size) (hnews:Ac w sa news) (h1:∀u∈news,u.oneCell'=true)
 (h63:n+m≤maxLen) (hbytes:(n+m)*bytes≤140737488355328) (hbase:base≤w.heap.size) :
 ∃v' w',(Builtin.append_ #[t,t] ty #[v,.slice sa m c]).run P w=.ok v' w'∧w'.ownsRow base e size v' (n+m) (xs++news)∧w.grownBy w' v.ownBlock ∧
  (v'=.slice none 0 0↔v=.slice none 0 0∧m=0)∧zEp w v v':=by
 by_cases hm:m=0
 ·subst hm
  have hn:news=[]:=List.eq_nil_of_length_eq_zero (by simpa using hl);subst hn;refine⟨v,w,?_,by simpa using hown,⟨rfl,rfl,rfl,Nat.le_refl _,fun _ _ _=>rfl⟩,by simp,Or.inl rfl⟩
  rcases hown.2 with⟨rfl,rfl⟩|⟨g,cap,cur,rfl,hbg,hg,hnc,hcm,hcs,htake⟩
  ·cases sa<;>simp[Builtin.append_,run_underlying ht,sizeOf,typeInfo,hi,Builtin.lenOf,Builtin.firstCells,loadCells,loadCellsFrom]
  ·cases sa<;>simp[Builtin.append_,run_underlying ht,sizeOf,typeInfo,hi,Builtin.lenOf,Builtin.firstCells,loadCells,loadCellsFrom,hnc,storeCells]
 have hne:news≠[]:=fun e0=>by
  rw[e0] at hl;have:=Nat.pos_of_ne_zero hm;have:=Nat.mul_pos this hsz;simp at hl;omega
 obtain⟨b,off,rfl,_,hc⟩:=hnews.at hne
 have hnews':∀j u,news[j]?=some u→w.cell? ((⟨b,off,none⟩:Addr).add j)=some u:=fun j u hu=>by
  have hadd:(⟨b,off,none⟩:Addr).add j=⟨b,off+j,none⟩:=by unfold Addr.add;split<;>simp_all
  rw[hadd];exact hc j u hu
 clear hc hnews;obtain⟨v',w',hr,h2,h3,h4⟩:=run_append_own (P:=P) w base t ty e i z size bytes ht hi hz hsize hby hzs hsz v n xs hown ⟨b,off,none⟩ m c news hl hnews' h1 h63 hbytes hbase;refine⟨v',w',hr,h2,h3,h4,?_⟩;subst hsize;subst hby
 have hsmall:n+m≤9223372036854775807:=by simp only[maxLen] at h63;omega
 rcases hown.2 with⟨rfl,rfl⟩|⟨g,cap,cur,rfl,hbg,hg,hnc,hcm,hcs,htake⟩
 ·have hx:xs=[]:=List.eq_nil_of_length_eq_zero (by simpa using hown.1)
  subst hx;have hr2:=run_append_nil (P:=P) w t ty e i z ht hi hz ⟨b,off,none⟩ m c news hl hnews' (by omega) (by omega) (by have hb:=hbytes;simp only[Nat.zero_add] at hb;omega);rw[hr] at hr2;injection hr2 with e1 e2;subst e1;exact Or.inr ⟨w.heap.size,Nat.le_refl _,rfl⟩
 ·by_cases hroom:n+m≤cap
  ·have hfit:n*i.size+news.length≤cur.size:=by rw[hl,hcs,←Nat.add_mul];exact Nat.mul_le_mul_right _ hroom
   have hr2:=run_append_room (P:=P) w t ty e i ht hi g n cap cur hg ⟨b,off,none⟩ m c news hl hnews' h1 hroom hfit;rw[hr] at hr2;injection hr2 with e1 e2;subst e1;exact Or.inl rfl
  ·have holds:∀j u,xs[j]?=some u→w.cell? ((⟨g,0,none⟩:Addr).add j)=some u:=hown.cells (g:=g) rfl
   have hr2:=run_append_grow (P:=P) w t ty e i z ht hi hz ⟨g,0,none⟩ n cap xs hown.1 holds ⟨b,off,none⟩ m c news hl hnews' (by omega) (by omega) (growslice_fits (by omega) hbytes);rw[hr] at hr2;injection hr2 with e1 e2;subst e1;exact Or.inr ⟨w.heap.size,Nat.le_refl _,rfl⟩
theorem Ag{ops:Array Oper}{rest:List Oper}{o:Oper}{a:Act}{Q:Exit→Act→World→Prop}(hgd:o.guard=none)(s x:Operand)(t:TypeId)
 (ho:o.op=.call { callee:=.builtin .append,args:=#[s,x],argTypes:=#[t,t] })
 (base:Nat) (e:TypeId) (i:TypeInfo) (z:Value) (size bytes:Nat) (ht:P.underlying t=some (.slice e)) (hi:P.info? e=some i) (hz:i.zero=some z)
 (hsize:i.size=size) (hby:i.bytes=bytes) (hzs:z.cells.size=size) (hsz:0<size)
 (v:Value) (n:Nat) (xs:List Value) (hs:a.eval s=v) (hown:w.ownsRow base e size v n xs)
 (sa:Option Addr) (m c:Nat) (news:List Value) (hx:a.eval x=.slice sa m c) (hl:news.length=m*size) (hnews:Ac w sa news) (h1:∀u∈news,u.oneCell'=true)
 (h63:n+m≤maxLen) (hbytes:(n+m)*bytes≤140737488355328) (hbase:base≤w.heap.size)
 (h:∀v' w',w'.ownsRow base e size v' (n+m) (xs++news)→w.grownBy w' v.ownBlock→(v'=.slice none 0 0↔v=.slice none 0 0∧m=0)→zEp w v v'→wpList P ops Q rest (a.put o.dst v') w'):wpList P ops Q (o::rest) a w:=
 wpList_plain hgd fun K hK=>by
  obtain⟨v',w',hr,h2,h3,h4,h5⟩:=Ld (P:=P) w base t o.type e i z size bytes ht hi hz hsize hby hzs hsz v n xs hown sa m c news hl hnews h1 h63 hbytes hbase;unfold Oper.wp execOp;simp only[ho,resolve,invoke,builtin,Sem.run_bind,Sem.run_pure,Result.andThen_ok,List.map_toArray,List.map_cons,List.map_nil,hs,hx,hr];exact hK _ _ (h v' w' h2 h3 h4 h5)
end
theorem Ac.new_at(w:World)(cs:List Value)(t:TypeId)(n:Nat)(hn:n=w.heap.size):Ac (w.alloc (.cells cs.toArray t)) (some ⟨n,0,none⟩) cs:=
 Or.inr ⟨n,0,rfl,by simp[hn],fun i v hv=>by rw[World.cell?_alloc_at _ _ _ _ hn];simpa using hv⟩
theorem Gr{W w':World}{row:Option Nat}(hg:W.grownBy w' row){b i:Nat}{v:Value}(hc:W.cell? ⟨b,i,none⟩=some v)(hne:some b≠row):w'.cell? ⟨b,i,none⟩=some v:=hg.cell hc hne
theorem Hg(xs:List Ent)(e:Ent):Av (xs++[e])=Av xs++e.cells:=by simp[Av]
theorem Ent.one(e:Ent):∀u∈e.cells,u.oneCell'=true:=by
 intro u hu;simp[Ent.cells] at hu;rcases hu with rfl|rfl|rfl|rfl<;>rfl
theorem Ac.owned{w:World}{base:Nat}{e:TypeId}{size:Nat}{a:Option Addr}{n n' cap:Nat}{xs:List Value}(h:w.ownsRow base e size (.slice a n' cap) n xs):Ac w a xs∧n'=n∧n≤cap∧cap≤maxLen:=by
 obtain⟨hl,h⟩:=h
 rcases h with⟨h,rfl⟩|⟨g,cap',cur,h,_,hg,hc,hm,hs,ht⟩
 ·injection h with h1 h2 h3
  subst h1;subst h2;subst h3;exact⟨Or.inl (List.eq_nil_of_length_eq_zero (by simpa using hl)),rfl,Nat.le_refl _,by simp[maxLen]⟩
 ·injection h with h1 h2 h3
  subst h1;subst h2;subst h3;refine⟨Or.inr ⟨g,0,rfl,(Array.getElem?_eq_some_iff.1 hg).1,fun i v hv=>?_⟩,rfl,hc,hm⟩;rw[←ht,List.getElem?_take] at hv
  split at hv
  ·rw[Nat.zero_add,cell_of_row w g i cur e (0,0) hg];simpa using hv
  ·cases hv
theorem Aj{w:World}{base:Nat}{e:TypeId}{size:Nat}{v:Value}{n:Nat}{xs:List Value}(h:w.ownsRow base e size v n xs):∃a cap,v=.slice a n cap:=by
 rcases h.2 with⟨rfl,rfl⟩|⟨g,cap,cur,rfl,_⟩
 ·exact⟨_,_,rfl⟩
 ·exact⟨_,_,rfl⟩
section
variable {α β:Type}
theorem P8(f:α→List β)(q:Nat)(hq:∀x,(f x).length=q)(l:List α):(l.flatMap f).length=l.length*q:=by
 induction l with
 | nil=>simp
 | cons e r ih=>simp only[List.flatMap_cons,List.length_append,List.length_cons,ih,hq];rw[Nat.add_mul];omega
theorem N7(f:α→List β)(q:Nat)(hq:∀x,(f x).length=q)(l:List α):∀(k:Nat) (hk:k<l.length) (j:Nat),j<q→(l.flatMap f)[k*q+j]?=(f l[k])[j]?:=by
 induction l with
 | nil=>intro k hk;simp at hk
 | cons e r ih=>
  intro k hk j hj;simp only[List.flatMap_cons]
  cases k with
  | zero=>rw[List.getElem?_append_left (by rw[hq];omega)];simp
  | succ k=>
   have e1:(k+1)*q=k*q+q:=by rw[Nat.add_mul];omega
   rw[List.getElem?_append_right (by rw[hq,e1];omega),hq,show(k+1)*q+j-q=k*q+j by rw[e1];omega];have:=ih k (by simpa using hk) j hj;simpa using this
end
theorem Ac.flat{α:Type}{f:α→List Value}{w:World}{a:Option Addr}{l:List α}(h:Ac w a (l.flatMap f))(q:Nat)(hq:∀x,(f x).length=q)(h0:0<q)(k:Nat)(hk:k<l.length) :
 ∃b off,a=some ⟨b,off,none⟩∧b<w.heap.size∧∀j v,(f l[k])[j]?=some v→w.cell? ⟨b,off+k*q+j,none⟩=some v:=by
 have hne:l.flatMap f≠[]:=fun e=>by
  have:=P8 f q hq l;rw[e] at this;have:=Nat.mul_pos (show 0<l.length by omega) h0;simp at *;omega
 obtain⟨b,off,rfl,hlt,hc⟩:=h.at hne;refine⟨b,off,rfl,hlt,fun j v hv=>?_⟩;have hj:j<q:=by rw[←hq l[k]];exact(List.getElem?_eq_some_iff.1 hv).1
 rw[Nat.add_assoc];exact hc _ _ (by rw[N7 f q hq l k hk j hj];exact hv)
def I4(l:List ByteArray):List Value:=l.map Value.string
theorem Rq(l:List ByteArray):(I4 l).length=l.length:=by simp[I4]
theorem Ac.str{w:World}{a:Option Addr}{l:List ByteArray}(h:Ac w a (I4 l))(k:Nat)(hk:k<l.length) :
 ∃b off,a=some ⟨b,off,none⟩∧b<w.heap.size∧w.cell? ⟨b,off+k,none⟩=some (.string l[k]):=by
 obtain⟨b,off,rfl,hlt,hc⟩:=h.at (fun e=>by have:=Rq l;rw[e] at this;simp at this;omega);exact⟨b,off,rfl,hlt,hc k _ (by simp[I4,hk])⟩
theorem Fy(l:List Int):∀u∈Aa l,u.oneCell'=true:=by
 intro u hu;obtain⟨s,_,rfl⟩:=List.mem_map.1 hu;rfl
structure Snt where
 node:Int
 tick:Int
 text:ByteArray
def Snt.cells(s:Snt):List Value:=[.int .i64 s.node,.int .i64 s.tick,.string s.text]
theorem Snt.len(s:Snt):s.cells.length=3:=rfl
theorem Snt.one(s:Snt):∀u∈s.cells,u.oneCell'=true:=by
 intro u hu;simp[Snt.cells] at hu;rcases hu with rfl|rfl|rfl<;>rfl
theorem Vx(xs:List Int)(s:Int):Aa (xs++[s])=Aa xs++[.int .i64 s]:=by simp[Aa]
theorem Vw(l:List Int)(k:Nat):Aa (l.drop k)=(Aa l).drop k:=by simp[Aa]
theorem Vy(l:List Int)(k:Nat):Aa (l.take k)=(Aa l).take k:=by simp[Aa]
theorem Bw{w w':World}(hb:Below w.heap.size w w')(row:Option Nat):w.grownBy w' row:=⟨hb.os,hb.tape,hb.output,hb.size,fun b h _=>hb.block b h⟩
theorem Br(w:World)(b i:Nat)(u:Value):w.grownBy (w.setCell ⟨b,i,none⟩ u) (some b):=⟨rfl,rfl,rfl,by simp,fun k _ hk=>heap_setCell_other w ⟨b,i,none⟩ k u (fun e=>hk (by simp[e]))⟩
theorem Cb{w w':World}{base:Nat}{e:TypeId}{size:Nat}{v:Value}{n:Nat}{xs:List Value}(h:w.ownsRow base e size v n xs)(hb:Below w.heap.size w w'):w'.ownsRow base e size v n xs:=
 h.kept (Bw hb none) (by cases v.ownBlock<;>simp)
theorem C0{w:World}{base base':Nat}{e:TypeId}{size:Nat}{v:Value}{n:Nat}{xs:List Value}(h:w.ownsRow base e size v n xs)(hb:base'≤base):w.ownsRow base' e size v n xs:=by
 refine⟨h.1,?_⟩
 rcases h.2 with h|⟨g,cap,cur,h1,h2,h3⟩
 ·exact Or.inl h
 ·exact Or.inr ⟨g,cap,cur,h1,Nat.le_trans hb h2,h3⟩
def Af(W:World)(b:Nat)(t:TypeId)(cs:Array Value):Prop:=W.heap[b]?=some (.cells cs t (0,0))
theorem Af.new(W:World)(t:TypeId)(cs:Array Value):Af (W.alloc (.cells cs t)) W.heap.size t cs:=World.alloc_heap_new W _
theorem Af.lt{W:World}{b:Nat}{t:TypeId}{cs:Array Value}(h:Af W b t cs):b<W.heap.size:=(Array.getElem?_eq_some_iff.1 h).1
theorem Af.kept{W W':World}{b:Nat}{t:TypeId}{cs:Array Value}(h:Af W b t cs)(hb:Below W.heap.size W W'):Af W' b t cs:=(hb.block b h.lt).trans h
theorem Af.alloc{W:World}{b:Nat}{t:TypeId}{cs:Array Value}(h:Af W b t cs)(o:Obj):Af (W.alloc o) b t cs:=h.kept (zb.alloc zl _)
theorem Af.cell{W:World}{b:Nat}{t:TypeId}{cs:Array Value}(h:Af W b t cs)(i:Nat){v:Value}(hv:cs[i]?=some v):W.cell? ⟨b,i,none⟩=some v:=by
 simp only[World.cell?,show W.heap[b]?=_ from h];exact hv
theorem Af.frozen{W:World}{b:Nat}{t:TypeId}{cs:Array Value}(h:Af W b t cs)(i:Nat):W.frozen? ⟨b,i,none⟩=false:=by simp[World.frozen?,show W.heap[b]?=_ from h]
theorem Af.setOther{W:World}{b:Nat}{t:TypeId}{cs:Array Value}(h:Af W b t cs){c:Nat}(o:Nat)(v:Value)(hne:b≠c):Af (W.setCell ⟨c,o,none⟩ v) b t cs:=
 (heap_setCell_other _ _ _ _ (by simpa using hne)).trans h
theorem Af.set{W:World}{b:Nat}{t:TypeId}{cs:Array Value}(h:Af W b t cs)(o:Nat)(v:Value):Af (W.setCell ⟨b,o,none⟩ v) b t (cs.setIfInBounds o v):=by
 have h':W.heap[b]?=_:=h;unfold Af World.setCell;simp[Array.getElem?_modify,h']
theorem Ga:(Tryz.prog.info? 3).map (fun i=>(i.zero,i.size,i.bytes))=some (some (.int .i64 0),1,8):=by kernel_rfl
def Ad(l:List (List UInt8)):List Value:=l.map fun x=>Value.string ⟨x.toArray⟩
theorem Do:(Tryz.prog.info? 9).map (fun i=>(i.zero,i.size,i.bytes))=some (some (.string ByteArray.empty),1,16):=by kernel_rfl
end Go.Proofs.YtppfkokfnoeopaaGreatDoor
