/- A part of a proof. -/
import Derived.Deep.RegionLaw
import Derived.Test.YtppfkokfnoeopaaGreatDoorSClusIter
import Derived.Test.YtppfkokfnoeopaaGreatDoorSRefCrew
import Derived.Test.YtppfkokfnoeopaaGreatDoorSRClus
set_option maxRecDepth 400000
set_option maxHeartbeats 6400000
namespace Go.Proofs.YtppfkokfnoeopaaGreatDoor
open Go.RowKit Go.Maps Go.Proofs.Tryz
theorem Su(R:RL)(rs:List RN)(c:CP)(n:Int)(w:World)(h:An w R rs c)(hst:∀i x,c.f i=some x→x.st=0∨x.st=1∨x.st=2) :
 Calls prog 53 #[.pointer (some ⟨R.cb,0,none⟩),.int .i64 n] w fun e w'=>e=.returned (.string ⟨(c.stT n).toArray⟩)∧Below w.heap.size w w':=by
 obtain⟨_,_,_,_,c4⟩:=h.cells;have K:=zh (Hv R rs c n w h);have hl16:=h.len
 rcases h.look n with⟨hf,hi⟩|⟨k,hk,hi,hn,hf⟩
 ·rw[hi] at K
  have HS:Hid (c.stT n=[]):=by unfold Hid CP.stT;rw[hf]
  clear h hf hi hst;go_enter func53,ntmps53;go_wp2_with fail;refine K.out.mono ?_;rintro e w1⟨rfl,rfl⟩;go_wp2;go_ret;rw[HS.out];exact⟨rfl,Below.refl _ _⟩
 ·rw[hi] at K
  obtain⟨n0,n1,n2,n3,n4,n5,n6⟩:=h.at k hk;obtain⟨hlb,hlt⟩:=h.lt;have hi0:(0:Int)≤(k:Int):=by omega
  have hi1:(k:Int)<(rs.length:Int):=by omega
  have hs3:=hst n _ hf;have HS:Hid (c.stT n=Go.Proofs.YtppfkokfnoeopaaGreatDoor.stT rs[k].x.st):=by unfold Hid CP.stT;rw[hf]
  generalize rs[k]=r at *;clear h hf hi hn hst n0 n2 n3 n4 n5 n6
  rcases hs3 with h3|h3|h3
  all_goals
   rw[h3] at n1 HS;clear h3;go_enter func53,ntmps53;go_wp2_with fail;refine K.out.mono ?_;rintro e w1⟨rfl,rfl⟩;go_wp2;go_ret;rw[HS.out];exact⟨rfl,zb.alloc zl _⟩
def zBf(c:CP)(n:Int)(w:World)(e:Ending)(w':World):Prop:=∃(j:Int) (la:Option Addr) (lc:Nat),e=.returned (.tuple #[.agg #[.int .i64 j,.int .i64 (c.on n).1.st,.int .i64 (c.on n).1.val,.int .i64 (c.on n).1.m,.int .i64 (c.on n).1.d,.int .i64 (c.on n).1.s,.slice la (c.on n).1.h.length lc],.int .i64 (c.on n).2])∧Ac w' la (Av (c.on n).1.h)∧Below w.heap.size w w'
theorem Yk(R:RL)(rs:List RN)(c:CP)(n:Int)(w:World)(h:An w R rs c)(hst:∀i x,c.f i=some x→x.st=0∨x.st=1∨x.st=2) :
 Calls prog 60 #[.pointer (some ⟨R.cb,0,none⟩),.int .i64 n] w (zBf c n w):=by
 have hal:Below w.heap.size w (w.alloc (.cells #[.int .i64 0,.int .i64 0,.int .i64 0,.int .i64 0,.int .i64 0,.int .i64 0,.slice none 0 0] 99)):=zb.alloc zl _;have h1:=h.below hal;obtain⟨_,_,_,_,c4⟩:=h1.cells;have K:=zh (Hv R rs c n _ h1);have hl16:=h.len;have hlt:=h.lt
 rcases h.look n with⟨hf,hi⟩|⟨k,hk,hi,hn,hf⟩
 ·rw[hi] at K
  have HS:Hid (c.on n=(NP0,4)):=by unfold Hid CP.on;rw[hf]
  clear h h1 hf hi hst;go_enter func60,ntmps60;go_wp2_with fail;refine K.out.mono ?_;rintro e w1⟨rfl,rfl⟩;go_wp2;refine bodyPost_ret (v:=.tuple #[.agg #[.int .i64 0,.int .i64 0,.int .i64 0,.int .i64 0,.int .i64 0,.int .i64 0,.slice none 0 0],.int .i64 4]) (by simp[results,results60,go_sem]) rfl ?_;refine⟨0,none,0,by rw[HS.out];rfl,by rw[HS.out];exact Ac.nil _ _,?_⟩;exact zb.alloc zl _
 ·rw[hi] at K
  obtain⟨n0,n1,n2,n3,n4,n5,n6⟩:=h1.at k hk;obtain⟨hlb,hltn⟩:=h1.lt;have hi0:(0:Int)≤(k:Int):=by omega
  have hi1:(k:Int)<(rs.length:Int):=by omega
  have hs3:=hst n _ hf;have HR:=zh (h.each k hk).2;generalize rs[k]=r at *
  by_cases h2:r.x.st=2
  ·have HS:Hid (c.on n=(r.x,0)):=by unfold Hid CP.on;rw[hf];dsimp only;rw[if_pos h2]
   have hb:decide (r.x.st<2)=false:=by simp;omega
   clear h h1 hf hi hn hst hs3 h2;go_enter func60,ntmps60;go_wp2_with fail;refine K.out.mono ?_;rintro e w1⟨rfl,rfl⟩;go_wp2;refine bodyPost_ret (v:=.tuple #[.agg #[.int .i64 r.n,.int .i64 r.x.st,.int .i64 r.x.val,.int .i64 r.x.m,.int .i64 r.x.d,.int .i64 r.x.s,.slice r.la r.x.h.length r.lc],.int .i64 0]) (by simp[results,results60,go_sem]) rfl ?_;have hb2:Below w.heap.size w (w.alloc (.cells #[.int .i64 r.n,.int .i64 r.x.st,.int .i64 r.x.val,.int .i64 r.x.m,.int .i64 r.x.d,.int .i64 r.x.s,.slice r.la r.x.h.length r.lc] 99)):=zb.alloc zl _;refine⟨r.n,r.la,r.lc,by rw[HS.out];rfl,by rw[HS.out];exact(Cd HR.out).below hb2,hb2⟩
  ·have HS:Hid (c.on n=(NP0,11)):=by unfold Hid CP.on;rw[hf];dsimp only;rw[if_neg h2]
   have hb:decide (r.x.st<2)=true:=by simp;omega
   clear h h1 hf hi hn hst hs3 h2;go_enter func60,ntmps60;go_wp2_with fail;refine K.out.mono ?_;rintro e w1⟨rfl,rfl⟩;go_wp2;refine bodyPost_ret (v:=.tuple #[.agg #[.int .i64 0,.int .i64 0,.int .i64 0,.int .i64 0,.int .i64 0,.int .i64 0,.slice none 0 0],.int .i64 11]) (by simp[results,results60,go_sem]) rfl ?_;refine⟨0,none,0,by rw[HS.out];rfl,by rw[HS.out];exact Ac.nil _ _,?_⟩;exact zb.alloc zl _
def Ke(rs:List RN):List Int:=(rs.filter fun r=>decide (r.x.st=2)).map RN.n
theorem zCa(rs:List RN)(k:Nat)(hk:k<rs.length):Ke (rs.take (k+1))=Ke (rs.take k)++if rs[k].x.st=2 then[rs[k].n] else[]:=by
 rw[List.take_succ_eq_append_getElem hk,Ke,List.filter_append,List.map_append]
 congr 1
 by_cases h:rs[k].x.st=2
 ·rw[if_pos h,List.filter_cons,decide_eq_true h];rfl
 ·rw[if_neg h,List.filter_cons,decide_eq_false h];rfl
theorem Xb(rs:List RN):(Ke rs).length≤rs.length:=by
 rw[Ke,List.length_map];exact List.length_filter_le _ _
theorem An.act{w:World}{R:RL}{rs:List RN}{c:CP}(h:An w R rs c)(i:Int):i∈Ke rs↔Ns (c.f i)=true:=by
 rw[Ke,List.mem_map]
 constructor
 ·rintro⟨r,hr,rfl⟩
  obtain⟨hr1,hr2⟩:=List.mem_filter.1 hr;obtain⟨k,hk,rfl⟩:=List.getElem_of_mem hr1;rw[(h.each k hk).1];exact hr2
 ·intro ha
  rcases h.look i with⟨hf,_⟩|⟨k,hk,_,hn,hf⟩
  ·rw[hf] at ha;simp[Ns] at ha
  ·rw[hf] at ha
   exact⟨rs[k],List.mem_filter.2 ⟨List.getElem_mem hk,ha⟩,hn⟩
theorem zDk(R:RL)(rs:List RN)(c:CP)(w:World)(h:An w R rs c)(hd:∀i,(c.f i).isSome=decide (i∈c.plan))(hp:∀i∈c.plan,Aq i=true) :
 Calls prog 57 #[.pointer (some ⟨R.cb,0,none⟩)] w fun e w'=>e=.returned (.int .i64 (c.crewN:Nat))∧Below w.heap.size w w':=by
 have hl16:=h.len;have H:=zh h;have HD:=zh hd;have HP:=zh hp;clear h hd hp;go_enter func57,ntmps57;go_wp2;go_loopw [3,4] (fun v i wr=>∃k:Nat,k≤rs.length∧i=.int .i64 k∧wr.ownsRow w.heap.size 3 1 v (Ke (rs.take k)).length (Aa (Ke (rs.take k)))∧Below w.heap.size w wr) (fun _ i _=>rs.length-(intOf i).toNat)
 case atStart=>exact⟨0,Nat.zero_le _,rfl,World.ownsRow_nil _ _ _ _,Below.refl _ _⟩
 case round=>
  obtain⟨k,hk,rfl,ho,hb⟩:=hrel;have hr:=H.out.below hb;obtain⟨_,_,_,_,c4⟩:=hr.cells;have hlc:=hr.lt
  by_cases hlt:k<rs.length
  ·obtain⟨n0,n1,_⟩:=hr.at k hlt
   have HSN:=zh (zCa rs k hlt);have hal:=Xb (rs.take k);have hal2:(Ke (rs.take k)).length≤16:=by rw[List.length_take] at hal;omega
   have hi0:(0:Int)≤(k:Int):=by omega
   have hi1:(k:Int)<(rs.length:Int):=by omega
   have HO:=zh ho;have HB:=zh hb;generalize Ke (rs.take k)=ks at *;generalize rs[k]=r at *;obtain⟨va,vc,rfl⟩:=Aj ho
   by_cases h2:r.x.st=2
   ·have hd2:(r.x.st==2)=true:=by simpa using h2
    have HE:Hid (Ke (rs.take (k+1))=ks++[r.n]):=by unfold Hid;rw[HSN.out,if_pos h2]
    clear hr hal ho hb h2;have HO1:=zh (HO.out.alloc (.cells #[.int .i64 r.n] 3));have HB1:=zh (HB.out.alloc HB.out.size (.cells #[.int .i64 r.n] 3));go_wp2_with (at_builtin;refine Ha rfl (.tmp 25) (.tmp 34) rfl w.heap.size (v:=.slice va ks.length vc) (xs:=ks) (b:=wr.heap.size) (i:=r.n) rfl rfl HO1.out ?_ ?_ ?_ ?_ ?_;(simp);(simp);omega;exact HB1.out.size;intro v' w5 ho5 hg5 hm5);have HB5:Hid (Below w.heap.size w w5):=HB1.out.grown hg5 HB1.out.size (fun j e=>(HO1.out.lt j e).1);have HL5:Hid ((ks++[r.n]).length=ks.length+1):=by unfold Hid;simp
    clear hg5 hm5;go_roundw
    case rel=>exact⟨k+1,by omega,by go_num,by rw[HE.out,HL5.out];exact ho5,HB5.out⟩
    case measure=>simp[intOf];omega
   ·have hd2:(r.x.st==2)=false:=by simpa using h2
    have HE:Hid (Ke (rs.take (k+1))=ks):=by unfold Hid;rw[HSN.out,if_neg h2,List.append_nil]
    clear hr hal ho hb h2;go_wp2;go_roundw
    case rel=>exact⟨k+1,by omega,by go_num,by rw[HE.out];exact HO.out,HB.out⟩
    case measure=>simp[intOf];omega
  ·obtain rfl:k=rs.length:=by omega
   rw[List.take_length] at ho;have hal:=Xb rs;have hmem:=H.out.act;have HCR:=zh (Xi HD.out hmem)
   have hkn:∀i∈Ke rs,Aq i=true:=fun i hi=>by
    have h1:=(hmem i).1 hi;refine HP.out i ?_;have h2:=HD.out i
    cases hf:c.f i with
    | none=>rw[hf] at h1;simp[Ns] at h1
    | some y=>rw[hf] at h2;simpa using h2.symm
   have hF:Fx (Ke rs)=((A6 (Ke rs):Int),0,-1):=by rw[Fx,if_pos ((E7 (Ke rs) 0 (by omega)).2 hkn)]
   obtain⟨va,vc,rfl⟩:=Aj ho;have C:=zh (Jr va (Ke rs).length vc (Ke rs) wr rfl (Cd ho) (by omega));rw[hF] at C;have HB:=zh hb;clear hmem hkn hF ho hr hb;go_wp2_with fail;refine C.out.mono ?_;rintro e w2⟨rfl,hb2⟩;go_wp2;go_ret;exact⟨by rw[←HCR.out];rfl,(Ar HB.out hb2).alloc (Ar HB.out hb2).size _⟩
theorem Rx:(prog.info? 99).map (fun i=>(i.zero,i.size,i.bytes))=some (some (.agg #[.int .i64 0,.int .i64 0,.int .i64 0,.int .i64 0,.int .i64 0,.int .i64 0,.slice none 0 0]),7,72):=by kernel_rfl
def Nh(all:Int)(l:List Int):List RN:=l.map fun i=>⟨i,⟨2,0,all,0,0,[]⟩,none,0⟩
theorem RN.len(r:RN):r.cells.length=7:=rfl
theorem RN.one(r:RN):∀u∈r.cells,u.oneCell'=true:=by
 intro u hu;simp[RN.cells] at hu;rcases hu with rfl|rfl|rfl|rfl|rfl|rfl|rfl<;>rfl
def Fk(l:List RN):List Value:=l.flatMap RN.cells
theorem Zv(xs:List RN)(s:RN):Fk (xs++[s])=Fk xs++s.cells:=by simp[Fk]
theorem zC6(all:Int)(l:List Int)(k:Nat)(hk:k<l.length):Nh all (l.take (k+1))=Nh all (l.take k)++[⟨l[k],⟨2,0,all,0,0,[]⟩,none,0⟩]:=by
 rw[List.take_succ_eq_append_getElem hk,Nh,List.map_append];rfl
theorem zIm{w:World}{cb base n cap k vc B0:Nat}{a va:Option Addr}{all:Int}{l ls:List Int}(hC:Af w cb 94 #[.slice a n cap,.int .i64 0,.int .i64 0,.int .i64 (-1),.slice va k vc])(ho:w.ownsRow base 99 7 (.slice va k vc) k (Fk (Nh all ls)))(hall:((A6 l:Nat):Int)=all)(hk:ls.length=k)(hk16:k≤16)(mem:∀x,x∈ls↔x∈l)(rise:ls.Pairwise (· < ·))(hn:l.length=n)(hp:Ac w a (Aa l))(hpos:0<l.length)(hfar:∀b off,a=some ⟨b,off,none⟩→b<B0)(h1:B0≤cb)(h2:B0≤base) :
 ∃(R:RL) (rs:List RN),An w R rs (CP.new l)∧R.cb=cb∧R.pa=a∧B0≤R.nb:=by
 have hlp:0<k:=by
  obtain⟨x,hx⟩:=List.exists_mem_of_length_pos hpos;have:=List.length_pos_of_mem ((mem x).2 hx);omega
 rcases ho.2 with⟨_,h0⟩|⟨g,cap2,cur,e,hg,hh,_⟩
 ·omega
 ·injection e with e1 e2 e3
  subst e1 e3;have hlr:(Nh all ls).length=k:=by rw[Nh,List.length_map,hk]
  have hrow:=(Ac.owned ho).1;refine⟨⟨cb,g,0,vc,a,cap⟩,Nh all ls,⟨?_,⟨cur,hh⟩,fun i j v hi hv=>?_,hp,fun b off e=>?_,fun i hi=>?_,fun i hi=>?_,?_,?_⟩,rfl,rfl,Nat.le_trans h2 hg⟩
  ·rw[hlr];show Af w cb _ #[.slice a l.length cap,_,_,_,_];rw[hn];exact hC
  ·have hj:j<7:=by have:=(List.getElem?_eq_some_iff.1 hv).1;simpa[RN.cells] using this
   have:=hrow.cell (i:=i*7+j) (v:=v) (by rw[Fk,N7 RN.cells 7 RN.len (Nh all ls) i hi j hj];exact hv);dsimp only;rw[Nat.add_assoc];exact this
  ·have:=hfar b off e
   dsimp only;omega
  ·have hi':i<ls.length:=by rw[hk,←hlr];exact hi
   have e:(Nh all ls)[i]=⟨ls[i],⟨2,0,all,0,0,[]⟩,none,0⟩:=by simp[Nh]
   rw[e];refine⟨?_,Cx.nil _⟩
   show(if ls[i]∈l then _ else _)=_
   rw[if_pos ((mem _).1 (List.getElem_mem hi')),hall]
  ·have hm:i∈l:=by
    by_cases hm:i∈l
    ·exact hm
    ·have:(CP.new l).f i=none:=if_neg hm
     rw[this] at hi;simp at hi
   rw[Nh,List.map_map];exact List.mem_map.2 ⟨i,(mem i).2 hm,rfl⟩
  ·rw[Nh,List.map_map,show(RN.n∘fun i=>(⟨i,⟨2,0,all,0,0,[]⟩,none,0⟩:RN))=id from rfl,List.map_id];exact rise
  ·omega
theorem zB3(a:Option Addr)(n cap:Nat)(l:List Int)(w:World)(hn:l.length=n)(hr:Ac w a (Aa l))(hp:(Ay l).1=0) :
 Calls prog 31 #[.slice a n cap] w fun e w'=>∃(R:RL) (rs:List RN),e=.returned (.tuple #[.pointer (some ⟨R.cb,0,none⟩),.agg #[.int .i64 0,.int .i64 (-1)]])∧An w' R rs (CP.new l)∧R.pa=a∧w.heap.size≤R.cb∧w.heap.size≤R.nb∧Below w.heap.size w w':=by
 have hpl:=Ai hp;have e0:Ay l=(0,-1):=hpl.1;have hal:Below w.heap.size w (w.alloc (.cells #[.int .i64 0,.int .i64 0] 55)):=zb.alloc zl _;have KP:=zh (Cc a n cap l _ hn (hr.below hal) (by omega));rw[e0,show(((0:Nat),(-1:Int)).1:Int)=0 from rfl] at KP;dsimp only at KP;have hF:Fx l=((A6 l:Int),0,-1):=by rw[Fx,if_pos ((E7 l 0 (by omega)).2 hpl.2.2.2)]
 have KC:=zh (fun(W:World) (hb:Below w.heap.size w W)=>Jr a n cap l W hn (hr.below hb) (by omega));rw[hF] at KC;dsimp only at KC;rw[show((0:Nat):Int)=0 from rfl] at KC;have HNM:Hid (∀x,x∈Ao (A6 l) 16↔x∈l):=fun x=>Hs hpl.2.2.2 x
 have HRI:Hid ((Ao (A6 l) 16).Pairwise (· < ·)):=Kr l;have hlen:=Ck (A6 l) 16;have HN:=zh hn;have HR:=zh hr;have HPOS:Hid (0<l.length):=hpl.2.1
 have HFAR:Hid (∀b off,a=some ⟨b,off,none⟩→b<w.heap.size):=fun b off e=>by
  subst e;obtain⟨b',off',e',hlt,_⟩:=hr.at (fun e=>by have h1:=congrArg List.length e;rw[Ci] at h1;simp at h1;have:=hpl.2.1;subst h1;simp at this);injection e' with e';injection e' with e1;omega
 clear hpl e0 hF hn hr hp;go_enter func31,ntmps31;go_wp2_with fail;refine KP.out.mono ?_;rintro e w1⟨rfl,hb1⟩;have B1:Af w1 w.heap.size 55 #[.int .i64 0,.int .i64 0]:=(Af.new w _ _).kept hb1;have hv1:=zAj hb1;have hb2:Below w1.heap.size w1 (w1.alloc (.cells #[.int .i64 0,.int .i64 (-1)] 55)):=zb.alloc zl _;have hv2:=Ar hv1 hb2;have B2:=B1.kept hb2;have P2:=Af.new w1 55 #[.int .i64 0,.int .i64 (-1)];have K2:=zh (KC.out _ hv2);go_wp2_with fail;refine K2.out.mono ?_;rintro e w3⟨rfl,hb3⟩;have B3:=B2.kept hb3;have P3:=P2.kept hb3;have hv3:=Ar hv2 hb3;have hA4:Below w3.heap.size w3 (w3.alloc (.cells #[.int .i64 0,.int .i64 (-1)] 55)):=zb.alloc zl _;obtain⟨w4,hw4⟩:∃W,W=w3.alloc (.cells #[.int .i64 0,.int .i64 (-1)] 55):=⟨_,rfl⟩
 rw[←hw4] at hA4;have B4:=B3.kept hA4;have P4:=P3.kept hA4;have hv4:=Ar hv3 hA4;have hA5:Below w4.heap.size w4 (w4.alloc (.cells #[.slice a n cap,.int .i64 0,.int .i64 0,.int .i64 (-1),.slice none 0 0] 94)):=zb.alloc zl _;have B5:=B4.kept hA5;have P5:=P4.kept hA5;have hv5:=Ar hv4 hA5;have C5:=Af.new w4 94 #[.slice a n cap,.int .i64 0,.int .i64 0,.int .i64 (-1),.slice none 0 0];have KL:=zh (Nc ((A6 l:Nat):Int) (w4.alloc (.cells #[.slice a n cap,.int .i64 0,.int .i64 0,.int .i64 (-1),.slice none 0 0] 94)));have hz4:w4.heap.size=w3.heap.size+1:=by rw[hw4];simp
 generalize hall:((A6 l:Nat):Int)=all at *;have HALL:=zh hall;clear hall;have HZ4:=zh hz4;have hl1:w.heap.size<w1.heap.size:=B1.lt;have hl3:w1.heap.size<w3.heap.size:=P3.lt;rw[hz4] at C5;clear hb1 hb2 hb3 hA4 hv1 hv2 hv3 hv4 hal B1 B2 B3 B4 P2 P3 P4 K2 KP hz4;go_wp2_with fail;rw[←hw4];clear hw4;refine KL.out.mono ?_;rintro e w6⟨ao,nx,co,rfl,hrowO,hnx,hco,hb6⟩;have hrow:=Cd hrowO;have B6:=B5.kept hb6;have P6:=P5.kept hb6;have C6:=C5.kept hb6;have hv6:=Ar hv5 hb6;have hcb6:w3.heap.size+1<w6.heap.size:=C6.lt;have hpb6:w1.heap.size<w6.heap.size:=by omega
 have hfb6:w.heap.size<w6.heap.size:=by omega
 obtain⟨i0,hi,hz0,hz1,hz2⟩:=info_parts Rx;have hi':=zh hi;have hz0':=zh hz0;have hz1':=zh hz1;have hz2':=zh hz2;clear hi hz0 hz1 hz2;have hl13:w1.heap.size<w3.heap.size+1:=by omega
 have hrb:∀b off,ao=some ⟨b,off,none⟩→w3.heap.size+1<b:=fun b off e=>by
  have:=(hrowO.lt b (by rw[e];rfl)).1;have h2:=HZ4.out;simp at this;omega
 have HRB:=zh hrb;clear hrb hrowO;have hl03:w.heap.size<w3.heap.size+1:=by omega
 clear hl3 hv5 hA5 hb6 B5 P5 C5 KL;generalize w3.heap.size+1=cb at *;generalize w1.heap.size=pb at *;have HB6:=zh B6;have HP6:=zh P6;have HV6:=zh hv6;have HROW:=zh hrow;have HNX:=zh hnx;have hnx16:nx≤16:=by omega
 clear B6 P6 hv6 hrow hnx hlen;go_wp2;go_loopw [9] (fun i wr=>∃(k:Nat) (v:Value),k≤nx∧i=.int .i64 k∧Af wr cb 94 #[.slice a n cap,.int .i64 0,.int .i64 0,.int .i64 (-1),v]∧wr.ownsRow w6.heap.size 99 7 v k (Fk (Nh all ((Ao all 16).take k)))∧Fr (fun j=>j=cb) w6 wr) (fun i _=>nx-(intOf i).toNat)
 case atStart=>exact⟨0,_,Nat.zero_le _,rfl,C6,World.ownsRow_nil _ _ _ _,Fr.refl _ _⟩
 case round=>
  clear C6;obtain⟨k,v,hk,rfl,hC,ho,hF⟩:=hrel
  by_cases hlt:k<nx
  ·have hkl:k<(Ao all 16).length:=by rw[HNX.out];exact hlt
   have hrr:=HROW.out.off hF (fun b off e _ hs=>by have:=HRB.out b off e;omega);obtain⟨b,off,rfl,hbl,cx⟩:=hrr.int k hkl;have HSN:=zh (zC6 all (Ao all 16) k hkl);obtain⟨va,vc,rfl⟩:=Aj ho;have d4:=hC.cell 4 rfl;have hi0:(0:Int)≤(k:Int):=by omega
   have hi1:(k:Int)<(nx:Int):=by omega
   generalize (Ao all 16)[k]=x at *;have HO:=zh ho;have HC:=zh hC;have HF:=zh hF;have hcbl:=hC.lt;have hcf:=hC.frozen 4;have hsz:=hF.size
   have HCK:Hid (∀w7:World,(wr.alloc (.cells (RN.cells ⟨x,⟨2,0,all,0,0,[]⟩,none,0⟩).toArray 99)).drew.grownBy w7 (Value.slice va k vc).ownBlock→Af w7 cb 94 #[.slice a n cap,.int .i64 0,.int .i64 0,.int .i64 (-1),.slice va k vc]):=fun w7 hg=>
    (hg.block cb (by simp;omega) (fun e=>by have:=(ho.lt cb e.symm).1;omega)).trans (hC.alloc (.cells (RN.cells ⟨x,⟨2,0,all,0,0,[]⟩,none,0⟩).toArray 99))
   clear hrr ho hC hF;go_wp2;go_region_law (refine step_append_lies _ (by rfl) _ _ 92 (by rfl) w6.heap.size 99 i0 _ 7 72 underlying92 hi'.out hz0'.out hz1'.out hz2'.out rfl (by omega) (.slice va k vc) k (Fk (Nh all ((Ao all 16).take k))) (by rfl) ((HO.out.alloc _).drew) ⟨wr.heap.size,0,none⟩ 1 1 (RN.cells ⟨x,⟨2,0,all,0,0,[]⟩,none,0⟩) (by rfl) (by rfl) (World.news_of_block (cs:=(RN.cells ⟨x,⟨2,0,all,0,0,[]⟩,none,0⟩).toArray) (t:=99) (fr:=(0,0)) (heap_alloc_new wr _)) (RN.one _) (by omega) (by unfold maxLen;omega) (by omega) (by simp;omega) (wr.heap.size+1) (by simp) ?_;intro gg cap2 w7 ho7 hg7 hat7 hlt7;have C7:=HCK.out w7 hg7;have e4:=C7.cell 4 rfl;have f4:=C7.frozen 4)
   all_goals
    have hF7:Fr (fun j=>j=cb) w6 w7:=((HF.out.alloc (.cells (RN.cells ⟨x,⟨2,0,all,0,0,[]⟩,none,0⟩).toArray 99)).drewN 1).then (Fr.grown (S:=fun j=>(Value.slice va k vc).ownBlock=some j) hg7 (fun j e=>e)) (fun j e=>Or.inr (HO.out.lt j e).1);have hF8:=hF7.setCell (p:=⟨cb,4,none⟩) (Or.inl rfl) (.slice (some ⟨gg,0,none⟩) (k+1) cap2);have C8:Af (w7.setCell ⟨cb,4,none⟩ (.slice (some ⟨gg,0,none⟩) (k+1) cap2)) cb 94 #[.slice a n cap,.int .i64 0,.int .i64 0,.int .i64 (-1),.slice (some ⟨gg,0,none⟩) (k+1) cap2]:=by have:=C7.set 4 (.slice (some ⟨gg,0,none⟩) (k+1) cap2);simpa using this
    have O8:(w7.setCell ⟨cb,4,none⟩ (.slice (some ⟨gg,0,none⟩) (k+1) cap2)).ownsRow w6.heap.size 99 7 (.slice (some ⟨gg,0,none⟩) (k+1) cap2) (k+1) (Fk (Nh all ((Ao all 16).take (k+1)))):=by
     rw[HSN.out,Zv];refine Dh ho7 (S:=fun j=>j=cb) ((Fr.refl (fun j=>j=cb) w7).setCell (p:=⟨cb,4,none⟩) (Or.inl rfl) _) (fun j cur hj e=>?_);subst e;rw[show w7.heap[j]?=_ from C7] at hj;injection hj with hj;injection hj with _ e;revert e;decide
    have HF8:=zh hF8;have HC8:=zh C8;have HO8:=zh O8;clear hF7 hF8 C8 O8 C7 e4 f4 hg7 hat7 hlt7 ho7;go_wp2;go_roundw
    case rel=>first|exact⟨k+1,_,by omega,by go_num,HC8.out,HO8.out,HF8.out⟩|((repeat apply Exists.intro);exact⟨⟨k+1,_,by omega,by go_num,HC8.out,HO8.out,HF8.out⟩,rfl⟩)
    case measure=>simp[intOf];omega
  ·obtain rfl:k=nx:=by omega
   rw[List.take_of_length_le (by rw[HNX.out];omega)] at ho;have hv:=hF.below (B:=w.heap.size) (by omega) (fun j e=>by omega);have B7:Af wr w.heap.size 55 #[.int .i64 0,.int .i64 0]:=(hF.block _ hfb6 (fun e=>by omega)).trans HB6.out;have P7:Af wr pb 55 #[.int .i64 0,.int .i64 (-1)]:=(hF.block _ hpb6 (fun e=>by omega)).trans HP6.out;have c0:=B7.cell 0 rfl;have c1:=B7.cell 1 rfl;have f0:=B7.frozen 0;have f1:=B7.frozen 1;have p0:=P7.cell 0 rfl;have p1:=P7.cell 1 rfl;have lb:=B7.lt;have lp:=P7.lt;have HC:=zh hC;have HO:=zh ho;have HF:=zh hF;have HB7:=zh B7;clear hC ho hF hv B7 P7;go_wp2;go_region;go_wp2;refine bodyPost_ret (v:=.tuple #[.pointer (some ⟨cb,0,none⟩),.agg #[.int .i64 0,.int .i64 (-1)]]) (by simp[results,results31,go_sem,c0,c1]) rfl ?_;have hbw:Below w.heap.size w wr:=HF.out.base HV6.out (fun j e=>by omega);have hf9:Fr (fun j=>j=w.heap.size) wr ((wr.setCell ⟨w.heap.size,0,none⟩ (.int .i64 0)).setCell ⟨w.heap.size,1,none⟩ (.int .i64 (-1))).drew:=(((Fr.refl (fun j=>j=w.heap.size) wr).setCell (p:=⟨w.heap.size,0,none⟩) (Or.inl rfl) _).setCell (p:=⟨w.heap.size,1,none⟩) (Or.inl rfl) _).drewN 1;obtain⟨va,vc,rfl⟩:=Aj HO.out;obtain⟨R,rs,hRA,rfl,hpa,hnb⟩:=zIm (B0:=w.heap.size+1) HC.out HO.out HALL.out HNX.out (by omega) HNM.out HRI.out HN.out (HR.out.below hbw) HPOS.out (fun b off e=>by have:=HFAR.out b off e;omega) hl03 (by omega);refine⟨R,rs,rfl,hRA.kept hf9 (fun e=>by omega) (fun e=>by omega) (fun b off e e2=>?_) (fun j cur hj e=>?_),hpa,by omega,by omega,hbw.trans (hf9.below hbw.size (fun j e=>by omega))⟩
   ·rw[hpa] at e
    have:=HFAR.out b off e;omega
   ·subst e
    rw[show wr.heap[w.heap.size]?=_ from HB7.out] at hj;injection hj with hj;injection hj with _ e;revert e;decide
theorem zGz(a:Option Addr)(n cap:Nat)(l:List Int)(w:World)(hn:l.length=n)(hr:Ac w a (Aa l))(hc:n≤4611686018427387904)(hp:(Ay l).1≠0) :
 Calls prog 31 #[.slice a n cap] w fun e w'=>e=.returned (.tuple #[.pointer none,.agg #[.int .i64 (Ay l).1,.int .i64 (Ay l).2]])∧Below w.heap.size w w':=by
 have hal:Below w.heap.size w (w.alloc (.cells #[.int .i64 0,.int .i64 0] 55)):=zb.alloc zl _;have KP:=zh (Cc a n cap l _ hn (hr.below hal) hc);generalize (Ay l).1=pc at *;generalize (Ay l).2=pp at *;have hd:decide (0<pc)=true:=decide_eq_true (by omega);clear hp hr;go_enter func31,ntmps31;go_wp2_with fail;refine KP.out.mono ?_;rintro e w1⟨rfl,hb1⟩;have hv1:=zAj hb1;obtain⟨w2,hw2⟩:∃W,W=w1.alloc (.cells #[.int .i64 pc,.int .i64 pp] 55):=⟨_,rfl⟩
 have hA:Below w1.heap.size w1 w2:=by rw[hw2];exact zb.alloc zl _
 have B1:Af w2 w.heap.size 55 #[.int .i64 0,.int .i64 0]:=((Af.new w _ _).kept hb1).kept hA;have P1:Af w2 w1.heap.size 55 #[.int .i64 pc,.int .i64 pp]:=by rw[hw2];exact Af.new w1 _ _
 have hv2:=Ar hv1 hA;have c0:=B1.cell 0 rfl;have c1:=B1.cell 1 rfl;have f0:=B1.frozen 0;have f1:=B1.frozen 1;have l1:=B1.lt;have p0:=P1.cell 0 rfl;have p1:=P1.cell 1 rfl;clear hA B1 P1 hv1 hb1;go_upto_region 3 with(fail);rw[←hw2];clear hw2;go_region;go_wp2;refine bodyPost_ret (v:=.tuple #[.pointer none,.agg #[.int .i64 pc,.int .i64 pp]]) (by simp[results,results31,go_sem,c0,c1]) rfl ?_;have h2:=(hv2.setCell (p:=⟨w.heap.size,0,none⟩) zl (.int .i64 pc)).setCell (p:=⟨w.heap.size,1,none⟩) zl (.int .i64 pp);exact⟨rfl,Ab h2 1⟩
end Go.Proofs.YtppfkokfnoeopaaGreatDoor
