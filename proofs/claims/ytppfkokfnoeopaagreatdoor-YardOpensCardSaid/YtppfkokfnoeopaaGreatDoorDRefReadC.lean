/- A part of a proof. -/
import Derived.Test.YtppfkokfnoeopaaGreatDoorDMemSend
import Derived.Test.YtppfkokfnoeopaaGreatDoorDRefCrew
namespace Go.Proofs.YtppfkokfnoeopaaGreatDoor
open Go.RowKit
theorem signed_any(n:Int)(w:World)(h0 : -9223372036854775807≤n∧n≤9223372036854775807) :
 Calls Tryz.prog 90 #[.int .i64 n] w fun e w'=>e=.returned (.string ⟨(Lib.itoa n).toArray⟩)∧Below w.heap.size w w':=by
 by_cases hn:n<0
 ·obtain⟨m,rfl⟩:∃m:Nat,n=-(m:Int):=⟨n.natAbs,by omega⟩
  have HD:=Lib.hid (Lib.itoa_neg m (by omega));have HL:=(digits_le m 19 (by omega)).2 (by rw[ten19];omega);have K:=Lib.hid (decimal_any (m:Int) w (by omega));rw[Lib.itoa_nonneg] at K;generalize Lib.decDigits m=dm at *;have c1:=ba_append [45] dm;go_enter Tryz.func90,Tryz.ntmps90;go_wp2_with fail;refine K.out.mono ?_;rintro e w1⟨rfl,hb1⟩;go_wp2;go_ret;exact⟨by rw[HD.out];rfl,hb1⟩
 ·have K:=Lib.hid (decimal_any n w (by omega))
  generalize Lib.itoa n=tn at *;clear h0;go_enter Tryz.func90,Tryz.ntmps90;go_wp2_with fail;refine K.out.mono ?_;rintro e w1⟨rfl,hb1⟩;go_wp2;go_ret;exact⟨rfl,hb1⟩
theorem run_adds(a b:List UInt8)(h:a.length+b.length≤9223372036854775807)(W:World):(Op.stringOp .add ⟨a.toArray⟩ ⟨b.toArray⟩).run Tryz.prog W=.ok (.string ⟨(a++b).toArray⟩) W:=by
 rw[run_string_add_sum _ _ _ (by simp[ByteArray.size];omega)];exact congrArg (fun z=>Result.ok (Value.string z) W) (ba_append a b)
set_option maxRecDepth 100000 in
set_option maxHeartbeats 1600000 in
theorem historyText_any(a:Option Addr)(n cap:Nat)(es:List Ent)(w:World)(hn:es.length=n)(hr:RowAt w a (encEnts es))(hm:n≤4611686018427387904)(h:(chk es).1=0) :
 Calls Tryz.prog 55 #[.slice a n cap] w fun e w'=>e=.returned (.string ⟨(histT es).toArray⟩)∧Below w.heap.size w w':=by
 by_cases h0:n=0
 ·subst h0
  have:es=[]:=List.eq_nil_of_length_eq_zero hn;subst this;have HT:Hid (histT []=[45]):=rfl;clear hr hn h;go_enter Tryz.func55,Tryz.ntmps55;go_wp2;go_ret;exact⟨by rw[HT.out];rfl,Below.refl _ _⟩
 ·have hne:es≠[]:=fun e=>h0 (by rw[←hn,e];rfl)
  have hnz:((n:Int)==0)=false:=by simp;omega
  have HE:=Lib.hid (fun k (hk:k<es.length)=>chk_get h k hk);have HN:=Lib.hid hn;have HR:=Lib.hid hr;have HF:Hid (histP es n=histT es):=by unfold Hid;rw[←hn];exact histP_all es hne
  have HL:=Lib.hid (fun k=>histP_len h k);have HS:=Lib.hid (fun k hk h0=>histP_succ es k hk h0);have HO:=Lib.hid (fun hk=>histP_one es hk);clear hr hn h h0 hne;go_enter Tryz.func55,Tryz.ntmps55;go_wp2;go_loopw [3,4] (fun v i wr=>∃k:Nat,k≤n∧i=.int .i64 k∧v=.string ⟨(histP es k).toArray⟩∧Below w.heap.size w wr) (fun _ i _=>n-(intOf i).toNat)
  case atStart=>exact⟨0,Nat.zero_le _,rfl,rfl,Below.refl _ _⟩
  case round=>
   obtain⟨k,hk,rfl,rfl,hb⟩:=hrel
   by_cases hlt:k<n
   ·have hk1:k<es.length:=by have:=HN.out;omega
    obtain⟨b,off,rfl,hbl,c0,c1,c2,c3⟩:=(HR.out.below hb).ent k hk1;obtain⟨-,hnd,hvl,-⟩:=HE.out k hk1;simp only[nodeB,numB,decide_eq_true_eq] at hnd hvl;have hi0:(0:Int)≤(k:Int):=by omega
    have hi1:(k:Int)<(n:Int):=by omega
    have hl1:=HL.out k
    have HX:Hid (histP es (k+1)=histP es k++((if k=0 then[] else[44])++entT es[k])):=by
     unfold Hid
     by_cases hk0:k=0
     ·subst hk0;rw[if_pos rfl,HO.out hk1];rfl
     ·rw[if_neg hk0,HS.out k hk1 (by omega)]
    have hent:entT es[k]=if es[k].heard=true then Lib.itoa es[k].frm++([58]++Lib.itoa es[k].value) else Lib.itoa es[k].frm++[33]:=rfl
    generalize es[k]=e at *;rw[hent] at HX;have hil:=Lib.itoa_length_le e.frm (by omega) (by omega);have hil2:=Lib.itoa_length_le e.value (by omega) (by omega);have K1:=Lib.hid (fun(W:World)=>signed_any e.frm W (by omega));have K2:=Lib.hid (fun(W:World)=>signed_any e.value W (by omega));generalize Lib.itoa e.frm=t1 at *;generalize Lib.itoa e.value=t2 at *;generalize histP es k=P at *;have a1:=run_adds P [44] (by simp;omega);have a2:=run_adds (P++[44]) t1 (by simp;omega);have a3:=run_adds (P++[44]++t1) [33] (by simp;omega);have a4:=run_adds (P++[44]++t1) [58] (by simp;omega);have a5:=run_adds (P++[44]++t1++[58]) t2 (by simp;omega);have b2:=run_adds P t1 (by omega);have b3:=run_adds (P++t1) [33] (by simp;omega);have b4:=run_adds (P++t1) [58] (by simp;omega);have b5:=run_adds (P++t1++[58]) t2 (by simp;omega)
    by_cases hk0:k=0
    ·rw[if_pos hk0] at HX
     have hd:decide ((0:Int)<(k:Int))=false:=by simp;omega
     have hd':decide (0<k)=false:=by simp;omega
     clear hk0
     cases hh:e.heard
     ·rw[hh] at c2 HX
      go_wp2_with fail;refine(K1.out _).mono ?_;rintro e1 w1⟨rfl,hb1⟩;have c2:=(hb1.cell (p:=⟨b,off+k*4+2,none⟩) hbl).trans c2;have c3:=(hb1.cell (p:=⟨b,off+k*4+3,none⟩) hbl).trans c3;go_wp2;go_roundw
      case rel=>exact⟨k+1,by omega,by go_num,by rw[HX.out];first|(simp;done)|exact congrArg Value.string ((ba_append _ [33]).trans (by simp)),hb.trans (hb1.mono hb.size)⟩
      case measure=>simp[intOf];omega
     ·rw[hh] at c2 HX
      go_wp2_with fail;refine(K1.out _).mono ?_;rintro e1 w1⟨rfl,hb1⟩;have c2:=(hb1.cell (p:=⟨b,off+k*4+2,none⟩) hbl).trans c2;have c3:=(hb1.cell (p:=⟨b,off+k*4+3,none⟩) hbl).trans c3;have hv1:=hb.trans (hb1.mono hb.size);go_wp2_with fail;refine(K2.out _).mono ?_;rintro e2 w2⟨rfl,hb2⟩;go_wp2;go_roundw
      case rel=>exact⟨k+1,by omega,by go_num,by rw[HX.out];first|(simp;done)|exact congrArg Value.string ((ba_append _ t2).trans (by simp))|exact congrArg Value.string (((congrArg (·++(⟨t2.toArray⟩:ByteArray)) (ba_append _ [58])).trans (ba_append _ t2)).trans (by simp)),hv1.trans (hb2.mono hv1.size)⟩
      case measure=>simp[intOf];omega
    ·rw[if_neg hk0] at HX
     have hd:(0:Int)<(k:Int):=by omega
     have hd':decide (0<k)=true:=by simp;omega
     cases hh:e.heard
     ·rw[hh] at c2 HX
      go_wp2_with fail;refine(K1.out _).mono ?_;rintro e1 w1⟨rfl,hb1⟩;have c2:=(hb1.cell (p:=⟨b,off+k*4+2,none⟩) hbl).trans c2;have c3:=(hb1.cell (p:=⟨b,off+k*4+3,none⟩) hbl).trans c3;go_wp2;go_roundw
      case rel=>exact⟨k+1,by omega,by go_num,by rw[HX.out];first|(simp;done)|exact congrArg Value.string ((ba_append _ [33]).trans (by simp)),hb.trans (hb1.mono hb.size)⟩
      case measure=>simp[intOf];omega
     ·rw[hh] at c2 HX
      go_wp2_with fail;refine(K1.out _).mono ?_;rintro e1 w1⟨rfl,hb1⟩;have c2:=(hb1.cell (p:=⟨b,off+k*4+2,none⟩) hbl).trans c2;have c3:=(hb1.cell (p:=⟨b,off+k*4+3,none⟩) hbl).trans c3;have hv1:=hb.trans (hb1.mono hb.size);go_wp2_with fail;refine(K2.out _).mono ?_;rintro e2 w2⟨rfl,hb2⟩;go_wp2;go_roundw
      case rel=>exact⟨k+1,by omega,by go_num,by rw[HX.out];first|(simp;done)|exact congrArg Value.string ((ba_append _ t2).trans (by simp))|exact congrArg Value.string (((congrArg (·++(⟨t2.toArray⟩:ByteArray)) (ba_append _ [58])).trans (ba_append _ t2)).trans (by simp)),hv1.trans (hb2.mono hv1.size)⟩
      case measure=>simp[intOf];omega
   ·obtain rfl:k=n:=by omega
    go_wp2;go_ret;exact⟨by rw[HF.out];rfl,hb⟩
def refS:List UInt8→Nat×Nat
 | []=>(0,1)
 | b::r=>(((refS r).1+(refS r).2*(b.toNat+1))%65521,(refS r).2*257%65521)
theorem refS_lt:∀l:List UInt8,(refS l).1<65521∧(refS l).2<65521
 | []=>⟨by decide,by decide⟩
 | b::r=>⟨Nat.mod_lt _ (by omega),Nat.mod_lt _ (by omega)⟩
theorem refS_fold:∀(l:List UInt8) (m:Nat),l.foldl sumStep m%65521=(m*(refS l).2+(refS l).1)%65521
 | [],m=>by simp[refS]
 | b::r,m=>by
  rw[List.foldl_cons,refS_fold r,refS];generalize (refS r).1=n;generalize (refS r).2=p;rw[sumStep]
  have e1:((m*257+b.toNat+1)%65521*p+n)%65521=((m*257+b.toNat+1)*p+n)%65521:=by
   rw[Nat.add_mod,Nat.mod_mul_mod,←Nat.add_mod]
  have e2:(m*(p*257%65521)+(n+p*(b.toNat+1))%65521)%65521=(m*(p*257)+(n+p*(b.toNat+1)))%65521:=by
   rw[Nat.add_mod,Nat.mul_mod_mod,Nat.mod_mod,←Nat.add_mod]
  rw[e1,e2]
  congr 1
  generalize b.toNat=x
  grind
theorem refS_sum(l:List UInt8):((refS l).1+(refS l).2)%65521=sumF l:=by
 have h:=refS_fold l 1;rw[Nat.one_mul,Nat.add_comm] at h;rw[←h];exact Nat.mod_eq_of_lt (sumF_lt l)
set_option maxHeartbeats 800000 in
theorem sumOf_any(s:List UInt8)(w:World)(hs:s.length≤100000) :
 Calls Tryz.prog 229 #[.string ⟨s.toArray⟩] w fun e w'=>e=.returned (.int .i64 (sumF s))∧w=w':=by
 have HF:=Lib.hid (refS_sum s);have HL:=Lib.hid (fun l=>refS_lt l);go_enter Tryz.func229,Tryz.ntmps229;go_wp2;go_loop [3,4,5] (fun p n i=>∃k:Nat,k≤s.length∧i=.int .i64 ((k:Int)-1)∧p=.int .i64 (refS (s.drop k)).2∧n=.int .i64 (refS (s.drop k)).1) (fun _ _ i=>(intOf i+1).toNat)
 case atStart=>exact⟨s.length,Nat.le_refl _,by simp,by rw[List.drop_length];rfl,by rw[List.drop_length];rfl⟩
 case round=>
  obtain⟨k,hk,rfl,rfl,rfl⟩:=hrel;have hl:=HL.out (s.drop k)
  by_cases hk0:k=0
  ·subst hk0
   rw[List.drop_zero] at *;generalize (refS s).1=n at *;generalize (refS s).2=p at *;go_wp2;go_ret;exact⟨by rw[←HF.out];rfl,rfl⟩
  ·obtain⟨q,rfl⟩:∃q,k=q+1:=⟨k-1,by omega⟩
   have hq1:q<s.length:=by omega
   have hgq:=ba_get s q hq1
   have hdr:refS (s.drop q)=(((refS (s.drop (q+1))).1+(refS (s.drop (q+1))).2*(s[q].toNat+1))%65521,(refS (s.drop (q+1))).2*257%65521):=by
    rw[List.drop_eq_getElem_cons hq1];rfl
   have HD1:=Lib.hid (congrArg Prod.fst hdr);have HD2:=Lib.hid (congrArg Prod.snd hdr);clear hdr hk0;have e1:((q+1:Nat):Int)-1=(q:Int):=by omega
   rw[e1];generalize (refS (s.drop (q+1))).1=n at *;generalize (refS (s.drop (q+1))).2=p at *;have hu:s[q].toNat<256:=UInt8.toNat_lt _;generalize s[q]=y at *;obtain⟨P,hP⟩:∃P:Nat,P=p*(y.toNat+1):=⟨_,rfl⟩
   have hPb:P≤65521*256:=by rw[hP];exact Nat.mul_le_mul (by omega) (by omega)
   have hPi:(p:Int)*((y.toNat:Int)+1)=(P:Int):=by rw[hP];push_cast;rfl
   rw[←hP] at HD1;clear hP;go_wp2;go_round
   case rel=>exact⟨q,by omega,by go_num,by rw[HD2.out];go_num,by rw[HD1.out];go_num⟩
   case measure=>simp[intOf]<;>omega
set_option maxHeartbeats 800000 in
theorem viewError_any(m d s:Int)(w:World) :
 Calls Tryz.prog 188 #[.agg #[.int .i64 m,.int .i64 d,.int .i64 s]] w fun e w'=>e=.returned (.int .i64 (viewE m d s))∧Below w.heap.size w w':=by
 have hb0:Below w.heap.size w (w.alloc (.cells #[.int .i64 m,.int .i64 d,.int .i64 s] 96)):=(Below.refl _ _).alloc (Nat.le_refl _) _;have KC:=Lib.hid (fun(W:World)=>isCrew_any m W)
 cases hm:crewB m
 ·have HX:Hid (viewE m d s=2):=by unfold Hid;rw[viewE,hm];rfl
  rw[hm] at KC;clear hm;go_enter Tryz.func188,Tryz.ntmps188;go_wp2_with fail;refine(KC.out _).mono ?_;rintro e w1⟨rfl,rfl⟩;go_wp2;go_ret;exact⟨by rw[HX.out];rfl,hb0⟩
 ·rw[hm] at KC
  have HV:Hid (viewE m d s=if viewB d s then 0 else 2):=by unfold Hid;rw[viewE,hm];rfl
  clear hm
  by_cases h1:d<0
  ·have HX:Hid (viewE m d s=2):=by unfold Hid;rw[HV.out,if_neg (by simp[viewB];omega)]
   clear HV;go_enter Tryz.func188,Tryz.ntmps188;go_wp2_with fail;refine(KC.out _).mono ?_;rintro e w1⟨rfl,rfl⟩;go_wp2;go_ret;exact⟨by rw[HX.out];rfl,hb0⟩
  ·have d1:decide (d<0)=false:=by simpa using h1
   by_cases h2:3<d
   ·have HX:Hid (viewE m d s=2):=by unfold Hid;rw[HV.out,if_neg (by simp[viewB];omega)]
    clear HV;go_enter Tryz.func188,Tryz.ntmps188;go_wp2_with fail;refine(KC.out _).mono ?_;rintro e w1⟨rfl,rfl⟩;go_wp2;go_ret;exact⟨by rw[HX.out];rfl,hb0⟩
   ·have d2:decide (3<d)=false:=by simpa using h2
    by_cases h3:s<0
    ·have HX:Hid (viewE m d s=2):=by unfold Hid;rw[HV.out,if_neg (by simp[viewB];omega)]
     clear HV;go_enter Tryz.func188,Tryz.ntmps188;go_wp2_with fail;refine(KC.out _).mono ?_;rintro e w1⟨rfl,rfl⟩;go_wp2;go_ret;exact⟨by rw[HX.out];rfl,hb0⟩
    ·have d3:decide (s<0)=false:=by simpa using h3
     by_cases h4:1000000<s
     ·have HX:Hid (viewE m d s=2):=by unfold Hid;rw[HV.out,if_neg (by simp[viewB];omega)]
      clear HV;go_enter Tryz.func188,Tryz.ntmps188;go_wp2_with fail;refine(KC.out _).mono ?_;rintro e w1⟨rfl,rfl⟩;go_wp2;go_ret;exact⟨by rw[HX.out];rfl,hb0⟩
     ·have d4:decide (1000000<s)=false:=by simpa using h4
      have HX:Hid (viewE m d s=0):=by unfold Hid;rw[HV.out,if_pos (by simp[viewB];omega)]
      clear HV;go_enter Tryz.func188,Tryz.ntmps188;go_wp2_with fail;refine(KC.out _).mono ?_;rintro e w1⟨rfl,rfl⟩;go_wp2;go_ret;exact⟨by rw[HX.out];rfl,hb0⟩
set_option maxHeartbeats 1600000 in
theorem frameError_any(f1 f2 f3 f4 f5:Int)(w:World) :
 Calls Tryz.prog 228 #[.agg #[.int .i64 f1,.int .i64 f2,.int .i64 f3,.int .i64 f4,.int .i64 f5]] w fun e w'=>e=.returned (.int .i64 (frameE ⟨f1,f2,f3,f4,f5⟩))∧Below w.heap.size w w':=by
 have hb0:Below w.heap.size w (w.alloc (.cells #[.int .i64 f1,.int .i64 f2,.int .i64 f3,.int .i64 f4,.int .i64 f5] 256)):=(Below.refl _ _).alloc (Nat.le_refl _) _;have KN:=Lib.hid (fun(W:World)=>isNode_any f1 W);have KC:=Lib.hid (fun(W:World)=>isCrew_any f2 W);have KH:=Lib.hid (fun(W:World)=>refHas_any f2 f1 W);have KV:=Lib.hid (fun(W:World)=>viewError_any f2 f3 f4 W);have b0:=Blok.new w 256 #[.int .i64 f1,.int .i64 f2,.int .i64 f3,.int .i64 f4,.int .i64 f5]
 cases hn:nodeB f1
 ·have HX:Hid (frameE ⟨f1,f2,f3,f4,f5⟩=4):=by unfold Hid;simp only[frameE,hn];rfl
  rw[hn] at KN;generalize crewB f2=cb at *;generalize hasB f2 f1=hb at *;clear hn;go_enter Tryz.func228,Tryz.ntmps228;go_wp2_with fail;refine(KN.out _).mono ?_;rintro e w1⟨rfl,rfl⟩;go_wp2_with fail;refine(KC.out _).mono ?_;rintro e w1⟨rfl,rfl⟩;go_wp2_with fail;refine(KH.out _).mono ?_;rintro e w1⟨rfl,rfl⟩;go_wp2;go_ret;exact⟨by rw[HX.out];rfl,hb0⟩
 ·cases hc:crewB f2
  ·have HX:Hid (frameE ⟨f1,f2,f3,f4,f5⟩=2):=by unfold Hid;simp only[frameE,hn,hc];rfl
   rw[hn] at KN;rw[hc] at KC;generalize hasB f2 f1=hb at *;clear hn hc;go_enter Tryz.func228,Tryz.ntmps228;go_wp2_with fail;refine(KN.out _).mono ?_;rintro e w1⟨rfl,rfl⟩;go_wp2_with fail;refine(KC.out _).mono ?_;rintro e w1⟨rfl,rfl⟩;go_wp2_with fail;refine(KH.out _).mono ?_;rintro e w1⟨rfl,rfl⟩;go_wp2;go_ret;exact⟨by rw[HX.out];rfl,hb0⟩
  ·cases hh:hasB f2 f1
   ·have HX:Hid (frameE ⟨f1,f2,f3,f4,f5⟩=3):=by unfold Hid;simp only[frameE,hn,hc,hh];rfl
    rw[hn] at KN;rw[hc] at KC;rw[hh] at KH;clear hn hc hh;go_enter Tryz.func228,Tryz.ntmps228;go_wp2_with fail;refine(KN.out _).mono ?_;rintro e w1⟨rfl,rfl⟩;go_wp2_with fail;refine(KC.out _).mono ?_;rintro e w1⟨rfl,rfl⟩;go_wp2_with fail;refine(KH.out _).mono ?_;rintro e w1⟨rfl,rfl⟩;go_wp2;go_ret;exact⟨by rw[HX.out];rfl,hb0⟩
   ·have hE:frameE ⟨f1,f2,f3,f4,f5⟩=if viewB f3 f4&&numB f5 then 0 else 2:=by simp only[frameE,hn,hc,hh,if_true]
    have hVE:viewE f2 f3 f4=if viewB f3 f4 then 0 else 2:=by rw[viewE,hc];rfl
    rw[hn] at KN;rw[hc] at KC;rw[hh] at KH;clear hn hc hh
    cases hv:viewB f3 f4
    ·have HX:Hid (frameE ⟨f1,f2,f3,f4,f5⟩=2):=by unfold Hid;rw[hE,hv];rfl
     rw[hVE,hv] at KV;clear hE hVE hv;go_enter Tryz.func228,Tryz.ntmps228;go_wp2_with fail;refine(KN.out _).mono ?_;rintro e w1⟨rfl,rfl⟩;go_wp2_with fail;refine(KC.out _).mono ?_;rintro e w1⟨rfl,rfl⟩;go_wp2_with fail;refine(KH.out _).mono ?_;rintro e w1⟨rfl,rfl⟩;go_wp2_with fail;refine(KV.out _).mono ?_;rintro e w2⟨rfl,hb2⟩;have bF:=b0.kept hb2;have c4:=bF.cell 4 rfl;go_wp2;go_ret;exact⟨by rw[HX.out];rfl,hb0.trans (hb2.mono hb0.size)⟩
    ·rw[hVE,hv] at KV
     by_cases h1:f5 < -1048576
     ·have HX:Hid (frameE ⟨f1,f2,f3,f4,f5⟩=2):=by unfold Hid;rw[hE,if_neg (by simp[numB];omega)]
      clear hE hVE hv;go_enter Tryz.func228,Tryz.ntmps228;go_wp2_with fail;refine(KN.out _).mono ?_;rintro e w1⟨rfl,rfl⟩;go_wp2_with fail;refine(KC.out _).mono ?_;rintro e w1⟨rfl,rfl⟩;go_wp2_with fail;refine(KH.out _).mono ?_;rintro e w1⟨rfl,rfl⟩;go_wp2_with fail;refine(KV.out _).mono ?_;rintro e w2⟨rfl,hb2⟩;have bF:=b0.kept hb2;have c4:=bF.cell 4 rfl;go_wp2;go_ret;exact⟨by rw[HX.out];rfl,hb0.trans (hb2.mono hb0.size)⟩
     ·have d1:decide (f5 < -1048576)=false:=by simpa using h1
      by_cases h2:1048576<f5
      ·have HX:Hid (frameE ⟨f1,f2,f3,f4,f5⟩=2):=by unfold Hid;rw[hE,if_neg (by simp[numB];omega)]
       clear hE hVE hv;go_enter Tryz.func228,Tryz.ntmps228;go_wp2_with fail;refine(KN.out _).mono ?_;rintro e w1⟨rfl,rfl⟩;go_wp2_with fail;refine(KC.out _).mono ?_;rintro e w1⟨rfl,rfl⟩;go_wp2_with fail;refine(KH.out _).mono ?_;rintro e w1⟨rfl,rfl⟩;go_wp2_with fail;refine(KV.out _).mono ?_;rintro e w2⟨rfl,hb2⟩;have bF:=b0.kept hb2;have c4:=bF.cell 4 rfl;go_wp2;go_ret;exact⟨by rw[HX.out];rfl,hb0.trans (hb2.mono hb0.size)⟩
      ·have d2:decide (1048576<f5)=false:=by simpa using h2
       have HX:Hid (frameE ⟨f1,f2,f3,f4,f5⟩=0):=by unfold Hid;rw[hE,hv,if_pos (by simp[numB];omega)]
       clear hE hVE hv;go_enter Tryz.func228,Tryz.ntmps228;go_wp2_with fail;refine(KN.out _).mono ?_;rintro e w1⟨rfl,rfl⟩;go_wp2_with fail;refine(KC.out _).mono ?_;rintro e w1⟨rfl,rfl⟩;go_wp2_with fail;refine(KH.out _).mono ?_;rintro e w1⟨rfl,rfl⟩;go_wp2_with fail;refine(KV.out _).mono ?_;rintro e w2⟨rfl,hb2⟩;have bF:=b0.kept hb2;have c4:=bF.cell 4 rfl;go_wp2;go_ret;exact⟨by rw[HX.out];rfl,hb0.trans (hb2.mono hb0.size)⟩
theorem frameBody_eq(f1 f2 f3 f4 f5:Int):frameBody ⟨f1,f2,f3,f4,f5⟩=[102,114,97,109,101,32]++Lib.itoa f1++[32]++textF f2++[32]++Lib.itoa f3++[32]++Lib.itoa f4++[32]++Lib.itoa f5:=by
 simp only[frameBody,frameW,joinL,List.append_assoc,List.cons_append,List.nil_append]
set_option maxRecDepth 400000 in
set_option maxHeartbeats 3200000 in
theorem frameText_ok(f1 f2 f3 f4 f5:Int)(w:World)(h:frameE ⟨f1,f2,f3,f4,f5⟩=0) :
 Calls Tryz.prog 189 #[.agg #[.int .i64 f1,.int .i64 f2,.int .i64 f3,.int .i64 f4,.int .i64 f5]] w fun e w'=>e=.returned (.tuple #[.string ⟨(frameT ⟨f1,f2,f3,f4,f5⟩).toArray⟩,.int .i64 0])∧Below w.heap.size w w':=by
 have hb0:Below w.heap.size w (w.alloc (.cells #[.int .i64 f1,.int .i64 f2,.int .i64 f3,.int .i64 f4,.int .i64 f5] 256)):=(Below.refl _ _).alloc (Nat.le_refl _) _;have KE:=Lib.hid (fun(W:World)=>frameError_any f1 f2 f3 f4 f5 W);rw[h] at KE;have hlen:=frameBody_len h;have hsm:=sumF_lt (frameBody ⟨f1,f2,f3,f4,f5⟩);obtain⟨h1,h2,h3,h4,h5⟩:=frameE_zero h;simp only[nodeB,viewB,numB,decide_eq_true_eq] at h1 h4 h5;have HFT:Hid (frameT ⟨f1,f2,f3,f4,f5⟩=frameBody ⟨f1,f2,f3,f4,f5⟩++32::Lib.itoa (sumF (frameBody ⟨f1,f2,f3,f4,f5⟩))):=rfl;have HB:=Lib.hid (frameBody_eq f1 f2 f3 f4 f5);have l1:=Lib.itoa_length_le f1 (by omega) (by omega);have l2:=textF_len f2;have l3:=Lib.itoa_length_le f3 (by omega) (by omega);have l4:=Lib.itoa_length_le f4 (by omega) (by omega);have l5:=Lib.itoa_length_le f5 (by omega) (by omega);have K1:=Lib.hid (fun(W:World)=>decimal_any f1 W (by omega));have K2:=Lib.hid (fun(W:World)=>crewText_any f2 W);have K3:=Lib.hid (fun(W:World)=>decimal_any f3 W (by omega));have K4:=Lib.hid (fun(W:World)=>decimal_any f4 W (by omega));have K5:=Lib.hid (fun(W:World)=>signed_any f5 W (by omega));have KS:=Lib.hid (fun(W:World)=>sumOf_any (frameBody ⟨f1,f2,f3,f4,f5⟩) W (by omega));have KD:=Lib.hid (fun(W:World)=>decimal_any (sumF (frameBody ⟨f1,f2,f3,f4,f5⟩)) W (by omega));have lsm:=Lib.itoa_length_le (sumF (frameBody ⟨f1,f2,f3,f4,f5⟩):Int) (by omega) (by omega);generalize Lib.itoa (sumF (frameBody ⟨f1,f2,f3,f4,f5⟩):Int)=si at *;generalize Lib.itoa f1=t1 at *;generalize textF f2=t2 at *;generalize Lib.itoa f3=t3 at *;generalize Lib.itoa f4=t4 at *;generalize Lib.itoa f5=t5 at *;have hfb:(frameBody ⟨f1,f2,f3,f4,f5⟩).length≤1000:=hlen;generalize frameBody ⟨f1,f2,f3,f4,f5⟩=body at *;obtain⟨S1,hS1⟩:∃S,S=[102,114,97,109,101,32]++t1:=⟨_,rfl⟩
 have q1:=run_adds' [102,114,97,109,101,32] t1 (by simp;omega);have m1:S1.length≤60:=by rw[hS1];simp;omega
 rw[←hS1] at q1;obtain⟨S2,hS2⟩:∃S,S=S1++[32]:=⟨_,rfl⟩
 have q2:=run_adds' S1 [32] (by simp;omega);have m2:S2.length≤61:=by rw[hS2];simp;omega
 rw[←hS2] at q2;obtain⟨S3,hS3⟩:∃S,S=S2++t2:=⟨_,rfl⟩
 have q3:=run_adds' S2 t2 (by omega);have m3:S3.length≤500:=by rw[hS3];simp;omega
 rw[←hS3] at q3;obtain⟨S4,hS4⟩:∃S,S=S3++[32]:=⟨_,rfl⟩
 have q4:=run_adds' S3 [32] (by simp;omega);have m4:S4.length≤501:=by rw[hS4];simp;omega
 rw[←hS4] at q4;obtain⟨S5,hS5⟩:∃S,S=S4++t3:=⟨_,rfl⟩
 have q5:=run_adds' S4 t3 (by omega);have m5:S5.length≤550:=by rw[hS5];simp;omega
 rw[←hS5] at q5;obtain⟨S6,hS6⟩:∃S,S=S5++[32]:=⟨_,rfl⟩
 have q6:=run_adds' S5 [32] (by simp;omega);have m6:S6.length≤551:=by rw[hS6];simp;omega
 rw[←hS6] at q6;obtain⟨S7,hS7⟩:∃S,S=S6++t4:=⟨_,rfl⟩
 have q7:=run_adds' S6 t4 (by omega);have m7:S7.length≤600:=by rw[hS7];simp;omega
 rw[←hS7] at q7;obtain⟨S8,hS8⟩:∃S,S=S7++[32]:=⟨_,rfl⟩
 have q8:=run_adds' S7 [32] (by simp;omega);have m8:S8.length≤601:=by rw[hS8];simp;omega
 rw[←hS8] at q8;have hS9:body=S8++t5:=by rw[HB.out,hS8,hS7,hS6,hS5,hS4,hS3,hS2,hS1]
 have q9:=run_adds' S8 t5 (by omega);rw[←hS9] at q9;obtain⟨SA,hSA⟩:∃S,S=body++[32]:=⟨_,rfl⟩
 have qA:=run_adds' body [32] (by simp;omega);have mA:SA.length≤1001:=by rw[hSA];simp;omega
 rw[←hSA] at qA;obtain⟨SB,hSB⟩:∃S,S=SA++si:=⟨_,rfl⟩
 have qB:=run_adds' SA si (by omega);rw[←hSB] at qB;have HSB:Hid (frameT ⟨f1,f2,f3,f4,f5⟩=SB):=by unfold Hid;rw[HFT.out,hSB,hSA];simp
 clear h h1 h2 h3 h4 h5 hS1 hS2 hS3 hS4 hS5 hS6 hS7 hS8 hS9 hSA hSB m1 m2 m3 m4 m5 m6 m7 m8 mA l1 l2 l3 l4 l5 lsm hlen hfb hsm HB HFT;go_enter Tryz.func189,Tryz.ntmps189;go_wp2_with fail;refine(KE.out _).mono ?_;rintro e w1⟨rfl,hb1⟩;have hz:w.heap.size<w1.drew.heap.size:=by have:=hb1.size;simp at this;exact this
 have hv:Below w.heap.size w w1.drew:=(hb0.trans (hb1.mono (by simp))).drew;have k0:w1.drew.cell? ⟨w.heap.size,0,none⟩=some (.int .i64 f1):=(hb1.cell (p:=⟨w.heap.size,0,none⟩) (by simp)).trans (by simp);have k1:w1.drew.cell? ⟨w.heap.size,1,none⟩=some (.int .i64 f2):=(hb1.cell (p:=⟨w.heap.size,1,none⟩) (by simp)).trans (by simp);have k2:w1.drew.cell? ⟨w.heap.size,2,none⟩=some (.int .i64 f3):=(hb1.cell (p:=⟨w.heap.size,2,none⟩) (by simp)).trans (by simp);have k3:w1.drew.cell? ⟨w.heap.size,3,none⟩=some (.int .i64 f4):=(hb1.cell (p:=⟨w.heap.size,3,none⟩) (by simp)).trans (by simp);have k4:w1.drew.cell? ⟨w.heap.size,4,none⟩=some (.int .i64 f5):=(hb1.cell (p:=⟨w.heap.size,4,none⟩) (by simp)).trans (by simp);have A1:=Lib.hid (K1.out w1.drew);clear hb1 hb0;go_wp2
 go_region_held3 (fun w'=>w'.cell? ⟨w.heap.size,0,none⟩=some (.int .i64 f1)∧w'.cell? ⟨w.heap.size,1,none⟩=some (.int .i64 f2)∧w'.cell? ⟨w.heap.size,2,none⟩=some (.int .i64 f3)∧w'.cell? ⟨w.heap.size,3,none⟩=some (.int .i64 f4)∧w'.cell? ⟨w.heap.size,4,none⟩=some (.int .i64 f5)) (go_keep)
  (first
   | (go_at_call 52;(with_reducible refine A1.out.mono ?_);rintro e w2⟨rfl,hb2⟩;have hv2:=hv.trans (hb2.mono hv.size);have k0:=(hb2.cell (p:=⟨w.heap.size,0,none⟩) hz).trans k0;have k1:=(hb2.cell (p:=⟨w.heap.size,1,none⟩) hz).trans k1;have k2:=(hb2.cell (p:=⟨w.heap.size,2,none⟩) hz).trans k2;have k3:=(hb2.cell (p:=⟨w.heap.size,3,none⟩) hz).trans k3;have k4:=(hb2.cell (p:=⟨w.heap.size,4,none⟩) hz).trans k4;have hz2:=Nat.lt_of_lt_of_le hz hb2.size;have A2:=Lib.hid (K2.out w2);clear hb2)
   | (go_at_call 88;(with_reducible refine A2.out.mono ?_);rintro e w3⟨rfl,hb2⟩;have hv3:=hv2.trans (hb2.mono hv2.size);have k0:=(hb2.cell (p:=⟨w.heap.size,0,none⟩) hz2).trans k0;have k1:=(hb2.cell (p:=⟨w.heap.size,1,none⟩) hz2).trans k1;have k2:=(hb2.cell (p:=⟨w.heap.size,2,none⟩) hz2).trans k2;have k3:=(hb2.cell (p:=⟨w.heap.size,3,none⟩) hz2).trans k3;have k4:=(hb2.cell (p:=⟨w.heap.size,4,none⟩) hz2).trans k4;have hz3:=Nat.lt_of_lt_of_le hz2 hb2.size;have A3:=Lib.hid (K3.out w3);clear hb2)
   | (go_at_call 52;(with_reducible refine A3.out.mono ?_);rintro e w4⟨rfl,hb2⟩;have hv4:=hv3.trans (hb2.mono hv3.size);have k0:=(hb2.cell (p:=⟨w.heap.size,0,none⟩) hz3).trans k0;have k1:=(hb2.cell (p:=⟨w.heap.size,1,none⟩) hz3).trans k1;have k2:=(hb2.cell (p:=⟨w.heap.size,2,none⟩) hz3).trans k2;have k3:=(hb2.cell (p:=⟨w.heap.size,3,none⟩) hz3).trans k3;have k4:=(hb2.cell (p:=⟨w.heap.size,4,none⟩) hz3).trans k4;have hz4:=Nat.lt_of_lt_of_le hz3 hb2.size;have A4:=Lib.hid (K4.out w4);clear hb2)
   | (go_at_call 52;(with_reducible refine A4.out.mono ?_);rintro e w5⟨rfl,hb2⟩;have hv5:=hv4.trans (hb2.mono hv4.size);have k0:=(hb2.cell (p:=⟨w.heap.size,0,none⟩) hz4).trans k0;have k1:=(hb2.cell (p:=⟨w.heap.size,1,none⟩) hz4).trans k1;have k2:=(hb2.cell (p:=⟨w.heap.size,2,none⟩) hz4).trans k2;have k3:=(hb2.cell (p:=⟨w.heap.size,3,none⟩) hz4).trans k3;have k4:=(hb2.cell (p:=⟨w.heap.size,4,none⟩) hz4).trans k4;have hz5:=Nat.lt_of_lt_of_le hz4 hb2.size;have A5:=Lib.hid (K5.out w5);clear hb2)
   | (go_at_call 90;(with_reducible refine A5.out.mono ?_);rintro e w6⟨rfl,hb2⟩;have hv6:=hv5.trans (hb2.mono hv5.size);have k0:=(hb2.cell (p:=⟨w.heap.size,0,none⟩) hz5).trans k0;have k1:=(hb2.cell (p:=⟨w.heap.size,1,none⟩) hz5).trans k1;have k2:=(hb2.cell (p:=⟨w.heap.size,2,none⟩) hz5).trans k2;have k3:=(hb2.cell (p:=⟨w.heap.size,3,none⟩) hz5).trans k3;have k4:=(hb2.cell (p:=⟨w.heap.size,4,none⟩) hz5).trans k4;have hz6:=Nat.lt_of_lt_of_le hz5 hb2.size;clear hb2))
 clear k0 k1 k2 k3 k4 A1 A2 A3 A4 A5;go_wp2_with fail;refine(KS.out _).mono ?_;rintro e w8⟨rfl,rfl⟩;go_wp2_with fail;refine(KD.out _).mono ?_;rintro e w9⟨rfl,hb9⟩;go_wp2;go_ret2;exact⟨by rw[HSB.out];rfl,hv6.trans (hb9.mono hv6.size)⟩
theorem frameText_any(f1 f2 f3 f4 f5:Int)(w:World) :
 Calls Tryz.prog 189 #[.agg #[.int .i64 f1,.int .i64 f2,.int .i64 f3,.int .i64 f4,.int .i64 f5]] w fun e w'=>e=.returned (.tuple #[.string ⟨(makeF ⟨f1,f2,f3,f4,f5⟩).toArray⟩,.int .i64 (frameE ⟨f1,f2,f3,f4,f5⟩)])∧Below w.heap.size w w':=by
 by_cases h:frameE ⟨f1,f2,f3,f4,f5⟩=0
 ·rw[makeF,if_pos h,h]
  exact frameText_ok f1 f2 f3 f4 f5 w h
 ·rw[makeF,if_neg h]
  have hb0:Below w.heap.size w (w.alloc (.cells #[.int .i64 f1,.int .i64 f2,.int .i64 f3,.int .i64 f4,.int .i64 f5] 256)):=(Below.refl _ _).alloc (Nat.le_refl _) _;have KE:=Lib.hid (fun(W:World)=>frameError_any f1 f2 f3 f4 f5 W);have hp:(0:Int)<(frameE ⟨f1,f2,f3,f4,f5⟩:Int):=by omega
  generalize (frameE ⟨f1,f2,f3,f4,f5⟩:Int)=c at *;clear h;go_enter Tryz.func189,Tryz.ntmps189;go_wp2_with fail;refine(KE.out _).mono ?_;rintro e w1⟨rfl,hb1⟩;go_wp2;go_ret2;exact⟨rfl,hb0.trans (hb1.mono hb0.size)⟩
def lastN(ns:List Int):Int:=ns.getD (ns.length-1) 0
theorem lastN_snoc(ns:List Int)(n:Int):lastN (ns++[n])=n:=by simp[lastN]
theorem crewOf_snoc(ns:List Int)(n:Int):crewOf (ns++[n])=crewOf ns|||bitOf n:=by simp[crewOf]
theorem readOk_eq(x:List UInt8)(last:Int):readOk x last=if numIs x=true∧nodeB (numN x)=true∧last<numN x then some (numN x) else none:=by
 unfold readOk numIs numN
 cases numF x with
 | none=>simp
 | some n=>simp
theorem readF_end{s:List UInt8}(hne:s≠[45]):readF s=(readAcc (cutL 44 s)).map (·.1):=by rw[readF,if_neg hne]
theorem racc_bad{ws:List (List UInt8)}{k:Nat}(hk:k<ws.length){c:Nat}{last:Int}(h:readAcc (ws.take k)=some (c,last))(hb:readOk ws[k] last=none):readAcc ws=none:=by
 have h1:readAcc (ws.take (k+1))=none:=by rw[List.take_succ_eq_append_getElem hk,readAcc_snoc,h,readStep,Option.bind_some,hb];rfl
 have:=readAcc_none (ws.drop (k+1)) h1
 rwa [List.take_append_drop] at this
theorem racc_good{ws:List (List UInt8)}{k:Nat}(hk:k<ws.length){ns:List Int}(h:readAcc (ws.take k)=some (crewOf ns,lastN ns)){n:Int}(hb:readOk ws[k] (lastN ns)=some n) :
 readAcc (ws.take (k+1))=some (crewOf (ns++[n]),lastN (ns++[n])):=by
 rw[List.take_succ_eq_append_getElem hk,readAcc_snoc,h,readStep,Option.bind_some,hb,crewOf_snoc,lastN_snoc];rfl
theorem textc_cell{w:World}{a:Option Addr}{l:List (List UInt8)}(h:RowAt w a (encTexts l))(k:Nat)(hk:k<l.length) :
 ∃b off,a=some ⟨b,off,none⟩∧b<w.heap.size∧w.cell? ⟨b,off+k,none⟩=some (.string ⟨l[k].toArray⟩):=by
 obtain⟨b,off,rfl,hlt,hc⟩:=h.at (fun e=>by have:=congrArg List.length e;simp[encTexts] at this;rw[this] at hk;simp at hk);exact⟨b,off,rfl,hlt,hc k _ (by simp[encTexts,hk])⟩
def rcV(o:Option Nat):Value:=match o with
 | some c=>.tuple #[.int .i64 (c:Int),.int .i64 0]
 | none=>.tuple #[.int .i64 0,.int .i64 1]
set_option maxRecDepth 200000 in
set_option maxHeartbeats 3200000 in
theorem readCrew_any(s:List UInt8)(w:World)(hs:s.length≤100000) :
 Calls Tryz.prog 92 #[.string ⟨s.toArray⟩] w fun e w'=>e=.returned (rcV (readF s))∧Below w.heap.size w w':=by
 by_cases hne:s=[45]
 ·subst hne
  have HR:Hid (readF [45]=some 0):=by unfold Hid;rw[readF,if_pos rfl]
  go_enter Tryz.func92,Tryz.ntmps92;go_wp2;go_ret2;exact⟨by rw[HR.out];rfl,Below.refl _ _⟩
 ·have hq:(s==[45])=false:=by simpa using hne
  have HF:=Lib.hid (readF_end hne);have KC:=Lib.hid (fun(W:World)=>refCut_any s 44 W hs);have HPc:=Lib.hid (cutL_piece 44 s);have hcl:=cutL_length 44 s;obtain⟨i0,hi,hz0,hz1,hz2⟩:=info_parts info_int;have hi':=Lib.hid hi;have hz0':=Lib.hid hz0;have hz1':=Lib.hid hz1;have hz2':=Lib.hid hz2;clear hi hz0 hz1 hz2 hne;generalize cutL 44 s=ws at *;go_enter Tryz.func92,Tryz.ntmps92;go_wp2_with fail;refine(KC.out _).mono ?_;rintro e w1⟨aw,nw,cw,rfl,hrw,hnw,hcw,hb1⟩;have HNW:=Lib.hid hnw;have HRW:=Lib.hid hrw;clear hnw hrw KC;go_wp2;go_loopw [5,6] (fun v i wr=>∃(k:Nat) (ns:List Int),k≤nw∧i=.int .i64 k∧ns.length=k∧wr.ownsRow w1.heap.size 3 1 v k (encInts ns)∧Hid (readAcc (ws.take k)=some (crewOf ns,lastN ns))∧Hid (∀x∈ns,nodeB x=true)∧Below w1.heap.size w1 wr) (fun _ i _=>nw-(intOf i).toNat)
  case atStart=>exact⟨0,[],Nat.zero_le _,rfl,rfl,World.ownsRow_nil _ _ _ _,rfl,by unfold Hid;simp,Below.refl _ _⟩
  case round=>
   obtain⟨k,ns,hk,rfl,hnk,hown,hacc,hall,hb⟩:=hrel
   by_cases hlt:k<nw
   ·have hk1:k<ws.length:=by have:=HNW.out;omega
    obtain⟨bw,ow,rfl,hbw,cw0⟩:=textc_cell HRW.out k hk1;have cw1:=(hb.cell (p:=⟨bw,ow+k,none⟩) hbw).trans cw0;have hxl:=HPc.out ws[k] (List.getElem_mem hk1);have HAB:=Lib.hid (fun h=>racc_bad hk1 hacc.out h);have HAG:=Lib.hid (fun n h=>racc_good (n:=n) hk1 hacc.out h);generalize ws[k]=x at *;have HOk:=readOk_eq x (lastN ns);have KN:=Lib.hid (fun(W:World)=>numberOf_any x W (by omega));have KI:=Lib.hid (fun(W:World)=>isNode_any (numN x) W);have hi0:(0:Int)≤(k:Int):=by omega
    have hi1:(k:Int)<(nw:Int):=by omega
    cases hn:numIs x
    ·have HB:Hid (readF s=none):=by unfold Hid;rw[HF.out,HAB.out (by rw[HOk,if_neg (by simp[hn])])];rfl
     rw[hn] at KN;generalize nodeB (numN x)=nd at *;generalize numN x=n at *;clear HOk hn;go_wp2_with fail;refine(KN.out _).mono ?_;rintro e w3⟨rfl,rfl⟩;go_wp2_with fail;refine(KI.out _).mono ?_;rintro e w3⟨rfl,rfl⟩;go_wp2;go_ret2;exact⟨by rw[HB.out];rfl,hb1.trans (hb.mono hb1.size)⟩
    ·cases hd:nodeB (numN x)
     ·have HB:Hid (readF s=none):=by unfold Hid;rw[HF.out,HAB.out (by rw[HOk,if_neg (by simp[hd])])];rfl
      rw[hn] at KN;rw[hd] at KI;generalize numN x=n at *;clear HOk hn hd;go_wp2_with fail;refine(KN.out _).mono ?_;rintro e w3⟨rfl,rfl⟩;go_wp2_with fail;refine(KI.out _).mono ?_;rintro e w3⟨rfl,rfl⟩;go_wp2;go_ret2;exact⟨by rw[HB.out];rfl,hb1.trans (hb.mono hb1.size)⟩
     ·have hd':=hd
      simp only[nodeB,decide_eq_true_eq] at hd'
      by_cases hlast:lastN ns<numN x
      ·have HA:=Lib.hid (HAG.out (numN x) (by rw[HOk,if_pos ⟨hn,hd,hlast⟩]))
       have HAll:Hid (∀y∈ns++[numN x],nodeB y=true):=fun y hy=>by
        rcases List.mem_append.1 hy with h|h
        ·exact hall.out y h
        ·simp at h;rw[h];exact hd
       have HS:Hid (encInts (ns++[numN x])=encInts ns++[.int .i64 (numN x)]):=by unfold Hid;simp[encInts]
       have HL:Hid (0<k→lastN ns=ns.getD (k-1) 0):=fun _=>by rw[lastN,hnk]
       rw[hn] at KN;rw[hd] at KI;clear HOk hn hd;have HO:=Lib.hid (hown.alloc (.cells #[.int .i64 (numN x)] 3));have HW:=Lib.hid (RowAt.new_at wr [.int .i64 (numN x)] 3 _ rfl);have HV:=Lib.hid (hb.alloc hb.size (.cells #[.int .i64 (numN x)] 3));generalize numN x=n at *
       by_cases hk0:k=0
       ·have hd1:decide ((0:Int)<(k:Int))=false:=by simp;omega
        have hd2:decide (0<k)=false:=by simp;omega
        clear hown hk0;go_wp2_with fail;refine(KN.out _).mono ?_;rintro e w3⟨rfl,rfl⟩;go_wp2_with fail;refine(KI.out _).mono ?_;rintro e w3⟨rfl,rfl⟩;go_wp2_with (at_builtin;refine wpList_append2 _ rfl (.tmp 47) (.tmp 49) 72 rfl w1.heap.size 3 i0 _ 1 8 Tryz.underlying72 hi'.out hz0'.out hz1'.out hz2'.out rfl (by decide) _ k (encInts ns) rfl HO.out (some ⟨wr.heap.size,0,none⟩) 1 1 [.int .i64 n] rfl rfl HW.out ?_ ?_ ?_ ?_ ?_;(simp[Value.oneCell']);(unfold maxLen;omega);(omega);(exact HV.out.size);intro v1 w5 ho1 hg1 hq hm1;clear hq hm1);go_roundw
        case rel=>exact⟨k+1,_,by omega,by go_num,by rw[List.length_append,hnk];rfl,by rw[HS.out];exact ho1,HA.out,HAll,HV.out.grown hg1 HV.out.size (fun j e=>(HO.out.lt j e).1)⟩
        case measure=>simp[intOf];omega
       ·have hd1:(0:Int)<(k:Int):=by omega
        have hd2:decide (0<k)=true:=by simp;omega
        obtain⟨ao,co,rfl⟩:=owned_shape hown;obtain⟨ra,_,na,_⟩:=RowAt.owned hown;obtain⟨bo,oo,rfl,hbo,co0⟩:=ra.int (k-1) (by omega);have hln:=HL.out (by omega);have hgd:ns.getD (k-1) 0=ns[k-1]'(by omega):=by rw[List.getD_eq_getElem?_getD,List.getElem?_eq_getElem (by omega)];rfl
        rw[hln,hgd] at hlast;generalize ns[k-1]'(by omega)=lastv at *;have hle:decide (n≤lastv)=false:=by simp;omega
        have hkk:((k:Int)-1).toNat=k-1:=by omega
        clear hown hk0 hln hgd;go_wp2_with fail;refine(KN.out _).mono ?_;rintro e w3⟨rfl,rfl⟩;go_wp2_with fail;refine(KI.out _).mono ?_;rintro e w3⟨rfl,rfl⟩;go_wp2_with (at_builtin;refine wpList_append2 _ rfl (.tmp 47) (.tmp 49) 72 rfl w1.heap.size 3 i0 _ 1 8 Tryz.underlying72 hi'.out hz0'.out hz1'.out hz2'.out rfl (by decide) _ k (encInts ns) rfl HO.out (some ⟨wr.heap.size,0,none⟩) 1 1 [.int .i64 n] rfl rfl HW.out ?_ ?_ ?_ ?_ ?_;(simp[Value.oneCell']);(unfold maxLen;omega);(omega);(exact HV.out.size);intro v1 w5 ho1 hg1 hq hm1;clear hq hm1);go_roundw
        case rel=>exact⟨k+1,_,by omega,by go_num,by rw[List.length_append,hnk];rfl,by rw[HS.out];exact ho1,HA.out,HAll,HV.out.grown hg1 HV.out.size (fun j e=>(HO.out.lt j e).1)⟩
        case measure=>simp[intOf];omega
      ·have HB:Hid (readF s=none):=by unfold Hid;rw[HF.out,HAB.out (by rw[HOk,if_neg (fun h=>hlast h.2.2)])];rfl
       have hk0:0<k:=by
        by_cases hk0:k=0
        ·subst hk0
         have:ns=[]:=List.eq_nil_of_length_eq_zero hnk;subst this;exact absurd (show lastN []<numN x by show(0:Int)<_;omega) hlast
        ·omega
       have hd1:(0:Int)<(k:Int):=by omega
       have hd2:decide (0<k)=true:=by simp;omega
       obtain⟨ao,co,rfl⟩:=owned_shape hown;obtain⟨ra,_,na,_⟩:=RowAt.owned hown;obtain⟨bo,oo,rfl,hbo,co0⟩:=ra.int (k-1) (by omega);have hln:lastN ns=ns.getD (k-1) 0:=by rw[lastN,hnk]
       have hgd:ns.getD (k-1) 0=ns[k-1]'(by omega):=by rw[List.getD_eq_getElem?_getD,List.getElem?_eq_getElem (by omega)];rfl
       rw[hln,hgd] at hlast;rw[hn] at KN;rw[hd] at KI;clear HOk hn hd hln hgd hown;generalize ns[k-1]'(by omega)=lastv at *;generalize numN x=n at *;have hle:n≤lastv:=by omega
       have hkk:((k:Int)-1).toNat=k-1:=by omega
       go_wp2_with fail;refine(KN.out _).mono ?_;rintro e w3⟨rfl,rfl⟩;go_wp2_with fail;refine(KI.out _).mono ?_;rintro e w3⟨rfl,rfl⟩;go_wp2;go_ret2;exact⟨by rw[HB.out];rfl,hb1.trans (hb.mono hb1.size)⟩
   ·obtain rfl:k=nw:=by omega
    have hac:readAcc ws=some (crewOf ns,lastN ns):=by have:=hacc.out;rwa [List.take_of_length_le (by have:=HNW.out;omega)] at this
    have HR:Hid (readF s=some (crewOf ns)):=by unfold Hid;rw[HF.out,hac];rfl
    obtain⟨ao,co,rfl⟩:=owned_shape hown;obtain⟨ra,_,na,_⟩:=RowAt.owned hown;have KO:=Lib.hid (refCrewOf_any ao k co ns wr hnk ra (by have:=HNW.out;omega));have hcf:crewF ns=((crewOf ns:Int),0,-1):=by rw[crewF,if_pos ((badIdx_neg ns 0 (by omega)).2 hall.out)]
    rw[hcf] at KO;have hv:=hb1.trans (hb.mono hb1.size);generalize crewOf ns=C at *;clear hown hcf hac;go_wp2_with fail;refine KO.out.mono ?_;rintro e w3⟨rfl,hb3⟩;have hv3:=hv.trans (hb3.mono hv.size);go_wp2;go_ret2;exact⟨by rw[HR.out];rfl,hv3.alloc hv3.size _⟩
end Go.Proofs.YtppfkokfnoeopaaGreatDoor
