/- A part of a proof. -/
import Derived.Test.YtppfkokfnoeopaaGreatDoorSRefCrew
set_option maxRecDepth 400000
set_option maxHeartbeats 6400000
namespace Go.Proofs.YtppfkokfnoeopaaGreatDoor
open Go.RowKit Go.Proofs.Tryz
theorem Il(n:Int)(w:World)(h0 : -9223372036854775807≤n∧n≤9223372036854775807) :
 Calls prog 90 #[.int .i64 n] w fun e w'=>e=.returned (.string ⟨(Lib.itoa n).toArray⟩)∧Below w.heap.size w w':=by
 by_cases hn:n<0
 ·obtain⟨m,rfl⟩:∃m:Nat,n=-(m:Int):=⟨n.natAbs,by omega⟩
  have HD:=zh (Lib.itoa_neg m (by omega));have HL:=(Dg m 19 (by omega)).2 (by rw[zHo];omega);have K:=zh (Cp (m:Int) w (by omega));rw[Lib.itoa_nonneg] at K;generalize Lib.decDigits m=dm at *;have c1:=Ba [45] dm;go_enter func90,ntmps90;go_wp2_with fail;refine K.out.mono ?_;rintro e w1⟨rfl,hb1⟩;go_wp2;go_ret;exact⟨by rw[HD.out];rfl,hb1⟩
 ·have K:=zh (Cp n w (by omega))
  generalize Lib.itoa n=tn at *;clear h0;go_enter func90,ntmps90;go_wp2_with fail;refine K.out.mono ?_;rintro e w1⟨rfl,hb1⟩;go_wp2;go_ret;exact⟨rfl,hb1⟩
theorem Gf(a b:List UInt8)(h:a.length+b.length≤9223372036854775807)(W:World):(Op.stringOp .add ⟨a.toArray⟩ ⟨b.toArray⟩).run prog W=.ok (.string ⟨(a++b).toArray⟩) W:=by
 rw[run_string_add_sum _ _ _ (by simp[ByteArray.size];omega)];exact congrArg (fun z=>Result.ok (Value.string z) W) (Ba a b)
theorem K8(a:Option Addr)(n cap:Nat)(es:List Ent)(w:World)(hn:es.length=n)(hr:Ac w a (Av es))(hm:n≤4611686018427387904)(h:(chk es).1=0) :
 Calls prog 55 #[.slice a n cap] w fun e w'=>e=.returned (.string ⟨(Fb es).toArray⟩)∧Below w.heap.size w w':=by
 by_cases h0:n=0
 ·subst h0
  have:es=[]:=List.eq_nil_of_length_eq_zero hn;subst this;have HT:Hid (Fb []=[45]):=rfl;clear hr hn h;go_enter func55,ntmps55;go_wp2;go_ret;exact⟨by rw[HT.out];rfl,Below.refl _ _⟩
 ·have hne:es≠[]:=fun e=>h0 (by rw[←hn,e];rfl)
  have hnz:((n:Int)==0)=false:=by simp;omega
  have HE:=zh (fun k (hk:k<es.length)=>Hf h k hk);have HN:=zh hn;have HR:=zh hr;have HF:Hid (I6 es n=Fb es):=by unfold Hid;rw[←hn];exact zCt es hne
  have HL:=zh (fun k=>zCu h k);have HS:=zh (fun k hk h0=>Z4 es k hk h0);have HO:=zh (fun hk=>zCv es hk);clear hr hn h h0 hne;go_enter func55,ntmps55;go_wp2;go_loopw [3,4] (fun v i wr=>∃k:Nat,k≤n∧i=.int .i64 k∧v=.string ⟨(I6 es k).toArray⟩∧Below w.heap.size w wr) (fun _ i _=>n-(intOf i).toNat)
  case atStart=>exact⟨0,Nat.zero_le _,rfl,rfl,Below.refl _ _⟩
  case round=>
   obtain⟨k,hk,rfl,rfl,hb⟩:=hrel
   by_cases hlt:k<n
   ·have hk1:k<es.length:=by have:=HN.out;omega
    obtain⟨b,off,rfl,hbl,c0,c1,c2,c3⟩:=(HR.out.below hb).ent k hk1;obtain⟨-,hnd,hvl,-⟩:=HE.out k hk1;simp only[Aq,Cr,decide_eq_true_eq] at hnd hvl;have hi0:(0:Int)≤(k:Int):=by omega
    have hi1:(k:Int)<(n:Int):=by omega
    have hl1:=HL.out k
    have HX:Hid (I6 es (k+1)=I6 es k++((if k=0 then[] else[44])++Jk es[k])):=by
     unfold Hid
     by_cases hk0:k=0
     ·subst hk0;rw[if_pos rfl,HO.out hk1];rfl
     ·rw[if_neg hk0,HS.out k hk1 (by omega)]
    have hent:Jk es[k]=if es[k].heard=true then Lib.itoa es[k].frm++([58]++Lib.itoa es[k].value) else Lib.itoa es[k].frm++[33]:=rfl
    generalize es[k]=e at *;rw[hent] at HX;have hil:=Lib.itoa_length_le e.frm (by omega) (by omega);have hil2:=Lib.itoa_length_le e.value (by omega) (by omega);have K1:=zh (fun(W:World)=>Il e.frm W (by omega));have K2:=zh (fun(W:World)=>Il e.value W (by omega));generalize Lib.itoa e.frm=t1 at *;generalize Lib.itoa e.value=t2 at *;generalize I6 es k=P at *;have a1:=Gf P [44] (by simp;omega);have a2:=Gf (P++[44]) t1 (by simp;omega);have a3:=Gf (P++[44]++t1) [33] (by simp;omega);have a4:=Gf (P++[44]++t1) [58] (by simp;omega);have a5:=Gf (P++[44]++t1++[58]) t2 (by simp;omega);have b2:=Gf P t1 (by omega);have b3:=Gf (P++t1) [33] (by simp;omega);have b4:=Gf (P++t1) [58] (by simp;omega);have b5:=Gf (P++t1++[58]) t2 (by simp;omega)
    by_cases hk0:k=0
    ·rw[if_pos hk0] at HX
     have hd:decide ((0:Int)<(k:Int))=false:=by simp;omega
     have hd':decide (0<k)=false:=by simp;omega
     clear hk0
     cases hh:e.heard
     ·rw[hh] at c2 HX
      go_wp2_with fail;refine(K1.out _).mono ?_;rintro e1 w1⟨rfl,hb1⟩;have c2:=(hb1.cell (p:=⟨b,off+k*4+2,none⟩) hbl).trans c2;have c3:=(hb1.cell (p:=⟨b,off+k*4+3,none⟩) hbl).trans c3;go_wp2;go_roundw
      case rel=>exact⟨k+1,by omega,by go_num,by rw[HX.out];first|(simp;done)|exact congrArg Value.string ((Ba _ [33]).trans (by simp)),hb.trans (hb1.mono hb.size)⟩
      case measure=>simp[intOf];omega
     ·rw[hh] at c2 HX
      go_wp2_with fail;refine(K1.out _).mono ?_;rintro e1 w1⟨rfl,hb1⟩;have c2:=(hb1.cell (p:=⟨b,off+k*4+2,none⟩) hbl).trans c2;have c3:=(hb1.cell (p:=⟨b,off+k*4+3,none⟩) hbl).trans c3;have hv1:=hb.trans (hb1.mono hb.size);go_wp2_with fail;refine(K2.out _).mono ?_;rintro e2 w2⟨rfl,hb2⟩;go_wp2;go_roundw
      case rel=>exact⟨k+1,by omega,by go_num,by rw[HX.out];first|(simp;done)|exact congrArg Value.string ((Ba _ t2).trans (by simp))|exact congrArg Value.string (((congrArg (·++(⟨t2.toArray⟩:ByteArray)) (Ba _ [58])).trans (Ba _ t2)).trans (by simp)),hv1.trans (hb2.mono hv1.size)⟩
      case measure=>simp[intOf];omega
    ·rw[if_neg hk0] at HX
     have hd:(0:Int)<(k:Int):=by omega
     have hd':decide (0<k)=true:=by simp;omega
     cases hh:e.heard
     ·rw[hh] at c2 HX
      go_wp2_with fail;refine(K1.out _).mono ?_;rintro e1 w1⟨rfl,hb1⟩;have c2:=(hb1.cell (p:=⟨b,off+k*4+2,none⟩) hbl).trans c2;have c3:=(hb1.cell (p:=⟨b,off+k*4+3,none⟩) hbl).trans c3;go_wp2;go_roundw
      case rel=>exact⟨k+1,by omega,by go_num,by rw[HX.out];first|(simp;done)|exact congrArg Value.string ((Ba _ [33]).trans (by simp)),hb.trans (hb1.mono hb.size)⟩
      case measure=>simp[intOf];omega
     ·rw[hh] at c2 HX
      go_wp2_with fail;refine(K1.out _).mono ?_;rintro e1 w1⟨rfl,hb1⟩;have c2:=(hb1.cell (p:=⟨b,off+k*4+2,none⟩) hbl).trans c2;have c3:=(hb1.cell (p:=⟨b,off+k*4+3,none⟩) hbl).trans c3;have hv1:=hb.trans (hb1.mono hb.size);go_wp2_with fail;refine(K2.out _).mono ?_;rintro e2 w2⟨rfl,hb2⟩;go_wp2;go_roundw
      case rel=>exact⟨k+1,by omega,by go_num,by rw[HX.out];first|(simp;done)|exact congrArg Value.string ((Ba _ t2).trans (by simp))|exact congrArg Value.string (((congrArg (·++(⟨t2.toArray⟩:ByteArray)) (Ba _ [58])).trans (Ba _ t2)).trans (by simp)),hv1.trans (hb2.mono hv1.size)⟩
      case measure=>simp[intOf];omega
   ·obtain rfl:k=n:=by omega
    go_wp2;go_ret;exact⟨by rw[HF.out];rfl,hb⟩
def Ij:List UInt8→Nat×Nat
 | []=>(0,1)
 | b::r=>(((Ij r).1+(Ij r).2*(b.toNat+1))%65521,(Ij r).2*257%65521)
theorem zI1:∀l:List UInt8,(Ij l).1<65521∧(Ij l).2<65521
 | []=>⟨by decide,by decide⟩
 | b::r=>⟨Nat.mod_lt _ (by omega),Nat.mod_lt _ (by omega)⟩
theorem Vc:∀(l:List UInt8) (m:Nat),l.foldl Q9 m%65521=(m*(Ij l).2+(Ij l).1)%65521
 | [],m=>by simp[Ij]
 | b::r,m=>by
  rw[List.foldl_cons,Vc r,Ij];generalize (Ij r).1=n;generalize (Ij r).2=p;rw[Q9]
  have e1:((m*257+b.toNat+1)%65521*p+n)%65521=((m*257+b.toNat+1)*p+n)%65521:=by
   rw[Nat.add_mod,Nat.mod_mul_mod,←Nat.add_mod]
  have e2:(m*(p*257%65521)+(n+p*(b.toNat+1))%65521)%65521=(m*(p*257)+(n+p*(b.toNat+1)))%65521:=by
   rw[Nat.add_mod,Nat.mul_mod_mod,Nat.mod_mod,←Nat.add_mod]
  rw[e1,e2]
  congr 1
  generalize b.toNat=x
  grind
theorem zG5(l:List UInt8):((Ij l).1+(Ij l).2)%65521=Gh l:=by
 have h:=Vc l 1;rw[Nat.one_mul,Nat.add_comm] at h;rw[←h];exact Nat.mod_eq_of_lt (Mr l)
theorem Vj(s:List UInt8)(w:World)(hs:s.length≤100000) :
 Calls prog 229 #[.string ⟨s.toArray⟩] w fun e w'=>e=.returned (.int .i64 (Gh s))∧w=w':=by
 have HF:=zh (zG5 s);have HL:=zh (fun l=>zI1 l);go_enter func229,ntmps229;go_wp2;go_loop [3,4,5] (fun p n i=>∃k:Nat,k≤s.length∧i=.int .i64 ((k:Int)-1)∧p=.int .i64 (Ij (s.drop k)).2∧n=.int .i64 (Ij (s.drop k)).1) (fun _ _ i=>(intOf i+1).toNat)
 case atStart=>exact⟨s.length,Nat.le_refl _,by simp,by rw[List.drop_length];rfl,by rw[List.drop_length];rfl⟩
 case round=>
  obtain⟨k,hk,rfl,rfl,rfl⟩:=hrel;have hl:=HL.out (s.drop k)
  by_cases hk0:k=0
  ·subst hk0
   rw[List.drop_zero] at *;generalize (Ij s).1=n at *;generalize (Ij s).2=p at *;go_wp2;go_ret;exact⟨by rw[←HF.out];rfl,rfl⟩
  ·obtain⟨q,rfl⟩:∃q,k=q+1:=⟨k-1,by omega⟩
   have hq1:q<s.length:=by omega
   have hgq:=Gq s q hq1
   have hdr:Ij (s.drop q)=(((Ij (s.drop (q+1))).1+(Ij (s.drop (q+1))).2*(s[q].toNat+1))%65521,(Ij (s.drop (q+1))).2*257%65521):=by
    rw[List.drop_eq_getElem_cons hq1];rfl
   have HD1:=zh (congrArg Prod.fst hdr);have HD2:=zh (congrArg Prod.snd hdr);clear hdr hk0;have e1:((q+1:Nat):Int)-1=(q:Int):=by omega
   rw[e1];generalize (Ij (s.drop (q+1))).1=n at *;generalize (Ij (s.drop (q+1))).2=p at *;have hu:s[q].toNat<256:=UInt8.toNat_lt _;generalize s[q]=y at *;obtain⟨P,hP⟩:∃P:Nat,P=p*(y.toNat+1):=⟨_,rfl⟩
   have hPb:P≤65521*256:=by rw[hP];exact Nat.mul_le_mul (by omega) (by omega)
   have hPi:(p:Int)*((y.toNat:Int)+1)=(P:Int):=by rw[hP];push_cast;rfl
   rw[←hP] at HD1;clear hP;go_wp2;go_round
   case rel=>exact⟨q,by omega,by go_num,by rw[HD2.out];go_num,by rw[HD1.out];go_num⟩
   case measure=>simp[intOf]<;>omega
theorem Dn(m d s:Int)(w:World) :
 Calls prog 188 #[.agg #[.int .i64 m,.int .i64 d,.int .i64 s]] w fun e w'=>e=.returned (.int .i64 (Cs m d s))∧Below w.heap.size w w':=by
 have hb0:Below w.heap.size w (w.alloc (.cells #[.int .i64 m,.int .i64 d,.int .i64 s] 96)):=zb.alloc zl _;have KC:=zh (fun(W:World)=>Km m W)
 cases hm:Bn m
 ·have HX:Hid (Cs m d s=2):=by unfold Hid;rw[Cs,hm];rfl
  rw[hm] at KC;clear hm;go_enter func188,ntmps188;go_wp2_with fail;refine(KC.out _).mono ?_;rintro e w1⟨rfl,rfl⟩;go_wp2;go_ret;exact⟨by rw[HX.out];rfl,hb0⟩
 ·rw[hm] at KC
  have HV:Hid (Cs m d s=if C9 d s then 0 else 2):=by unfold Hid;rw[Cs,hm];rfl
  clear hm
  by_cases h1:d<0
  ·have HX:Hid (Cs m d s=2):=by unfold Hid;rw[HV.out,if_neg (by simp[C9];omega)]
   clear HV;go_enter func188,ntmps188;go_wp2_with fail;refine(KC.out _).mono ?_;rintro e w1⟨rfl,rfl⟩;go_wp2;go_ret;exact⟨by rw[HX.out];rfl,hb0⟩
  ·have d1:decide (d<0)=false:=by simpa using h1
   by_cases h2:3<d
   ·have HX:Hid (Cs m d s=2):=by unfold Hid;rw[HV.out,if_neg (by simp[C9];omega)]
    clear HV;go_enter func188,ntmps188;go_wp2_with fail;refine(KC.out _).mono ?_;rintro e w1⟨rfl,rfl⟩;go_wp2;go_ret;exact⟨by rw[HX.out];rfl,hb0⟩
   ·have d2:decide (3<d)=false:=by simpa using h2
    by_cases h3:s<0
    ·have HX:Hid (Cs m d s=2):=by unfold Hid;rw[HV.out,if_neg (by simp[C9];omega)]
     clear HV;go_enter func188,ntmps188;go_wp2_with fail;refine(KC.out _).mono ?_;rintro e w1⟨rfl,rfl⟩;go_wp2;go_ret;exact⟨by rw[HX.out];rfl,hb0⟩
    ·have d3:decide (s<0)=false:=by simpa using h3
     by_cases h4:1000000<s
     ·have HX:Hid (Cs m d s=2):=by unfold Hid;rw[HV.out,if_neg (by simp[C9];omega)]
      clear HV;go_enter func188,ntmps188;go_wp2_with fail;refine(KC.out _).mono ?_;rintro e w1⟨rfl,rfl⟩;go_wp2;go_ret;exact⟨by rw[HX.out];rfl,hb0⟩
     ·have d4:decide (1000000<s)=false:=by simpa using h4
      have HX:Hid (Cs m d s=0):=by unfold Hid;rw[HV.out,if_pos (by simp[C9];omega)]
      clear HV;go_enter func188,ntmps188;go_wp2_with fail;refine(KC.out _).mono ?_;rintro e w1⟨rfl,rfl⟩;go_wp2;go_ret;exact⟨by rw[HX.out];rfl,hb0⟩
theorem H9(f1 f2 f3 f4 f5:Int)(w:World) :
 Calls prog 228 #[.agg #[.int .i64 f1,.int .i64 f2,.int .i64 f3,.int .i64 f4,.int .i64 f5]] w fun e w'=>e=.returned (.int .i64 (A8 ⟨f1,f2,f3,f4,f5⟩))∧Below w.heap.size w w':=by
 have hb0:Below w.heap.size w (w.alloc (.cells #[.int .i64 f1,.int .i64 f2,.int .i64 f3,.int .i64 f4,.int .i64 f5] 256)):=zb.alloc zl _;have KN:=zh (fun(W:World)=>Au f1 W);have KC:=zh (fun(W:World)=>Km f2 W);have KH:=zh (fun(W:World)=>Gs f2 f1 W);have KV:=zh (fun(W:World)=>Dn f2 f3 f4 W);have b0:=Af.new w 256 #[.int .i64 f1,.int .i64 f2,.int .i64 f3,.int .i64 f4,.int .i64 f5]
 cases hn:Aq f1
 ·have HX:Hid (A8 ⟨f1,f2,f3,f4,f5⟩=4):=by unfold Hid;simp only[A8,hn];rfl
  rw[hn] at KN;generalize Bn f2=cb at *;generalize Ep f2 f1=hb at *;clear hn;go_enter func228,ntmps228;go_wp2_with fail;refine(KN.out _).mono ?_;rintro e w1⟨rfl,rfl⟩;go_wp2_with fail;refine(KC.out _).mono ?_;rintro e w1⟨rfl,rfl⟩;go_wp2_with fail;refine(KH.out _).mono ?_;rintro e w1⟨rfl,rfl⟩;go_wp2;go_ret;exact⟨by rw[HX.out];rfl,hb0⟩
 ·cases hc:Bn f2
  ·have HX:Hid (A8 ⟨f1,f2,f3,f4,f5⟩=2):=by unfold Hid;simp only[A8,hn,hc];rfl
   rw[hn] at KN;rw[hc] at KC;generalize Ep f2 f1=hb at *;clear hn hc;go_enter func228,ntmps228;go_wp2_with fail;refine(KN.out _).mono ?_;rintro e w1⟨rfl,rfl⟩;go_wp2_with fail;refine(KC.out _).mono ?_;rintro e w1⟨rfl,rfl⟩;go_wp2_with fail;refine(KH.out _).mono ?_;rintro e w1⟨rfl,rfl⟩;go_wp2;go_ret;exact⟨by rw[HX.out];rfl,hb0⟩
  ·cases hh:Ep f2 f1
   ·have HX:Hid (A8 ⟨f1,f2,f3,f4,f5⟩=3):=by unfold Hid;simp only[A8,hn,hc,hh];rfl
    rw[hn] at KN;rw[hc] at KC;rw[hh] at KH;clear hn hc hh;go_enter func228,ntmps228;go_wp2_with fail;refine(KN.out _).mono ?_;rintro e w1⟨rfl,rfl⟩;go_wp2_with fail;refine(KC.out _).mono ?_;rintro e w1⟨rfl,rfl⟩;go_wp2_with fail;refine(KH.out _).mono ?_;rintro e w1⟨rfl,rfl⟩;go_wp2;go_ret;exact⟨by rw[HX.out];rfl,hb0⟩
   ·have hE:A8 ⟨f1,f2,f3,f4,f5⟩=if C9 f3 f4&&Cr f5 then 0 else 2:=by simp only[A8,hn,hc,hh,if_true]
    have hVE:Cs f2 f3 f4=if C9 f3 f4 then 0 else 2:=by rw[Cs,hc];rfl
    rw[hn] at KN;rw[hc] at KC;rw[hh] at KH;clear hn hc hh
    cases hv:C9 f3 f4
    ·have HX:Hid (A8 ⟨f1,f2,f3,f4,f5⟩=2):=by unfold Hid;rw[hE,hv];rfl
     rw[hVE,hv] at KV;clear hE hVE hv;go_enter func228,ntmps228;go_wp2_with fail;refine(KN.out _).mono ?_;rintro e w1⟨rfl,rfl⟩;go_wp2_with fail;refine(KC.out _).mono ?_;rintro e w1⟨rfl,rfl⟩;go_wp2_with fail;refine(KH.out _).mono ?_;rintro e w1⟨rfl,rfl⟩;go_wp2_with fail;refine(KV.out _).mono ?_;rintro e w2⟨rfl,hb2⟩;have bF:=b0.kept hb2;have c4:=bF.cell 4 rfl;go_wp2;go_ret;exact⟨by rw[HX.out];rfl,hb0.trans (hb2.mono hb0.size)⟩
    ·rw[hVE,hv] at KV
     by_cases h1:f5 < -1048576
     ·have HX:Hid (A8 ⟨f1,f2,f3,f4,f5⟩=2):=by unfold Hid;rw[hE,if_neg (by simp[Cr];omega)]
      clear hE hVE hv;go_enter func228,ntmps228;go_wp2_with fail;refine(KN.out _).mono ?_;rintro e w1⟨rfl,rfl⟩;go_wp2_with fail;refine(KC.out _).mono ?_;rintro e w1⟨rfl,rfl⟩;go_wp2_with fail;refine(KH.out _).mono ?_;rintro e w1⟨rfl,rfl⟩;go_wp2_with fail;refine(KV.out _).mono ?_;rintro e w2⟨rfl,hb2⟩;have bF:=b0.kept hb2;have c4:=bF.cell 4 rfl;go_wp2;go_ret;exact⟨by rw[HX.out];rfl,hb0.trans (hb2.mono hb0.size)⟩
     ·have d1:decide (f5 < -1048576)=false:=by simpa using h1
      by_cases h2:1048576<f5
      ·have HX:Hid (A8 ⟨f1,f2,f3,f4,f5⟩=2):=by unfold Hid;rw[hE,if_neg (by simp[Cr];omega)]
       clear hE hVE hv;go_enter func228,ntmps228;go_wp2_with fail;refine(KN.out _).mono ?_;rintro e w1⟨rfl,rfl⟩;go_wp2_with fail;refine(KC.out _).mono ?_;rintro e w1⟨rfl,rfl⟩;go_wp2_with fail;refine(KH.out _).mono ?_;rintro e w1⟨rfl,rfl⟩;go_wp2_with fail;refine(KV.out _).mono ?_;rintro e w2⟨rfl,hb2⟩;have bF:=b0.kept hb2;have c4:=bF.cell 4 rfl;go_wp2;go_ret;exact⟨by rw[HX.out];rfl,hb0.trans (hb2.mono hb0.size)⟩
      ·have d2:decide (1048576<f5)=false:=by simpa using h2
       have HX:Hid (A8 ⟨f1,f2,f3,f4,f5⟩=0):=by unfold Hid;rw[hE,hv,if_pos (by simp[Cr];omega)]
       clear hE hVE hv;go_enter func228,ntmps228;go_wp2_with fail;refine(KN.out _).mono ?_;rintro e w1⟨rfl,rfl⟩;go_wp2_with fail;refine(KC.out _).mono ?_;rintro e w1⟨rfl,rfl⟩;go_wp2_with fail;refine(KH.out _).mono ?_;rintro e w1⟨rfl,rfl⟩;go_wp2_with fail;refine(KV.out _).mono ?_;rintro e w2⟨rfl,hb2⟩;have bF:=b0.kept hb2;have c4:=bF.cell 4 rfl;go_wp2;go_ret;exact⟨by rw[HX.out];rfl,hb0.trans (hb2.mono hb0.size)⟩
theorem V0(f1 f2 f3 f4 f5:Int):Bd ⟨f1,f2,f3,f4,f5⟩=[102,114,97,109,101,32]++Lib.itoa f1++[32]++Db f2++[32]++Lib.itoa f3++[32]++Lib.itoa f4++[32]++Lib.itoa f5:=by
 simp only[Bd,F9,Cv,List.append_assoc,List.cons_append,List.nil_append]
theorem V1(f1 f2 f3 f4 f5:Int)(w:World)(h:A8 ⟨f1,f2,f3,f4,f5⟩=0) :
 Calls prog 189 #[.agg #[.int .i64 f1,.int .i64 f2,.int .i64 f3,.int .i64 f4,.int .i64 f5]] w fun e w'=>e=.returned (.tuple #[.string ⟨(Fu ⟨f1,f2,f3,f4,f5⟩).toArray⟩,.int .i64 0])∧Below w.heap.size w w':=by
 have hb0:Below w.heap.size w (w.alloc (.cells #[.int .i64 f1,.int .i64 f2,.int .i64 f3,.int .i64 f4,.int .i64 f5] 256)):=zb.alloc zl _;have KE:=zh (fun(W:World)=>H9 f1 f2 f3 f4 f5 W);rw[h] at KE;have hlen:=Mw h;have hsm:=Mr (Bd ⟨f1,f2,f3,f4,f5⟩);obtain⟨h1,h2,h3,h4,h5⟩:=Fz h;simp only[Aq,C9,Cr,decide_eq_true_eq] at h1 h4 h5;have HFT:Hid (Fu ⟨f1,f2,f3,f4,f5⟩=Bd ⟨f1,f2,f3,f4,f5⟩++32::Lib.itoa (Gh (Bd ⟨f1,f2,f3,f4,f5⟩))):=rfl;have HB:=zh (V0 f1 f2 f3 f4 f5);have l1:=Lib.itoa_length_le f1 (by omega) (by omega);have l2:=Vm f2;have l3:=Lib.itoa_length_le f3 (by omega) (by omega);have l4:=Lib.itoa_length_le f4 (by omega) (by omega);have l5:=Lib.itoa_length_le f5 (by omega) (by omega);have K1:=zh (fun(W:World)=>Cp f1 W (by omega));have K2:=zh (fun(W:World)=>Ki f2 W);have K3:=zh (fun(W:World)=>Cp f3 W (by omega));have K4:=zh (fun(W:World)=>Cp f4 W (by omega));have K5:=zh (fun(W:World)=>Il f5 W (by omega));have KS:=zh (fun(W:World)=>Vj (Bd ⟨f1,f2,f3,f4,f5⟩) W (by omega));have KD:=zh (fun(W:World)=>Cp (Gh (Bd ⟨f1,f2,f3,f4,f5⟩)) W (by omega));have lsm:=Lib.itoa_length_le (Gh (Bd ⟨f1,f2,f3,f4,f5⟩):Int) (by omega) (by omega);generalize Lib.itoa (Gh (Bd ⟨f1,f2,f3,f4,f5⟩):Int)=si at *;generalize Lib.itoa f1=t1 at *;generalize Db f2=t2 at *;generalize Lib.itoa f3=t3 at *;generalize Lib.itoa f4=t4 at *;generalize Lib.itoa f5=t5 at *;have hfb:(Bd ⟨f1,f2,f3,f4,f5⟩).length≤1000:=hlen;generalize Bd ⟨f1,f2,f3,f4,f5⟩=body at *;obtain⟨S1,hS1⟩:∃S,S=[102,114,97,109,101,32]++t1:=⟨_,rfl⟩
 have q1:=D5 [102,114,97,109,101,32] t1 (by simp;omega);have m1:S1.length≤60:=by rw[hS1];simp;omega
 rw[←hS1] at q1;obtain⟨S2,hS2⟩:∃S,S=S1++[32]:=⟨_,rfl⟩
 have q2:=D5 S1 [32] (by simp;omega);have m2:S2.length≤61:=by rw[hS2];simp;omega
 rw[←hS2] at q2;obtain⟨S3,hS3⟩:∃S,S=S2++t2:=⟨_,rfl⟩
 have q3:=D5 S2 t2 (by omega);have m3:S3.length≤500:=by rw[hS3];simp;omega
 rw[←hS3] at q3;obtain⟨S4,hS4⟩:∃S,S=S3++[32]:=⟨_,rfl⟩
 have q4:=D5 S3 [32] (by simp;omega);have m4:S4.length≤501:=by rw[hS4];simp;omega
 rw[←hS4] at q4;obtain⟨S5,hS5⟩:∃S,S=S4++t3:=⟨_,rfl⟩
 have q5:=D5 S4 t3 (by omega);have m5:S5.length≤550:=by rw[hS5];simp;omega
 rw[←hS5] at q5;obtain⟨S6,hS6⟩:∃S,S=S5++[32]:=⟨_,rfl⟩
 have q6:=D5 S5 [32] (by simp;omega);have m6:S6.length≤551:=by rw[hS6];simp;omega
 rw[←hS6] at q6;obtain⟨S7,hS7⟩:∃S,S=S6++t4:=⟨_,rfl⟩
 have q7:=D5 S6 t4 (by omega);have m7:S7.length≤600:=by rw[hS7];simp;omega
 rw[←hS7] at q7;obtain⟨S8,hS8⟩:∃S,S=S7++[32]:=⟨_,rfl⟩
 have q8:=D5 S7 [32] (by simp;omega);have m8:S8.length≤601:=by rw[hS8];simp;omega
 rw[←hS8] at q8;have hS9:body=S8++t5:=by rw[HB.out,hS8,hS7,hS6,hS5,hS4,hS3,hS2,hS1]
 have q9:=D5 S8 t5 (by omega);rw[←hS9] at q9;obtain⟨SA,hSA⟩:∃S,S=body++[32]:=⟨_,rfl⟩
 have qA:=D5 body [32] (by simp;omega);have mA:SA.length≤1001:=by rw[hSA];simp;omega
 rw[←hSA] at qA;obtain⟨SB,hSB⟩:∃S,S=SA++si:=⟨_,rfl⟩
 have qB:=D5 SA si (by omega);rw[←hSB] at qB;have HSB:Hid (Fu ⟨f1,f2,f3,f4,f5⟩=SB):=by unfold Hid;rw[HFT.out,hSB,hSA];simp
 clear h h1 h2 h3 h4 h5 hS1 hS2 hS3 hS4 hS5 hS6 hS7 hS8 hS9 hSA hSB m1 m2 m3 m4 m5 m6 m7 m8 mA l1 l2 l3 l4 l5 lsm hlen hfb hsm HB HFT;go_enter func189,ntmps189;go_wp2_with fail;refine(KE.out _).mono ?_;rintro e w1⟨rfl,hb1⟩;have hz:w.heap.size<w1.drew.heap.size:=by have:=hb1.size;simp at this;exact this
 have hv:Below w.heap.size w w1.drew:=(hb0.trans (hb1.mono (by simp))).drew;have k0:w1.drew.cell? ⟨w.heap.size,0,none⟩=some (.int .i64 f1):=(hb1.cell (p:=⟨w.heap.size,0,none⟩) (by simp)).trans (by simp);have k1:w1.drew.cell? ⟨w.heap.size,1,none⟩=some (.int .i64 f2):=(hb1.cell (p:=⟨w.heap.size,1,none⟩) (by simp)).trans (by simp);have k2:w1.drew.cell? ⟨w.heap.size,2,none⟩=some (.int .i64 f3):=(hb1.cell (p:=⟨w.heap.size,2,none⟩) (by simp)).trans (by simp);have k3:w1.drew.cell? ⟨w.heap.size,3,none⟩=some (.int .i64 f4):=(hb1.cell (p:=⟨w.heap.size,3,none⟩) (by simp)).trans (by simp);have k4:w1.drew.cell? ⟨w.heap.size,4,none⟩=some (.int .i64 f5):=(hb1.cell (p:=⟨w.heap.size,4,none⟩) (by simp)).trans (by simp);have A1:=zh (K1.out w1.drew);clear hb1 hb0;go_wp2
 go_region_held3 (fun w'=>w'.cell? ⟨w.heap.size,0,none⟩=some (.int .i64 f1)∧w'.cell? ⟨w.heap.size,1,none⟩=some (.int .i64 f2)∧w'.cell? ⟨w.heap.size,2,none⟩=some (.int .i64 f3)∧w'.cell? ⟨w.heap.size,3,none⟩=some (.int .i64 f4)∧w'.cell? ⟨w.heap.size,4,none⟩=some (.int .i64 f5)) (go_keep)
  (first
   | (go_at_call 52;(with_reducible refine A1.out.mono ?_);rintro e w2⟨rfl,hb2⟩;have hv2:=hv.trans (hb2.mono hv.size);have k0:=(hb2.cell (p:=⟨w.heap.size,0,none⟩) hz).trans k0;have k1:=(hb2.cell (p:=⟨w.heap.size,1,none⟩) hz).trans k1;have k2:=(hb2.cell (p:=⟨w.heap.size,2,none⟩) hz).trans k2;have k3:=(hb2.cell (p:=⟨w.heap.size,3,none⟩) hz).trans k3;have k4:=(hb2.cell (p:=⟨w.heap.size,4,none⟩) hz).trans k4;have hz2:=Nat.lt_of_lt_of_le hz hb2.size;have A2:=zh (K2.out w2);clear hb2)
   | (go_at_call 88;(with_reducible refine A2.out.mono ?_);rintro e w3⟨rfl,hb2⟩;have hv3:=hv2.trans (hb2.mono hv2.size);have k0:=(hb2.cell (p:=⟨w.heap.size,0,none⟩) hz2).trans k0;have k1:=(hb2.cell (p:=⟨w.heap.size,1,none⟩) hz2).trans k1;have k2:=(hb2.cell (p:=⟨w.heap.size,2,none⟩) hz2).trans k2;have k3:=(hb2.cell (p:=⟨w.heap.size,3,none⟩) hz2).trans k3;have k4:=(hb2.cell (p:=⟨w.heap.size,4,none⟩) hz2).trans k4;have hz3:=Nat.lt_of_lt_of_le hz2 hb2.size;have A3:=zh (K3.out w3);clear hb2)
   | (go_at_call 52;(with_reducible refine A3.out.mono ?_);rintro e w4⟨rfl,hb2⟩;have hv4:=hv3.trans (hb2.mono hv3.size);have k0:=(hb2.cell (p:=⟨w.heap.size,0,none⟩) hz3).trans k0;have k1:=(hb2.cell (p:=⟨w.heap.size,1,none⟩) hz3).trans k1;have k2:=(hb2.cell (p:=⟨w.heap.size,2,none⟩) hz3).trans k2;have k3:=(hb2.cell (p:=⟨w.heap.size,3,none⟩) hz3).trans k3;have k4:=(hb2.cell (p:=⟨w.heap.size,4,none⟩) hz3).trans k4;have hz4:=Nat.lt_of_lt_of_le hz3 hb2.size;have A4:=zh (K4.out w4);clear hb2)
   | (go_at_call 52;(with_reducible refine A4.out.mono ?_);rintro e w5⟨rfl,hb2⟩;have hv5:=hv4.trans (hb2.mono hv4.size);have k0:=(hb2.cell (p:=⟨w.heap.size,0,none⟩) hz4).trans k0;have k1:=(hb2.cell (p:=⟨w.heap.size,1,none⟩) hz4).trans k1;have k2:=(hb2.cell (p:=⟨w.heap.size,2,none⟩) hz4).trans k2;have k3:=(hb2.cell (p:=⟨w.heap.size,3,none⟩) hz4).trans k3;have k4:=(hb2.cell (p:=⟨w.heap.size,4,none⟩) hz4).trans k4;have hz5:=Nat.lt_of_lt_of_le hz4 hb2.size;have A5:=zh (K5.out w5);clear hb2)
   | (go_at_call 90;(with_reducible refine A5.out.mono ?_);rintro e w6⟨rfl,hb2⟩;have hv6:=hv5.trans (hb2.mono hv5.size);have k0:=(hb2.cell (p:=⟨w.heap.size,0,none⟩) hz5).trans k0;have k1:=(hb2.cell (p:=⟨w.heap.size,1,none⟩) hz5).trans k1;have k2:=(hb2.cell (p:=⟨w.heap.size,2,none⟩) hz5).trans k2;have k3:=(hb2.cell (p:=⟨w.heap.size,3,none⟩) hz5).trans k3;have k4:=(hb2.cell (p:=⟨w.heap.size,4,none⟩) hz5).trans k4;have hz6:=Nat.lt_of_lt_of_le hz5 hb2.size;clear hb2))
 clear k0 k1 k2 k3 k4 A1 A2 A3 A4 A5;go_wp2_with fail;refine(KS.out _).mono ?_;rintro e w8⟨rfl,rfl⟩;go_wp2_with fail;refine(KD.out _).mono ?_;rintro e w9⟨rfl,hb9⟩;go_wp2;go_ret2;exact⟨by rw[HSB.out];rfl,hv6.trans (hb9.mono hv6.size)⟩
theorem Mx(f1 f2 f3 f4 f5:Int)(w:World) :
 Calls prog 189 #[.agg #[.int .i64 f1,.int .i64 f2,.int .i64 f3,.int .i64 f4,.int .i64 f5]] w fun e w'=>e=.returned (.tuple #[.string ⟨(Ly ⟨f1,f2,f3,f4,f5⟩).toArray⟩,.int .i64 (A8 ⟨f1,f2,f3,f4,f5⟩)])∧Below w.heap.size w w':=by
 by_cases h:A8 ⟨f1,f2,f3,f4,f5⟩=0
 ·rw[Ly,if_pos h,h]
  exact V1 f1 f2 f3 f4 f5 w h
 ·rw[Ly,if_neg h]
  have hb0:Below w.heap.size w (w.alloc (.cells #[.int .i64 f1,.int .i64 f2,.int .i64 f3,.int .i64 f4,.int .i64 f5] 256)):=zb.alloc zl _;have KE:=zh (fun(W:World)=>H9 f1 f2 f3 f4 f5 W);have hp:(0:Int)<(A8 ⟨f1,f2,f3,f4,f5⟩:Int):=by omega
  generalize (A8 ⟨f1,f2,f3,f4,f5⟩:Int)=c at *;clear h;go_enter func189,ntmps189;go_wp2_with fail;refine(KE.out _).mono ?_;rintro e w1⟨rfl,hb1⟩;go_wp2;go_ret2;exact⟨rfl,hb0.trans (hb1.mono hb0.size)⟩
def I9(ns:List Int):Int:=ns.getD (ns.length-1) 0
theorem Z8(ns:List Int)(n:Int):I9 (ns++[n])=n:=by simp[I9]
theorem Xj(ns:List Int)(n:Int):A6 (ns++[n])=A6 ns|||At n:=by simp[A6]
theorem zDu(x:List UInt8)(last:Int):G8 x last=if Aw x=true∧Aq (Ah x)=true∧last<Ah x then some (Ah x) else none:=by
 unfold G8 Aw Ah
 cases Cl x with
 | none=>simp
 | some n=>simp
theorem zDt{s:List UInt8}(hne:s≠[45]):Cq s=(Ct (Az 44 s)).map (·.1):=by rw[Cq,if_neg hne]
theorem zG4{ws:List (List UInt8)}{k:Nat}(hk:k<ws.length){c:Nat}{last:Int}(h:Ct (ws.take k)=some (c,last))(hb:G8 ws[k] last=none):Ct ws=none:=by
 have h1:Ct (ws.take (k+1))=none:=by rw[List.take_succ_eq_append_getElem hk,Ev,h,G3,Option.bind_some,hb];rfl
 have:=Ky (ws.drop (k+1)) h1
 rwa [List.take_append_drop] at this
theorem zDs{ws:List (List UInt8)}{k:Nat}(hk:k<ws.length){ns:List Int}(h:Ct (ws.take k)=some (A6 ns,I9 ns)){n:Int}(hb:G8 ws[k] (I9 ns)=some n) :
 Ct (ws.take (k+1))=some (A6 (ns++[n]),I9 (ns++[n])):=by
 rw[List.take_succ_eq_append_getElem hk,Ev,h,G3,Option.bind_some,hb,Xj,Z8];rfl
theorem Nn{w:World}{a:Option Addr}{l:List (List UInt8)}(h:Ac w a (Ad l))(k:Nat)(hk:k<l.length) :
 ∃b off,a=some ⟨b,off,none⟩∧b<w.heap.size∧w.cell? ⟨b,off+k,none⟩=some (.string ⟨l[k].toArray⟩):=by
 obtain⟨b,off,rfl,hlt,hc⟩:=h.at (fun e=>by have:=congrArg List.length e;simp[Ad] at this;rw[this] at hk;simp at hk);exact⟨b,off,rfl,hlt,hc k _ (by simp[Ad,hk])⟩
def rcV(o:Option Nat):Value:=match o with
 | some c=>.tuple #[.int .i64 (c:Int),.int .i64 0]
 | none=>.tuple #[.int .i64 0,.int .i64 1]
theorem Ou(s:List UInt8)(w:World)(hs:s.length≤100000) :
 Calls prog 92 #[.string ⟨s.toArray⟩] w fun e w'=>e=.returned (rcV (Cq s))∧Below w.heap.size w w':=by
 by_cases hne:s=[45]
 ·subst hne
  have HR:Hid (Cq [45]=some 0):=by unfold Hid;rw[Cq,if_pos rfl]
  go_enter func92,ntmps92;go_wp2;go_ret2;exact⟨by rw[HR.out];rfl,Below.refl _ _⟩
 ·have hq:(s==[45])=false:=by simpa using hne
  have HF:=zh (zDt hne);have KC:=zh (fun(W:World)=>Fv s 44 W hs);have HPc:=zh (Cz 44 s);have hcl:=Ch 44 s;obtain⟨i0,hi,hz0,hz1,hz2⟩:=info_parts Ga;have hi':=zh hi;have hz0':=zh hz0;have hz1':=zh hz1;have hz2':=zh hz2;clear hi hz0 hz1 hz2 hne;generalize Az 44 s=ws at *;go_enter func92,ntmps92;go_wp2_with fail;refine(KC.out _).mono ?_;rintro e w1⟨aw,nw,cw,rfl,hrw,hnw,hcw,hb1⟩;have HNW:=zh hnw;have HRW:=zh hrw;clear hnw hrw KC;go_wp2;go_loopw [5,6] (fun v i wr=>∃(k:Nat) (ns:List Int),k≤nw∧i=.int .i64 k∧ns.length=k∧wr.ownsRow w1.heap.size 3 1 v k (Aa ns)∧Hid (Ct (ws.take k)=some (A6 ns,I9 ns))∧Hid (∀x∈ns,Aq x=true)∧Below w1.heap.size w1 wr) (fun _ i _=>nw-(intOf i).toNat)
  case atStart=>exact⟨0,[],Nat.zero_le _,rfl,rfl,World.ownsRow_nil _ _ _ _,rfl,by unfold Hid;simp,Below.refl _ _⟩
  case round=>
   obtain⟨k,ns,hk,rfl,hnk,hown,hacc,hall,hb⟩:=hrel
   by_cases hlt:k<nw
   ·have hk1:k<ws.length:=by have:=HNW.out;omega
    obtain⟨bw,ow,rfl,hbw,cw0⟩:=Nn HRW.out k hk1;have cw1:=(hb.cell (p:=⟨bw,ow+k,none⟩) hbw).trans cw0;have hxl:=HPc.out ws[k] (List.getElem_mem hk1);have HAB:=zh (fun h=>zG4 hk1 hacc.out h);have HAG:=zh (fun n h=>zDs (n:=n) hk1 hacc.out h);generalize ws[k]=x at *;have HOk:=zDu x (I9 ns);have KN:=zh (fun(W:World)=>D8 x W (by omega));have KI:=zh (fun(W:World)=>Au (Ah x) W);have hi0:(0:Int)≤(k:Int):=by omega
    have hi1:(k:Int)<(nw:Int):=by omega
    cases hn:Aw x
    ·have HB:Hid (Cq s=none):=by unfold Hid;rw[HF.out,HAB.out (by rw[HOk,if_neg (by simp[hn])])];rfl
     rw[hn] at KN;generalize Aq (Ah x)=nd at *;generalize Ah x=n at *;clear HOk hn;go_wp2_with fail;refine(KN.out _).mono ?_;rintro e w3⟨rfl,rfl⟩;go_wp2_with fail;refine(KI.out _).mono ?_;rintro e w3⟨rfl,rfl⟩;go_wp2;go_ret2;exact⟨by rw[HB.out];rfl,hb1.trans (hb.mono hb1.size)⟩
    ·cases hd:Aq (Ah x)
     ·have HB:Hid (Cq s=none):=by unfold Hid;rw[HF.out,HAB.out (by rw[HOk,if_neg (by simp[hd])])];rfl
      rw[hn] at KN;rw[hd] at KI;generalize Ah x=n at *;clear HOk hn hd;go_wp2_with fail;refine(KN.out _).mono ?_;rintro e w3⟨rfl,rfl⟩;go_wp2_with fail;refine(KI.out _).mono ?_;rintro e w3⟨rfl,rfl⟩;go_wp2;go_ret2;exact⟨by rw[HB.out];rfl,hb1.trans (hb.mono hb1.size)⟩
     ·have hd':=hd
      simp only[Aq,decide_eq_true_eq] at hd'
      by_cases hlast:I9 ns<Ah x
      ·have HA:=zh (HAG.out (Ah x) (by rw[HOk,if_pos ⟨hn,hd,hlast⟩]))
       have HAll:Hid (∀y∈ns++[Ah x],Aq y=true):=fun y hy=>by
        rcases List.mem_append.1 hy with h|h
        ·exact hall.out y h
        ·simp at h;rw[h];exact hd
       have HS:Hid (Aa (ns++[Ah x])=Aa ns++[.int .i64 (Ah x)]):=by unfold Hid;simp[Aa]
       have HL:Hid (0<k→I9 ns=ns.getD (k-1) 0):=fun _=>by rw[I9,hnk]
       rw[hn] at KN;rw[hd] at KI;clear HOk hn hd;have HO:=zh (hown.alloc (.cells #[.int .i64 (Ah x)] 3));have HW:=zh (Ac.new_at wr [.int .i64 (Ah x)] 3 _ rfl);have HV:=zh (hb.alloc hb.size (.cells #[.int .i64 (Ah x)] 3));generalize Ah x=n at *
       by_cases hk0:k=0
       ·have hd1:decide ((0:Int)<(k:Int))=false:=by simp;omega
        have hd2:decide (0<k)=false:=by simp;omega
        clear hown hk0;go_wp2_with fail;refine(KN.out _).mono ?_;rintro e w3⟨rfl,rfl⟩;go_wp2_with fail;refine(KI.out _).mono ?_;rintro e w3⟨rfl,rfl⟩;go_wp2_with (at_builtin;refine Ag _ rfl (.tmp 47) (.tmp 49) 72 rfl w1.heap.size 3 i0 _ 1 8 underlying72 hi'.out hz0'.out hz1'.out hz2'.out rfl (by decide) _ k (Aa ns) rfl HO.out (some ⟨wr.heap.size,0,none⟩) 1 1 [.int .i64 n] rfl rfl HW.out ?_ ?_ ?_ ?_ ?_;(simp[Value.oneCell']);(unfold maxLen;omega);(omega);(exact HV.out.size);intro v1 w5 ho1 hg1 hq hm1;clear hq hm1);go_roundw
        case rel=>exact⟨k+1,_,by omega,by go_num,by rw[List.length_append,hnk];rfl,by rw[HS.out];exact ho1,HA.out,HAll,HV.out.grown hg1 HV.out.size (fun j e=>(HO.out.lt j e).1)⟩
        case measure=>simp[intOf];omega
       ·have hd1:(0:Int)<(k:Int):=by omega
        have hd2:decide (0<k)=true:=by simp;omega
        obtain⟨ao,co,rfl⟩:=Aj hown;obtain⟨ra,_,na,_⟩:=Ac.owned hown;obtain⟨bo,oo,rfl,hbo,co0⟩:=ra.int (k-1) (by omega);have hln:=HL.out (by omega);have hgd:ns.getD (k-1) 0=ns[k-1]'(by omega):=by rw[List.getD_eq_getElem?_getD,List.getElem?_eq_getElem (by omega)];rfl
        rw[hln,hgd] at hlast;generalize ns[k-1]'(by omega)=lastv at *;have hle:decide (n≤lastv)=false:=by simp;omega
        have hkk:((k:Int)-1).toNat=k-1:=by omega
        clear hown hk0 hln hgd;go_wp2_with fail;refine(KN.out _).mono ?_;rintro e w3⟨rfl,rfl⟩;go_wp2_with fail;refine(KI.out _).mono ?_;rintro e w3⟨rfl,rfl⟩;go_wp2_with (at_builtin;refine Ag _ rfl (.tmp 47) (.tmp 49) 72 rfl w1.heap.size 3 i0 _ 1 8 underlying72 hi'.out hz0'.out hz1'.out hz2'.out rfl (by decide) _ k (Aa ns) rfl HO.out (some ⟨wr.heap.size,0,none⟩) 1 1 [.int .i64 n] rfl rfl HW.out ?_ ?_ ?_ ?_ ?_;(simp[Value.oneCell']);(unfold maxLen;omega);(omega);(exact HV.out.size);intro v1 w5 ho1 hg1 hq hm1;clear hq hm1);go_roundw
        case rel=>exact⟨k+1,_,by omega,by go_num,by rw[List.length_append,hnk];rfl,by rw[HS.out];exact ho1,HA.out,HAll,HV.out.grown hg1 HV.out.size (fun j e=>(HO.out.lt j e).1)⟩
        case measure=>simp[intOf];omega
      ·have HB:Hid (Cq s=none):=by unfold Hid;rw[HF.out,HAB.out (by rw[HOk,if_neg (fun h=>hlast h.2.2)])];rfl
       have hk0:0<k:=by
        by_cases hk0:k=0
        ·subst hk0
         have:ns=[]:=List.eq_nil_of_length_eq_zero hnk;subst this;exact absurd (show I9 []<Ah x by show(0:Int)<_;omega) hlast
        ·omega
       have hd1:(0:Int)<(k:Int):=by omega
       have hd2:decide (0<k)=true:=by simp;omega
       obtain⟨ao,co,rfl⟩:=Aj hown;obtain⟨ra,_,na,_⟩:=Ac.owned hown;obtain⟨bo,oo,rfl,hbo,co0⟩:=ra.int (k-1) (by omega);have hln:I9 ns=ns.getD (k-1) 0:=by rw[I9,hnk]
       have hgd:ns.getD (k-1) 0=ns[k-1]'(by omega):=by rw[List.getD_eq_getElem?_getD,List.getElem?_eq_getElem (by omega)];rfl
       rw[hln,hgd] at hlast;rw[hn] at KN;rw[hd] at KI;clear HOk hn hd hln hgd hown;generalize ns[k-1]'(by omega)=lastv at *;generalize Ah x=n at *;have hle:n≤lastv:=by omega
       have hkk:((k:Int)-1).toNat=k-1:=by omega
       go_wp2_with fail;refine(KN.out _).mono ?_;rintro e w3⟨rfl,rfl⟩;go_wp2_with fail;refine(KI.out _).mono ?_;rintro e w3⟨rfl,rfl⟩;go_wp2;go_ret2;exact⟨by rw[HB.out];rfl,hb1.trans (hb.mono hb1.size)⟩
   ·obtain rfl:k=nw:=by omega
    have hac:Ct ws=some (A6 ns,I9 ns):=by have:=hacc.out;rwa [List.take_of_length_le (by have:=HNW.out;omega)] at this
    have HR:Hid (Cq s=some (A6 ns)):=by unfold Hid;rw[HF.out,hac];rfl
    obtain⟨ao,co,rfl⟩:=Aj hown;obtain⟨ra,_,na,_⟩:=Ac.owned hown;have KO:=zh (Jr ao k co ns wr hnk ra (by have:=HNW.out;omega));have hcf:Fx ns=((A6 ns:Int),0,-1):=by rw[Fx,if_pos ((E7 ns 0 (by omega)).2 hall.out)]
    rw[hcf] at KO;have hv:=hb1.trans (hb.mono hb1.size);generalize A6 ns=C at *;clear hown hcf hac;go_wp2_with fail;refine KO.out.mono ?_;rintro e w3⟨rfl,hb3⟩;have hv3:=hv.trans (hb3.mono hv.size);go_wp2;go_ret2;exact⟨by rw[HR.out];rfl,hv3.alloc hv3.size _⟩
def zB6(ws:List (List UInt8))(m:Nat)(j:Nat):Int:=if j=2 then(m:Int) else Ah (ws.getD j [])
def Ub(ws:List (List UInt8))(j:Nat):Bool:=if j=2 then true else Aw (ws.getD j [])&&(decide (j=5)||decide (0≤Ah (ws.getD j [])))
def rfL(ws:List (List UInt8))(m:Nat)(k:Nat):List Int:=(List.range k).map fun j=>zB6 ws m (j+1)
theorem zG8(ws:List (List UInt8))(m k:Nat):rfL ws m (k+1)=rfL ws m k++[zB6 ws m (k+1)]:=by rw[rfL,List.range_succ,List.map_append];rfl
theorem Ys{w0 w1 w2 w3 w4 w5 w6:List UInt8}(h2:(Cq w2).isSome=true):Gt w1 w2 w3 w4 w5 w6=true↔∀j,1≤j→j<7→Ub [w0,w1,w2,w3,w4,w5,w6] j=true:=by
 constructor
 ·intro h j h1 h7
  simp only[Gt,Eu,Bool.and_eq_true] at h;obtain⟨⟨⟨⟨⟨a1,_⟩,a3⟩,a4⟩,a5⟩,a6⟩:=h;have hj:j=1∨j=2∨j=3∨j=4∨j=5∨j=6:=by omega
  rcases hj with rfl|rfl|rfl|rfl|rfl|rfl<;>simp[Ub,a1.1,a3.1,a4.1,a5,a6.1,of_decide_eq_true a1.2,of_decide_eq_true a3.2,of_decide_eq_true a4.2,of_decide_eq_true a6.2]
 ·intro h
  have b1:=h 1 (by omega) (by omega);have b3:=h 3 (by omega) (by omega);have b4:=h 4 (by omega) (by omega);have b5:=h 5 (by omega) (by omega);have b6:=h 6 (by omega) (by omega);simp only[Ub,List.getD_cons_succ,List.getD_cons_zero] at b1 b3 b4 b5 b6;simp at b1 b3 b4 b5 b6;simp[Gt,Eu,h2,b1,b3,b4,b5,b6]
theorem zJ4{s:List UInt8}{ws:List (List UInt8)}(hs:s.length≤100)(hc:Az 32 s=ws)(h7:ws.length=7)(h:ws.getD 0 []≠[102,114,97,109,101]∨Cq (ws.getD 2 [])=none∨∃j,1≤j∧j<7∧Ub ws j=false):Ak s=(1,Jt):=by
 obtain⟨w0,w1,w2,w3,w4,w5,w6,rfl⟩:=Jf h7;rw[Ak,if_neg (by omega),hc]
 show Gn w0 w1 w2 w3 w4 w5 w6=_
 rw[Gn]
 by_cases h0:w0=[102,114,97,109,101]
 ·rw[if_pos h0]
  rcases h with h|h|⟨j,h1,h2,h3⟩
  ·exact absurd h0 (by simpa using h)
  ·have h:Cq w2=none:=by simpa using h
   rw[if_neg (by simp[Gt,h])]
  ·by_cases hr:(Cq w2).isSome=true
   ·rw[if_neg (fun e=>by have:=(Ys (w0:=w0) hr).1 e j h1 h2;rw[h3] at this;cases this)]
   ·rw[if_neg (by simp[Gt,hr])]
 ·rw[if_neg h0]
theorem zI2{s:List UInt8}{w0 w1 w2 w3 w4 w5 w6:List UInt8}{m:Nat}(hs:s.length≤100)(hc:Az 32 s=[w0,w1,w2,w3,w4,w5,w6])(h0:w0=[102,114,97,109,101])(h2:Cq w2=some m)(h:∀j,1≤j→j<7→Ub [w0,w1,w2,w3,w4,w5,w6] j=true) :
 Ak s=if ((Gh (Cv 32 [w0,w1,w2,w3,w4,w5]):Nat):Int)=Ah w6 then
  (if A8 ⟨Ah w1,m,Ah w3,Ah w4,Ah w5⟩=0 then(0,⟨Ah w1,m,Ah w3,Ah w4,Ah w5⟩) else(A8 ⟨Ah w1,m,Ah w3,Ah w4,Ah w5⟩,Jt)) else(8,Jt):=by
 have hw:=(Ys (w0:=w0) (w2:=w2) (by rw[h2];rfl)).2 h;rw[Ak,if_neg (by omega),hc]
 show Gn w0 w1 w2 w3 w4 w5 w6=_
 rw[Gn,if_pos h0,if_pos hw,My,h2]
 rfl
theorem zG9(ws:List (List UInt8))(m:Nat)(w0 w1 w2 w3 w4 w5 w6:List UInt8)(h:ws=[w0,w1,w2,w3,w4,w5,w6]):rfL ws m 6=[Ah w1,(m:Int),Ah w3,Ah w4,Ah w5,Ah w6]:=by
 subst h;rfl
theorem Qx(s:List UInt8)(w:World)(hs:s.length≤100000)(h:100<s.length∨(Az 32 s).length≠7) :
 Calls prog 190 #[.string ⟨s.toArray⟩] w fun e w'=>e=.returned (.tuple #[.agg (Ak s).2.arr,.int .i64 (Ak s).1])∧Below w.heap.size w w':=by
 have hb0:Below w.heap.size w (w.alloc (.cells #[.int .i64 0,.int .i64 0,.int .i64 0,.int .i64 0,.int .i64 0] 256)):=zb.alloc zl _;have b0:=Af.new w 256 #[.int .i64 0,.int .i64 0,.int .i64 0,.int .i64 0,.int .i64 0]
 by_cases h1:100<s.length
 ·have HB:Hid (Ak s=(2,Jt)):=by unfold Hid;rw[Ak,if_pos h1]
  have hl:(100:Int)<(s.length:Int):=by omega
  have z0:=b0.cell 0 rfl;have y0:=b0.frozen 0;have z1:=b0.cell 1 rfl;have y1:=b0.frozen 1;have z2:=b0.cell 2 rfl;have y2:=b0.frozen 2;have z3:=b0.cell 3 rfl;have y3:=b0.frozen 3;have z4:=b0.cell 4 rfl;have y4:=b0.frozen 4;go_enter func190,ntmps190;go_wp2;refine bodyPost_ret (v:=.tuple #[.agg #[.int .i64 0,.int .i64 0,.int .i64 0,.int .i64 0,.int .i64 0],.int .i64 2]) (by simp[results,results190,go_sem,z0,z1,z2,z3,z4]) rfl ?_;exact⟨by rw[HB.out];rfl,hb0⟩
 ·have h2:=h.resolve_left h1
  have HB:Hid (Ak s=(1,Jt)):=by unfold Hid;rw[Ak,if_neg h1,L5 h2]
  have hl:decide ((100:Int)<(s.length:Int))=false:=by simp;omega
  have KC:=zh (fun(W:World)=>Fv s 32 W hs);generalize Az 32 s=ws at *;clear h h1;go_enter func190,ntmps190;go_wp2_with fail;refine(KC.out _).mono ?_;rintro e w1⟨aw,nw,cw,rfl,hrw,hnw,hcw,hb1⟩;have hn7:((nw:Int) != 7)=true:=by simp;omega
  have hv1:=hb0.trans (hb1.mono hb0.size);have b0:=b0.kept hb1;have z0:=b0.cell 0 rfl;have y0:=b0.frozen 0;have z1:=b0.cell 1 rfl;have y1:=b0.frozen 1;have z2:=b0.cell 2 rfl;have y2:=b0.frozen 2;have z3:=b0.cell 3 rfl;have y3:=b0.frozen 3;have z4:=b0.cell 4 rfl;have y4:=b0.frozen 4;go_wp2;refine bodyPost_ret (v:=.tuple #[.agg #[.int .i64 0,.int .i64 0,.int .i64 0,.int .i64 0,.int .i64 0],.int .i64 1]) (by simp[results,results190,go_sem,z0,z1,z2,z3,z4]) rfl ?_;exact⟨by rw[HB.out];rfl,Cn hv1⟩
set_option maxHeartbeats 12800000 in
theorem Qw(s:List UInt8)(ws:List (List UInt8))(w:World)(hs:s.length≤100)(hc:Az 32 s=ws)(h7:ws.length=7) :
 Calls prog 190 #[.string ⟨s.toArray⟩] w fun e w'=>e=.returned (.tuple #[.agg (Ak s).2.arr,.int .i64 (Ak s).1])∧Below w.heap.size w w':=by
 have hb0:Below w.heap.size w (w.alloc (.cells #[.int .i64 0,.int .i64 0,.int .i64 0,.int .i64 0,.int .i64 0] 256)):=zb.alloc zl _;have b0:=Af.new w 256 #[.int .i64 0,.int .i64 0,.int .i64 0,.int .i64 0,.int .i64 0];have hl:decide ((100:Int)<(s.length:Int))=false:=by simp;omega
 have KC:=zh (fun(W:World)=>Fv s 32 W (by omega));have HBad:=zh (fun h=>zJ4 hs hc h7 h);have HPc:=zh (Cz 32 s);have HC:=zh hc;rw[hc] at KC HPc
 have KR:=zh (fun(W:World)=>Ou (ws.getD 2 []) W (by
  have:ws.getD 2 []∈ws:=by rw[List.getD_eq_getElem?_getD,List.getElem?_eq_getElem (by omega)];exact List.getElem_mem _
  have:=HPc.out _ this;omega))
 obtain⟨i0,hi,hz0,hz1,hz2⟩:=info_parts Ga;have hi':=zh hi;have hz0':=zh hz0;have hz1':=zh hz1;have hz2':=zh hz2;clear hi hz0 hz1 hz2 hc;go_enter func190,ntmps190;go_wp2_with fail;refine(KC.out _).mono ?_;rintro e w1⟨aw,nw,cw,rfl,hrw,hnw,hcw,hb1⟩;obtain rfl:7=nw:=by omega
 have hv1:=hb0.trans (hb1.mono hb0.size);have b0:=b0.kept hb1;have HRW:=zh hrw;obtain⟨bw,ow,rfl,hbw,cw2⟩:=Nn hrw 2 (by omega)
 have HCell:=zh (fun(W:World) (hb:Below w1.heap.size w1 W) (j:Nat) (hj:j<ws.length)=>show W.cell? ⟨bw,ow+j,none⟩=some (.string ⟨(ws.getD j []).toArray⟩) by
  obtain⟨b',o',e',_,c'⟩:=Nn HRW.out j hj;injection e' with e';injection e' with e1 e2;subst e1 e2;rw[List.getD_eq_getElem?_getD,List.getElem?_eq_getElem hj]
  exact(hb.cell (p:=⟨bw,ow+j,none⟩) hbw).trans c')
 have c2:=HCell.out w1 zb 2 (by omega);obtain⟨x2,hx2⟩:∃x2,x2=ws.getD 2 []:=⟨_,rfl⟩
 obtain⟨x0,hx0⟩:∃x0,x0=ws.getD 0 []:=⟨_,rfl⟩
 rw[←hx2] at c2 KR;have HX2:=zh hx2;have HX0:=zh hx0;clear hrw hnw cw2 hb1 KC hx2 hx0;go_wp2_with fail;refine(KR.out _).mono ?_;rintro e w2⟨rfl,hb2⟩;have hv2:=hv1.trans (hb2.mono hv1.size);have c0:=HCell.out w2 hb2 0 (by omega);rw[Nat.add_zero,←HX0.out] at c0;have b2:=b0.kept hb2;clear c2 KR
 by_cases h0:x0=[102,114,97,109,101]
 ·rw[h0] at c0
  cases hr:Cq x2 with
  | none=>
   have HB:=zh (HBad.out (.inr (.inl (by rw[←HX2.out];exact hr))));have z0:=b2.cell 0 rfl;have y0:=b2.frozen 0;have z1:=b2.cell 1 rfl;have y1:=b2.frozen 1;have z2:=b2.cell 2 rfl;have y2:=b2.frozen 2;have z3:=b2.cell 3 rfl;have y3:=b2.frozen 3;have z4:=b2.cell 4 rfl;have y4:=b2.frozen 4;simp only[rcV];go_wp2;refine bodyPost_ret (v:=.tuple #[.agg #[.int .i64 0,.int .i64 0,.int .i64 0,.int .i64 0,.int .i64 0],.int .i64 1]) (by simp[results,results190,go_sem,z0,z1,z2,z3,z4]) rfl ?_;exact⟨by rw[HB.out];rfl,Cn hv2⟩
  | some m=>
   simp only[rcV];go_wp2;go_loopw [7,8] (fun v i wr=>∃k:Nat,k≤6∧i=.int .i64 ((k:Int)+1)∧wr.ownsRow w2.heap.size 3 1 v k (Aa (rfL ws m k))∧Hid (∀j,1≤j→j<k+1→Ub ws j=true)∧Below w2.heap.size w2 wr) (fun _ i _=>8-(intOf i).toNat)
   case atStart=>exact⟨0,Nat.zero_le _,rfl,World.ownsRow_nil _ _ _ _,fun j h1 h2=>by omega,Below.refl _ _⟩
   case round=>
    obtain⟨k,hk,rfl,hown,hok,hb⟩:=hrel
    by_cases hlt:k<6
    ·have hwb:=hb2.trans (hb.mono hb2.size)
     have cx:=HCell.out wr hwb (k+1) (by omega);have hxl:(ws.getD (k+1) []).length≤s.length:=HPc.out _ (by rw[List.getD_eq_getElem?_getD,List.getElem?_eq_getElem (by omega)];exact List.getElem_mem _)
     have HOne:Hid (Ub ws (k+1)=true→∀j,1≤j→j<k+2→Ub ws j=true):=fun h j h1 h2=>by
      by_cases e:j=k+1
      ·subst e;exact h
      ·exact hok.out j h1 (by omega)
     have HBd:Hid (Ub ws (k+1)=false→Ak s=(1,Jt)):=fun h=>HBad.out (.inr (.inr ⟨k+1,by omega,by omega,h⟩))
     have hrok:Ub ws (k+1)=if k+1=2 then true else Aw (ws.getD (k+1) [])&&(decide (k+1=5)||decide (0≤Ah (ws.getD (k+1) []))):=rfl
     have hrv:zB6 ws m (k+1)=if k+1=2 then(m:Int) else Ah (ws.getD (k+1) []):=rfl
     have HS:Hid (Aa (rfL ws m (k+1))=Aa (rfL ws m k)++[.int .i64 (zB6 ws m (k+1))]):=by unfold Hid;rw[zG8];simp[Aa]
     have ecx:ow+(k+1)=ow+(k+1):=rfl;have hki:((k:Int)+1).toNat=k+1:=by omega
     have hvr:=hv2.trans (hb.mono hv2.size);have br:=b2.kept hb;generalize ws.getD (k+1) []=x at *;generalize Aa (rfL ws m k)=L at *;have KN:=zh (fun(W:World)=>D8 x W (by omega));have hi0:(0:Int)≤(k:Int)+1:=by omega
     have hi1:(k:Int)+1<7:=by omega
     by_cases hk2:k+1=2
     ·rw[if_pos hk2] at hrok hrv
      have HOk:=zh (HOne.out hrok);rw[hrv] at HS;have d2:((k:Int)+1==2)=true:=by simp;omega
      have dm:decide ((m:Int)<0)=false:=by simp
      have HO:=zh (hown.alloc (.cells #[.int .i64 m] 3));have HW:=zh (Ac.new_at wr [.int .i64 m] 3 _ rfl);have HV:=zh (hb.alloc hb.size (.cells #[.int .i64 m] 3));clear hrok hrv hk2 hown;go_wp2_with fail;refine(KN.out _).mono ?_;rintro e w3⟨rfl,rfl⟩;go_wp2_with (at_builtin;refine Ag _ rfl (.tmp 64) (.tmp 66) 72 rfl w2.heap.size 3 i0 _ 1 8 underlying72 hi'.out hz0'.out hz1'.out hz2'.out rfl (by decide) _ k L rfl HO.out (some ⟨wr.heap.size,0,none⟩) 1 1 [.int .i64 m] rfl rfl HW.out ?_ ?_ ?_ ?_ ?_;(simp[Value.oneCell']);(unfold maxLen;omega);(omega);(exact HV.out.size);intro v1 w5 ho1 hg1 hq hm1;clear hq hm1);go_roundw
      case rel=>exact⟨k+1,by omega,by go_num,by rw[HS.out];exact ho1,HOk.out,HV.out.grown hg1 HV.out.size (fun j e=>(HO.out.lt j e).1)⟩
      case measure=>simp[intOf];omega
     ·rw[if_neg hk2] at hrok hrv
      have d2:((k:Int)+1==2)=false:=by simp;omega
      cases hn:Aw x
      ·have HB:=zh (HBd.out (by rw[hrok,hn];rfl))
       rw[hn] at KN;have z0:=br.cell 0 rfl;have y0:=br.frozen 0;have z1:=br.cell 1 rfl;have y1:=br.frozen 1;have z2:=br.cell 2 rfl;have y2:=br.frozen 2;have z3:=br.cell 3 rfl;have y3:=br.frozen 3;have z4:=br.cell 4 rfl;have y4:=br.frozen 4;clear hrok hrv hk2 hn;go_wp2_with fail;refine(KN.out _).mono ?_;rintro e w3⟨rfl,rfl⟩;go_wp2;refine bodyPost_ret (v:=.tuple #[.agg #[.int .i64 0,.int .i64 0,.int .i64 0,.int .i64 0,.int .i64 0],.int .i64 1]) (by simp[results,results190,go_sem,z0,z1,z2,z3,z4]) rfl ?_;exact⟨by rw[HB.out];rfl,Cn hvr⟩
      ·rw[hn] at KN
       by_cases hneg:Ah x<0
       ·by_cases hk5:k+1=5
        ·have HOk:=zh (HOne.out (by rw[hrok,hn,decide_eq_true hk5];rfl))
         rw[hrv] at HS;have d5:((k:Int)+1 != 5)=false:=by simp;omega
         have HO:=zh (hown.alloc (.cells #[.int .i64 (Ah x)] 3));have HW:=zh (Ac.new_at wr [.int .i64 (Ah x)] 3 _ rfl);have HV:=zh (hb.alloc hb.size (.cells #[.int .i64 (Ah x)] 3));generalize Ah x=n at *;clear hrok hrv hk2 hown hn hk5;go_wp2_with fail;refine(KN.out _).mono ?_;rintro e w3⟨rfl,rfl⟩;go_wp2_with (at_builtin;refine Ag _ rfl (.tmp 64) (.tmp 66) 72 rfl w2.heap.size 3 i0 _ 1 8 underlying72 hi'.out hz0'.out hz1'.out hz2'.out rfl (by decide) _ k L rfl HO.out (some ⟨wr.heap.size,0,none⟩) 1 1 [.int .i64 n] rfl rfl HW.out ?_ ?_ ?_ ?_ ?_;(simp[Value.oneCell']);(unfold maxLen;omega);(omega);(exact HV.out.size);intro v1 w5 ho1 hg1 hq hm1;clear hq hm1);go_roundw
         case rel=>exact⟨k+1,by omega,by go_num,by rw[HS.out];exact ho1,HOk.out,HV.out.grown hg1 HV.out.size (fun j e=>(HO.out.lt j e).1)⟩
         case measure=>simp[intOf];omega
        ·have HB:=zh (HBd.out (by rw[hrok,hn,decide_eq_false hk5,decide_eq_false (by omega)];rfl))
         have d5:((k:Int)+1 != 5)=true:=by simp;omega
         have z0:=br.cell 0 rfl;have y0:=br.frozen 0;have z1:=br.cell 1 rfl;have y1:=br.frozen 1;have z2:=br.cell 2 rfl;have y2:=br.frozen 2;have z3:=br.cell 3 rfl;have y3:=br.frozen 3;have z4:=br.cell 4 rfl;have y4:=br.frozen 4;generalize Ah x=n at *;clear hrok hrv hk2 hn hk5;go_wp2_with fail;refine(KN.out _).mono ?_;rintro e w3⟨rfl,rfl⟩;go_wp2;refine bodyPost_ret (v:=.tuple #[.agg #[.int .i64 0,.int .i64 0,.int .i64 0,.int .i64 0,.int .i64 0],.int .i64 1]) (by simp[results,results190,go_sem,z0,z1,z2,z3,z4]) rfl ?_;exact⟨by rw[HB.out];rfl,Cn hvr⟩
       ·have HOk:=zh (HOne.out (by rw[hrok,hn,decide_eq_true (show 0≤Ah x by omega)];simp))
        rw[hrv] at HS;have dn:decide (Ah x<0)=false:=by simp;omega
        have HO:=zh (hown.alloc (.cells #[.int .i64 (Ah x)] 3));have HW:=zh (Ac.new_at wr [.int .i64 (Ah x)] 3 _ rfl);have HV:=zh (hb.alloc hb.size (.cells #[.int .i64 (Ah x)] 3));generalize Ah x=n at *;clear hrok hrv hk2 hown hn;go_wp2_with fail;refine(KN.out _).mono ?_;rintro e w3⟨rfl,rfl⟩;go_wp2_with (at_builtin;refine Ag _ rfl (.tmp 64) (.tmp 66) 72 rfl w2.heap.size 3 i0 _ 1 8 underlying72 hi'.out hz0'.out hz1'.out hz2'.out rfl (by decide) _ k L rfl HO.out (some ⟨wr.heap.size,0,none⟩) 1 1 [.int .i64 n] rfl rfl HW.out ?_ ?_ ?_ ?_ ?_;(simp[Value.oneCell']);(unfold maxLen;omega);(omega);(exact HV.out.size);intro v1 w5 ho1 hg1 hq hm1;clear hq hm1);go_roundw
        case rel=>exact⟨k+1,by omega,by go_num,by rw[HS.out];exact ho1,HOk.out,HV.out.grown hg1 HV.out.size (fun j e=>(HO.out.lt j e).1)⟩
        case measure=>simp[intOf];omega
    ·obtain rfl:k=6:=by omega
     have hvr:=hv2.trans (hb.mono hv2.size);have hwb:=hb2.trans (hb.mono hb2.size);have br:=b2.kept hb;obtain⟨w0,w1',w2',w3',w4',w5',w6,hws⟩:=Jf h7;have c6w:=HCell.out wr hwb 6 (by omega);have h0':w0=[102,114,97,109,101]:=by have h:=h0;rw[HX0.out,hws] at h;simpa using h
     have hr':Cq w2'=some m:=by have h:=hr;rw[HX2.out,hws] at h;simpa using h
     have hRF:=zI2 hs (HC.out.trans hws) h0' hr' (by rw[←hws];exact hok.out);have hL:=zG9 ws m w0 w1' w2' w3' w4' w5' w6 hws;have hg6:ws.getD 6 []=w6:=by rw[hws];rfl
     rw[hg6] at c6w;obtain⟨P,hP⟩:∃P,P=Cv 32 [w0,w1',w2',w3',w4',w5']:=⟨_,rfl⟩
     have hsP:s=P++32::w6:=by
      have h1:=Es 32 s;rw[HC.out,hws,show[w0,w1',w2',w3',w4',w5',w6]=[w0,w1',w2',w3',w4',w5']++[w6] from rfl,Kn 32 _ _ (by simp),←hP] at h1;exact h1.symm
     have hlen:s.length=P.length+1+w6.length:=by rw[hsP];simp;omega
     have hext:(⟨s.toArray⟩:ByteArray).extract 0 P.length=⟨P.toArray⟩:=by rw[Vs,hsP];simp
     have hnum:(s.length:Int)-(w6.length:Int)-1=(P.length:Int):=by omega
     obtain⟨ao,co,rfl⟩:=Aj hown;obtain⟨ra,_,na,_⟩:=Ac.owned hown;rw[hL] at ra;obtain⟨bo,oo,rfl,hbo,hcells⟩:=ra.at (by simp[Aa]);have v0:=hcells 0 (.int .i64 (Ah w1')) (by simp[Aa]);have v1:=hcells 1 (.int .i64 m) (by simp[Aa]);have v2:=hcells 2 (.int .i64 (Ah w3')) (by simp[Aa]);have v3:=hcells 3 (.int .i64 (Ah w4')) (by simp[Aa]);have v4:=hcells 4 (.int .i64 (Ah w5')) (by simp[Aa]);have v5:=hcells 5 (.int .i64 (Ah w6)) (by simp[Aa]);rw[Nat.add_zero] at v0;rw[←hP] at hRF;have hPl:P.length≤100:=by omega
     have KS:=zh (fun(W:World)=>Vj P W (by omega));generalize Ah w1'=x0 at *;generalize Ah w3'=x2 at *;generalize Ah w4'=x3 at *;generalize Ah w5'=x4 at *;generalize Ah w6=x5 at *;generalize hsu:((Gh P:Nat):Int)=su at *;clear hcells ra hown hok HCell HRW HPc HBad hL hP hsP hws h0 hr h0' hr' hg6 HX0 HX2
     by_cases heq:su=x5
     ·rw[if_pos heq] at hRF
      have hq:(su != x5)=false:=by simpa using heq
      have KE:=zh (fun(W:World)=>H9 x0 m x2 x3 x4 W)
      by_cases hfe:A8 ⟨x0,m,x2,x3,x4⟩=0
      ·have HB:Hid (Ak s=(0,⟨x0,m,x2,x3,x4⟩)):=by unfold Hid;rw[hRF,if_pos hfe]
       rw[hfe] at KE;go_wp2;go_quiet ((go_at_call 229;exact Calls.quiet_of_same ((KS.out _).mono fun _ _ ⟨h1,h2⟩=>⟨h1,h2.symm⟩)));go_wp2;generalize hwq:wr.drewN nq=wq;have hbq0:Below wr.heap.size wr wq:=by rw[←hwq];exact Ab zb _
       have hvq:=hvr.trans (hbq0.mono hvr.size);have bq:=br.kept hbq0;have u0:=(hbq0.cell (p:=⟨bo,oo,none⟩) hbo).trans v0;have u1:=(hbq0.cell (p:=⟨bo,oo+1,none⟩) hbo).trans v1;have u2:=(hbq0.cell (p:=⟨bo,oo+2,none⟩) hbo).trans v2;have u3:=(hbq0.cell (p:=⟨bo,oo+3,none⟩) hbo).trans v3;have u4:=(hbq0.cell (p:=⟨bo,oo+4,none⟩) hbo).trans v4;have hbq1:=Nat.lt_of_lt_of_le hbo hbq0.size;have hnq1:¬(bo=wq.heap.size):=by omega
       have hnq2:¬(wq.heap.size=bo):=by omega
       have hBq:=bq.lt;have hnq3:¬(w.heap.size=wq.heap.size):=by omega
       have hnq4:¬(wq.heap.size=w.heap.size):=by omega
       clear hwq v0 v1 v2 v3 v4 v5 hbq0;go_region
       all_goals
        go_wp2_with fail;refine(KE.out _).mono ?_;rintro e w5⟨rfl,hb5⟩;have bT:=((Af.new wq 256 #[.int .i64 x0,.int .i64 m,.int .i64 x2,.int .i64 x3,.int .i64 x4]).kept zb.drew).kept hb5;have bR:=((bq.alloc (.cells #[.int .i64 x0,.int .i64 m,.int .i64 x2,.int .i64 x3,.int .i64 x4] 256)).kept zb.drew).kept hb5;have hv4:=(hvq.alloc hvq.size (.cells #[.int .i64 x0,.int .i64 m,.int .i64 x2,.int .i64 x3,.int .i64 x4] 256)).drew;have hv5:=hv4.trans (hb5.mono hv4.size);have z0:=bR.cell 0 rfl;have y0:=bR.frozen 0;have z1:=bR.cell 1 rfl;have y1:=bR.frozen 1;have z2:=bR.cell 2 rfl;have y2:=bR.frozen 2;have z3:=bR.cell 3 rfl;have y3:=bR.frozen 3;have z4:=bR.cell 4 rfl;have y4:=bR.frozen 4;have t0:=bT.cell 0 rfl;have t1:=bT.cell 1 rfl;have t2:=bT.cell 2 rfl;have t3:=bT.cell 3 rfl;have t4:=bT.cell 4 rfl;clear hb5 bT bR;go_wp2;refine bodyPost_ret (v:=.tuple #[.agg #[.int .i64 x0,.int .i64 m,.int .i64 x2,.int .i64 x3,.int .i64 x4],.int .i64 0]) (by simp[results,results190,go_sem,z0,z1,z2,z3,z4]) rfl ?_;refine⟨by rw[HB.out];rfl,?_⟩
        repeat(first|(with_reducible exact hv5)|(with_reducible refine Below.setCell ?_ (by simp) _))
      ·have HB:Hid (Ak s=(A8 ⟨x0,m,x2,x3,x4⟩,Jt)):=by unfold Hid;rw[hRF,if_neg hfe]
       have hpos:(0:Int)<(A8 ⟨x0,m,x2,x3,x4⟩:Int):=by omega
       generalize hc1:(A8 ⟨x0,m,x2,x3,x4⟩:Int)=c at *;have HC1:=zh hc1;clear hc1 hfe;go_wp2;go_quiet ((go_at_call 229;exact Calls.quiet_of_same ((KS.out _).mono fun _ _ ⟨h1,h2⟩=>⟨h1,h2.symm⟩)));go_wp2;generalize hwq:wr.drewN nq=wq;have hbq0:Below wr.heap.size wr wq:=by rw[←hwq];exact Ab zb _
       have hvq:=hvr.trans (hbq0.mono hvr.size);have bq:=br.kept hbq0;have u0:=(hbq0.cell (p:=⟨bo,oo,none⟩) hbo).trans v0;have u1:=(hbq0.cell (p:=⟨bo,oo+1,none⟩) hbo).trans v1;have u2:=(hbq0.cell (p:=⟨bo,oo+2,none⟩) hbo).trans v2;have u3:=(hbq0.cell (p:=⟨bo,oo+3,none⟩) hbo).trans v3;have u4:=(hbq0.cell (p:=⟨bo,oo+4,none⟩) hbo).trans v4;have hbq1:=Nat.lt_of_lt_of_le hbo hbq0.size;have hnq1:¬(bo=wq.heap.size):=by omega
       have hnq2:¬(wq.heap.size=bo):=by omega
       have hBq:=bq.lt;have hnq3:¬(w.heap.size=wq.heap.size):=by omega
       have hnq4:¬(wq.heap.size=w.heap.size):=by omega
       clear hwq v0 v1 v2 v3 v4 v5 hbq0;go_region
       all_goals
        go_wp2_with fail;refine(KE.out _).mono ?_;rintro e w5⟨rfl,hb5⟩;have bT:=((Af.new wq 256 #[.int .i64 x0,.int .i64 m,.int .i64 x2,.int .i64 x3,.int .i64 x4]).kept zb.drew).kept hb5;have bR:=((bq.alloc (.cells #[.int .i64 x0,.int .i64 m,.int .i64 x2,.int .i64 x3,.int .i64 x4] 256)).kept zb.drew).kept hb5;have hv4:=(hvq.alloc hvq.size (.cells #[.int .i64 x0,.int .i64 m,.int .i64 x2,.int .i64 x3,.int .i64 x4] 256)).drew;have hv5:=hv4.trans (hb5.mono hv4.size);have z0:=bR.cell 0 rfl;have y0:=bR.frozen 0;have z1:=bR.cell 1 rfl;have y1:=bR.frozen 1;have z2:=bR.cell 2 rfl;have y2:=bR.frozen 2;have z3:=bR.cell 3 rfl;have y3:=bR.frozen 3;have z4:=bR.cell 4 rfl;have y4:=bR.frozen 4;have t0:=bT.cell 0 rfl;have t1:=bT.cell 1 rfl;have t2:=bT.cell 2 rfl;have t3:=bT.cell 3 rfl;have t4:=bT.cell 4 rfl;clear hb5 bT bR;go_wp2;refine bodyPost_ret (v:=.tuple #[.agg #[.int .i64 0,.int .i64 0,.int .i64 0,.int .i64 0,.int .i64 0],.int .i64 c]) (by simp[results,results190,go_sem,z0,z1,z2,z3,z4]) rfl ?_;exact⟨by rw[HB.out,←HC1.out];rfl,Cn hv5⟩
     ·rw[if_neg heq] at hRF
      have hq:(su != x5)=true:=by simpa using heq
      have HB:=zh hRF;have z0:=br.cell 0 rfl;have y0:=br.frozen 0;have z1:=br.cell 1 rfl;have y1:=br.frozen 1;have z2:=br.cell 2 rfl;have y2:=br.frozen 2;have z3:=br.cell 3 rfl;have y3:=br.frozen 3;have z4:=br.cell 4 rfl;have y4:=br.frozen 4;go_wp2;go_quiet ((go_at_call 229;exact Calls.quiet_of_same ((KS.out _).mono fun _ _ ⟨h1,h2⟩=>⟨h1,h2.symm⟩)));go_wp2;refine bodyPost_ret (v:=.tuple #[.agg #[.int .i64 0,.int .i64 0,.int .i64 0,.int .i64 0,.int .i64 0],.int .i64 8]) (by simp[results,results190,go_sem,z0,z1,z2,z3,z4]) rfl ?_;exact⟨by rw[HB.out];rfl,Cn (Ab hvr _)⟩
 ·have HB:=zh (HBad.out (.inl (by rw[←HX0.out];exact h0)))
  have hq:(x0==[102,114,97,109,101])=false:=by simpa using h0
  have z0:=b2.cell 0 rfl;have y0:=b2.frozen 0;have z1:=b2.cell 1 rfl;have y1:=b2.frozen 1;have z2:=b2.cell 2 rfl;have y2:=b2.frozen 2;have z3:=b2.cell 3 rfl;have y3:=b2.frozen 3;have z4:=b2.cell 4 rfl;have y4:=b2.frozen 4
  cases hr:Cq x2
  all_goals
   simp only[rcV];go_wp2;refine bodyPost_ret (v:=.tuple #[.agg #[.int .i64 0,.int .i64 0,.int .i64 0,.int .i64 0,.int .i64 0],.int .i64 1]) (by simp[results,results190,go_sem,z0,z1,z2,z3,z4]) rfl ?_;exact⟨by rw[HB.out];rfl,Cn hv2⟩
theorem T9(s:List UInt8)(w:World)(hs:s.length≤100000) :
 Calls prog 190 #[.string ⟨s.toArray⟩] w fun e w'=>e=.returned (.tuple #[.agg (Ak s).2.arr,.int .i64 (Ak s).1])∧Below w.heap.size w w':=by
 by_cases h:100<s.length∨(Az 32 s).length≠7
 ·exact Qx s w hs h
 ·exact Qw s _ w (by omega) rfl (by omega)
end Go.Proofs.YtppfkokfnoeopaaGreatDoor
