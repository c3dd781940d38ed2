/- A part of a proof. -/
import Derived.Deep.CutBlock
import Derived.Deep.DeepCutAuto
import Derived.Test.YtppfkokfnoeopaaGreatDoorSRdC
set_option maxRecDepth 400000
set_option maxHeartbeats 6400000
namespace Go.Proofs.YtppfkokfnoeopaaGreatDoor
open Go.RowKit Go.Proofs.Tryz
theorem Xy{m:Nat}{who:Int}(hm:m<65536)(hn:Aq who=true):Ep (m:Int) who=m.testBit (who.toNat-1):=by
 have h1:Bn (m:Int)=true:=by simp only[Bn,decide_eq_true_eq];omega
 rw[Ep,h1,hn,Bool.true_and,Bool.true_and,Int.toNat_natCast]
theorem Y5{m:Nat}{who:Int}(hm:m<65536)(hn:Aq who=true)(h:Ep (m:Int) who=true) :
 m|||At who=m∧Fp (m|||At who) (At who)+At who=m:=by
 rw[Xy hm hn] at h;have e1:m|||At who=m:=zJ3 h
 exact⟨e1,by rw[e1];exact zGb h⟩
theorem Y6{m:Nat}{who:Int}(hm:m<65536)(hn:Aq who=true)(h:Ep (m:Int) who=false) :
 m|||At who=m+At who∧Fp (m|||At who) (At who)=m:=by
 rw[Xy hm hn] at h;exact⟨zGu h,by rw[zIe];exact zGc h⟩
theorem Mo(who:Int)(w:World)(hn:Aq who=true) :
 Calls prog 121 #[.int .i64 who] w fun e w'=>e=.returned (.int .i64 (At who))∧w=w':=by
 simp only[Aq,decide_eq_true_eq] at hn;obtain⟨k,rfl⟩:∃k:Nat,who=(k:Int)+1:=⟨(who-1).toNat,by omega⟩
 have:=Qk k w (by omega);rw[show At ((k:Int)+1)=pw k by rw[At,pw,show((k:Int)+1).toNat-1=k by omega]];exact this
theorem Af.two{W:World}{b:Nat}{t:TypeId}{x0 y0:Value}(h:Af W b t #[x0,y0])(x y:Value):Af ((W.setCell ⟨b,0,none⟩ x).setCell ⟨b,1,none⟩ y) b t #[x,y]:=by
 have:=(h.set 0 x).set 1 y;simpa using this
theorem Ma{w:World}{a:Option Addr}{l:List Int}{n:Nat}(k:Nat)(hr:Ac w a (Aa l))(hn:l.length=n)(h0:0<n) :
 ∃b off,a=some ⟨b,off,none⟩∧b<w.heap.size∧w.cell? ⟨b,off+k%n,none⟩=some (.int .i64 (Am l k)):=by
 obtain⟨b,off,e,hb,hc⟩:=zH7 hr (k%n) (by rw[hn];exact Nat.mod_lt _ h0);exact⟨b,off,e,hb,by rw[hc,Am,hn]⟩
theorem zAv(a:Option Addr)(n cap:Nat)(l:List Int)(m d s node value:Int)(w:World)(hn:l.length=n)(hr:Ac w a (Aa l))(hc:n≤4611686018427387904)(h:(Ay l).1≠0) :
 Calls prog 145 #[.slice a n cap,.agg #[.int .i64 m,.int .i64 d,.int .i64 s],.int .i64 node,.int .i64 value] w fun e w'=>
  e=.returned (.tuple #[.string ⟨#[]⟩,.agg #[.int .i64 (Ay l).1,.int .i64 (Ay l).2]])∧Below w.heap.size w w':=by
 have hb0:Below w.heap.size w (w.alloc (.cells #[.int .i64 m,.int .i64 d,.int .i64 s] 96)):=zb.alloc zl _;have hb1:=hb0.alloc hb0.size (.cells #[.int .i64 0,.int .i64 0] 55);have r0:=Af.new (w.alloc (.cells #[.int .i64 m,.int .i64 d,.int .i64 s] 96)) 55 #[.int .i64 0,.int .i64 0];have KP:=zh (Cc a n cap l _ hn (hr.below hb1) hc);have h1:(0:Int)<((Ay l).1:Int):=by omega
 have h2:(((Ay l).1:Int)==0)=false:=by simp;omega
 generalize ((Ay l).1:Int)=c at *;generalize (Ay l).2=p at *;clear hn hr h;rw[show(w.alloc (.cells #[.int .i64 m,.int .i64 d,.int .i64 s] 96)).heap.size=w.heap.size+1 by simp] at r0;go_enter func145,ntmps145;go_wp2_with fail;refine KP.out.mono ?_;rintro e w1⟨rfl,hB1⟩;have hv1:=hb1.trans (hB1.mono hb1.size);have r1:=r0.kept hB1;have f1:=Af.new w1 55 #[.int .i64 c,.int .i64 p];have hv2:=hv1.alloc hv1.size (.cells #[.int .i64 c,.int .i64 p] 55);have r2:=r1.alloc (.cells #[.int .i64 c,.int .i64 p] 55);have c0:=f1.cell 0 rfl;have c1:=f1.cell 1 rfl;have e0:=r2.cell 0 rfl;have e1:=r2.cell 1 rfl;have q0:=r2.frozen 0;have q1:=r2.frozen 1;go_wp2;go_region
 all_goals
  go_wp2;refine bodyPost_ret (v:=.tuple #[.string ⟨#[]⟩,.agg #[.int .i64 c,.int .i64 p]]) (by simp[results,results145,go_sem,e0,e1]) rfl ?_;refine⟨rfl,?_⟩
  repeat(first|(with_reducible exact hv2)|(with_reducible refine Below.drew ?_)|(with_reducible refine Below.setCell ?_ (by simp<;>omega) _))
theorem Yx(a:Option Addr)(n cap:Nat)(l:List Int)(m d s node value:Int)(w:World)(hn:l.length=n)(hr:Ac w a (Aa l))(hc:n≤4611686018427387904)(h:(Ay l).1=0)(hV:Cs m d s=2) :
 Calls prog 145 #[.slice a n cap,.agg #[.int .i64 m,.int .i64 d,.int .i64 s],.int .i64 node,.int .i64 value] w fun e w'=>
  e=.returned (.tuple #[.string ⟨#[]⟩,.agg #[.int .i64 2,.int .i64 (-1)]])∧Below w.heap.size w w':=by
 have hb0:Below w.heap.size w (w.alloc (.cells #[.int .i64 m,.int .i64 d,.int .i64 s] 96)):=zb.alloc zl _;have hb1:=hb0.alloc hb0.size (.cells #[.int .i64 0,.int .i64 0] 55);have b0:=(Af.new w 96 #[.int .i64 m,.int .i64 d,.int .i64 s]).alloc (.cells #[.int .i64 0,.int .i64 0] 55);have r0:=Af.new (w.alloc (.cells #[.int .i64 m,.int .i64 d,.int .i64 s] 96)) 55 #[.int .i64 0,.int .i64 0];have KP:=zh (Cc a n cap l _ hn (hr.below hb1) hc);have KV:=zh (fun W:World=>Dn m d s W);have KB:=zh (fun W:World=>Cu 2 W);rw[(Ai h).1] at KP;rw[hV] at KV;have e2:(((2:Nat)):Int)=2:=rfl;have e0:(((0:Nat),(-1:Int)).1:Int)=0:=rfl;have e1:(((0:Nat),(-1:Int)).2:Int)=-1:=rfl;rw[e0,e1] at KP;rw[e2] at KV;clear hn hr h hV e0 e1 e2;rw[show(w.alloc (.cells #[.int .i64 m,.int .i64 d,.int .i64 s] 96)).heap.size=w.heap.size+1 by simp] at r0;go_enter func145,ntmps145;go_wp2_with fail;refine KP.out.mono ?_;rintro e w1⟨rfl,hB1⟩;have hv1:=hb1.trans (hB1.mono hb1.size);have r1:=r0.kept hB1;have b1:=b0.kept hB1;have f1:=Af.new w1 55 #[.int .i64 0,.int .i64 (-1)];have hF:=hv1.size;have hv2:=hv1.alloc hv1.size (.cells #[.int .i64 0,.int .i64 (-1)] 55);have r2:=r1.alloc (.cells #[.int .i64 0,.int .i64 (-1)] 55);have b2:=b1.alloc (.cells #[.int .i64 0,.int .i64 (-1)] 55);have b20:=b2.cell 0 rfl;have b21:=b2.cell 1 rfl;have b22:=b2.cell 2 rfl;have c0:=f1.cell 0 rfl;go_wp2_with fail;refine(KV.out _).mono ?_;rintro e w3⟨rfl,hB3⟩;have hv3:=hv2.trans (hB3.mono hv2.size);have r3:=r2.kept hB3;have f3:=f1.kept hB3;go_wp2_with fail;refine(KB.out _).mono ?_;rintro e w4⟨rfl,hB4⟩;have hv4:=hv3.trans (hB4.mono hv3.size);have r4:=r3.kept hB4;have f4:=f3.kept hB4;have e0:=r4.cell 0 rfl;have e1:=r4.cell 1 rfl;have q0:=r4.frozen 0;have q1:=r4.frozen 1;have g0:=f4.cell 0 rfl;have g1:=f4.cell 1 rfl;have q2:=f4.frozen 0;have q3:=f4.frozen 1;have ne1:¬(w.heap.size+1=w1.heap.size):=by have:=r1.lt;omega
 have ne2:¬(w1.heap.size=w.heap.size+1):=by have:=r1.lt;omega
 go_wp2;go_region
 all_goals
  go_wp2;refine bodyPost_ret (v:=.tuple #[.string ⟨#[]⟩,.agg #[.int .i64 2,.int .i64 (-1)]]) (by simp[results,results145,go_sem,e0,e1]) rfl ?_;refine⟨rfl,?_⟩
  repeat(first|(with_reducible exact hv4)|(with_reducible refine Below.drew ?_)|(with_reducible refine Below.setCell ?_ (by simp<;>omega) _))
theorem Yw(a:Option Addr)(n cap:Nat)(l:List Int)(m d node value:Int)(s:Nat)(w:World)(hn:l.length=n)(hr:Ac w a (Aa l))(hc:n≤4611686018427387904)(h:(Ay l).1=0)(hV:Cs m d s=0)(hw:Am l s≠node) :
 Calls prog 145 #[.slice a n cap,.agg #[.int .i64 m,.int .i64 d,.int .i64 s],.int .i64 node,.int .i64 value] w fun e w'=>
  e=.returned (.tuple #[.string ⟨#[]⟩,.agg #[.int .i64 9,.int .i64 (-1)]])∧Below w.heap.size w w':=by
 have hb0:Below w.heap.size w (w.alloc (.cells #[.int .i64 m,.int .i64 d,.int .i64 s] 96)):=zb.alloc zl _;have hb1:=hb0.alloc hb0.size (.cells #[.int .i64 0,.int .i64 0] 55);have b0:=(Af.new w 96 #[.int .i64 m,.int .i64 d,.int .i64 s]).alloc (.cells #[.int .i64 0,.int .i64 0] 55);have r0:=Af.new (w.alloc (.cells #[.int .i64 m,.int .i64 d,.int .i64 s] 96)) 55 #[.int .i64 0,.int .i64 0];have KP:=zh (Cc a n cap l _ hn (hr.below hb1) hc);have KV:=zh (fun W:World=>Dn m d s W);have KB:=zh (fun W:World=>Cu 0 W);have KB2:=zh (fun W:World=>Cu 9 W);rw[(Ai h).1] at KP;rw[hV] at KV;have e2:(((0:Nat)):Int)=0:=rfl;have e0:(((0:Nat),(-1:Int)).1:Int)=0:=rfl;have e1:(((0:Nat),(-1:Int)).2:Int)=-1:=rfl;rw[e0,e1] at KP;rw[e2] at KV;have hn0:0<n:=by have:=(Ai h).2.1;omega
 have hnz:((n:Int)==0)=false:=by simp;omega
 have HQ:=zh (fun(W:World) (hb:Below w.heap.size w W)=>Ma s (hr.below hb) hn hn0);have hw1:(Am l s != node)=true:=by simpa using hw
 have hm2:0≤(s:Int)%n:=Int.emod_nonneg _ (by omega);have hm3:(s:Int)%n<n:=Int.emod_lt_of_pos _ (by omega);have hs6:(s:Int)≤1000000:=by have:=(Dz hV).2;simp only[C9,decide_eq_true_eq] at this;omega
 have hn32:n≤32:=by have:=(Ai h).2.2.1;omega
 generalize Am l s=x at *;clear hn hr h hV e0 e1 e2 hw;rw[show(w.alloc (.cells #[.int .i64 m,.int .i64 d,.int .i64 s] 96)).heap.size=w.heap.size+1 by simp] at r0;go_enter func145,ntmps145;go_wp2_with fail;refine KP.out.mono ?_;rintro e w1⟨rfl,hB1⟩;have hv1:=hb1.trans (hB1.mono hb1.size);have r1:=r0.kept hB1;have b1:=b0.kept hB1;have f1:=Af.new w1 55 #[.int .i64 0,.int .i64 (-1)];have hF:=hv1.size;have hv2:=hv1.alloc hv1.size (.cells #[.int .i64 0,.int .i64 (-1)] 55);have r2:=r1.alloc (.cells #[.int .i64 0,.int .i64 (-1)] 55);have b2:=b1.alloc (.cells #[.int .i64 0,.int .i64 (-1)] 55);have b20:=b2.cell 0 rfl;have b21:=b2.cell 1 rfl;have b22:=b2.cell 2 rfl;have c0:=f1.cell 0 rfl;go_wp2_with fail;refine(KV.out _).mono ?_;rintro e w3⟨rfl,hB3⟩;have hv3:=hv2.trans (hB3.mono hv2.size);have r3:=r2.kept hB3;have f3:=f1.kept hB3;have b3:=b2.kept hB3;go_wp2_with fail;refine(KB.out _).mono ?_;rintro e w4⟨rfl,hB4⟩;have hv4:=hv3.trans (hB4.mono hv3.size);have r4:=r3.kept hB4;have f4:=f3.kept hB4;have b4:=b3.kept hB4;have hv5:=(hv4.setCell (p:=⟨w1.heap.size,0,none⟩) hF (.int .i64 0)).setCell (p:=⟨w1.heap.size,1,none⟩) hF (.int .i64 (-1));have f5:=f4.two (.int .i64 0) (.int .i64 (-1));have rne:w.heap.size+1≠w1.heap.size:=by have:=r1.lt;omega
 have bne:w.heap.size≠w1.heap.size:=by have:=b1.lt;omega
 have r5:=(r4.setOther 0 (.int .i64 0) rne).setOther 1 (.int .i64 (-1)) rne;have b5:=(b4.setOther 0 (.int .i64 0) bne).setOther 1 (.int .i64 (-1)) bne;have q2:=f4.frozen 0;have q3:=f4.frozen 1;have g0:=f4.cell 0 rfl;have g1:=f4.cell 1 rfl;obtain⟨b,off,rfl,hbl,u0⟩:=HQ.out _ hv5;have d0:=f5.cell 0 rfl;have y2:=b5.cell 2 rfl;go_wp2_with fail;refine(KB2.out _).mono ?_;rintro e w6⟨rfl,hB6⟩;have hv6:=hv5.trans (hB6.mono hv5.size);have r6:=r5.kept hB6;have f6:=f5.kept hB6;have e0:=r6.cell 0 rfl;have e1:=r6.cell 1 rfl;have q0:=r6.frozen 0;have q1:=r6.frozen 1;have g0:=f6.cell 0 rfl;have g1:=f6.cell 1 rfl;have q2:=f6.frozen 0;have q3:=f6.frozen 1;go_wp2;go_region
 all_goals
  go_wp2;refine bodyPost_ret (v:=.tuple #[.string ⟨#[]⟩,.agg #[.int .i64 9,.int .i64 (-1)]]) (by simp[results,results145,go_sem,e0,e1]) rfl ?_;refine⟨rfl,?_⟩
  repeat(first|(with_reducible exact hv6)|(with_reducible refine Below.drew ?_)|(with_reducible refine Below.setCell ?_ (by simp<;>omega) _))
theorem zAw(a:Option Addr)(n cap:Nat)(l:List Int)(m pb s:Nat)(d node value ec:Int)(tx:List UInt8)(w:World)(hn:l.length=n)(hr:Ac w a (Aa l))(hc:n≤4611686018427387904)(h:(Ay l).1=0)(hV:Cs m d s=0)(hw:Am l s=node)
 (_hm:m<65536) (hpb:At node=pb) (hH:Ep m node=true)
 (KTX:∀W:World,Calls prog 189 #[.agg #[.int .i64 node,.int .i64 (m:Int),.int .i64 d,.int .i64 s,.int .i64 value]] W fun e w'=>e=.returned (.tuple #[.string ⟨tx.toArray⟩,.int .i64 ec])∧Below W.heap.size W w') :
 Calls prog 145 #[.slice a n cap,.agg #[.int .i64 m,.int .i64 d,.int .i64 s],.int .i64 node,.int .i64 value] w fun e w'=>
  e=.returned (.tuple #[.string ⟨tx.toArray⟩,.agg #[.int .i64 ec,.int .i64 (-1)]])∧Below w.heap.size w w':=by
 have hb0:Below w.heap.size w (w.alloc (.cells #[.int .i64 m,.int .i64 d,.int .i64 s] 96)):=zb.alloc zl _;have hb1:=hb0.alloc hb0.size (.cells #[.int .i64 0,.int .i64 0] 55);have b0:=(Af.new w 96 #[.int .i64 m,.int .i64 d,.int .i64 s]).alloc (.cells #[.int .i64 0,.int .i64 0] 55);have r0:=Af.new (w.alloc (.cells #[.int .i64 m,.int .i64 d,.int .i64 s] 96)) 55 #[.int .i64 0,.int .i64 0];have KP:=zh (Cc a n cap l _ hn (hr.below hb1) hc);have KV:=zh (fun W:World=>Dn m d s W);have KB:=zh (fun W:World=>Cu 0 W);have KB2:=zh (fun W:World=>Cu ec W);have KF:=zh KTX;rw[(Ai h).1] at KP;rw[hV] at KV;have e2:(((0:Nat)):Int)=0:=rfl;have e0:(((0:Nat),(-1:Int)).1:Int)=0:=rfl;have e1:(((0:Nat),(-1:Int)).2:Int)=-1:=rfl;rw[e0,e1] at KP;rw[e2] at KV;have hnd:Aq node=true:=by rw[←hw];exact(Ai h).2.2.2 _ (D0 l _ (Ai h).2.1)
 have KH:=zh (fun W:World=>Gs m node W);rw[hH] at KH;have KPW:=zh (fun W:World=>Mo node W hnd);rw[hpb] at KPW;have hn0:0<n:=by have:=(Ai h).2.1;omega
 have hnz:((n:Int)==0)=false:=by simp;omega
 have HQ:=zh (fun(W:World) (hb:Below w.heap.size w W)=>Ma s (hr.below hb) hn hn0);rw[hw] at HQ;have hm2:0≤(s:Int)%n:=Int.emod_nonneg _ (by omega);have hm3:(s:Int)%n<n:=Int.emod_lt_of_pos _ (by omega);have hs6:(s:Int)≤1000000:=by have:=(Dz hV).2;simp only[C9,decide_eq_true_eq] at this;omega
 have hn32:n≤32:=by have:=(Ai h).2.2.1;omega
 have hpl:1≤pb∧pb≤65536:=by rw[←hpb];have:=Dx hnd;have h3:=Nat.two_pow_pos (node.toNat-1);unfold At at *;omega
 clear hn hr h hV e0 e1 e2 hw hH hnd hpb KTX;rw[show(w.alloc (.cells #[.int .i64 m,.int .i64 d,.int .i64 s] 96)).heap.size=w.heap.size+1 by simp] at r0;go_enter func145,ntmps145;go_wp2_with fail;refine KP.out.mono ?_;rintro e w1⟨rfl,hB1⟩;have hv1:=hb1.trans (hB1.mono hb1.size);have r1:=r0.kept hB1;have b1:=b0.kept hB1;have f1:=Af.new w1 55 #[.int .i64 0,.int .i64 (-1)];have hF:=hv1.size;have hv2:=hv1.alloc hv1.size (.cells #[.int .i64 0,.int .i64 (-1)] 55);have r2:=r1.alloc (.cells #[.int .i64 0,.int .i64 (-1)] 55);have b2:=b1.alloc (.cells #[.int .i64 0,.int .i64 (-1)] 55);have b20:=b2.cell 0 rfl;have b21:=b2.cell 1 rfl;have b22:=b2.cell 2 rfl;have c0:=f1.cell 0 rfl;go_wp2_with fail;refine(KV.out _).mono ?_;rintro e w3⟨rfl,hB3⟩;have hv3:=hv2.trans (hB3.mono hv2.size);have r3:=r2.kept hB3;have f3:=f1.kept hB3;have b3:=b2.kept hB3;go_wp2_with fail;refine(KB.out _).mono ?_;rintro e w4⟨rfl,hB4⟩;have hv4:=hv3.trans (hB4.mono hv3.size);have r4:=r3.kept hB4;have f4:=f3.kept hB4;have b4:=b3.kept hB4;have hv5:=(hv4.setCell (show w.heap.size≤(⟨w1.heap.size,0,none⟩:Addr).block from hF) (.int .i64 0)).setCell (show w.heap.size≤(⟨w1.heap.size,1,none⟩:Addr).block from hF) (.int .i64 (-1));have f5:=f4.two (.int .i64 0) (.int .i64 (-1));have rne:w.heap.size+1≠w1.heap.size:=by have:=r1.lt;omega
 have bne:w.heap.size≠w1.heap.size:=by have:=b1.lt;omega
 have r5:=(r4.setOther 0 (.int .i64 0) rne).setOther 1 (.int .i64 (-1)) rne;have b5:=(b4.setOther 0 (.int .i64 0) bne).setOther 1 (.int .i64 (-1)) bne;have q2:=f4.frozen 0;have q3:=f4.frozen 1;have g0:=f4.cell 0 rfl;have g1:=f4.cell 1 rfl;obtain⟨b,off,rfl,hbl,u0⟩:=HQ.out _ hv5;have d0:=f5.cell 0 rfl;have y0:=b5.cell 0 rfl;have y1:=b5.cell 1 rfl;have y2:=b5.cell 2 rfl;go_wp2_with fail;refine(KH.out _).mono ?_;rintro e w6⟨rfl,rfl⟩;generalize hW5:(w4.setCell ⟨w1.heap.size,0,none⟩ (.int .i64 0)).setCell ⟨w1.heap.size,1,none⟩ (.int .i64 (-1))=w5 at *;clear hW5 hbl u0 d0 HQ b20 b21 b22 c0 g0 g1 q2 q3;go_wp2_with fail;refine(KF.out _).mono ?_;rintro e w7⟨rfl,hB7⟩;have hv7:=hv5.trans (hB7.mono hv5.size);have r7:=r5.kept hB7;go_wp2_with fail;refine(KB2.out _).mono ?_;rintro e w8⟨rfl,hB8⟩;have hv8:=hv7.trans (hB8.mono hv7.size);have r8:=r7.kept hB8;have e0:=r8.cell 0 rfl;have e1:=r8.cell 1 rfl;have q0:=r8.frozen 0;have q1:=r8.frozen 1;go_wp2;refine bodyPost_ret (v:=.tuple #[.string ⟨tx.toArray⟩,.agg #[.int .i64 ec,.int .i64 (-1)]]) (by simp[results,results145,go_sem,e0,e1]) rfl ?_;refine⟨rfl,?_⟩
 repeat(first|(with_reducible exact hv8)|(with_reducible refine Below.drew ?_)|(with_reducible refine Below.setCell ?_ (by simp<;>omega) _))
theorem zAx(a:Option Addr)(n cap:Nat)(l:List Int)(m pb s:Nat)(d node value ec:Int)(tx:List UInt8)(w:World)(hn:l.length=n)(hr:Ac w a (Aa l))(hc:n≤4611686018427387904)(h:(Ay l).1=0)(hV:Cs m d s=0)(hw:Am l s=node)
 (hm:m<65536) (hpb:At node=pb) (hH:Ep m node=false)
 (KTX:∀W:World,Calls prog 189 #[.agg #[.int .i64 node,.int .i64 ((m:Int)+(pb:Int)),.int .i64 d,.int .i64 s,.int .i64 value]] W fun e w'=>e=.returned (.tuple #[.string ⟨tx.toArray⟩,.int .i64 ec])∧Below W.heap.size W w') :
 Calls prog 145 #[.slice a n cap,.agg #[.int .i64 m,.int .i64 d,.int .i64 s],.int .i64 node,.int .i64 value] w fun e w'=>
  e=.returned (.tuple #[.string ⟨tx.toArray⟩,.agg #[.int .i64 ec,.int .i64 (-1)]])∧Below w.heap.size w w':=by
 have hb0:Below w.heap.size w (w.alloc (.cells #[.int .i64 m,.int .i64 d,.int .i64 s] 96)):=zb.alloc zl _;have hb1:=hb0.alloc hb0.size (.cells #[.int .i64 0,.int .i64 0] 55);have b0:=(Af.new w 96 #[.int .i64 m,.int .i64 d,.int .i64 s]).alloc (.cells #[.int .i64 0,.int .i64 0] 55);have r0:=Af.new (w.alloc (.cells #[.int .i64 m,.int .i64 d,.int .i64 s] 96)) 55 #[.int .i64 0,.int .i64 0];have KP:=zh (Cc a n cap l _ hn (hr.below hb1) hc);have KV:=zh (fun W:World=>Dn m d s W);have KB:=zh (fun W:World=>Cu 0 W);have KB2:=zh (fun W:World=>Cu ec W);have KF:=zh KTX;rw[(Ai h).1] at KP;rw[hV] at KV;have e2:(((0:Nat)):Int)=0:=rfl;have e0:(((0:Nat),(-1:Int)).1:Int)=0:=rfl;have e1:(((0:Nat),(-1:Int)).2:Int)=-1:=rfl;rw[e0,e1] at KP;rw[e2] at KV;have hnd:Aq node=true:=by rw[←hw];exact(Ai h).2.2.2 _ (D0 l _ (Ai h).2.1)
 have KH:=zh (fun W:World=>Gs m node W);rw[hH] at KH;have KPW:=zh (fun W:World=>Mo node W hnd);rw[hpb] at KPW;have hn0:0<n:=by have:=(Ai h).2.1;omega
 have hnz:((n:Int)==0)=false:=by simp;omega
 have HQ:=zh (fun(W:World) (hb:Below w.heap.size w W)=>Ma s (hr.below hb) hn hn0);rw[hw] at HQ;have hm2:0≤(s:Int)%n:=Int.emod_nonneg _ (by omega);have hm3:(s:Int)%n<n:=Int.emod_lt_of_pos _ (by omega);have hs6:(s:Int)≤1000000:=by have:=(Dz hV).2;simp only[C9,decide_eq_true_eq] at this;omega
 have hn32:n≤32:=by have:=(Ai h).2.2.1;omega
 have hpl:1≤pb∧pb≤65536:=by rw[←hpb];have:=Dx hnd;have h3:=Nat.two_pow_pos (node.toNat-1);unfold At at *;omega
 clear hn hr h hV e0 e1 e2 hw hH hnd hpb KTX;rw[show(w.alloc (.cells #[.int .i64 m,.int .i64 d,.int .i64 s] 96)).heap.size=w.heap.size+1 by simp] at r0;go_enter func145,ntmps145;go_wp2_with fail;refine KP.out.mono ?_;rintro e w1⟨rfl,hB1⟩;have hv1:=hb1.trans (hB1.mono hb1.size);have r1:=r0.kept hB1;have b1:=b0.kept hB1;have f1:=Af.new w1 55 #[.int .i64 0,.int .i64 (-1)];have hF:=hv1.size;have hv2:=hv1.alloc hv1.size (.cells #[.int .i64 0,.int .i64 (-1)] 55);have r2:=r1.alloc (.cells #[.int .i64 0,.int .i64 (-1)] 55);have b2:=b1.alloc (.cells #[.int .i64 0,.int .i64 (-1)] 55);have b20:=b2.cell 0 rfl;have b21:=b2.cell 1 rfl;have b22:=b2.cell 2 rfl;have c0:=f1.cell 0 rfl;go_wp2_with fail;refine(KV.out _).mono ?_;rintro e w3⟨rfl,hB3⟩;have hv3:=hv2.trans (hB3.mono hv2.size);have r3:=r2.kept hB3;have f3:=f1.kept hB3;have b3:=b2.kept hB3;go_wp2_with fail;refine(KB.out _).mono ?_;rintro e w4⟨rfl,hB4⟩;have hv4:=hv3.trans (hB4.mono hv3.size);have r4:=r3.kept hB4;have f4:=f3.kept hB4;have b4:=b3.kept hB4;have hv5:=(hv4.setCell (show w.heap.size≤(⟨w1.heap.size,0,none⟩:Addr).block from hF) (.int .i64 0)).setCell (show w.heap.size≤(⟨w1.heap.size,1,none⟩:Addr).block from hF) (.int .i64 (-1));have f5:=f4.two (.int .i64 0) (.int .i64 (-1));have rne:w.heap.size+1≠w1.heap.size:=by have:=r1.lt;omega
 have bne:w.heap.size≠w1.heap.size:=by have:=b1.lt;omega
 have r5:=(r4.setOther 0 (.int .i64 0) rne).setOther 1 (.int .i64 (-1)) rne;have b5:=(b4.setOther 0 (.int .i64 0) bne).setOther 1 (.int .i64 (-1)) bne;have q2:=f4.frozen 0;have q3:=f4.frozen 1;have g0:=f4.cell 0 rfl;have g1:=f4.cell 1 rfl;obtain⟨b,off,rfl,hbl,u0⟩:=HQ.out _ hv5;have d0:=f5.cell 0 rfl;have y0:=b5.cell 0 rfl;have y1:=b5.cell 1 rfl;have y2:=b5.cell 2 rfl;go_wp2_with fail;refine(KH.out _).mono ?_;rintro e w6⟨rfl,rfl⟩;generalize hW5:(w4.setCell ⟨w1.heap.size,0,none⟩ (.int .i64 0)).setCell ⟨w1.heap.size,1,none⟩ (.int .i64 (-1))=w5 at *;clear hW5 hbl u0 d0 HQ b20 b21 b22 c0 g0 g1 q2 q3;have qb:=b5.frozen 0;have hwr:IntKind.i64.wrap ((m:Int)+pb)=(m:Int)+pb:=IntWalk.i64_in _ (by omega);have rn0:w.heap.size+1≠w.heap.size:=by omega
 have hv6:=(hv5.setCell (show w.heap.size≤(⟨w.heap.size,0,none⟩:Addr).block from Nat.le_refl _) (.int .i64 ((m:Int)+pb))).drew;have b6:Af (w5.setCell ⟨w.heap.size,0,none⟩ (.int .i64 ((m:Int)+pb))).drew w.heap.size 96 #[.int .i64 ((m:Int)+pb),.int .i64 d,.int .i64 s]:=b5.set 0 (.int .i64 ((m:Int)+pb));have r6:Af (w5.setCell ⟨w.heap.size,0,none⟩ (.int .i64 ((m:Int)+pb))).drew (w.heap.size+1) 55 #[.int .i64 0,.int .i64 0]:=r5.setOther 0 (.int .i64 ((m:Int)+pb)) rn0;go_wp2;go_region_with (go_at_call 121;(with_reducible refine(KPW.out _).mono ?_);rintro e w6⟨rfl,rfl⟩)
 all_goals
  try simp only[hwr]
  generalize (w5.setCell ⟨w.heap.size,0,none⟩ (.int .i64 ((m:Int)+pb))).drew=w6 at *;have z0:=b6.cell 0 rfl;have z1:=b6.cell 1 rfl;have z2:=b6.cell 2 rfl;clear y0 y1 y2;go_wp2_with fail;refine(KF.out _).mono ?_;rintro e w7⟨rfl,hB7⟩;have hv7:=hv6.trans (hB7.mono hv6.size);have r7:=r6.kept hB7;go_wp2_with fail;refine(KB2.out _).mono ?_;rintro e w8⟨rfl,hB8⟩;have hv8:=hv7.trans (hB8.mono hv7.size);have r8:=r7.kept hB8;have e0:=r8.cell 0 rfl;have e1:=r8.cell 1 rfl;have q0:=r8.frozen 0;have q1:=r8.frozen 1;go_wp2;refine bodyPost_ret (v:=.tuple #[.string ⟨tx.toArray⟩,.agg #[.int .i64 ec,.int .i64 (-1)]]) (by simp[results,results145,go_sem,e0,e1]) rfl ?_;refine⟨rfl,?_⟩
  repeat(first|(with_reducible exact hv8)|(with_reducible refine Below.drew ?_)|(with_reducible refine Below.setCell ?_ (by simp<;>omega) _))
theorem zAu(a:Option Addr)(n cap:Nat)(l:List Int)(m d s node value:Int)(w:World)(hn:l.length=n)(hr:Ac w a (Aa l))(hc:n≤4611686018427387904) :
 Calls prog 145 #[.slice a n cap,.agg #[.int .i64 m,.int .i64 d,.int .i64 s],.int .i64 node,.int .i64 value] w fun e w'=>
  e=.returned (.tuple #[.string ⟨(Ei l m d s node value).toArray⟩,.agg #[.int .i64 (Fd l m d s node value).1,.int .i64 (Fd l m d s node value).2]])∧Below w.heap.size w w':=by
 by_cases h:(Ay l).1=0
 ·by_cases hV:Cs m d s=0
  ·have hM:(Cg l m d s).1=0:=by rw[Cg,if_pos h,hV]
   obtain⟨hcm,hvd⟩:=Dz hV;obtain⟨k,rfl,hk⟩:=Ln hcm;obtain⟨q,rfl⟩:∃q:Nat,s=q:=⟨s.toNat,by simp only[C9,decide_eq_true_eq] at hvd;omega⟩
   by_cases hw:Am l q=node
   ·have hF:Fd l k d q node value=(A8 (Ft l k d q node value),-1):=by rw[Fd,if_pos hM,if_pos (by rw[Int.toNat_natCast];exact hw)]
    have hT:Ei l k d q node value=Ly (Ft l k d q node value):=by rw[Ei,if_pos ⟨hM,by rw[Int.toNat_natCast];exact hw⟩]
    have hnd:Aq node=true:=by rw[←hw];exact(Ai h).2.2.2 _ (D0 l _ (Ai h).2.1)
    rw[hF,hT];have hS:Ft l k d q node value=⟨node,((k|||At node:Nat):Int),d,q,value⟩:=rfl
    cases hH:Ep k node
    ·have e:=(Y6 hk hnd hH).1
     have e':((k|||At node:Nat):Int)=(k:Int)+(At node:Nat):=by rw[e];push_cast;rfl
     rw[hS,e'];exact zAx a n cap l k _ q d node value _ _ w hn hr hc h hV hw hk rfl hH (fun W=>Mx node _ d q value W)
    ·have e:=(Y5 hk hnd hH).1
     rw[hS,e];exact zAw a n cap l k _ q d node value _ _ w hn hr hc h hV hw hk rfl hH (fun W=>Mx node _ d q value W)
   ·have hF:Fd l k d q node value=(9,-1):=by rw[Fd,if_pos hM,if_neg (by rw[Int.toNat_natCast];exact hw)]
    have hT:Ei l k d q node value=[]:=by rw[Ei,if_neg (fun e=>hw (by have:=e.2;rwa [Int.toNat_natCast] at this))]
    rw[hF,hT];exact Yw a n cap l k d node value q w hn hr hc h hV hw
  ·have hM:Cg l m d s=(2,-1):=by rw[Cg,if_pos h,Hz hV]
   have hF:Fd l m d s node value=(2,-1):=by rw[Fd,hM];rfl
   have hT:Ei l m d s node value=[]:=by rw[Ei,hM];rfl
   rw[hF,hT];exact Yx a n cap l m d s node value w hn hr hc h (Hz hV)
 ·have hM:Cg l m d s=Ay l:=by rw[Cg,if_neg h]
  have hF:Fd l m d s node value=Ay l:=by rw[Fd,hM,if_neg h]
  have hT:Ei l m d s node value=[]:=by rw[Ei,hM,if_neg (fun e=>h e.1)]
  rw[hF,hT];exact zAv a n cap l m d s node value w hn hr hc h
theorem zA1(a:Option Addr)(n cap:Nat)(l:List Int)(m d s:Int)(t:List UInt8)(w:World)(hn:l.length=n)(hr:Ac w a (Aa l))(hc:n≤4611686018427387904)(h:(Ay l).1≠0) :
 Calls prog 146 #[.slice a n cap,.agg #[.int .i64 m,.int .i64 d,.int .i64 s],.string ⟨t.toArray⟩] w fun e w'=>
  e=.returned (.tuple #[.agg #[.int .i64 0,.int .i64 0,.int .i64 0],.agg #[.int .i64 0,.int .i64 0,.bool false,.int .i64 0],.agg #[.int .i64 (Ay l).1,.int .i64 (Ay l).2]])∧Below w.heap.size w w':=by
 have KP:=zh (fun(W:World) (h:Below w.heap.size w W)=>Cc a n cap l W hn (hr.below h) hc);have h1:(0:Int)<((Ay l).1:Int):=by omega
 have h2:(((Ay l).1:Int)==0)=false:=by simp;omega
 generalize ((Ay l).1:Int)=c at *;generalize (Ay l).2=p at *;have hb0:Below w.heap.size w ((((w.alloc (.cells #[.int .i64 m,.int .i64 d,.int .i64 s] 96)).alloc (.cells #[.int .i64 0,.int .i64 0,.int .i64 0] 96)).alloc (.cells #[.int .i64 0,.int .i64 0,.bool false,.int .i64 0] 146)).alloc (.cells #[.int .i64 0,.int .i64 0] 55)):=(((zb.alloc zl _).alloc (by simp) _).alloc (by simp<;>omega) _).alloc (by simp<;>omega) _;have b0:Af ((((w.alloc (.cells #[.int .i64 m,.int .i64 d,.int .i64 s] 96)).alloc (.cells #[.int .i64 0,.int .i64 0,.int .i64 0] 96)).alloc (.cells #[.int .i64 0,.int .i64 0,.bool false,.int .i64 0] 146)).alloc (.cells #[.int .i64 0,.int .i64 0] 55)) w.heap.size 96 #[.int .i64 m,.int .i64 d,.int .i64 s]:=(((Af.new w _ _).alloc _).alloc _).alloc _
 have b1:Af ((((w.alloc (.cells #[.int .i64 m,.int .i64 d,.int .i64 s] 96)).alloc (.cells #[.int .i64 0,.int .i64 0,.int .i64 0] 96)).alloc (.cells #[.int .i64 0,.int .i64 0,.bool false,.int .i64 0] 146)).alloc (.cells #[.int .i64 0,.int .i64 0] 55)) (w.heap.size+1) 96 #[.int .i64 0,.int .i64 0,.int .i64 0]:=by
  have:=((Af.new (w.alloc (.cells #[.int .i64 m,.int .i64 d,.int .i64 s] 96)) 96 #[.int .i64 0,.int .i64 0,.int .i64 0]).alloc (.cells #[.int .i64 0,.int .i64 0,.bool false,.int .i64 0] 146)).alloc (.cells #[.int .i64 0,.int .i64 0] 55)
  rwa [World.size_alloc] at this
 have b2:Af ((((w.alloc (.cells #[.int .i64 m,.int .i64 d,.int .i64 s] 96)).alloc (.cells #[.int .i64 0,.int .i64 0,.int .i64 0] 96)).alloc (.cells #[.int .i64 0,.int .i64 0,.bool false,.int .i64 0] 146)).alloc (.cells #[.int .i64 0,.int .i64 0] 55)) (w.heap.size+1+1) 146 #[.int .i64 0,.int .i64 0,.bool false,.int .i64 0]:=by
  have:=(Af.new ((w.alloc (.cells #[.int .i64 m,.int .i64 d,.int .i64 s] 96)).alloc (.cells #[.int .i64 0,.int .i64 0,.int .i64 0] 96)) 146 #[.int .i64 0,.int .i64 0,.bool false,.int .i64 0]).alloc (.cells #[.int .i64 0,.int .i64 0] 55)
  rwa [World.size_alloc,World.size_alloc] at this
 have b3:Af ((((w.alloc (.cells #[.int .i64 m,.int .i64 d,.int .i64 s] 96)).alloc (.cells #[.int .i64 0,.int .i64 0,.int .i64 0] 96)).alloc (.cells #[.int .i64 0,.int .i64 0,.bool false,.int .i64 0] 146)).alloc (.cells #[.int .i64 0,.int .i64 0] 55)) (w.heap.size+1+1+1) 55 #[.int .i64 0,.int .i64 0]:=by
  have:=Af.new (((w.alloc (.cells #[.int .i64 m,.int .i64 d,.int .i64 s] 96)).alloc (.cells #[.int .i64 0,.int .i64 0,.int .i64 0] 96)).alloc (.cells #[.int .i64 0,.int .i64 0,.bool false,.int .i64 0] 146)) 55 #[.int .i64 0,.int .i64 0]
  rwa [World.size_alloc,World.size_alloc,World.size_alloc] at this
 clear hn hr h;go_enter func146,ntmps146;go_wp2_with fail;generalize hW0:((((w.alloc (.cells #[.int .i64 m,.int .i64 d,.int .i64 s] 96)).alloc (.cells #[.int .i64 0,.int .i64 0,.int .i64 0] 96)).alloc (.cells #[.int .i64 0,.int .i64 0,.bool false,.int .i64 0] 146)).alloc (.cells #[.int .i64 0,.int .i64 0] 55))=W0 at *;clear hW0;refine(KP.out _ hb0).mono ?_;rintro e w1⟨rfl,hB⟩;have hv1:=hb0.trans (hB.mono hb0.size);have b0:=b0.kept hB;have b1:=b1.kept hB;have b2:=b2.kept hB;have b3:=b3.kept hB;have bf:=Af.new w1 55 #[.int .i64 c,.int .i64 p];have hv2:=hv1.alloc hv1.size (.cells #[.int .i64 c,.int .i64 p] 55);have hF:=hv1.size;have hE:=b3.lt;have b0:=b0.alloc (.cells #[.int .i64 c,.int .i64 p] 55);have b1:=b1.alloc (.cells #[.int .i64 c,.int .i64 p] 55);have b2:=b2.alloc (.cells #[.int .i64 c,.int .i64 p] 55);have b3:=b3.alloc (.cells #[.int .i64 c,.int .i64 p] 55);clear hB hb0;have hvZ:=hv2;have e0:=b1.cell 0 rfl;have e1:=b1.cell 1 rfl;have e2:=b1.cell 2 rfl;have g0:=b2.cell 0 rfl;have g1:=b2.cell 1 rfl;have g2:=b2.cell 2 rfl;have g3:=b2.cell 3 rfl;have i0:=b3.cell 0 rfl;have i1:=b3.cell 1 rfl;have j0:=bf.cell 0 rfl;have j1:=bf.cell 1 rfl;have q0:=b1.frozen 0;have q1:=b1.frozen 1;have q2:=b1.frozen 2;have r0:=b2.frozen 0;have r1:=b2.frozen 1;have r2:=b2.frozen 2;have r3:=b2.frozen 3;have u0:=b3.frozen 0;have u1:=b3.frozen 1;go_wp2;generalize hW2:w1.alloc (.cells #[.int .i64 c,.int .i64 p] 55)=w2 at *;generalize w1.heap.size=F at *;clear hW2;have nf0:¬(w.heap.size+1=F):=by omega
 have ng0:¬(F=w.heap.size+1):=by omega
 have nf1:¬(w.heap.size+1+1=F):=by omega
 have ng1:¬(F=w.heap.size+1+1):=by omega
 have nf2:¬(w.heap.size+1+1+1=F):=by omega
 have ng2:¬(F=w.heap.size+1+1+1):=by omega
 go_region
 all_goals
  go_wp2;refine bodyPost_ret (v:=.tuple #[.agg #[.int .i64 0,.int .i64 0,.int .i64 0],.agg #[.int .i64 0,.int .i64 0,.bool false,.int .i64 0],.agg #[.int .i64 c,.int .i64 p]]) (by simp[results,results146,go_sem,e0,e1,e2,g0,g1,g2,g3,i0,i1]) rfl ?_;refine⟨rfl,?_⟩
  repeat(first|(with_reducible exact hvZ)|(with_reducible refine Below.drew ?_)|(with_reducible refine Below.setCell ?_ (by first|omega|(simp<;>omega)) _))
theorem Y3(a:Option Addr)(n cap:Nat)(l:List Int)(m d s:Int)(t:List UInt8)(w:World)(hn:l.length=n)(hr:Ac w a (Aa l))(hc:n≤4611686018427387904)(h:(Ay l).1=0)(hV:Cs m d s=2) :
 Calls prog 146 #[.slice a n cap,.agg #[.int .i64 m,.int .i64 d,.int .i64 s],.string ⟨t.toArray⟩] w fun e w'=>
  e=.returned (.tuple #[.agg #[.int .i64 0,.int .i64 0,.int .i64 0],.agg #[.int .i64 0,.int .i64 0,.bool false,.int .i64 0],.agg #[.int .i64 2,.int .i64 (-1)]])∧Below w.heap.size w w':=by
 have KP:=zh (fun(W:World) (h:Below w.heap.size w W)=>Cc a n cap l W hn (hr.below h) hc);have e0:(((0:Nat),(-1:Int)).1:Int)=0:=rfl;have e1:(((0:Nat),(-1:Int)).2:Int)=-1:=rfl;rw[(Ai h).1,e0,e1] at KP;clear e0 e1;have KV:=zh (fun W:World=>Dn m d s W);have KB:=zh (fun W:World=>Cu 2 W);have e2:((2:Nat):Int)=2:=rfl;rw[hV,e2] at KV;have hb0:Below w.heap.size w ((((w.alloc (.cells #[.int .i64 m,.int .i64 d,.int .i64 s] 96)).alloc (.cells #[.int .i64 0,.int .i64 0,.int .i64 0] 96)).alloc (.cells #[.int .i64 0,.int .i64 0,.bool false,.int .i64 0] 146)).alloc (.cells #[.int .i64 0,.int .i64 0] 55)):=(((zb.alloc zl _).alloc (by simp) _).alloc (by simp<;>omega) _).alloc (by simp<;>omega) _;have b0:Af ((((w.alloc (.cells #[.int .i64 m,.int .i64 d,.int .i64 s] 96)).alloc (.cells #[.int .i64 0,.int .i64 0,.int .i64 0] 96)).alloc (.cells #[.int .i64 0,.int .i64 0,.bool false,.int .i64 0] 146)).alloc (.cells #[.int .i64 0,.int .i64 0] 55)) w.heap.size 96 #[.int .i64 m,.int .i64 d,.int .i64 s]:=(((Af.new w _ _).alloc _).alloc _).alloc _
 have b1:Af ((((w.alloc (.cells #[.int .i64 m,.int .i64 d,.int .i64 s] 96)).alloc (.cells #[.int .i64 0,.int .i64 0,.int .i64 0] 96)).alloc (.cells #[.int .i64 0,.int .i64 0,.bool false,.int .i64 0] 146)).alloc (.cells #[.int .i64 0,.int .i64 0] 55)) (w.heap.size+1) 96 #[.int .i64 0,.int .i64 0,.int .i64 0]:=by
  have:=((Af.new (w.alloc (.cells #[.int .i64 m,.int .i64 d,.int .i64 s] 96)) 96 #[.int .i64 0,.int .i64 0,.int .i64 0]).alloc (.cells #[.int .i64 0,.int .i64 0,.bool false,.int .i64 0] 146)).alloc (.cells #[.int .i64 0,.int .i64 0] 55)
  rwa [World.size_alloc] at this
 have b2:Af ((((w.alloc (.cells #[.int .i64 m,.int .i64 d,.int .i64 s] 96)).alloc (.cells #[.int .i64 0,.int .i64 0,.int .i64 0] 96)).alloc (.cells #[.int .i64 0,.int .i64 0,.bool false,.int .i64 0] 146)).alloc (.cells #[.int .i64 0,.int .i64 0] 55)) (w.heap.size+1+1) 146 #[.int .i64 0,.int .i64 0,.bool false,.int .i64 0]:=by
  have:=(Af.new ((w.alloc (.cells #[.int .i64 m,.int .i64 d,.int .i64 s] 96)).alloc (.cells #[.int .i64 0,.int .i64 0,.int .i64 0] 96)) 146 #[.int .i64 0,.int .i64 0,.bool false,.int .i64 0]).alloc (.cells #[.int .i64 0,.int .i64 0] 55)
  rwa [World.size_alloc,World.size_alloc] at this
 have b3:Af ((((w.alloc (.cells #[.int .i64 m,.int .i64 d,.int .i64 s] 96)).alloc (.cells #[.int .i64 0,.int .i64 0,.int .i64 0] 96)).alloc (.cells #[.int .i64 0,.int .i64 0,.bool false,.int .i64 0] 146)).alloc (.cells #[.int .i64 0,.int .i64 0] 55)) (w.heap.size+1+1+1) 55 #[.int .i64 0,.int .i64 0]:=by
  have:=Af.new (((w.alloc (.cells #[.int .i64 m,.int .i64 d,.int .i64 s] 96)).alloc (.cells #[.int .i64 0,.int .i64 0,.int .i64 0] 96)).alloc (.cells #[.int .i64 0,.int .i64 0,.bool false,.int .i64 0] 146)) 55 #[.int .i64 0,.int .i64 0]
  rwa [World.size_alloc,World.size_alloc,World.size_alloc] at this
 clear hn hr h hV e2;go_enter func146,ntmps146;go_wp2_with fail;generalize hW0:((((w.alloc (.cells #[.int .i64 m,.int .i64 d,.int .i64 s] 96)).alloc (.cells #[.int .i64 0,.int .i64 0,.int .i64 0] 96)).alloc (.cells #[.int .i64 0,.int .i64 0,.bool false,.int .i64 0] 146)).alloc (.cells #[.int .i64 0,.int .i64 0] 55))=W0 at *;clear hW0;refine(KP.out _ hb0).mono ?_;rintro e w1⟨rfl,hB⟩;have hv1:=hb0.trans (hB.mono hb0.size);have b0:=b0.kept hB;have b1:=b1.kept hB;have b2:=b2.kept hB;have b3:=b3.kept hB;have bf:=Af.new w1 55 #[.int .i64 0,.int .i64 (-1)];have hv2:=hv1.alloc hv1.size (.cells #[.int .i64 0,.int .i64 (-1)] 55);have hF:=hv1.size;have hE:=b3.lt;have b0:=b0.alloc (.cells #[.int .i64 0,.int .i64 (-1)] 55);have b1:=b1.alloc (.cells #[.int .i64 0,.int .i64 (-1)] 55);have b2:=b2.alloc (.cells #[.int .i64 0,.int .i64 (-1)] 55);have b3:=b3.alloc (.cells #[.int .i64 0,.int .i64 (-1)] 55);clear hB hb0;have c0:=b0.cell 0 rfl;have c1:=b0.cell 1 rfl;have c2:=b0.cell 2 rfl;have j0:=bf.cell 0 rfl;have j1:=bf.cell 1 rfl;have q0:=bf.frozen 0;have q1:=bf.frozen 1;go_wp2_with fail;generalize hW2:w1.alloc (.cells #[.int .i64 0,.int .i64 (-1)] 55)=w2 at *;generalize w1.heap.size=F at *;clear hW2;have nf0:¬(w.heap.size+1=F):=by omega
 have ng0:¬(F=w.heap.size+1):=by omega
 have nf1:¬(w.heap.size+1+1=F):=by omega
 have ng1:¬(F=w.heap.size+1+1):=by omega
 have nf2:¬(w.heap.size+1+1+1=F):=by omega
 have ng2:¬(F=w.heap.size+1+1+1):=by omega
 refine(KV.out _).mono ?_;rintro e w3⟨rfl,hB⟩;have hv3:=hv2.trans (hB.mono hv2.size);have b0:=b0.kept hB;have b1:=b1.kept hB;have b2:=b2.kept hB;have b3:=b3.kept hB;have bf:=bf.kept hB;clear hB hv2;go_wp2_with fail;refine(KB.out _).mono ?_;rintro e w4⟨rfl,hB⟩;have hv4:=hv3.trans (hB.mono hv3.size);have b0:=b0.kept hB;have b1:=b1.kept hB;have b2:=b2.kept hB;have b3:=b3.kept hB;have bf:=bf.kept hB;clear hB hv3 c0 c1 c2 j0 j1 q0 q1;have c0:=b0.cell 0 rfl;have c1:=b0.cell 1 rfl;have c2:=b0.cell 2 rfl;have j0:=bf.cell 0 rfl;have j1:=bf.cell 1 rfl;have q0:=bf.frozen 0;have q1:=bf.frozen 1;have hv5:=(hv4.setCell (show w.heap.size≤(⟨F,0,none⟩:Addr).block from hF) (.int .i64 2)).setCell (show w.heap.size≤(⟨F,1,none⟩:Addr).block from hF) (.int .i64 (-1));have bF:=bf.two (.int .i64 2) (.int .i64 (-1));have B0:=(b0.setOther 0 (.int .i64 2) (show w.heap.size≠F by omega)).setOther 1 (.int .i64 (-1)) (show w.heap.size≠F by omega);have B1:=(b1.setOther 0 (.int .i64 2) (show w.heap.size+1≠F by omega)).setOther 1 (.int .i64 (-1)) (show w.heap.size+1≠F by omega);have B2:=(b2.setOther 0 (.int .i64 2) (show w.heap.size+1+1≠F by omega)).setOther 1 (.int .i64 (-1)) (show w.heap.size+1+1≠F by omega);have B3:=(b3.setOther 0 (.int .i64 2) (show w.heap.size+1+1+1≠F by omega)).setOther 1 (.int .i64 (-1)) (show w.heap.size+1+1+1≠F by omega);have hb2:((2:Int)==0)=false:=rfl;have d0:=bF.cell 0 rfl;have d1:=bF.cell 1 rfl;have b1:=B1;have b2:=B2;have b3:=B3;have hvZ:=hv5;have bf':=bf;have bf:=bF;have e0:=b1.cell 0 rfl;have e1:=b1.cell 1 rfl;have e2:=b1.cell 2 rfl;have g0:=b2.cell 0 rfl;have g1:=b2.cell 1 rfl;have g2:=b2.cell 2 rfl;have g3:=b2.cell 3 rfl;have i0:=b3.cell 0 rfl;have i1:=b3.cell 1 rfl;have j0:=bf.cell 0 rfl;have j1:=bf.cell 1 rfl;have q0:=b1.frozen 0;have q1:=b1.frozen 1;have q2:=b1.frozen 2;have r0:=b2.frozen 0;have r1:=b2.frozen 1;have r2:=b2.frozen 2;have r3:=b2.frozen 3;have u0:=b3.frozen 0;have u1:=b3.frozen 1;go_wp2;go_region
 all_goals
  go_wp2;refine bodyPost_ret (v:=.tuple #[.agg #[.int .i64 0,.int .i64 0,.int .i64 0],.agg #[.int .i64 0,.int .i64 0,.bool false,.int .i64 0],.agg #[.int .i64 2,.int .i64 (-1)]]) (by simp[results,results146,go_sem,e0,e1,e2,g0,g1,g2,g3,i0,i1]) rfl ?_;refine⟨rfl,?_⟩
  repeat(first|(with_reducible exact hvZ)|(with_reducible refine Below.drew ?_)|(with_reducible refine Below.setCell ?_ (by first|omega|(simp<;>omega)) _))
theorem Y1(a:Option Addr)(n cap:Nat)(l:List Int)(m d s:Int)(t:List UInt8)(w:World)(hn:l.length=n)(hr:Ac w a (Aa l))(hc:n≤4611686018427387904)(h:(Ay l).1=0)(hV:Cs m d s=0)(hs:s=1000000) :
 Calls prog 146 #[.slice a n cap,.agg #[.int .i64 m,.int .i64 d,.int .i64 s],.string ⟨t.toArray⟩] w fun e w'=>
  e=.returned (.tuple #[.agg #[.int .i64 0,.int .i64 0,.int .i64 0],.agg #[.int .i64 0,.int .i64 0,.bool false,.int .i64 0],.agg #[.int .i64 7,.int .i64 (-1)]])∧Below w.heap.size w w':=by
 have KP:=zh (fun(W:World) (h:Below w.heap.size w W)=>Cc a n cap l W hn (hr.below h) hc);have e0:(((0:Nat),(-1:Int)).1:Int)=0:=rfl;have e1:(((0:Nat),(-1:Int)).2:Int)=-1:=rfl;rw[(Ai h).1,e0,e1] at KP;clear e0 e1;have KV:=zh (fun W:World=>Dn m d s W);have KB:=zh (fun W:World=>Cu 0 W);have KC:=zh (fun W:World=>Cu 7 W);have e2:((0:Nat):Int)=0:=rfl;rw[hV,e2] at KV;have hs7:(s==1000000)=true:=by simpa using hs
 have hb0:Below w.heap.size w ((((w.alloc (.cells #[.int .i64 m,.int .i64 d,.int .i64 s] 96)).alloc (.cells #[.int .i64 0,.int .i64 0,.int .i64 0] 96)).alloc (.cells #[.int .i64 0,.int .i64 0,.bool false,.int .i64 0] 146)).alloc (.cells #[.int .i64 0,.int .i64 0] 55)):=(((zb.alloc zl _).alloc (by simp) _).alloc (by simp<;>omega) _).alloc (by simp<;>omega) _;have b0:Af ((((w.alloc (.cells #[.int .i64 m,.int .i64 d,.int .i64 s] 96)).alloc (.cells #[.int .i64 0,.int .i64 0,.int .i64 0] 96)).alloc (.cells #[.int .i64 0,.int .i64 0,.bool false,.int .i64 0] 146)).alloc (.cells #[.int .i64 0,.int .i64 0] 55)) w.heap.size 96 #[.int .i64 m,.int .i64 d,.int .i64 s]:=(((Af.new w _ _).alloc _).alloc _).alloc _
 have b1:Af ((((w.alloc (.cells #[.int .i64 m,.int .i64 d,.int .i64 s] 96)).alloc (.cells #[.int .i64 0,.int .i64 0,.int .i64 0] 96)).alloc (.cells #[.int .i64 0,.int .i64 0,.bool false,.int .i64 0] 146)).alloc (.cells #[.int .i64 0,.int .i64 0] 55)) (w.heap.size+1) 96 #[.int .i64 0,.int .i64 0,.int .i64 0]:=by
  have:=((Af.new (w.alloc (.cells #[.int .i64 m,.int .i64 d,.int .i64 s] 96)) 96 #[.int .i64 0,.int .i64 0,.int .i64 0]).alloc (.cells #[.int .i64 0,.int .i64 0,.bool false,.int .i64 0] 146)).alloc (.cells #[.int .i64 0,.int .i64 0] 55)
  rwa [World.size_alloc] at this
 have b2:Af ((((w.alloc (.cells #[.int .i64 m,.int .i64 d,.int .i64 s] 96)).alloc (.cells #[.int .i64 0,.int .i64 0,.int .i64 0] 96)).alloc (.cells #[.int .i64 0,.int .i64 0,.bool false,.int .i64 0] 146)).alloc (.cells #[.int .i64 0,.int .i64 0] 55)) (w.heap.size+1+1) 146 #[.int .i64 0,.int .i64 0,.bool false,.int .i64 0]:=by
  have:=(Af.new ((w.alloc (.cells #[.int .i64 m,.int .i64 d,.int .i64 s] 96)).alloc (.cells #[.int .i64 0,.int .i64 0,.int .i64 0] 96)) 146 #[.int .i64 0,.int .i64 0,.bool false,.int .i64 0]).alloc (.cells #[.int .i64 0,.int .i64 0] 55)
  rwa [World.size_alloc,World.size_alloc] at this
 have b3:Af ((((w.alloc (.cells #[.int .i64 m,.int .i64 d,.int .i64 s] 96)).alloc (.cells #[.int .i64 0,.int .i64 0,.int .i64 0] 96)).alloc (.cells #[.int .i64 0,.int .i64 0,.bool false,.int .i64 0] 146)).alloc (.cells #[.int .i64 0,.int .i64 0] 55)) (w.heap.size+1+1+1) 55 #[.int .i64 0,.int .i64 0]:=by
  have:=Af.new (((w.alloc (.cells #[.int .i64 m,.int .i64 d,.int .i64 s] 96)).alloc (.cells #[.int .i64 0,.int .i64 0,.int .i64 0] 96)).alloc (.cells #[.int .i64 0,.int .i64 0,.bool false,.int .i64 0] 146)) 55 #[.int .i64 0,.int .i64 0]
  rwa [World.size_alloc,World.size_alloc,World.size_alloc] at this
 clear hn hr h hV e2 hs;go_enter func146,ntmps146;go_wp2_with fail;generalize hW0:((((w.alloc (.cells #[.int .i64 m,.int .i64 d,.int .i64 s] 96)).alloc (.cells #[.int .i64 0,.int .i64 0,.int .i64 0] 96)).alloc (.cells #[.int .i64 0,.int .i64 0,.bool false,.int .i64 0] 146)).alloc (.cells #[.int .i64 0,.int .i64 0] 55))=W0 at *;clear hW0;refine(KP.out _ hb0).mono ?_;rintro e w1⟨rfl,hB⟩;have hv1:=hb0.trans (hB.mono hb0.size);have b0:=b0.kept hB;have b1:=b1.kept hB;have b2:=b2.kept hB;have b3:=b3.kept hB;have bf:=Af.new w1 55 #[.int .i64 0,.int .i64 (-1)];have hv2:=hv1.alloc hv1.size (.cells #[.int .i64 0,.int .i64 (-1)] 55);have hF:=hv1.size;have hE:=b3.lt;have b0:=b0.alloc (.cells #[.int .i64 0,.int .i64 (-1)] 55);have b1:=b1.alloc (.cells #[.int .i64 0,.int .i64 (-1)] 55);have b2:=b2.alloc (.cells #[.int .i64 0,.int .i64 (-1)] 55);have b3:=b3.alloc (.cells #[.int .i64 0,.int .i64 (-1)] 55);clear hB hb0;have c0:=b0.cell 0 rfl;have c1:=b0.cell 1 rfl;have c2:=b0.cell 2 rfl;have j0:=bf.cell 0 rfl;have j1:=bf.cell 1 rfl;have q0:=bf.frozen 0;have q1:=bf.frozen 1;go_wp2_with fail;generalize hW2:w1.alloc (.cells #[.int .i64 0,.int .i64 (-1)] 55)=w2 at *;generalize w1.heap.size=F at *;clear hW2;have nf0:¬(w.heap.size+1=F):=by omega
 have ng0:¬(F=w.heap.size+1):=by omega
 have nf1:¬(w.heap.size+1+1=F):=by omega
 have ng1:¬(F=w.heap.size+1+1):=by omega
 have nf2:¬(w.heap.size+1+1+1=F):=by omega
 have ng2:¬(F=w.heap.size+1+1+1):=by omega
 refine(KV.out _).mono ?_;rintro e w3⟨rfl,hB⟩;have hv3:=hv2.trans (hB.mono hv2.size);have b0:=b0.kept hB;have b1:=b1.kept hB;have b2:=b2.kept hB;have b3:=b3.kept hB;have bf:=bf.kept hB;clear hB hv2;go_wp2_with fail;refine(KB.out _).mono ?_;rintro e w4⟨rfl,hB⟩;have hv4:=hv3.trans (hB.mono hv3.size);have b0:=b0.kept hB;have b1:=b1.kept hB;have b2:=b2.kept hB;have b3:=b3.kept hB;have bf:=bf.kept hB;clear hB hv3 c0 c1 c2 j0 j1 q0 q1;have c0:=b0.cell 0 rfl;have c1:=b0.cell 1 rfl;have c2:=b0.cell 2 rfl;have j0:=bf.cell 0 rfl;have j1:=bf.cell 1 rfl;have q0:=bf.frozen 0;have q1:=bf.frozen 1;have hv5:=(hv4.setCell (show w.heap.size≤(⟨F,0,none⟩:Addr).block from hF) (.int .i64 0)).setCell (show w.heap.size≤(⟨F,1,none⟩:Addr).block from hF) (.int .i64 (-1));have bF:=bf.two (.int .i64 0) (.int .i64 (-1));have B0:=(b0.setOther 0 (.int .i64 0) (show w.heap.size≠F by omega)).setOther 1 (.int .i64 (-1)) (show w.heap.size≠F by omega);have B1:=(b1.setOther 0 (.int .i64 0) (show w.heap.size+1≠F by omega)).setOther 1 (.int .i64 (-1)) (show w.heap.size+1≠F by omega);have B2:=(b2.setOther 0 (.int .i64 0) (show w.heap.size+1+1≠F by omega)).setOther 1 (.int .i64 (-1)) (show w.heap.size+1+1≠F by omega);have B3:=(b3.setOther 0 (.int .i64 0) (show w.heap.size+1+1+1≠F by omega)).setOther 1 (.int .i64 (-1)) (show w.heap.size+1+1+1≠F by omega);have d0:=bF.cell 0 rfl;have y2:=B0.cell 2 rfl;go_wp2_with fail;refine(KC.out _).mono ?_;rintro e w6⟨rfl,hB⟩;have hv6:=hv5.trans (hB.mono hv5.size);have b0:=B0.kept hB;have b1:=B1.kept hB;have b2:=B2.kept hB;have b3:=B3.kept hB;have bf:=bF.kept hB;clear hB hv5 hv4 bF B0 B1 B2 B3 c0 c1 c2 j0 j1 q0 q1 d0 y2;have c0:=b0.cell 0 rfl;have c1:=b0.cell 1 rfl;have c2:=b0.cell 2 rfl;have j0:=bf.cell 0 rfl;have j1:=bf.cell 1 rfl;have q0:=bf.frozen 0;have q1:=bf.frozen 1;have hv7:=(hv6.setCell (show w.heap.size≤(⟨F,0,none⟩:Addr).block from hF) (.int .i64 7)).setCell (show w.heap.size≤(⟨F,1,none⟩:Addr).block from hF) (.int .i64 (-1));have bF:=bf.two (.int .i64 7) (.int .i64 (-1));have B0:=(b0.setOther 0 (.int .i64 7) (show w.heap.size≠F by omega)).setOther 1 (.int .i64 (-1)) (show w.heap.size≠F by omega);have B1:=(b1.setOther 0 (.int .i64 7) (show w.heap.size+1≠F by omega)).setOther 1 (.int .i64 (-1)) (show w.heap.size+1≠F by omega);have B2:=(b2.setOther 0 (.int .i64 7) (show w.heap.size+1+1≠F by omega)).setOther 1 (.int .i64 (-1)) (show w.heap.size+1+1≠F by omega);have B3:=(b3.setOther 0 (.int .i64 7) (show w.heap.size+1+1+1≠F by omega)).setOther 1 (.int .i64 (-1)) (show w.heap.size+1+1+1≠F by omega);have d0:=bF.cell 0 rfl;have d1:=bF.cell 1 rfl;have b1:=B1;have b2:=B2;have b3:=B3;have hvZ:=hv7;have bf':=bf;have bf:=bF;have e0:=b1.cell 0 rfl;have e1:=b1.cell 1 rfl;have e2:=b1.cell 2 rfl;have g0:=b2.cell 0 rfl;have g1:=b2.cell 1 rfl;have g2:=b2.cell 2 rfl;have g3:=b2.cell 3 rfl;have i0:=b3.cell 0 rfl;have i1:=b3.cell 1 rfl;have j0:=bf.cell 0 rfl;have j1:=bf.cell 1 rfl;have q0:=b1.frozen 0;have q1:=b1.frozen 1;have q2:=b1.frozen 2;have r0:=b2.frozen 0;have r1:=b2.frozen 1;have r2:=b2.frozen 2;have r3:=b2.frozen 3;have u0:=b3.frozen 0;have u1:=b3.frozen 1;go_wp2;go_region
 all_goals
  go_wp2;refine bodyPost_ret (v:=.tuple #[.agg #[.int .i64 0,.int .i64 0,.int .i64 0],.agg #[.int .i64 0,.int .i64 0,.bool false,.int .i64 0],.agg #[.int .i64 7,.int .i64 (-1)]]) (by simp[results,results146,go_sem,e0,e1,e2,g0,g1,g2,g3,i0,i1]) rfl ?_;refine⟨rfl,?_⟩
  repeat(first|(with_reducible exact hvZ)|(with_reducible refine Below.drew ?_)|(with_reducible refine Below.setCell ?_ (by first|omega|(simp<;>omega)) _))
theorem Dd{x y:Nat}(h:x≠y):(¬(x=y))∧¬(y=x):=⟨h,fun e=>h e.symm⟩
theorem Vh(a:Option Addr)(n cap:Nat)(l:List Int)(m pb s:Nat)(d ec x0 x1 x2 x3 x4 who WI WO mem val:Int)(H G:Bool)(t:List UInt8)(w:World)(hn:l.length=n)(hr:Ac w a (Aa l))(hc:n≤4611686018427387904)(h:(Ay l).1=0)(hV:Cs m d s=0)(hs:s<1000000)(hwho:Am l s=who)(hm:m<65536)(hpb:At who=pb)(hH:Ep m who=H)(KRF:∀W:World,Calls prog 190 #[.string ⟨t.toArray⟩] W fun e W'=>e=.returned (.tuple #[.agg #[.int .i64 x0,.int .i64 x1,.int .i64 x2,.int .i64 x3,.int .i64 x4],.int .i64 ec])∧Below W.heap.size W W')(hWI:WI=if H then(m:Int) else(m:Int)+(pb:Int))(hWO:WO=if H then(m:Int)-(pb:Int) else(m:Int))(hG:(((((ec==0)&&(x0==who))&&(x1==WI))&&(x2==d))&&(x3==(s:Int)))=G)(hg:G=false)(hmem:mem=WO)(hval:val=0) :
 Calls prog 146 #[.slice a n cap,.agg #[.int .i64 m,.int .i64 d,.int .i64 s],.string ⟨t.toArray⟩] w fun e w'=>
  e=.returned (.tuple #[.agg #[.int .i64 mem,.int .i64 d,.int .i64 ((s:Int)+1)],.agg #[.int .i64 s,.int .i64 who,.bool false,.int .i64 val],.agg #[.int .i64 0,.int .i64 (-1)]])∧Below w.heap.size w w':=by
 have KP:=zh (fun(W:World) (h:Below w.heap.size w W)=>Cc a n cap l W hn (hr.below h) hc);have e0:(((0:Nat),(-1:Int)).1:Int)=0:=rfl;have e1:(((0:Nat),(-1:Int)).2:Int)=-1:=rfl;rw[(Ai h).1,e0,e1] at KP;clear e0 e1;have KV:=zh (fun W:World=>Dn m d s W);have KB:=zh (fun W:World=>Cu 0 W);have e2:((0:Nat):Int)=0:=rfl;rw[hV,e2] at KV;have hnd:Aq who=true:=by rw[←hwho];exact(Ai h).2.2.2 _ (D0 l _ (Ai h).2.1)
 have KH:=zh (fun W:World=>Gs m who W);rw[hH] at KH;have KPW:=zh (fun W:World=>Mo who W hnd);rw[hpb] at KPW;have KF:=zh KRF;have hn0:0<n:=by have:=(Ai h).2.1;omega
 have hnz:((n:Int)==0)=false:=by simp;omega
 have HQ:=zh (fun(W:World) (hb:Below w.heap.size w W)=>Ma s (hr.below hb) hn hn0);rw[hwho] at HQ;have hm2:0≤(s:Int)%n:=Int.emod_nonneg _ (by omega);have hm3:(s:Int)%n<n:=Int.emod_lt_of_pos _ (by omega);have hn32:n≤32:=by have:=(Ai h).2.2.1;omega
 have hs7:((s:Int)==1000000)=false:=by simp;omega
 have hpl:1≤pb∧pb≤65536:=by rw[←hpb];have:=Dx hnd;have h3:=Nat.two_pow_pos (who.toNat-1);unfold At at *;omega
 have HhWI:=zh hWI;have HhWO:=zh hWO;have HhG:=zh hG;have Hhmem:=zh hmem;have Hhval:=zh hval;have hb0:Below w.heap.size w ((((w.alloc (.cells #[.int .i64 m,.int .i64 d,.int .i64 s] 96)).alloc (.cells #[.int .i64 0,.int .i64 0,.int .i64 0] 96)).alloc (.cells #[.int .i64 0,.int .i64 0,.bool false,.int .i64 0] 146)).alloc (.cells #[.int .i64 0,.int .i64 0] 55)):=(((zb.alloc zl _).alloc (by simp) _).alloc (by simp<;>omega) _).alloc (by simp<;>omega) _;have b0:Af ((((w.alloc (.cells #[.int .i64 m,.int .i64 d,.int .i64 s] 96)).alloc (.cells #[.int .i64 0,.int .i64 0,.int .i64 0] 96)).alloc (.cells #[.int .i64 0,.int .i64 0,.bool false,.int .i64 0] 146)).alloc (.cells #[.int .i64 0,.int .i64 0] 55)) w.heap.size 96 #[.int .i64 m,.int .i64 d,.int .i64 s]:=(((Af.new w _ _).alloc _).alloc _).alloc _
 have b1:Af ((((w.alloc (.cells #[.int .i64 m,.int .i64 d,.int .i64 s] 96)).alloc (.cells #[.int .i64 0,.int .i64 0,.int .i64 0] 96)).alloc (.cells #[.int .i64 0,.int .i64 0,.bool false,.int .i64 0] 146)).alloc (.cells #[.int .i64 0,.int .i64 0] 55)) (w.heap.size+1) 96 #[.int .i64 0,.int .i64 0,.int .i64 0]:=by
  have:=((Af.new (w.alloc (.cells #[.int .i64 m,.int .i64 d,.int .i64 s] 96)) 96 #[.int .i64 0,.int .i64 0,.int .i64 0]).alloc (.cells #[.int .i64 0,.int .i64 0,.bool false,.int .i64 0] 146)).alloc (.cells #[.int .i64 0,.int .i64 0] 55)
  rwa [World.size_alloc] at this
 have b2:Af ((((w.alloc (.cells #[.int .i64 m,.int .i64 d,.int .i64 s] 96)).alloc (.cells #[.int .i64 0,.int .i64 0,.int .i64 0] 96)).alloc (.cells #[.int .i64 0,.int .i64 0,.bool false,.int .i64 0] 146)).alloc (.cells #[.int .i64 0,.int .i64 0] 55)) (w.heap.size+1+1) 146 #[.int .i64 0,.int .i64 0,.bool false,.int .i64 0]:=by
  have:=(Af.new ((w.alloc (.cells #[.int .i64 m,.int .i64 d,.int .i64 s] 96)).alloc (.cells #[.int .i64 0,.int .i64 0,.int .i64 0] 96)) 146 #[.int .i64 0,.int .i64 0,.bool false,.int .i64 0]).alloc (.cells #[.int .i64 0,.int .i64 0] 55)
  rwa [World.size_alloc,World.size_alloc] at this
 have b3:Af ((((w.alloc (.cells #[.int .i64 m,.int .i64 d,.int .i64 s] 96)).alloc (.cells #[.int .i64 0,.int .i64 0,.int .i64 0] 96)).alloc (.cells #[.int .i64 0,.int .i64 0,.bool false,.int .i64 0] 146)).alloc (.cells #[.int .i64 0,.int .i64 0] 55)) (w.heap.size+1+1+1) 55 #[.int .i64 0,.int .i64 0]:=by
  have:=Af.new (((w.alloc (.cells #[.int .i64 m,.int .i64 d,.int .i64 s] 96)).alloc (.cells #[.int .i64 0,.int .i64 0,.int .i64 0] 96)).alloc (.cells #[.int .i64 0,.int .i64 0,.bool false,.int .i64 0] 146)) 55 #[.int .i64 0,.int .i64 0]
  rwa [World.size_alloc,World.size_alloc,World.size_alloc] at this
 clear hn hr h hV e2 hwho hpb hH hnd KRF hWI hWO hG hmem hval;go_enter func146,ntmps146;go_wp2_with fail;generalize hW0:((((w.alloc (.cells #[.int .i64 m,.int .i64 d,.int .i64 s] 96)).alloc (.cells #[.int .i64 0,.int .i64 0,.int .i64 0] 96)).alloc (.cells #[.int .i64 0,.int .i64 0,.bool false,.int .i64 0] 146)).alloc (.cells #[.int .i64 0,.int .i64 0] 55))=W0 at *;clear hW0;refine(KP.out _ hb0).mono ?_;rintro e w1⟨rfl,hB⟩;have hv1:=hb0.trans (hB.mono hb0.size);have b0:=b0.kept hB;have b1:=b1.kept hB;have b2:=b2.kept hB;have b3:=b3.kept hB;have bf:=Af.new w1 55 #[.int .i64 0,.int .i64 (-1)];have hv2:=hv1.alloc hv1.size (.cells #[.int .i64 0,.int .i64 (-1)] 55);have hF:=hv1.size;have hE:=b3.lt;have b0:=b0.alloc (.cells #[.int .i64 0,.int .i64 (-1)] 55);have b1:=b1.alloc (.cells #[.int .i64 0,.int .i64 (-1)] 55);have b2:=b2.alloc (.cells #[.int .i64 0,.int .i64 (-1)] 55);have b3:=b3.alloc (.cells #[.int .i64 0,.int .i64 (-1)] 55);clear hB hb0;have c0:=b0.cell 0 rfl;have c1:=b0.cell 1 rfl;have c2:=b0.cell 2 rfl;have j0:=bf.cell 0 rfl;have j1:=bf.cell 1 rfl;have q0:=bf.frozen 0;have q1:=bf.frozen 1;go_wp2_with fail;generalize hW2:w1.alloc (.cells #[.int .i64 0,.int .i64 (-1)] 55)=w2 at *;generalize w1.heap.size=F at *;clear hW2;have nf0:¬(w.heap.size+1=F):=by omega
 have ng0:¬(F=w.heap.size+1):=by omega
 have nf1:¬(w.heap.size+1+1=F):=by omega
 have ng1:¬(F=w.heap.size+1+1):=by omega
 have nf2:¬(w.heap.size+1+1+1=F):=by omega
 have ng2:¬(F=w.heap.size+1+1+1):=by omega
 refine(KV.out _).mono ?_;rintro e w3⟨rfl,hB⟩;have hv3:=hv2.trans (hB.mono hv2.size);have b0:=b0.kept hB;have b1:=b1.kept hB;have b2:=b2.kept hB;have b3:=b3.kept hB;have bf:=bf.kept hB;clear hB hv2;go_wp2_with fail;refine(KB.out _).mono ?_;rintro e w4⟨rfl,hB⟩;have hv4:=hv3.trans (hB.mono hv3.size);have b0:=b0.kept hB;have b1:=b1.kept hB;have b2:=b2.kept hB;have b3:=b3.kept hB;have bf:=bf.kept hB;clear hB hv3 c0 c1 c2 j0 j1 q0 q1;have c0:=b0.cell 0 rfl;have c1:=b0.cell 1 rfl;have c2:=b0.cell 2 rfl;have j0:=bf.cell 0 rfl;have j1:=bf.cell 1 rfl;have q0:=bf.frozen 0;have q1:=bf.frozen 1;have hv5:=(hv4.setCell (show w.heap.size≤(⟨F,0,none⟩:Addr).block from hF) (.int .i64 0)).setCell (show w.heap.size≤(⟨F,1,none⟩:Addr).block from hF) (.int .i64 (-1));have bF:=bf.two (.int .i64 0) (.int .i64 (-1));have B0:=(b0.setOther 0 (.int .i64 0) (show w.heap.size≠F by omega)).setOther 1 (.int .i64 (-1)) (show w.heap.size≠F by omega);have B1:=(b1.setOther 0 (.int .i64 0) (show w.heap.size+1≠F by omega)).setOther 1 (.int .i64 (-1)) (show w.heap.size+1≠F by omega);have B2:=(b2.setOther 0 (.int .i64 0) (show w.heap.size+1+1≠F by omega)).setOther 1 (.int .i64 (-1)) (show w.heap.size+1+1≠F by omega);have B3:=(b3.setOther 0 (.int .i64 0) (show w.heap.size+1+1+1≠F by omega)).setOther 1 (.int .i64 (-1)) (show w.heap.size+1+1+1≠F by omega);obtain⟨b,off,rfl,hbl,u0⟩:=HQ.out _ hv5;have d0:=bF.cell 0 rfl;have y0:=B0.cell 0 rfl;have y2:=B0.cell 2 rfl;go_wp2_with fail;refine(KH.out _).mono ?_;rintro e w6⟨rfl,rfl⟩;generalize hW5:(w4.setCell ⟨F,0,none⟩ (.int .i64 0)).setCell ⟨F,1,none⟩ (.int .i64 (-1))=W5 at *;clear hW5;go_upto_if 58 with(fail);go_cut [12,13] (fun s12 s13 wx=>s12=.int .i64 WI∧s13=.int .i64 WO∧W5=wx)
 case first=>
  as_aux_lemma=>
   cases H
   ·go_wp2_with fail
    refine(KPW.out _).mono ?_;rintro e w6⟨rfl,rfl⟩;go_wp2_with fail;go_meet
    case rel=>exact⟨by rw[HhWI.out];rfl,by rw[HhWO.out];rfl,rfl⟩
   ·go_wp2_with fail
    refine(KPW.out _).mono ?_;rintro e w6⟨rfl,rfl⟩;go_wp2_with fail;go_meet
    case rel=>exact⟨by rw[HhWI.out];rfl,by rw[HhWO.out];rfl,rfl⟩
 case rest=>
 obtain⟨rfl,rfl,rfl⟩:=hcut;go_wp2_with fail;refine(KF.out _).mono ?_;rintro e w6⟨rfl,hB⟩;have hv6:=hv5.trans (hB.mono hv5.size);have b0:=B0.kept hB;have b1:=B1.kept hB;have b2:=B2.kept hB;have b3:=B3.kept hB;have bf:=bF.kept hB;clear hB hv5 hv4 bF B0 B1 B2 B3 c0 c1 c2 j0 j1 q0 q1 d0 y0 y2 u0 hbl HQ;have br:=Af.new w6 256 #[.int .i64 x0,.int .i64 x1,.int .i64 x2,.int .i64 x3,.int .i64 x4];have hv7:=hv6.alloc hv6.size (.cells #[.int .i64 x0,.int .i64 x1,.int .i64 x2,.int .i64 x3,.int .i64 x4] 256);have hG6:=bf.lt;have b0:=b0.alloc (.cells #[.int .i64 x0,.int .i64 x1,.int .i64 x2,.int .i64 x3,.int .i64 x4] 256);have b1:=b1.alloc (.cells #[.int .i64 x0,.int .i64 x1,.int .i64 x2,.int .i64 x3,.int .i64 x4] 256);have b2:=b2.alloc (.cells #[.int .i64 x0,.int .i64 x1,.int .i64 x2,.int .i64 x3,.int .i64 x4] 256);have b3:=b3.alloc (.cells #[.int .i64 x0,.int .i64 x1,.int .i64 x2,.int .i64 x3,.int .i64 x4] 256);have bf:=bf.alloc (.cells #[.int .i64 x0,.int .i64 x1,.int .i64 x2,.int .i64 x3,.int .i64 x4] 256);have c1:=b0.cell 1 rfl;have c2:=b0.cell 2 rfl;have k0:=br.cell 0 rfl;have k1:=br.cell 1 rfl;have k2:=br.cell 2 rfl;have k3:=br.cell 3 rfl;have k4:=br.cell 4 rfl;have hz1:(w6.alloc (.cells #[.int .i64 x0,.int .i64 x1,.int .i64 x2,.int .i64 x3,.int .i64 x4] 256)).heap.size=w6.heap.size+1:=World.size_alloc _ _;go_upto_region 16 with(fail);generalize hW7:w6.alloc (.cells #[.int .i64 x0,.int .i64 x1,.int .i64 x2,.int .i64 x3,.int .i64 x4] 256)=W7 at *;clear hW7;go_cut [16] (fun s16 wx=>s16=.bool G∧W7=wx)
 case first=>
  as_aux_lemma=>
   cases t0:(ec==0)
   ·have HGV:Hid (G=false):=by unfold Hid;rw[←HhG.out,t0];simp
    go_wp2_with fail;go_meet
    case rel=>exact⟨by rw[HGV.out],rfl⟩
   ·skip
    cases t1:(x0==who)
    ·have HGV:Hid (G=false):=by unfold Hid;rw[←HhG.out,t0,t1];simp
     go_wp2_with fail;go_meet
     case rel=>exact⟨by rw[HGV.out],rfl⟩
    ·skip
     cases t2:(x1==WI)
     ·have HGV:Hid (G=false):=by unfold Hid;rw[←HhG.out,t0,t1,t2];simp
      go_wp2_with fail;go_meet
      case rel=>exact⟨by rw[HGV.out],rfl⟩
     ·skip
      cases t3:(x2==d)
      ·have HGV:Hid (G=false):=by unfold Hid;rw[←HhG.out,t0,t1,t2,t3];simp
       go_wp2_with fail;go_meet
       case rel=>exact⟨by rw[HGV.out],rfl⟩
      ·skip
       cases t4:(x3==(s:Int))
       ·have HGV:Hid (G=false):=by unfold Hid;rw[←HhG.out,t0,t1,t2,t3,t4];simp
        go_wp2_with fail;go_meet
        case rel=>exact⟨by rw[HGV.out],rfl⟩
       ·skip
        have HGV:Hid (G=true):=by unfold Hid;rw[←HhG.out,t0,t1,t2,t3,t4];rfl
        go_wp2_with fail;go_meet
        case rel=>exact⟨by rw[HGV.out],rfl⟩
 case rest=>
 obtain⟨rfl,rfl⟩:=hcut;subst hg;have hme:mem=WO:=Hhmem.out;have hva:val=0:=Hhval.out;subst hme hva;have bn:=(Af.new W7 146 #[.int .i64 s,.int .i64 who,.bool false,.int .i64 0]).alloc (.cells #[.int .i64 mem,.int .i64 d,.int .i64 ((s:Int)+1)] 96);rw[hz1] at bn;have hv8:=hv7.alloc hv7.size (.cells #[.int .i64 s,.int .i64 who,.bool false,.int .i64 0] 146);have hz2:(W7.alloc (.cells #[.int .i64 s,.int .i64 who,.bool false,.int .i64 0] 146)).heap.size=w6.heap.size+1+1:=by rw[World.size_alloc,hz1]
 have bv:=Af.new (W7.alloc (.cells #[.int .i64 s,.int .i64 who,.bool false,.int .i64 0] 146)) 96 #[.int .i64 mem,.int .i64 d,.int .i64 ((s:Int)+1)];rw[hz2] at bv;have m1:=(b0.alloc (.cells #[.int .i64 s,.int .i64 who,.bool false,.int .i64 0] 146)).cell 1 rfl;have m2:=(b0.alloc (.cells #[.int .i64 s,.int .i64 who,.bool false,.int .i64 0] 146)).cell 2 rfl;have hv9:=hv8.alloc hv8.size (.cells #[.int .i64 mem,.int .i64 d,.int .i64 ((s:Int)+1)] 96);have hs6:=hv6.size;go_wp2;have b1:=(b1.alloc (.cells #[.int .i64 s,.int .i64 who,.bool false,.int .i64 0] 146)).alloc (.cells #[.int .i64 mem,.int .i64 d,.int .i64 ((s:Int)+1)] 96);have b2:=(b2.alloc (.cells #[.int .i64 s,.int .i64 who,.bool false,.int .i64 0] 146)).alloc (.cells #[.int .i64 mem,.int .i64 d,.int .i64 ((s:Int)+1)] 96);have b3:=(b3.alloc (.cells #[.int .i64 s,.int .i64 who,.bool false,.int .i64 0] 146)).alloc (.cells #[.int .i64 mem,.int .i64 d,.int .i64 ((s:Int)+1)] 96);have bf:=(bf.alloc (.cells #[.int .i64 s,.int .i64 who,.bool false,.int .i64 0] 146)).alloc (.cells #[.int .i64 mem,.int .i64 d,.int .i64 ((s:Int)+1)] 96);generalize hW9:(W7.alloc (.cells #[.int .i64 s,.int .i64 who,.bool false,.int .i64 0] 146)).alloc (.cells #[.int .i64 mem,.int .i64 d,.int .i64 ((s:Int)+1)] 96)=W9 at *;clear hW9;generalize w6.heap.size=G6 at *;obtain⟨ne0,nz0⟩:=Dd (x:=G6+1) (y:=F) (by omega);obtain⟨ne1,nz1⟩:=Dd (x:=G6+1+1) (y:=F) (by omega);obtain⟨ne2,nz2⟩:=Dd (x:=G6+1+1) (y:=G6+1) (by omega);obtain⟨ne3,nz3⟩:=Dd (x:=G6+1+1) (y:=G6) (by omega);obtain⟨ne4,nz4⟩:=Dd (x:=G6+1) (y:=G6) (by omega);obtain⟨ne5,nz5⟩:=Dd (x:=w.heap.size+1) (y:=F) (by omega);obtain⟨ne6,nz6⟩:=Dd (x:=w.heap.size+1) (y:=G6+1) (by omega);obtain⟨ne7,nz7⟩:=Dd (x:=w.heap.size+1) (y:=G6+1+1) (by omega);obtain⟨ne8,nz8⟩:=Dd (x:=w.heap.size+1+1) (y:=F) (by omega);obtain⟨ne9,nz9⟩:=Dd (x:=w.heap.size+1+1) (y:=G6+1) (by omega);obtain⟨ne10,nz10⟩:=Dd (x:=w.heap.size+1+1) (y:=G6+1+1) (by omega);obtain⟨ne11,nz11⟩:=Dd (x:=w.heap.size+1+1+1) (y:=F) (by omega);obtain⟨ne12,nz12⟩:=Dd (x:=w.heap.size+1+1+1) (y:=G6+1) (by omega);obtain⟨ne13,nz13⟩:=Dd (x:=w.heap.size+1+1+1) (y:=G6+1+1) (by omega);have a0:=bn.cell 0 rfl;have a1:=bn.cell 1 rfl;have a2:=bn.cell 2 rfl;have a3:=bn.cell 3 rfl;have o0:=bv.cell 0 rfl;have o1:=bv.cell 1 rfl;have o2:=bv.cell 2 rfl;have v0:=bn.frozen 0;have v1:=bn.frozen 1;have v2:=bn.frozen 2;have v3:=bn.frozen 3;have s0:=bv.frozen 0;have hvZ:=hv9;have e0:=b1.cell 0 rfl;have e1:=b1.cell 1 rfl;have e2:=b1.cell 2 rfl;have g0:=b2.cell 0 rfl;have g1:=b2.cell 1 rfl;have g2:=b2.cell 2 rfl;have g3:=b2.cell 3 rfl;have i0:=b3.cell 0 rfl;have i1:=b3.cell 1 rfl;have j0:=bf.cell 0 rfl;have j1:=bf.cell 1 rfl;have q0:=b1.frozen 0;have q1:=b1.frozen 1;have q2:=b1.frozen 2;have r0:=b2.frozen 0;have r1:=b2.frozen 1;have r2:=b2.frozen 2;have r3:=b2.frozen 3;have u0:=b3.frozen 0;have u1:=b3.frozen 1;go_wp2;go_region
 all_goals
  go_wp2;refine bodyPost_ret (v:=.tuple #[.agg #[.int .i64 mem,.int .i64 d,.int .i64 ((s:Int)+1)],.agg #[.int .i64 s,.int .i64 who,.bool false,.int .i64 0],.agg #[.int .i64 0,.int .i64 (-1)]]) (by simp[results,results146,go_sem,e0,e1,e2,g0,g1,g2,g3,i0,i1]) rfl ?_;refine⟨rfl,?_⟩
  repeat(first|(with_reducible exact hvZ)|(with_reducible refine Below.drew ?_)|(with_reducible refine Below.setCell ?_ (by first|omega|(simp<;>omega)) _))
theorem Vi(a:Option Addr)(n cap:Nat)(l:List Int)(m pb s:Nat)(d ec x0 x1 x2 x3 x4 who WI WO mem val:Int)(H G:Bool)(t:List UInt8)(w:World)(hn:l.length=n)(hr:Ac w a (Aa l))(hc:n≤4611686018427387904)(h:(Ay l).1=0)(hV:Cs m d s=0)(hs:s<1000000)(hwho:Am l s=who)(hm:m<65536)(hpb:At who=pb)(hH:Ep m who=H)(KRF:∀W:World,Calls prog 190 #[.string ⟨t.toArray⟩] W fun e W'=>e=.returned (.tuple #[.agg #[.int .i64 x0,.int .i64 x1,.int .i64 x2,.int .i64 x3,.int .i64 x4],.int .i64 ec])∧Below W.heap.size W W')(hWI:WI=if H then(m:Int) else(m:Int)+(pb:Int))(hWO:WO=if H then(m:Int)-(pb:Int) else(m:Int))(hG:(((((ec==0)&&(x0==who))&&(x1==WI))&&(x2==d))&&(x3==(s:Int)))=G)(hg:G=true)(hmem:mem=WI)(hval:val=x4) :
 Calls prog 146 #[.slice a n cap,.agg #[.int .i64 m,.int .i64 d,.int .i64 s],.string ⟨t.toArray⟩] w fun e w'=>
  e=.returned (.tuple #[.agg #[.int .i64 mem,.int .i64 d,.int .i64 ((s:Int)+1)],.agg #[.int .i64 s,.int .i64 who,.bool true,.int .i64 val],.agg #[.int .i64 0,.int .i64 (-1)]])∧Below w.heap.size w w':=by
 have KP:=zh (fun(W:World) (h:Below w.heap.size w W)=>Cc a n cap l W hn (hr.below h) hc);have e0:(((0:Nat),(-1:Int)).1:Int)=0:=rfl;have e1:(((0:Nat),(-1:Int)).2:Int)=-1:=rfl;rw[(Ai h).1,e0,e1] at KP;clear e0 e1;have KV:=zh (fun W:World=>Dn m d s W);have KB:=zh (fun W:World=>Cu 0 W);have e2:((0:Nat):Int)=0:=rfl;rw[hV,e2] at KV;have hnd:Aq who=true:=by rw[←hwho];exact(Ai h).2.2.2 _ (D0 l _ (Ai h).2.1)
 have KH:=zh (fun W:World=>Gs m who W);rw[hH] at KH;have KPW:=zh (fun W:World=>Mo who W hnd);rw[hpb] at KPW;have KF:=zh KRF;have hn0:0<n:=by have:=(Ai h).2.1;omega
 have hnz:((n:Int)==0)=false:=by simp;omega
 have HQ:=zh (fun(W:World) (hb:Below w.heap.size w W)=>Ma s (hr.below hb) hn hn0);rw[hwho] at HQ;have hm2:0≤(s:Int)%n:=Int.emod_nonneg _ (by omega);have hm3:(s:Int)%n<n:=Int.emod_lt_of_pos _ (by omega);have hn32:n≤32:=by have:=(Ai h).2.2.1;omega
 have hs7:((s:Int)==1000000)=false:=by simp;omega
 have hpl:1≤pb∧pb≤65536:=by rw[←hpb];have:=Dx hnd;have h3:=Nat.two_pow_pos (who.toNat-1);unfold At at *;omega
 have HhWI:=zh hWI;have HhWO:=zh hWO;have HhG:=zh hG;have Hhmem:=zh hmem;have Hhval:=zh hval;have hb0:Below w.heap.size w ((((w.alloc (.cells #[.int .i64 m,.int .i64 d,.int .i64 s] 96)).alloc (.cells #[.int .i64 0,.int .i64 0,.int .i64 0] 96)).alloc (.cells #[.int .i64 0,.int .i64 0,.bool false,.int .i64 0] 146)).alloc (.cells #[.int .i64 0,.int .i64 0] 55)):=(((zb.alloc zl _).alloc (by simp) _).alloc (by simp<;>omega) _).alloc (by simp<;>omega) _;have b0:Af ((((w.alloc (.cells #[.int .i64 m,.int .i64 d,.int .i64 s] 96)).alloc (.cells #[.int .i64 0,.int .i64 0,.int .i64 0] 96)).alloc (.cells #[.int .i64 0,.int .i64 0,.bool false,.int .i64 0] 146)).alloc (.cells #[.int .i64 0,.int .i64 0] 55)) w.heap.size 96 #[.int .i64 m,.int .i64 d,.int .i64 s]:=(((Af.new w _ _).alloc _).alloc _).alloc _
 have b1:Af ((((w.alloc (.cells #[.int .i64 m,.int .i64 d,.int .i64 s] 96)).alloc (.cells #[.int .i64 0,.int .i64 0,.int .i64 0] 96)).alloc (.cells #[.int .i64 0,.int .i64 0,.bool false,.int .i64 0] 146)).alloc (.cells #[.int .i64 0,.int .i64 0] 55)) (w.heap.size+1) 96 #[.int .i64 0,.int .i64 0,.int .i64 0]:=by
  have:=((Af.new (w.alloc (.cells #[.int .i64 m,.int .i64 d,.int .i64 s] 96)) 96 #[.int .i64 0,.int .i64 0,.int .i64 0]).alloc (.cells #[.int .i64 0,.int .i64 0,.bool false,.int .i64 0] 146)).alloc (.cells #[.int .i64 0,.int .i64 0] 55)
  rwa [World.size_alloc] at this
 have b2:Af ((((w.alloc (.cells #[.int .i64 m,.int .i64 d,.int .i64 s] 96)).alloc (.cells #[.int .i64 0,.int .i64 0,.int .i64 0] 96)).alloc (.cells #[.int .i64 0,.int .i64 0,.bool false,.int .i64 0] 146)).alloc (.cells #[.int .i64 0,.int .i64 0] 55)) (w.heap.size+1+1) 146 #[.int .i64 0,.int .i64 0,.bool false,.int .i64 0]:=by
  have:=(Af.new ((w.alloc (.cells #[.int .i64 m,.int .i64 d,.int .i64 s] 96)).alloc (.cells #[.int .i64 0,.int .i64 0,.int .i64 0] 96)) 146 #[.int .i64 0,.int .i64 0,.bool false,.int .i64 0]).alloc (.cells #[.int .i64 0,.int .i64 0] 55)
  rwa [World.size_alloc,World.size_alloc] at this
 have b3:Af ((((w.alloc (.cells #[.int .i64 m,.int .i64 d,.int .i64 s] 96)).alloc (.cells #[.int .i64 0,.int .i64 0,.int .i64 0] 96)).alloc (.cells #[.int .i64 0,.int .i64 0,.bool false,.int .i64 0] 146)).alloc (.cells #[.int .i64 0,.int .i64 0] 55)) (w.heap.size+1+1+1) 55 #[.int .i64 0,.int .i64 0]:=by
  have:=Af.new (((w.alloc (.cells #[.int .i64 m,.int .i64 d,.int .i64 s] 96)).alloc (.cells #[.int .i64 0,.int .i64 0,.int .i64 0] 96)).alloc (.cells #[.int .i64 0,.int .i64 0,.bool false,.int .i64 0] 146)) 55 #[.int .i64 0,.int .i64 0]
  rwa [World.size_alloc,World.size_alloc,World.size_alloc] at this
 clear hn hr h hV e2 hwho hpb hH hnd KRF hWI hWO hG hmem hval;go_enter func146,ntmps146;go_wp2_with fail;generalize hW0:((((w.alloc (.cells #[.int .i64 m,.int .i64 d,.int .i64 s] 96)).alloc (.cells #[.int .i64 0,.int .i64 0,.int .i64 0] 96)).alloc (.cells #[.int .i64 0,.int .i64 0,.bool false,.int .i64 0] 146)).alloc (.cells #[.int .i64 0,.int .i64 0] 55))=W0 at *;clear hW0;refine(KP.out _ hb0).mono ?_;rintro e w1⟨rfl,hB⟩;have hv1:=hb0.trans (hB.mono hb0.size);have b0:=b0.kept hB;have b1:=b1.kept hB;have b2:=b2.kept hB;have b3:=b3.kept hB;have bf:=Af.new w1 55 #[.int .i64 0,.int .i64 (-1)];have hv2:=hv1.alloc hv1.size (.cells #[.int .i64 0,.int .i64 (-1)] 55);have hF:=hv1.size;have hE:=b3.lt;have b0:=b0.alloc (.cells #[.int .i64 0,.int .i64 (-1)] 55);have b1:=b1.alloc (.cells #[.int .i64 0,.int .i64 (-1)] 55);have b2:=b2.alloc (.cells #[.int .i64 0,.int .i64 (-1)] 55);have b3:=b3.alloc (.cells #[.int .i64 0,.int .i64 (-1)] 55);clear hB hb0;have c0:=b0.cell 0 rfl;have c1:=b0.cell 1 rfl;have c2:=b0.cell 2 rfl;have j0:=bf.cell 0 rfl;have j1:=bf.cell 1 rfl;have q0:=bf.frozen 0;have q1:=bf.frozen 1;go_wp2_with fail;generalize hW2:w1.alloc (.cells #[.int .i64 0,.int .i64 (-1)] 55)=w2 at *;generalize w1.heap.size=F at *;clear hW2;have nf0:¬(w.heap.size+1=F):=by omega
 have ng0:¬(F=w.heap.size+1):=by omega
 have nf1:¬(w.heap.size+1+1=F):=by omega
 have ng1:¬(F=w.heap.size+1+1):=by omega
 have nf2:¬(w.heap.size+1+1+1=F):=by omega
 have ng2:¬(F=w.heap.size+1+1+1):=by omega
 refine(KV.out _).mono ?_;rintro e w3⟨rfl,hB⟩;have hv3:=hv2.trans (hB.mono hv2.size);have b0:=b0.kept hB;have b1:=b1.kept hB;have b2:=b2.kept hB;have b3:=b3.kept hB;have bf:=bf.kept hB;clear hB hv2;go_wp2_with fail;refine(KB.out _).mono ?_;rintro e w4⟨rfl,hB⟩;have hv4:=hv3.trans (hB.mono hv3.size);have b0:=b0.kept hB;have b1:=b1.kept hB;have b2:=b2.kept hB;have b3:=b3.kept hB;have bf:=bf.kept hB;clear hB hv3 c0 c1 c2 j0 j1 q0 q1;have c0:=b0.cell 0 rfl;have c1:=b0.cell 1 rfl;have c2:=b0.cell 2 rfl;have j0:=bf.cell 0 rfl;have j1:=bf.cell 1 rfl;have q0:=bf.frozen 0;have q1:=bf.frozen 1;have hv5:=(hv4.setCell (show w.heap.size≤(⟨F,0,none⟩:Addr).block from hF) (.int .i64 0)).setCell (show w.heap.size≤(⟨F,1,none⟩:Addr).block from hF) (.int .i64 (-1));have bF:=bf.two (.int .i64 0) (.int .i64 (-1));have B0:=(b0.setOther 0 (.int .i64 0) (show w.heap.size≠F by omega)).setOther 1 (.int .i64 (-1)) (show w.heap.size≠F by omega);have B1:=(b1.setOther 0 (.int .i64 0) (show w.heap.size+1≠F by omega)).setOther 1 (.int .i64 (-1)) (show w.heap.size+1≠F by omega);have B2:=(b2.setOther 0 (.int .i64 0) (show w.heap.size+1+1≠F by omega)).setOther 1 (.int .i64 (-1)) (show w.heap.size+1+1≠F by omega);have B3:=(b3.setOther 0 (.int .i64 0) (show w.heap.size+1+1+1≠F by omega)).setOther 1 (.int .i64 (-1)) (show w.heap.size+1+1+1≠F by omega);obtain⟨b,off,rfl,hbl,u0⟩:=HQ.out _ hv5;have d0:=bF.cell 0 rfl;have y0:=B0.cell 0 rfl;have y2:=B0.cell 2 rfl;go_wp2_with fail;refine(KH.out _).mono ?_;rintro e w6⟨rfl,rfl⟩;generalize hW5:(w4.setCell ⟨F,0,none⟩ (.int .i64 0)).setCell ⟨F,1,none⟩ (.int .i64 (-1))=W5 at *;clear hW5;go_upto_if 58 with(fail);go_cut [12,13] (fun s12 s13 wx=>s12=.int .i64 WI∧s13=.int .i64 WO∧W5=wx)
 case first=>
  as_aux_lemma=>
   cases H
   ·go_wp2_with fail
    refine(KPW.out _).mono ?_;rintro e w6⟨rfl,rfl⟩;go_wp2_with fail;go_meet
    case rel=>exact⟨by rw[HhWI.out];rfl,by rw[HhWO.out];rfl,rfl⟩
   ·go_wp2_with fail
    refine(KPW.out _).mono ?_;rintro e w6⟨rfl,rfl⟩;go_wp2_with fail;go_meet
    case rel=>exact⟨by rw[HhWI.out];rfl,by rw[HhWO.out];rfl,rfl⟩
 case rest=>
 obtain⟨rfl,rfl,rfl⟩:=hcut;go_wp2_with fail;refine(KF.out _).mono ?_;rintro e w6⟨rfl,hB⟩;have hv6:=hv5.trans (hB.mono hv5.size);have b0:=B0.kept hB;have b1:=B1.kept hB;have b2:=B2.kept hB;have b3:=B3.kept hB;have bf:=bF.kept hB;clear hB hv5 hv4 bF B0 B1 B2 B3 c0 c1 c2 j0 j1 q0 q1 d0 y0 y2 u0 hbl HQ;have br:=Af.new w6 256 #[.int .i64 x0,.int .i64 x1,.int .i64 x2,.int .i64 x3,.int .i64 x4];have hv7:=hv6.alloc hv6.size (.cells #[.int .i64 x0,.int .i64 x1,.int .i64 x2,.int .i64 x3,.int .i64 x4] 256);have hG6:=bf.lt;have b0:=b0.alloc (.cells #[.int .i64 x0,.int .i64 x1,.int .i64 x2,.int .i64 x3,.int .i64 x4] 256);have b1:=b1.alloc (.cells #[.int .i64 x0,.int .i64 x1,.int .i64 x2,.int .i64 x3,.int .i64 x4] 256);have b2:=b2.alloc (.cells #[.int .i64 x0,.int .i64 x1,.int .i64 x2,.int .i64 x3,.int .i64 x4] 256);have b3:=b3.alloc (.cells #[.int .i64 x0,.int .i64 x1,.int .i64 x2,.int .i64 x3,.int .i64 x4] 256);have bf:=bf.alloc (.cells #[.int .i64 x0,.int .i64 x1,.int .i64 x2,.int .i64 x3,.int .i64 x4] 256);have c1:=b0.cell 1 rfl;have c2:=b0.cell 2 rfl;have k0:=br.cell 0 rfl;have k1:=br.cell 1 rfl;have k2:=br.cell 2 rfl;have k3:=br.cell 3 rfl;have k4:=br.cell 4 rfl;have hz1:(w6.alloc (.cells #[.int .i64 x0,.int .i64 x1,.int .i64 x2,.int .i64 x3,.int .i64 x4] 256)).heap.size=w6.heap.size+1:=World.size_alloc _ _;go_upto_region 16 with(fail);generalize hW7:w6.alloc (.cells #[.int .i64 x0,.int .i64 x1,.int .i64 x2,.int .i64 x3,.int .i64 x4] 256)=W7 at *;clear hW7;go_cut [16] (fun s16 wx=>s16=.bool G∧W7=wx)
 case first=>
  as_aux_lemma=>
   cases t0:(ec==0)
   ·have HGV:Hid (G=false):=by unfold Hid;rw[←HhG.out,t0];simp
    go_wp2_with fail;go_meet
    case rel=>exact⟨by rw[HGV.out],rfl⟩
   ·skip
    cases t1:(x0==who)
    ·have HGV:Hid (G=false):=by unfold Hid;rw[←HhG.out,t0,t1];simp
     go_wp2_with fail;go_meet
     case rel=>exact⟨by rw[HGV.out],rfl⟩
    ·skip
     cases t2:(x1==WI)
     ·have HGV:Hid (G=false):=by unfold Hid;rw[←HhG.out,t0,t1,t2];simp
      go_wp2_with fail;go_meet
      case rel=>exact⟨by rw[HGV.out],rfl⟩
     ·skip
      cases t3:(x2==d)
      ·have HGV:Hid (G=false):=by unfold Hid;rw[←HhG.out,t0,t1,t2,t3];simp
       go_wp2_with fail;go_meet
       case rel=>exact⟨by rw[HGV.out],rfl⟩
      ·skip
       cases t4:(x3==(s:Int))
       ·have HGV:Hid (G=false):=by unfold Hid;rw[←HhG.out,t0,t1,t2,t3,t4];simp
        go_wp2_with fail;go_meet
        case rel=>exact⟨by rw[HGV.out],rfl⟩
       ·skip
        have HGV:Hid (G=true):=by unfold Hid;rw[←HhG.out,t0,t1,t2,t3,t4];rfl
        go_wp2_with fail;go_meet
        case rel=>exact⟨by rw[HGV.out],rfl⟩
 case rest=>
 obtain⟨rfl,rfl⟩:=hcut;subst hg;have hme:mem=WI:=Hhmem.out;have hva:val=x4:=Hhval.out;subst hme hva;have bn:=(Af.new W7 146 #[.int .i64 s,.int .i64 who,.bool true,.int .i64 val]).alloc (.cells #[.int .i64 mem,.int .i64 d,.int .i64 ((s:Int)+1)] 96);rw[hz1] at bn;have hv8:=hv7.alloc hv7.size (.cells #[.int .i64 s,.int .i64 who,.bool true,.int .i64 val] 146);have hz2:(W7.alloc (.cells #[.int .i64 s,.int .i64 who,.bool true,.int .i64 val] 146)).heap.size=w6.heap.size+1+1:=by rw[World.size_alloc,hz1]
 have bv:=Af.new (W7.alloc (.cells #[.int .i64 s,.int .i64 who,.bool true,.int .i64 val] 146)) 96 #[.int .i64 mem,.int .i64 d,.int .i64 ((s:Int)+1)];rw[hz2] at bv;have m1:=(b0.alloc (.cells #[.int .i64 s,.int .i64 who,.bool false,.int .i64 0] 146)).cell 1 rfl;have m2:=(b0.alloc (.cells #[.int .i64 s,.int .i64 who,.bool false,.int .i64 0] 146)).cell 2 rfl;have hv9:=hv8.alloc hv8.size (.cells #[.int .i64 mem,.int .i64 d,.int .i64 ((s:Int)+1)] 96);have hs6:=hv6.size;go_wp2;have b1:=(b1.alloc (.cells #[.int .i64 s,.int .i64 who,.bool true,.int .i64 val] 146)).alloc (.cells #[.int .i64 mem,.int .i64 d,.int .i64 ((s:Int)+1)] 96);have b2:=(b2.alloc (.cells #[.int .i64 s,.int .i64 who,.bool true,.int .i64 val] 146)).alloc (.cells #[.int .i64 mem,.int .i64 d,.int .i64 ((s:Int)+1)] 96);have b3:=(b3.alloc (.cells #[.int .i64 s,.int .i64 who,.bool true,.int .i64 val] 146)).alloc (.cells #[.int .i64 mem,.int .i64 d,.int .i64 ((s:Int)+1)] 96);have bf:=(bf.alloc (.cells #[.int .i64 s,.int .i64 who,.bool true,.int .i64 val] 146)).alloc (.cells #[.int .i64 mem,.int .i64 d,.int .i64 ((s:Int)+1)] 96);generalize hW9:(W7.alloc (.cells #[.int .i64 s,.int .i64 who,.bool true,.int .i64 val] 146)).alloc (.cells #[.int .i64 mem,.int .i64 d,.int .i64 ((s:Int)+1)] 96)=W9 at *;clear hW9;generalize w6.heap.size=G6 at *;obtain⟨ne0,nz0⟩:=Dd (x:=G6+1) (y:=F) (by omega);obtain⟨ne1,nz1⟩:=Dd (x:=G6+1+1) (y:=F) (by omega);obtain⟨ne2,nz2⟩:=Dd (x:=G6+1+1) (y:=G6+1) (by omega);obtain⟨ne3,nz3⟩:=Dd (x:=G6+1+1) (y:=G6) (by omega);obtain⟨ne4,nz4⟩:=Dd (x:=G6+1) (y:=G6) (by omega);obtain⟨ne5,nz5⟩:=Dd (x:=w.heap.size+1) (y:=F) (by omega);obtain⟨ne6,nz6⟩:=Dd (x:=w.heap.size+1) (y:=G6+1) (by omega);obtain⟨ne7,nz7⟩:=Dd (x:=w.heap.size+1) (y:=G6+1+1) (by omega);obtain⟨ne8,nz8⟩:=Dd (x:=w.heap.size+1+1) (y:=F) (by omega);obtain⟨ne9,nz9⟩:=Dd (x:=w.heap.size+1+1) (y:=G6+1) (by omega);obtain⟨ne10,nz10⟩:=Dd (x:=w.heap.size+1+1) (y:=G6+1+1) (by omega);obtain⟨ne11,nz11⟩:=Dd (x:=w.heap.size+1+1+1) (y:=F) (by omega);obtain⟨ne12,nz12⟩:=Dd (x:=w.heap.size+1+1+1) (y:=G6+1) (by omega);obtain⟨ne13,nz13⟩:=Dd (x:=w.heap.size+1+1+1) (y:=G6+1+1) (by omega);have a0:=bn.cell 0 rfl;have a1:=bn.cell 1 rfl;have a2:=bn.cell 2 rfl;have a3:=bn.cell 3 rfl;have o0:=bv.cell 0 rfl;have o1:=bv.cell 1 rfl;have o2:=bv.cell 2 rfl;have v0:=bn.frozen 0;have v1:=bn.frozen 1;have v2:=bn.frozen 2;have v3:=bn.frozen 3;have s0:=bv.frozen 0;have hvZ:=hv9;have e0:=b1.cell 0 rfl;have e1:=b1.cell 1 rfl;have e2:=b1.cell 2 rfl;have g0:=b2.cell 0 rfl;have g1:=b2.cell 1 rfl;have g2:=b2.cell 2 rfl;have g3:=b2.cell 3 rfl;have i0:=b3.cell 0 rfl;have i1:=b3.cell 1 rfl;have j0:=bf.cell 0 rfl;have j1:=bf.cell 1 rfl;have q0:=b1.frozen 0;have q1:=b1.frozen 1;have q2:=b1.frozen 2;have r0:=b2.frozen 0;have r1:=b2.frozen 1;have r2:=b2.frozen 2;have r3:=b2.frozen 3;have u0:=b3.frozen 0;have u1:=b3.frozen 1;go_wp2;go_region
 all_goals
  go_wp2;refine bodyPost_ret (v:=.tuple #[.agg #[.int .i64 mem,.int .i64 d,.int .i64 ((s:Int)+1)],.agg #[.int .i64 s,.int .i64 who,.bool true,.int .i64 val],.agg #[.int .i64 0,.int .i64 (-1)]]) (by simp[results,results146,go_sem,e0,e1,e2,g0,g1,g2,g3,i0,i1]) rfl ?_;refine⟨rfl,?_⟩
  repeat(first|(with_reducible exact hvZ)|(with_reducible refine Below.drew ?_)|(with_reducible refine Below.setCell ?_ (by first|omega|(simp<;>omega)) _))
theorem Y4(ec:Nat)(x0 y0 x1 y1 x2 y2 x3 y3:Int):((((((ec:Int)==0)&&(x0==y0))&&(x1==y1))&&(x2==y2))&&(x3==y3))=decide (ec=0∧x0=y0∧x1=y1∧x2=y2∧x3=y3):=by
 rw[Bool.eq_iff_iff];simp only[Bool.and_eq_true,beq_iff_eq,decide_eq_true_eq,and_assoc]
 constructor<;>(rintro⟨a,b,c,d,e⟩;exact⟨by omega,b,c,d,e⟩)
theorem zA0(a:Option Addr)(n cap:Nat)(l:List Int)(m d s:Int)(t:List UInt8)(w:World)(hn:l.length=n)(hr:Ac w a (Aa l))(hc:n≤4611686018427387904)(ht:t.length≤100000) :
 Calls prog 146 #[.slice a n cap,.agg #[.int .i64 m,.int .i64 d,.int .i64 s],.string ⟨t.toArray⟩] w fun e w'=>
  e=.returned (.tuple #[.agg #[.int .i64 (D3 l m d s t).1,.int .i64 (D3 l m d s t).2.1,.int .i64 (D3 l m d s t).2.2],(Ff l m d s t).v,.agg #[.int .i64 (Ee l m d s).1,.int .i64 (Ee l m d s).2]])∧Below w.heap.size w w':=by
 by_cases h:(Ay l).1=0
 ·by_cases hV:Cs m d s=0
  ·have hM:(Cg l m d s).1=0:=by rw[Cg,if_pos h,hV]
   obtain⟨hcm,hvd⟩:=Dz hV
   by_cases hs:1000000≤s
   ·have hs':s=1000000:=by simp only[C9,decide_eq_true_eq] at hvd;omega
    have hF:Ee l m d s=(7,-1):=by rw[Ee,if_pos hM,if_pos hs]
    have hW:D3 l m d s t=(0,0,0):=by rw[D3,if_neg (by rw[hF];simp)]
    have hE:Ff l m d s t=⟨0,0,false,0⟩:=by rw[Ff,if_neg (by rw[hF];simp)]
    rw[hF,hW,hE];exact Y1 a n cap l m d s t w hn hr hc h hV hs'
   ·obtain⟨k,rfl,hk⟩:=Ln hcm
    obtain⟨q,rfl⟩:∃q:Nat,s=q:=⟨s.toNat,by simp only[C9,decide_eq_true_eq] at hvd;omega⟩
    have hs2:q<1000000:=by omega
    have hF:Ee l k d q=(0,-1):=by rw[Ee,if_pos hM,if_neg hs]
    have hnd:Aq (Am l q)=true:=(Ai h).2.2.2 _ (D0 l _ (Ai h).2.1);have hW:D3 l k d q t=((L9 l k d q t:Int),d,(q:Int)+1):=by rw[D3,if_pos (by rw[hF])]
    have hE:Ff l k d q t=⟨q,Am l q,Fl l k d q t,if Fl l k d q t then(Ak t).2.value else 0⟩:=by rw[Ff,if_pos (by rw[hF])];rfl
    have hO:Fl l k d q t=Ow (Am l q) k d q t:=rfl;have hMM:L9 l k d q t=if Fl l k d q t then k|||At (Am l q) else Fp (k|||At (Am l q)) (At (Am l q)):=rfl
    have KRF:=fun W:World=>T9 t W ht
    simp only[Frm.arr] at KRF;have hB:Ow (Am l q) k d q t=decide ((Ak t).1=0∧(Ak t).2.frm=Am l q∧(Ak t).2.mem=((k|||At (Am l q):Nat):Int)∧(Ak t).2.mode=d∧(Ak t).2.slot=q):=rfl;rw[hF,hW,hE,hMM,hO];obtain⟨G,hG⟩:∃G,G=Ow (Am l q) k d q t:=⟨_,rfl⟩
    rw[←hG] at hB ⊢
    cases hH:Ep k (Am l q)
    ·obtain⟨e1,e2⟩:=Y6 hk hnd hH
     have e3:((k|||At (Am l q):Nat):Int)=(k:Int)+(At (Am l q):Nat):=by rw[e1];push_cast;rfl
     have hC:=(Y4 (Ak t).1 (Ak t).2.frm (Am l q) (Ak t).2.mem ((k:Int)+(At (Am l q):Nat)) (Ak t).2.mode d (Ak t).2.slot q).trans (show _=G by rw[hB,e3])
     cases G
     ·exact Vh a n cap l k _ q d _ _ _ _ _ _ _ ((k:Int)+(At (Am l q):Nat)) (k:Int) _ _ false _ t w hn hr hc h hV hs2 rfl hk rfl hH KRF rfl rfl hC rfl (by simp[e2]) rfl
     ·exact Vi a n cap l k _ q d _ _ _ _ _ _ _ ((k:Int)+(At (Am l q):Nat)) (k:Int) _ _ false _ t w hn hr hc h hV hs2 rfl hk rfl hH KRF rfl rfl hC rfl (by simp[e3]) rfl
    ·obtain⟨e1,e2⟩:=Y5 hk hnd hH
     have e4:((Fp (k|||At (Am l q)) (At (Am l q)):Nat):Int)=(k:Int)-(At (Am l q):Nat):=by omega
     have hC:=(Y4 (Ak t).1 (Ak t).2.frm (Am l q) (Ak t).2.mem (k:Int) (Ak t).2.mode d (Ak t).2.slot q).trans (show _=G by rw[hB,e1])
     cases G
     ·exact Vh a n cap l k _ q d _ _ _ _ _ _ _ (k:Int) ((k:Int)-(At (Am l q):Nat)) _ _ true _ t w hn hr hc h hV hs2 rfl hk rfl hH KRF rfl rfl hC rfl (by simp[e4]) rfl
     ·exact Vi a n cap l k _ q d _ _ _ _ _ _ _ (k:Int) ((k:Int)-(At (Am l q):Nat)) _ _ true _ t w hn hr hc h hV hs2 rfl hk rfl hH KRF rfl rfl hC rfl (by simp[e1]) rfl
  ·have hM:Cg l m d s=(2,-1):=by rw[Cg,if_pos h,Hz hV]
   have hF:Ee l m d s=(2,-1):=by rw[Ee,hM];rfl
   have hW:D3 l m d s t=(0,0,0):=by rw[D3,if_neg (by rw[hF];simp)]
   have hE:Ff l m d s t=⟨0,0,false,0⟩:=by rw[Ff,if_neg (by rw[hF];simp)]
   rw[hF,hW,hE];exact Y3 a n cap l m d s t w hn hr hc h (Hz hV)
 ·have hM:Cg l m d s=Ay l:=by rw[Cg,if_neg h]
  have hF:Ee l m d s=Ay l:=by rw[Ee,hM,if_neg h]
  have hW:D3 l m d s t=(0,0,0):=by rw[D3,if_neg (by rw[hF];exact h)]
  have hE:Ff l m d s t=⟨0,0,false,0⟩:=by rw[Ff,if_neg (by rw[hF];exact h)]
  rw[hF,hW,hE];exact zA1 a n cap l m d s t w hn hr hc h
end Go.Proofs.YtppfkokfnoeopaaGreatDoor
