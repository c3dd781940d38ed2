/- A part of a proof. -/
import Derived.Test.YtppfkokfnoeopaaGreatDoorDFramePlain
import Derived.Test.YtppfkokfnoeopaaGreatDoorDPlan
namespace Go.Proofs.YtppfkokfnoeopaaGreatDoor
open Go.RowKit
def viewE(m d s:Int):Nat:=if crewB m&&viewB d s then 0 else 2
def memRF(l:List Int)(m d s:Int):Nat×Int:=if (planF l).1=0 then(viewE m d s,-1) else planF l
theorem shl_bit{node:Int}(hn:nodeB node=true):wrap64 ((2:Int)^(node.toNat-1))=(bitOf node:Int):=by
 simp only[nodeB,decide_eq_true_eq] at hn;have hc:node=1∨node=2∨node=3∨node=4∨node=5∨node=6∨node=7∨node=8∨node=9∨node=10∨node=11∨node=12∨node=13∨node=14∨node=15∨node=16:=by omega
 rcases hc with rfl|rfl|rfl|rfl|rfl|rfl|rfl|rfl|rfl|rfl|rfl|rfl|rfl|rfl|rfl|rfl<;>decide +kernel
theorem with_any(m:Nat)(d s node:Int)(w:World)(hm:m<65536)(hn:nodeB node=true) :
 Calls Tryz.prog 220 #[.agg #[.int .i64 m,.int .i64 d,.int .i64 s],.int .i64 node] w fun e w'=>e=.returned (.agg #[.int .i64 ((m|||bitOf node:Nat):Int),.int .i64 d,.int .i64 s])∧Below w.heap.size w w':=by
 have hb:=bitOf_lt hn;have hO:bits .or .i64 (m:Int) (bitOf node:Int)=((m|||bitOf node:Nat):Int):=or_nat _ _ (by omega) (by omega);have hsh:=shl_bit hn;rw[←hsh] at hO;have HO:=Lib.hid hO;simp only[nodeB,decide_eq_true_eq] at hn;have h1:¬(node-1<0):=by omega
 clear hO hsh;go_enter Tryz.func220,Tryz.ntmps220;go_wp2;go_region
 all_goals
  go_wp2;refine bodyPost_ret (v:=.agg #[.int .i64 ((m|||bitOf node:Nat):Int),.int .i64 d,.int .i64 s]) (by simp[results,Tryz.results220,go_sem,HO.out]) rfl ?_;exact⟨rfl,(((Below.refl _ _).alloc (Nat.le_refl _) _).alloc (by simp) _).drew⟩
set_option maxHeartbeats 800000 in
theorem memCheck_any(ea:Nat→Addr)(m d s:Int)(w:World)(hg:Glob w ea [2]) :
 Calls Tryz.prog 260 #[.agg #[.int .i64 m,.int .i64 d,.int .i64 s]] w fun e w'=>e=.returned (errV ea (viewE m d s))∧Below w.heap.size w w':=by
 have hb0:Below w.heap.size w (w.alloc (.cells #[.int .i64 m,.int .i64 d,.int .i64 s] 96)):=(Below.refl _ _).alloc (Nat.le_refl _) _;have hgb:=hg.below hb0;have g2:=hgb.cell 2 (by simp);simp only[gOf] at g2;have KC:=Lib.hid (crewCheck_any ea m _ (hgb.sub (by simp)))
 cases hm:crewB m
 ·have HV:Hid (viewE m d s=2):=by unfold Hid;rw[viewE,hm];rfl
  have he:errV ea (crewE m)=.iface 346 (.pointer (some (ea 2))):=by rw[crewE,hm];exact errV_pos ea (by decide)
  rw[he] at KC;have HP:=Lib.hid (errV_pos ea (k:=2) (by decide));clear hg hgb hm he;go_enter Tryz.func260,Tryz.ntmps260;go_wp2_with fail;refine KC.out.mono ?_;rintro e w1⟨rfl,rfl⟩;go_wp2;go_ret;exact⟨by rw[HV.out,HP.out];rfl,hb0⟩
 ·have he:errV ea (crewE m)=.nilIface:=by rw[crewE,hm];exact errV_zero ea
  rw[he] at KC;have HV:Hid (viewE m d s=if viewB d s then 0 else 2):=by unfold Hid;rw[viewE,hm];rfl
  clear hg hgb hm he
  by_cases h1:d<0
  ·have HX:Hid (viewE m d s=2):=by unfold Hid;rw[HV.out,if_neg (by simp[viewB];omega)]
   clear HV;go_enter Tryz.func260,Tryz.ntmps260;go_wp2_with fail;refine KC.out.mono ?_;rintro e w1⟨rfl,rfl⟩;go_wp2;go_ret;exact⟨by rw[HX.out];rfl,hb0⟩
  ·have d1:decide (d<0)=false:=by simpa using h1
   by_cases h2:4≤d
   ·have HX:Hid (viewE m d s=2):=by unfold Hid;rw[HV.out,if_neg (by simp[viewB];omega)]
    clear HV;go_enter Tryz.func260,Tryz.ntmps260;go_wp2_with fail;refine KC.out.mono ?_;rintro e w1⟨rfl,rfl⟩;go_wp2;go_ret;exact⟨by rw[HX.out];rfl,hb0⟩
   ·have d2:decide (4≤d)=false:=by simpa using h2
    by_cases h3:s<0
    ·have HX:Hid (viewE m d s=2):=by unfold Hid;rw[HV.out,if_neg (by simp[viewB];omega)]
     clear HV;go_enter Tryz.func260,Tryz.ntmps260;go_wp2_with fail;refine KC.out.mono ?_;rintro e w1⟨rfl,rfl⟩;go_wp2;go_ret;exact⟨by rw[HX.out];rfl,hb0⟩
    ·have d3:decide (s<0)=false:=by simpa using h3
     by_cases h4:1000000<s
     ·have HX:Hid (viewE m d s=2):=by unfold Hid;rw[HV.out,if_neg (by simp[viewB];omega)]
      clear HV;go_enter Tryz.func260,Tryz.ntmps260;go_wp2_with fail;refine KC.out.mono ?_;rintro e w1⟨rfl,rfl⟩;go_wp2;go_ret;exact⟨by rw[HX.out];rfl,hb0⟩
     ·have d4:decide (1000000<s)=false:=by simpa using h4
      have HX:Hid (viewE m d s=0):=by unfold Hid;rw[HV.out,if_pos (by simp[viewB];omega)]
      clear HV;go_enter Tryz.func260,Tryz.ntmps260;go_wp2_with fail;refine KC.out.mono ?_;rintro e w1⟨rfl,rfl⟩;go_wp2;go_ret;exact⟨by rw[HX.out,errV_zero];rfl,hb0⟩
theorem viewE_zero{m d s:Int}(h:viewE m d s=0):crewB m=true∧viewB d s=true:=by
 unfold viewE at h
 split at h
 ·rename_i h1;simpa using h1
 ·cases h
theorem viewE_two{m d s:Int}(h:viewE m d s≠0):viewE m d s=2:=by
 unfold viewE at h ⊢
 split
 ·rename_i h1;rw[if_pos h1] at h;exact absurd rfl h
 ·rfl
theorem memRF_ok{l:List Int}{m d s:Int}(h:(memRF l m d s).1=0):(planF l).1=0∧viewE m d s=0∧memRF l m d s=(0,-1)∧(rightF l s).1=0:=by
 unfold memRF at h ⊢
 split at h
 ·rename_i h1
  have h:viewE m d s=0:=h;refine⟨h1,h,by rw[if_pos h1,h],?_⟩;obtain⟨_,hv⟩:=viewE_zero h;simp only[viewB,decide_eq_true_eq] at hv;rw[rightF,if_pos h1,if_pos (by omega)]
 ·rename_i h1;exact absurd h h1
set_option maxHeartbeats 800000 in
theorem memRight_any(ea:Nat→Addr)(a:Option Addr)(n cap:Nat)(l:List Int)(m d s:Int)(w:World)(hg:Glob w ea [2,4,5,7])(hn:l.length=n)(hr:RowAt w a (encInts l))(hc:n≤4611686018427387904) :
 Calls Tryz.prog 218 #[.slice a n cap,.agg #[.int .i64 m,.int .i64 d,.int .i64 s]] w fun e w'=>∃v,e=.returned (.tuple #[.int .i64 (if (memRF l m d s).1=0 then whoV l s.toNat else 0),v])∧ErrIs ea w' v (memRF l m d s).1 (memRF l m d s).2∧Below w.heap.size w w':=by
 have hb0:Below w.heap.size w (w.alloc (.cells #[.int .i64 m,.int .i64 d,.int .i64 s] 96)):=(Below.refl _ _).alloc (Nat.le_refl _) _;have KP:=Lib.hid (fun(W:World) (h:Below w.heap.size w W)=>planCheck_any ea a n cap l W ((hg.below h).sub (by simp)) hn (hr.below h) hc);have KC:=Lib.hid (fun(W:World) (h:Below w.heap.size w W)=>memCheck_any ea m d s W ((hg.below h).sub (by simp)));have KW:=Lib.hid (fun(W:World) (h:Below w.heap.size w W)=>who_any ea a n cap l s W ((hg.below h).sub (by simp)) hn (hr.below h) hc)
 by_cases h1:(planF l).1=0
 ·have hp:=(planF_ok h1).1
  by_cases h2:viewE m d s=0
  ·have hM:memRF l m d s=(0,-1):=by rw[memRF,if_pos h1,h2]
   have hR:(rightF l s).1=0:=(memRF_ok (by rw[hM])).2.2.2;rw[hp] at KP;rw[h2,errV_zero] at KC;rw[whoF,if_pos hR,rightF_zero hR] at KW;rw[hM];clear hg hr hn h1 h2 hp hM hR;generalize whoV l s.toNat=who at *;go_enter Tryz.func218,Tryz.ntmps218;go_wp2_with fail;refine(KP.out _ hb0).mono ?_;rintro e w1⟨v,rfl,hv,hb1⟩;obtain rfl:v=.nilIface:=hv.nil;have hv1:=hb0.trans (hb1.mono hb0.size);have c0:w1.cell? ⟨w.heap.size,0,none⟩=some (.int .i64 m):=(hb1.cell (p:=⟨w.heap.size,0,none⟩) (by simp)).trans (by simp);have c1:w1.cell? ⟨w.heap.size,1,none⟩=some (.int .i64 d):=(hb1.cell (p:=⟨w.heap.size,1,none⟩) (by simp)).trans (by simp);have c2:w1.cell? ⟨w.heap.size,2,none⟩=some (.int .i64 s):=(hb1.cell (p:=⟨w.heap.size,2,none⟩) (by simp)).trans (by simp);have hz1:w.heap.size<w1.heap.size:=by have:=hb1.size;simp at this;omega
   go_wp2_with fail;refine(KC.out _ hv1).mono ?_;rintro e w2⟨rfl,hb2⟩;have hv2:=hv1.trans (hb2.mono hv1.size);have c2:=(hb2.cell (p:=⟨w.heap.size,2,none⟩) hz1).trans c2;go_wp2_with fail;refine(KW.out _ hv2).mono ?_;rintro e w3⟨v,rfl,hv,hb3⟩;go_wp2;go_ret2;exact⟨v,rfl,hv,hv2.trans (hb3.mono hv2.size)⟩
  ·have hM:memRF l m d s=(2,-1):=by rw[memRF,if_pos h1,viewE_two h2]
   rw[hp] at KP;rw[viewE_two h2,errV_pos ea (by decide)] at KC;rw[hM];have HP:=Lib.hid (errV_pos ea (k:=2) (by decide));clear hg hr hn h1 h2 hp hM;go_enter Tryz.func218,Tryz.ntmps218;go_wp2_with fail;refine(KP.out _ hb0).mono ?_;rintro e w1⟨v,rfl,hv,hb1⟩;obtain rfl:v=.nilIface:=hv.nil;have hv1:=hb0.trans (hb1.mono hb0.size);have c0:w1.cell? ⟨w.heap.size,0,none⟩=some (.int .i64 m):=(hb1.cell (p:=⟨w.heap.size,0,none⟩) (by simp)).trans (by simp);have c1:w1.cell? ⟨w.heap.size,1,none⟩=some (.int .i64 d):=(hb1.cell (p:=⟨w.heap.size,1,none⟩) (by simp)).trans (by simp);have c2:w1.cell? ⟨w.heap.size,2,none⟩=some (.int .i64 s):=(hb1.cell (p:=⟨w.heap.size,2,none⟩) (by simp)).trans (by simp);go_wp2_with fail;refine(KC.out _ hv1).mono ?_;rintro e w2⟨rfl,hb2⟩;go_wp2;go_ret2;exact⟨_,rfl,by rw[←HP.out];exact Or.inl ⟨rfl,rfl⟩,hv1.trans (hb2.mono hv1.size)⟩
 ·have hM:memRF l m d s=planF l:=by rw[memRF,if_neg h1]
  rw[hM,if_neg h1];have H1:=Lib.hid h1;clear hg hr hn h1 hM;go_enter Tryz.func218,Tryz.ntmps218;go_wp2_with fail;refine(KP.out _ hb0).mono ?_;rintro e w1⟨v,rfl,hv,hb1⟩;obtain⟨vt,vx,rfl⟩:=hv.held H1.out;go_wp2;go_ret2;exact⟨_,rfl,hv,hb0.trans (hb1.mono hb0.size)⟩
set_option maxRecDepth 100000 in
theorem run_view_eql(W:World)(a b c a' b' c':Int):(binOp .eql 96 (.agg #[.int .i64 a,.int .i64 b,.int .i64 c]) (.agg #[.int .i64 a',.int .i64 b',.int .i64 c'])).run Tryz.prog W=.ok (.bool (a==a'&&(b==b'&&c==c'))) W:=by
 cases h1:(a==a')<;>cases h2:(b==b')<;>cases h3:(c==c')
 all_goals go_simp
def stepB(who:Int)(m:Nat)(d s:Int)(t:List UInt8):Bool:=decide ((frameF t).1=0∧(frameF t).2.frm=who∧(frameF t).2.mem=((m|||bitOf who:Nat):Int)∧(frameF t).2.mode=d∧(frameF t).2.slot=s)
set_option maxRecDepth 100000 in
set_option maxHeartbeats 1600000 in
theorem step_heard(ea:Nat→Addr)(a:Option Addr)(n cap:Nat)(l:List Int)(m:Nat)(d s:Int)(t:List UInt8)(w:World)(hg:Glob w ea [1,2,3,4,5,7,8])(hT:TxtEnv w)(hn:l.length=n)(hr:RowAt w a (encInts l))(hc:n≤4611686018427387904)(ht:t.length≤4294967280)
 (h:(memRF l m d s).1=0) (hs:s<1000000) (hG:stepB (whoV l s.toNat) m d s t=true) :
 Calls Tryz.prog 184 #[.slice a n cap,.agg #[.int .i64 m,.int .i64 d,.int .i64 s],.string ⟨t.toArray⟩] w fun e w'=>
  e=.returned (.tuple #[.agg #[.int .i64 ((m|||bitOf (whoV l s.toNat):Nat):Int),.int .i64 d,.int .i64 (s+1)],.agg #[.int .i64 s,.int .i64 (whoV l s.toNat),.bool true,.int .i64 (frameF t).2.value],.nilIface])∧Below w.heap.size w w':=by
 obtain⟨hp,hv,hM,hR⟩:=memRF_ok h;obtain⟨hcm,hvd⟩:=viewE_zero hv;have hmlt:m<65536:=by simp only[crewB,decide_eq_true_eq] at hcm;omega
 have hs0:0≤s:=by simp only[viewB,decide_eq_true_eq] at hvd;omega
 have hnd:nodeB (whoV l s.toNat)=true:=(planF_ok hp).2.2.2 _ (whoV_mem l _ (planF_ok hp).2.1);have KR:=Lib.hid (fun(W:World) (h:Below w.heap.size w W)=>memRight_any ea a n cap l m d s W ((hg.below h).sub (by simp)) hn (hr.below h) hc);rw[hM] at KR;simp only[if_true] at KR;have KW:=Lib.hid (fun(W:World)=>with_any m d s (whoV l s.toNat) W hmlt hnd);have KF:=Lib.hid (fun(W:World) (h:Below w.heap.size w W)=>fread_any ea t W ((hg.below h).sub (by simp)) (hT.below h) ht);simp only[stepB,decide_eq_true_eq] at hG;obtain⟨g0,g1,g2,g3,g4⟩:=hG;rw[g0,errV_zero] at KF;simp only[Frm.arr,g1,g2,g3,g4] at KF;have hq:=run_view_eql
 have HQ:∀W:World,(binOp .eql 96 (.agg #[.int .i64 ((m|||bitOf (whoV l s.toNat):Nat):Int),.int .i64 d,.int .i64 s]) (.agg #[.int .i64 ((m|||bitOf (whoV l s.toNat):Nat):Int),.int .i64 d,.int .i64 s])).run Tryz.prog W=.ok (.bool true) W:=fun W=>by
  rw[run_view_eql];simp
 have hb0:Below w.heap.size w (((w.alloc (.cells #[.int .i64 m,.int .i64 d,.int .i64 s] 96)).alloc (.cells #[.int .i64 0,.int .i64 0,.int .i64 0] 96)).alloc (.cells #[.int .i64 0,.int .i64 0,.bool false,.int .i64 0] 146)):=(((Below.refl _ _).alloc (Nat.le_refl _) _).alloc (by simp) _).alloc (by simp;omega) _;have hsl:decide (1000000≤s)=false:=by simpa using hs
 have hw:wrap64 (s+1)=s+1:=by unfold wrap64;omega
 generalize (frameF t).2.value=val at *;generalize whoV l s.toNat=who at *;generalize m|||bitOf who=M at *
 clear hg hT hn hr h hp hv hM hR hcm hvd hnd g0 g1 g2 g3 g4 hq hs;go_enter Tryz.func184,Tryz.ntmps184;go_wp2_with fail;have b0:Blok (((w.alloc (.cells #[.int .i64 m,.int .i64 d,.int .i64 s] 96)).alloc (.cells #[.int .i64 0,.int .i64 0,.int .i64 0] 96)).alloc (.cells #[.int .i64 0,.int .i64 0,.bool false,.int .i64 0] 146)) w.heap.size 96 #[.int .i64 m,.int .i64 d,.int .i64 s]:=((Blok.new w _ _).alloc _).alloc _
 have b1:Blok (((w.alloc (.cells #[.int .i64 m,.int .i64 d,.int .i64 s] 96)).alloc (.cells #[.int .i64 0,.int .i64 0,.int .i64 0] 96)).alloc (.cells #[.int .i64 0,.int .i64 0,.bool false,.int .i64 0] 146)) (w.heap.size+1) 96 #[.int .i64 0,.int .i64 0,.int .i64 0]:=by
  have:=(Blok.new (w.alloc (.cells #[.int .i64 m,.int .i64 d,.int .i64 s] 96)) 96 #[.int .i64 0,.int .i64 0,.int .i64 0]).alloc (.cells #[.int .i64 0,.int .i64 0,.bool false,.int .i64 0] 146)
  rwa [World.size_alloc] at this
 have b2:Blok (((w.alloc (.cells #[.int .i64 m,.int .i64 d,.int .i64 s] 96)).alloc (.cells #[.int .i64 0,.int .i64 0,.int .i64 0] 96)).alloc (.cells #[.int .i64 0,.int .i64 0,.bool false,.int .i64 0] 146)) (w.heap.size+1+1) 146 #[.int .i64 0,.int .i64 0,.bool false,.int .i64 0]:=by
  have:=Blok.new ((w.alloc (.cells #[.int .i64 m,.int .i64 d,.int .i64 s] 96)).alloc (.cells #[.int .i64 0,.int .i64 0,.int .i64 0] 96)) 146 #[.int .i64 0,.int .i64 0,.bool false,.int .i64 0]
  rwa [World.size_alloc,World.size_alloc] at this
 generalize hW0:(((w.alloc (.cells #[.int .i64 m,.int .i64 d,.int .i64 s] 96)).alloc (.cells #[.int .i64 0,.int .i64 0,.int .i64 0] 96)).alloc (.cells #[.int .i64 0,.int .i64 0,.bool false,.int .i64 0] 146))=W0 at *;clear hW0;refine(KR.out _ hb0).mono ?_;rintro e w1⟨v,rfl,hv,hb1⟩;obtain rfl:v=.nilIface:=hv.nil;have hv1:=hb0.trans (hb1.mono hb0.size);have b0:=b0.kept hb1;have b1:=b1.kept hb1;have b2:=b2.kept hb1;have c0:=b0.cell 0 rfl;have c1:=b0.cell 1 rfl;have c2:=b0.cell 2 rfl;have c3:=(b0.alloc (.cells #[.int .i64 s,.int .i64 who,.bool false,.int .i64 0] 146)).cell 0 rfl;have c4:=(b0.alloc (.cells #[.int .i64 s,.int .i64 who,.bool false,.int .i64 0] 146)).cell 1 rfl;have c5:=(b0.alloc (.cells #[.int .i64 s,.int .i64 who,.bool false,.int .i64 0] 146)).cell 2 rfl;clear hb1 hv;go_wp2_with fail;refine(KW.out _).mono ?_;rintro e w2⟨rfl,hb2⟩;have b3:=(Blok.new w1 146 #[.int .i64 s,.int .i64 who,.bool false,.int .i64 0]).kept hb2;have hb12:Below w1.heap.size w1 w2:=((Below.refl _ _).alloc (Nat.le_refl _) _).trans (hb2.mono (by simp));have hE:=b2.lt;have b0:=b0.kept hb12;have b1:=b1.kept hb12;have b2:=b2.kept hb12;have hv2:=hv1.trans (hb12.mono hv1.size);clear hb2 hb12 c0 c1 c2 c3 c4 c5;generalize w1.heap.size=E at *;go_wp2_with fail;have hvN:Below w.heap.size w (w2.alloc (.cells #[.int .i64 M,.int .i64 d,.int .i64 s] 96)):=hv2.alloc hv2.size _;refine(KF.out _ hvN).mono ?_;rintro e w3⟨rfl,hb3⟩;have b4:=(Blok.new w2 96 #[.int .i64 M,.int .i64 d,.int .i64 s]).kept hb3;have hv3:=hvN.trans (hb3.mono hvN.size);have hN:=b3.lt;have b0:=(b0.alloc _).kept hb3;have b1:=(b1.alloc _).kept hb3;have b2:=(b2.alloc _).kept hb3;have b3:=(b3.alloc _).kept hb3;clear hb3 hvN hv2 hv1;generalize w2.heap.size=N at *;have hF:=b4.lt;have c5:=(b4.alloc (.cells #[.int .i64 who,.int .i64 M,.int .i64 d,.int .i64 s,.int .i64 val] 256)).cell 0 rfl;have c6:=(b4.alloc (.cells #[.int .i64 who,.int .i64 M,.int .i64 d,.int .i64 s,.int .i64 val] 256)).cell 1 rfl;have c7:=(b4.alloc (.cells #[.int .i64 who,.int .i64 M,.int .i64 d,.int .i64 s,.int .i64 val] 256)).cell 2 rfl;go_wp2;have b5:=Blok.new w3 256 #[.int .i64 who,.int .i64 M,.int .i64 d,.int .i64 s,.int .i64 val];have b0:=b0.alloc (.cells #[.int .i64 who,.int .i64 M,.int .i64 d,.int .i64 s,.int .i64 val] 256);have b1:=b1.alloc (.cells #[.int .i64 who,.int .i64 M,.int .i64 d,.int .i64 s,.int .i64 val] 256);have b2:=b2.alloc (.cells #[.int .i64 who,.int .i64 M,.int .i64 d,.int .i64 s,.int .i64 val] 256);have b3:=b3.alloc (.cells #[.int .i64 who,.int .i64 M,.int .i64 d,.int .i64 s,.int .i64 val] 256);have b4:=b4.alloc (.cells #[.int .i64 who,.int .i64 M,.int .i64 d,.int .i64 s,.int .i64 val] 256);have hv4:=hv3.alloc hv3.size (.cells #[.int .i64 who,.int .i64 M,.int .i64 d,.int .i64 s,.int .i64 val] 256);generalize hW4:w3.alloc (.cells #[.int .i64 who,.int .i64 M,.int .i64 d,.int .i64 s,.int .i64 val] 256)=W4 at *;clear hW4 c5 c6 c7;have v2:=b5.cell 4 rfl;generalize w3.heap.size=F at *;have hne1:¬(w.heap.size+1=E):=by omega
 have hne2:¬(w.heap.size+1=N):=by omega
 have hne3:¬(w.heap.size+1+1=E):=by omega
 have hne4:¬(w.heap.size+1+1=N):=by omega
 have hne5:¬(E=N):=by omega
 have hne6:¬(E=w.heap.size+1):=by omega
 have hne7:¬(N=w.heap.size+1):=by omega
 have hne8:¬(E=w.heap.size+1+1):=by omega
 have hne9:¬(N=w.heap.size+1+1):=by omega
 have hne0:¬(N=E):=by omega
 have e0:=b1.cell 0 rfl;have e1:=b1.cell 1 rfl;have e2:=b1.cell 2 rfl;have e3:=b2.cell 0 rfl;have e4:=b2.cell 1 rfl;have e5:=b2.cell 2 rfl;have e6:=b2.cell 3 rfl;have d0:=b3.cell 0 rfl;have d1:=b3.cell 1 rfl;have d2:=b3.cell 2 rfl;have d3:=b3.cell 3 rfl;have c0:=b4.cell 0 rfl;have c1:=b4.cell 1 rfl;have c2:=b4.cell 2 rfl;have q0:=b1.frozen 0;have q1:=b1.frozen 1;have q2:=b1.frozen 2;have q3:=b2.frozen 0;have q4:=b2.frozen 1;have q5:=b2.frozen 2;have q6:=b2.frozen 3;have r2:=b3.frozen 2;have r3:=b3.frozen 3;have r4:=b4.frozen 2;have r5:=b4.frozen 0;go_region
 all_goals go_wp2
 all_goals go_region
 all_goals
  go_wp2;refine bodyPost_ret (v:=.tuple #[.agg #[.int .i64 M,.int .i64 d,.int .i64 (s+1)],.agg #[.int .i64 s,.int .i64 who,.bool true,.int .i64 val],.nilIface]) (by simp[results,Tryz.results184,go_sem,e0,e1,e2,e3,e4,e5,e6]) rfl ?_;refine⟨rfl,?_⟩
  repeat(first|(with_reducible exact hv4)|(with_reducible refine Below.drew ?_)|(with_reducible refine Below.setCell ?_ (by simp<;>omega) _))
set_option maxRecDepth 100000 in
set_option maxHeartbeats 1600000 in
theorem step_err(ea:Nat→Addr)(a:Option Addr)(n cap:Nat)(l:List Int)(m:Nat)(d s:Int)(t:List UInt8)(w:World)(hg:Glob w ea [1,2,3,4,5,7,8])(hT:TxtEnv w)(hn:l.length=n)(hr:RowAt w a (encInts l))(hc:n≤4611686018427387904)(ht:t.length≤4294967280)
 (h:(memRF l m d s).1=0) (hs:s<1000000) (hG:(frameF t).1≠0) :
 Calls Tryz.prog 184 #[.slice a n cap,.agg #[.int .i64 m,.int .i64 d,.int .i64 s],.string ⟨t.toArray⟩] w fun e w'=>
  e=.returned (.tuple #[.agg #[.int .i64 ((lessN (m|||bitOf (whoV l s.toNat)) (bitOf (whoV l s.toNat)):Nat):Int),.int .i64 d,.int .i64 (s+1)],.agg #[.int .i64 s,.int .i64 (whoV l s.toNat),.bool false,.int .i64 0],.nilIface])∧Below w.heap.size w w':=by
 obtain⟨hp,hv,hM,hR⟩:=memRF_ok h;obtain⟨hcm,hvd⟩:=viewE_zero hv;have hmlt:m<65536:=by simp only[crewB,decide_eq_true_eq] at hcm;omega
 have hs0:0≤s:=by simp only[viewB,decide_eq_true_eq] at hvd;omega
 have hnd:nodeB (whoV l s.toNat)=true:=(planF_ok hp).2.2.2 _ (whoV_mem l _ (planF_ok hp).2.1);have KR:=Lib.hid (fun(W:World) (h:Below w.heap.size w W)=>memRight_any ea a n cap l m d s W ((hg.below h).sub (by simp)) hn (hr.below h) hc);rw[hM] at KR;simp only[if_true] at KR;have KW:=Lib.hid (fun(W:World)=>with_any m d s (whoV l s.toNat) W hmlt hnd);have KF:=Lib.hid (fun(W:World) (h:Below w.heap.size w W)=>fread_any ea t W ((hg.below h).sub (by simp)) (hT.below h) ht);rw[errV_pos ea hG] at KF;simp only[Frm.arr] at KF;clear hG;generalize (frameF t).2.frm=x0 at *;generalize (frameF t).2.mem=x1 at *;generalize (frameF t).2.mode=x2 at *;generalize (frameF t).2.slot=x3 at *;generalize (frameF t).2.value=x4 at *;have hb0:Below w.heap.size w (((w.alloc (.cells #[.int .i64 m,.int .i64 d,.int .i64 s] 96)).alloc (.cells #[.int .i64 0,.int .i64 0,.int .i64 0] 96)).alloc (.cells #[.int .i64 0,.int .i64 0,.bool false,.int .i64 0] 146)):=(((Below.refl _ _).alloc (Nat.le_refl _) _).alloc (by simp) _).alloc (by simp;omega) _;have hsl:decide (1000000≤s)=false:=by simpa using hs
 have hw:wrap64 (s+1)=s+1:=by unfold wrap64;omega
 have hbl:=bitOf_lt hnd;have hor:m|||bitOf (whoV l s.toNat)<65536:=Nat.or_lt_two_pow (n:=16) hmlt hbl
 have hO:=andNot_nat (m|||bitOf (whoV l s.toNat)) (bitOf (whoV l s.toNat)) (by omega) (by omega);rw[←shl_bit hnd] at hO;have hw1:¬(whoV l s.toNat-1<0):=by simp only[nodeB,decide_eq_true_eq] at hnd;omega
 have hw2:1≤whoV l s.toNat∧whoV l s.toNat≤16:=by simpa only[nodeB,decide_eq_true_eq] using hnd
 generalize whoV l s.toNat=who at *;generalize hMM:m|||bitOf who=M at *
 generalize lessN M (bitOf who)=M2 at *;clear hMM hg hT hn hr h hp hv hM hR hcm hvd hnd hs hor hbl;go_enter Tryz.func184,Tryz.ntmps184;go_wp2_with fail;have b0:Blok (((w.alloc (.cells #[.int .i64 m,.int .i64 d,.int .i64 s] 96)).alloc (.cells #[.int .i64 0,.int .i64 0,.int .i64 0] 96)).alloc (.cells #[.int .i64 0,.int .i64 0,.bool false,.int .i64 0] 146)) w.heap.size 96 #[.int .i64 m,.int .i64 d,.int .i64 s]:=((Blok.new w _ _).alloc _).alloc _
 have b1:Blok (((w.alloc (.cells #[.int .i64 m,.int .i64 d,.int .i64 s] 96)).alloc (.cells #[.int .i64 0,.int .i64 0,.int .i64 0] 96)).alloc (.cells #[.int .i64 0,.int .i64 0,.bool false,.int .i64 0] 146)) (w.heap.size+1) 96 #[.int .i64 0,.int .i64 0,.int .i64 0]:=by
  have:=(Blok.new (w.alloc (.cells #[.int .i64 m,.int .i64 d,.int .i64 s] 96)) 96 #[.int .i64 0,.int .i64 0,.int .i64 0]).alloc (.cells #[.int .i64 0,.int .i64 0,.bool false,.int .i64 0] 146)
  rwa [World.size_alloc] at this
 have b2:Blok (((w.alloc (.cells #[.int .i64 m,.int .i64 d,.int .i64 s] 96)).alloc (.cells #[.int .i64 0,.int .i64 0,.int .i64 0] 96)).alloc (.cells #[.int .i64 0,.int .i64 0,.bool false,.int .i64 0] 146)) (w.heap.size+1+1) 146 #[.int .i64 0,.int .i64 0,.bool false,.int .i64 0]:=by
  have:=Blok.new ((w.alloc (.cells #[.int .i64 m,.int .i64 d,.int .i64 s] 96)).alloc (.cells #[.int .i64 0,.int .i64 0,.int .i64 0] 96)) 146 #[.int .i64 0,.int .i64 0,.bool false,.int .i64 0]
  rwa [World.size_alloc,World.size_alloc] at this
 generalize hW0:(((w.alloc (.cells #[.int .i64 m,.int .i64 d,.int .i64 s] 96)).alloc (.cells #[.int .i64 0,.int .i64 0,.int .i64 0] 96)).alloc (.cells #[.int .i64 0,.int .i64 0,.bool false,.int .i64 0] 146))=W0 at *;clear hW0;refine(KR.out _ hb0).mono ?_;rintro e w1⟨v,rfl,hv,hb1⟩;obtain rfl:v=.nilIface:=hv.nil;have hv1:=hb0.trans (hb1.mono hb0.size);have b0:=b0.kept hb1;have b1:=b1.kept hb1;have b2:=b2.kept hb1;have c0:=b0.cell 0 rfl;have c1:=b0.cell 1 rfl;have c2:=b0.cell 2 rfl;have c3:=(b0.alloc (.cells #[.int .i64 s,.int .i64 who,.bool false,.int .i64 0] 146)).cell 0 rfl;have c4:=(b0.alloc (.cells #[.int .i64 s,.int .i64 who,.bool false,.int .i64 0] 146)).cell 1 rfl;have c5:=(b0.alloc (.cells #[.int .i64 s,.int .i64 who,.bool false,.int .i64 0] 146)).cell 2 rfl;clear hb1 hv;go_wp2_with fail;refine(KW.out _).mono ?_;rintro e w2⟨rfl,hb2⟩;have b3:=(Blok.new w1 146 #[.int .i64 s,.int .i64 who,.bool false,.int .i64 0]).kept hb2;have hb12:Below w1.heap.size w1 w2:=((Below.refl _ _).alloc (Nat.le_refl _) _).trans (hb2.mono (by simp));have hE:=b2.lt;have b0:=b0.kept hb12;have b1:=b1.kept hb12;have b2:=b2.kept hb12;have hv2:=hv1.trans (hb12.mono hv1.size);clear hb2 hb12 c0 c1 c2 c3 c4 c5;generalize w1.heap.size=E at *;go_wp2_with fail;have hvN:Below w.heap.size w (w2.alloc (.cells #[.int .i64 M,.int .i64 d,.int .i64 s] 96)):=hv2.alloc hv2.size _;refine(KF.out _ hvN).mono ?_;rintro e w3⟨rfl,hb3⟩;have b4:=(Blok.new w2 96 #[.int .i64 M,.int .i64 d,.int .i64 s]).kept hb3;have hv3:=hvN.trans (hb3.mono hvN.size);have hN:=b3.lt;have b0:=(b0.alloc _).kept hb3;have b1:=(b1.alloc _).kept hb3;have b2:=(b2.alloc _).kept hb3;have b3:=(b3.alloc _).kept hb3;clear hb3 hvN hv2 hv1;generalize w2.heap.size=N at *;have hF:=b4.lt;have c5:=(b4.alloc (.cells #[.int .i64 x0,.int .i64 x1,.int .i64 x2,.int .i64 x3,.int .i64 x4] 256)).cell 0 rfl;have c6:=(b4.alloc (.cells #[.int .i64 x0,.int .i64 x1,.int .i64 x2,.int .i64 x3,.int .i64 x4] 256)).cell 1 rfl;have c7:=(b4.alloc (.cells #[.int .i64 x0,.int .i64 x1,.int .i64 x2,.int .i64 x3,.int .i64 x4] 256)).cell 2 rfl;go_wp2;have b5:=Blok.new w3 256 #[.int .i64 x0,.int .i64 x1,.int .i64 x2,.int .i64 x3,.int .i64 x4];have b0:=b0.alloc (.cells #[.int .i64 x0,.int .i64 x1,.int .i64 x2,.int .i64 x3,.int .i64 x4] 256);have b1:=b1.alloc (.cells #[.int .i64 x0,.int .i64 x1,.int .i64 x2,.int .i64 x3,.int .i64 x4] 256);have b2:=b2.alloc (.cells #[.int .i64 x0,.int .i64 x1,.int .i64 x2,.int .i64 x3,.int .i64 x4] 256);have b3:=b3.alloc (.cells #[.int .i64 x0,.int .i64 x1,.int .i64 x2,.int .i64 x3,.int .i64 x4] 256);have b4:=b4.alloc (.cells #[.int .i64 x0,.int .i64 x1,.int .i64 x2,.int .i64 x3,.int .i64 x4] 256);have hv4:=hv3.alloc hv3.size (.cells #[.int .i64 x0,.int .i64 x1,.int .i64 x2,.int .i64 x3,.int .i64 x4] 256);generalize hW4:w3.alloc (.cells #[.int .i64 x0,.int .i64 x1,.int .i64 x2,.int .i64 x3,.int .i64 x4] 256)=W4 at *;clear hW4 c5 c6 c7;have v2:=b5.cell 4 rfl;generalize w3.heap.size=F at *;have hne1:¬(w.heap.size+1=E):=by omega
 have hne2:¬(w.heap.size+1=N):=by omega
 have hne3:¬(w.heap.size+1+1=E):=by omega
 have hne4:¬(w.heap.size+1+1=N):=by omega
 have hne5:¬(E=N):=by omega
 have hne6:¬(E=w.heap.size+1):=by omega
 have hne7:¬(N=w.heap.size+1):=by omega
 have hne8:¬(E=w.heap.size+1+1):=by omega
 have hne9:¬(N=w.heap.size+1+1):=by omega
 have hne0:¬(N=E):=by omega
 have e0:=b1.cell 0 rfl;have e1:=b1.cell 1 rfl;have e2:=b1.cell 2 rfl;have e3:=b2.cell 0 rfl;have e4:=b2.cell 1 rfl;have e5:=b2.cell 2 rfl;have e6:=b2.cell 3 rfl;have d0:=b3.cell 0 rfl;have d1:=b3.cell 1 rfl;have d2:=b3.cell 2 rfl;have d3:=b3.cell 3 rfl;have c0:=b4.cell 0 rfl;have c1:=b4.cell 1 rfl;have c2:=b4.cell 2 rfl;have q0:=b1.frozen 0;have q1:=b1.frozen 1;have q2:=b1.frozen 2;have q3:=b2.frozen 0;have q4:=b2.frozen 1;have q5:=b2.frozen 2;have q6:=b2.frozen 3;have r2:=b3.frozen 2;have r3:=b3.frozen 3;have r4:=b4.frozen 2;have r5:=b4.frozen 0;go_region
 all_goals go_wp2
 all_goals go_region
 all_goals
  go_wp2;refine bodyPost_ret (v:=.tuple #[.agg #[.int .i64 M2,.int .i64 d,.int .i64 (s+1)],.agg #[.int .i64 s,.int .i64 who,.bool false,.int .i64 0],.nilIface]) (by simp[results,Tryz.results184,go_sem,e0,e1,e2,e3,e4,e5,e6]) rfl ?_;refine⟨rfl,?_⟩
  repeat(first|(with_reducible exact hv4)|(with_reducible refine Below.drew ?_)|(with_reducible refine Below.setCell ?_ (by simp<;>omega) _))
set_option maxRecDepth 100000 in
set_option maxHeartbeats 1600000 in
theorem step_from(ea:Nat→Addr)(a:Option Addr)(n cap:Nat)(l:List Int)(m:Nat)(d s:Int)(t:List UInt8)(w:World)(hg:Glob w ea [1,2,3,4,5,7,8])(hT:TxtEnv w)(hn:l.length=n)(hr:RowAt w a (encInts l))(hc:n≤4611686018427387904)(ht:t.length≤4294967280)
 (h:(memRF l m d s).1=0) (hs:s<1000000) (hG:(frameF t).1=0) (hG2:(frameF t).2.frm≠whoV l s.toNat) :
 Calls Tryz.prog 184 #[.slice a n cap,.agg #[.int .i64 m,.int .i64 d,.int .i64 s],.string ⟨t.toArray⟩] w fun e w'=>
  e=.returned (.tuple #[.agg #[.int .i64 ((lessN (m|||bitOf (whoV l s.toNat)) (bitOf (whoV l s.toNat)):Nat):Int),.int .i64 d,.int .i64 (s+1)],.agg #[.int .i64 s,.int .i64 (whoV l s.toNat),.bool false,.int .i64 0],.nilIface])∧Below w.heap.size w w':=by
 obtain⟨hp,hv,hM,hR⟩:=memRF_ok h;obtain⟨hcm,hvd⟩:=viewE_zero hv;have hmlt:m<65536:=by simp only[crewB,decide_eq_true_eq] at hcm;omega
 have hs0:0≤s:=by simp only[viewB,decide_eq_true_eq] at hvd;omega
 have hnd:nodeB (whoV l s.toNat)=true:=(planF_ok hp).2.2.2 _ (whoV_mem l _ (planF_ok hp).2.1);have KR:=Lib.hid (fun(W:World) (h:Below w.heap.size w W)=>memRight_any ea a n cap l m d s W ((hg.below h).sub (by simp)) hn (hr.below h) hc);rw[hM] at KR;simp only[if_true] at KR;have KW:=Lib.hid (fun(W:World)=>with_any m d s (whoV l s.toNat) W hmlt hnd);have KF:=Lib.hid (fun(W:World) (h:Below w.heap.size w W)=>fread_any ea t W ((hg.below h).sub (by simp)) (hT.below h) ht);rw[hG,errV_zero] at KF;simp only[Frm.arr] at KF;have hfb:((frameF t).2.frm==whoV l s.toNat)=false:=by simpa using hG2
 clear hG hG2;generalize (frameF t).2.frm=x0 at *;generalize (frameF t).2.mem=x1 at *;generalize (frameF t).2.mode=x2 at *;generalize (frameF t).2.slot=x3 at *;generalize (frameF t).2.value=x4 at *;have hb0:Below w.heap.size w (((w.alloc (.cells #[.int .i64 m,.int .i64 d,.int .i64 s] 96)).alloc (.cells #[.int .i64 0,.int .i64 0,.int .i64 0] 96)).alloc (.cells #[.int .i64 0,.int .i64 0,.bool false,.int .i64 0] 146)):=(((Below.refl _ _).alloc (Nat.le_refl _) _).alloc (by simp) _).alloc (by simp;omega) _;have hsl:decide (1000000≤s)=false:=by simpa using hs
 have hw:wrap64 (s+1)=s+1:=by unfold wrap64;omega
 have hbl:=bitOf_lt hnd;have hor:m|||bitOf (whoV l s.toNat)<65536:=Nat.or_lt_two_pow (n:=16) hmlt hbl
 have hO:=andNot_nat (m|||bitOf (whoV l s.toNat)) (bitOf (whoV l s.toNat)) (by omega) (by omega);rw[←shl_bit hnd] at hO;have hw1:¬(whoV l s.toNat-1<0):=by simp only[nodeB,decide_eq_true_eq] at hnd;omega
 have hw2:1≤whoV l s.toNat∧whoV l s.toNat≤16:=by simpa only[nodeB,decide_eq_true_eq] using hnd
 generalize whoV l s.toNat=who at *;generalize hMM:m|||bitOf who=M at *
 generalize lessN M (bitOf who)=M2 at *;clear hMM hg hT hn hr h hp hv hM hR hcm hvd hnd hs hor hbl;go_enter Tryz.func184,Tryz.ntmps184;go_wp2_with fail;have b0:Blok (((w.alloc (.cells #[.int .i64 m,.int .i64 d,.int .i64 s] 96)).alloc (.cells #[.int .i64 0,.int .i64 0,.int .i64 0] 96)).alloc (.cells #[.int .i64 0,.int .i64 0,.bool false,.int .i64 0] 146)) w.heap.size 96 #[.int .i64 m,.int .i64 d,.int .i64 s]:=((Blok.new w _ _).alloc _).alloc _
 have b1:Blok (((w.alloc (.cells #[.int .i64 m,.int .i64 d,.int .i64 s] 96)).alloc (.cells #[.int .i64 0,.int .i64 0,.int .i64 0] 96)).alloc (.cells #[.int .i64 0,.int .i64 0,.bool false,.int .i64 0] 146)) (w.heap.size+1) 96 #[.int .i64 0,.int .i64 0,.int .i64 0]:=by
  have:=(Blok.new (w.alloc (.cells #[.int .i64 m,.int .i64 d,.int .i64 s] 96)) 96 #[.int .i64 0,.int .i64 0,.int .i64 0]).alloc (.cells #[.int .i64 0,.int .i64 0,.bool false,.int .i64 0] 146)
  rwa [World.size_alloc] at this
 have b2:Blok (((w.alloc (.cells #[.int .i64 m,.int .i64 d,.int .i64 s] 96)).alloc (.cells #[.int .i64 0,.int .i64 0,.int .i64 0] 96)).alloc (.cells #[.int .i64 0,.int .i64 0,.bool false,.int .i64 0] 146)) (w.heap.size+1+1) 146 #[.int .i64 0,.int .i64 0,.bool false,.int .i64 0]:=by
  have:=Blok.new ((w.alloc (.cells #[.int .i64 m,.int .i64 d,.int .i64 s] 96)).alloc (.cells #[.int .i64 0,.int .i64 0,.int .i64 0] 96)) 146 #[.int .i64 0,.int .i64 0,.bool false,.int .i64 0]
  rwa [World.size_alloc,World.size_alloc] at this
 generalize hW0:(((w.alloc (.cells #[.int .i64 m,.int .i64 d,.int .i64 s] 96)).alloc (.cells #[.int .i64 0,.int .i64 0,.int .i64 0] 96)).alloc (.cells #[.int .i64 0,.int .i64 0,.bool false,.int .i64 0] 146))=W0 at *;clear hW0;refine(KR.out _ hb0).mono ?_;rintro e w1⟨v,rfl,hv,hb1⟩;obtain rfl:v=.nilIface:=hv.nil;have hv1:=hb0.trans (hb1.mono hb0.size);have b0:=b0.kept hb1;have b1:=b1.kept hb1;have b2:=b2.kept hb1;have c0:=b0.cell 0 rfl;have c1:=b0.cell 1 rfl;have c2:=b0.cell 2 rfl;have c3:=(b0.alloc (.cells #[.int .i64 s,.int .i64 who,.bool false,.int .i64 0] 146)).cell 0 rfl;have c4:=(b0.alloc (.cells #[.int .i64 s,.int .i64 who,.bool false,.int .i64 0] 146)).cell 1 rfl;have c5:=(b0.alloc (.cells #[.int .i64 s,.int .i64 who,.bool false,.int .i64 0] 146)).cell 2 rfl;clear hb1 hv;go_wp2_with fail;refine(KW.out _).mono ?_;rintro e w2⟨rfl,hb2⟩;have b3:=(Blok.new w1 146 #[.int .i64 s,.int .i64 who,.bool false,.int .i64 0]).kept hb2;have hb12:Below w1.heap.size w1 w2:=((Below.refl _ _).alloc (Nat.le_refl _) _).trans (hb2.mono (by simp));have hE:=b2.lt;have b0:=b0.kept hb12;have b1:=b1.kept hb12;have b2:=b2.kept hb12;have hv2:=hv1.trans (hb12.mono hv1.size);clear hb2 hb12 c0 c1 c2 c3 c4 c5;generalize w1.heap.size=E at *;go_wp2_with fail;have hvN:Below w.heap.size w (w2.alloc (.cells #[.int .i64 M,.int .i64 d,.int .i64 s] 96)):=hv2.alloc hv2.size _;refine(KF.out _ hvN).mono ?_;rintro e w3⟨rfl,hb3⟩;have b4:=(Blok.new w2 96 #[.int .i64 M,.int .i64 d,.int .i64 s]).kept hb3;have hv3:=hvN.trans (hb3.mono hvN.size);have hN:=b3.lt;have b0:=(b0.alloc _).kept hb3;have b1:=(b1.alloc _).kept hb3;have b2:=(b2.alloc _).kept hb3;have b3:=(b3.alloc _).kept hb3;clear hb3 hvN hv2 hv1;generalize w2.heap.size=N at *;have hF:=b4.lt;have c5:=(b4.alloc (.cells #[.int .i64 x0,.int .i64 x1,.int .i64 x2,.int .i64 x3,.int .i64 x4] 256)).cell 0 rfl;have c6:=(b4.alloc (.cells #[.int .i64 x0,.int .i64 x1,.int .i64 x2,.int .i64 x3,.int .i64 x4] 256)).cell 1 rfl;have c7:=(b4.alloc (.cells #[.int .i64 x0,.int .i64 x1,.int .i64 x2,.int .i64 x3,.int .i64 x4] 256)).cell 2 rfl;go_wp2;have b5:=Blok.new w3 256 #[.int .i64 x0,.int .i64 x1,.int .i64 x2,.int .i64 x3,.int .i64 x4];have b0:=b0.alloc (.cells #[.int .i64 x0,.int .i64 x1,.int .i64 x2,.int .i64 x3,.int .i64 x4] 256);have b1:=b1.alloc (.cells #[.int .i64 x0,.int .i64 x1,.int .i64 x2,.int .i64 x3,.int .i64 x4] 256);have b2:=b2.alloc (.cells #[.int .i64 x0,.int .i64 x1,.int .i64 x2,.int .i64 x3,.int .i64 x4] 256);have b3:=b3.alloc (.cells #[.int .i64 x0,.int .i64 x1,.int .i64 x2,.int .i64 x3,.int .i64 x4] 256);have b4:=b4.alloc (.cells #[.int .i64 x0,.int .i64 x1,.int .i64 x2,.int .i64 x3,.int .i64 x4] 256);have hv4:=hv3.alloc hv3.size (.cells #[.int .i64 x0,.int .i64 x1,.int .i64 x2,.int .i64 x3,.int .i64 x4] 256);generalize hW4:w3.alloc (.cells #[.int .i64 x0,.int .i64 x1,.int .i64 x2,.int .i64 x3,.int .i64 x4] 256)=W4 at *;clear hW4 c5 c6 c7;have v2:=b5.cell 4 rfl;generalize w3.heap.size=F at *;have hne1:¬(w.heap.size+1=E):=by omega
 have hne2:¬(w.heap.size+1=N):=by omega
 have hne3:¬(w.heap.size+1+1=E):=by omega
 have hne4:¬(w.heap.size+1+1=N):=by omega
 have hne5:¬(E=N):=by omega
 have hne6:¬(E=w.heap.size+1):=by omega
 have hne7:¬(N=w.heap.size+1):=by omega
 have hne8:¬(E=w.heap.size+1+1):=by omega
 have hne9:¬(N=w.heap.size+1+1):=by omega
 have hne0:¬(N=E):=by omega
 have e0:=b1.cell 0 rfl;have e1:=b1.cell 1 rfl;have e2:=b1.cell 2 rfl;have e3:=b2.cell 0 rfl;have e4:=b2.cell 1 rfl;have e5:=b2.cell 2 rfl;have e6:=b2.cell 3 rfl;have d0:=b3.cell 0 rfl;have d1:=b3.cell 1 rfl;have d2:=b3.cell 2 rfl;have d3:=b3.cell 3 rfl;have c0:=b4.cell 0 rfl;have c1:=b4.cell 1 rfl;have c2:=b4.cell 2 rfl;have q0:=b1.frozen 0;have q1:=b1.frozen 1;have q2:=b1.frozen 2;have q3:=b2.frozen 0;have q4:=b2.frozen 1;have q5:=b2.frozen 2;have q6:=b2.frozen 3;have r2:=b3.frozen 2;have r3:=b3.frozen 3;have r4:=b4.frozen 2;have r5:=b4.frozen 0;go_region
 all_goals go_wp2
 all_goals go_region
 all_goals
  go_wp2;refine bodyPost_ret (v:=.tuple #[.agg #[.int .i64 M2,.int .i64 d,.int .i64 (s+1)],.agg #[.int .i64 s,.int .i64 who,.bool false,.int .i64 0],.nilIface]) (by simp[results,Tryz.results184,go_sem,e0,e1,e2,e3,e4,e5,e6]) rfl ?_;refine⟨rfl,?_⟩
  repeat(first|(with_reducible exact hv4)|(with_reducible refine Below.drew ?_)|(with_reducible refine Below.setCell ?_ (by simp<;>omega) _))
set_option maxRecDepth 100000 in
set_option maxHeartbeats 1600000 in
theorem step_view(ea:Nat→Addr)(a:Option Addr)(n cap:Nat)(l:List Int)(m:Nat)(d s:Int)(t:List UInt8)(w:World)(hg:Glob w ea [1,2,3,4,5,7,8])(hT:TxtEnv w)(hn:l.length=n)(hr:RowAt w a (encInts l))(hc:n≤4611686018427387904)(ht:t.length≤4294967280)
 (h:(memRF l m d s).1=0) (hs:s<1000000) (hG:(frameF t).1=0) (hG2:(frameF t).2.frm=whoV l s.toNat) (hG3:¬((frameF t).2.mem=((m|||bitOf (whoV l s.toNat):Nat):Int)∧(frameF t).2.mode=d∧(frameF t).2.slot=s)) :
 Calls Tryz.prog 184 #[.slice a n cap,.agg #[.int .i64 m,.int .i64 d,.int .i64 s],.string ⟨t.toArray⟩] w fun e w'=>
  e=.returned (.tuple #[.agg #[.int .i64 ((lessN (m|||bitOf (whoV l s.toNat)) (bitOf (whoV l s.toNat)):Nat):Int),.int .i64 d,.int .i64 (s+1)],.agg #[.int .i64 s,.int .i64 (whoV l s.toNat),.bool false,.int .i64 0],.nilIface])∧Below w.heap.size w w':=by
 obtain⟨hp,hv,hM,hR⟩:=memRF_ok h;obtain⟨hcm,hvd⟩:=viewE_zero hv;have hmlt:m<65536:=by simp only[crewB,decide_eq_true_eq] at hcm;omega
 have hs0:0≤s:=by simp only[viewB,decide_eq_true_eq] at hvd;omega
 have hnd:nodeB (whoV l s.toNat)=true:=(planF_ok hp).2.2.2 _ (whoV_mem l _ (planF_ok hp).2.1);have KR:=Lib.hid (fun(W:World) (h:Below w.heap.size w W)=>memRight_any ea a n cap l m d s W ((hg.below h).sub (by simp)) hn (hr.below h) hc);rw[hM] at KR;simp only[if_true] at KR;have KW:=Lib.hid (fun(W:World)=>with_any m d s (whoV l s.toNat) W hmlt hnd);have KF:=Lib.hid (fun(W:World) (h:Below w.heap.size w W)=>fread_any ea t W ((hg.below h).sub (by simp)) (hT.below h) ht);rw[hG,errV_zero] at KF;simp only[Frm.arr,hG2] at KF
 have HQ:∀W:World,(binOp .eql 96 (.agg #[.int .i64 (frameF t).2.mem,.int .i64 (frameF t).2.mode,.int .i64 (frameF t).2.slot]) (.agg #[.int .i64 ((m|||bitOf (whoV l s.toNat):Nat):Int),.int .i64 d,.int .i64 s])).run Tryz.prog W=.ok (.bool false) W:=fun W=>by
  rw[run_view_eql]
  congr 2
  rw[Bool.eq_false_iff];intro hh;simp only[Bool.and_eq_true,beq_iff_eq] at hh;exact hG3 hh
 clear hG hG2 hG3;generalize (frameF t).2.mem=x1 at *;generalize (frameF t).2.mode=x2 at *;generalize (frameF t).2.slot=x3 at *;generalize (frameF t).2.value=x4 at *;have hb0:Below w.heap.size w (((w.alloc (.cells #[.int .i64 m,.int .i64 d,.int .i64 s] 96)).alloc (.cells #[.int .i64 0,.int .i64 0,.int .i64 0] 96)).alloc (.cells #[.int .i64 0,.int .i64 0,.bool false,.int .i64 0] 146)):=(((Below.refl _ _).alloc (Nat.le_refl _) _).alloc (by simp) _).alloc (by simp;omega) _;have hsl:decide (1000000≤s)=false:=by simpa using hs
 have hw:wrap64 (s+1)=s+1:=by unfold wrap64;omega
 have hbl:=bitOf_lt hnd;have hor:m|||bitOf (whoV l s.toNat)<65536:=Nat.or_lt_two_pow (n:=16) hmlt hbl
 have hO:=andNot_nat (m|||bitOf (whoV l s.toNat)) (bitOf (whoV l s.toNat)) (by omega) (by omega);rw[←shl_bit hnd] at hO;have hw1:¬(whoV l s.toNat-1<0):=by simp only[nodeB,decide_eq_true_eq] at hnd;omega
 have hw2:1≤whoV l s.toNat∧whoV l s.toNat≤16:=by simpa only[nodeB,decide_eq_true_eq] using hnd
 generalize whoV l s.toNat=who at *;generalize hMM:m|||bitOf who=M at *
 generalize lessN M (bitOf who)=M2 at *;clear hMM hg hT hn hr h hp hv hM hR hcm hvd hnd hs hor hbl;go_enter Tryz.func184,Tryz.ntmps184;go_wp2_with fail;have b0:Blok (((w.alloc (.cells #[.int .i64 m,.int .i64 d,.int .i64 s] 96)).alloc (.cells #[.int .i64 0,.int .i64 0,.int .i64 0] 96)).alloc (.cells #[.int .i64 0,.int .i64 0,.bool false,.int .i64 0] 146)) w.heap.size 96 #[.int .i64 m,.int .i64 d,.int .i64 s]:=((Blok.new w _ _).alloc _).alloc _
 have b1:Blok (((w.alloc (.cells #[.int .i64 m,.int .i64 d,.int .i64 s] 96)).alloc (.cells #[.int .i64 0,.int .i64 0,.int .i64 0] 96)).alloc (.cells #[.int .i64 0,.int .i64 0,.bool false,.int .i64 0] 146)) (w.heap.size+1) 96 #[.int .i64 0,.int .i64 0,.int .i64 0]:=by
  have:=(Blok.new (w.alloc (.cells #[.int .i64 m,.int .i64 d,.int .i64 s] 96)) 96 #[.int .i64 0,.int .i64 0,.int .i64 0]).alloc (.cells #[.int .i64 0,.int .i64 0,.bool false,.int .i64 0] 146)
  rwa [World.size_alloc] at this
 have b2:Blok (((w.alloc (.cells #[.int .i64 m,.int .i64 d,.int .i64 s] 96)).alloc (.cells #[.int .i64 0,.int .i64 0,.int .i64 0] 96)).alloc (.cells #[.int .i64 0,.int .i64 0,.bool false,.int .i64 0] 146)) (w.heap.size+1+1) 146 #[.int .i64 0,.int .i64 0,.bool false,.int .i64 0]:=by
  have:=Blok.new ((w.alloc (.cells #[.int .i64 m,.int .i64 d,.int .i64 s] 96)).alloc (.cells #[.int .i64 0,.int .i64 0,.int .i64 0] 96)) 146 #[.int .i64 0,.int .i64 0,.bool false,.int .i64 0]
  rwa [World.size_alloc,World.size_alloc] at this
 generalize hW0:(((w.alloc (.cells #[.int .i64 m,.int .i64 d,.int .i64 s] 96)).alloc (.cells #[.int .i64 0,.int .i64 0,.int .i64 0] 96)).alloc (.cells #[.int .i64 0,.int .i64 0,.bool false,.int .i64 0] 146))=W0 at *;clear hW0;refine(KR.out _ hb0).mono ?_;rintro e w1⟨v,rfl,hv,hb1⟩;obtain rfl:v=.nilIface:=hv.nil;have hv1:=hb0.trans (hb1.mono hb0.size);have b0:=b0.kept hb1;have b1:=b1.kept hb1;have b2:=b2.kept hb1;have c0:=b0.cell 0 rfl;have c1:=b0.cell 1 rfl;have c2:=b0.cell 2 rfl;have c3:=(b0.alloc (.cells #[.int .i64 s,.int .i64 who,.bool false,.int .i64 0] 146)).cell 0 rfl;have c4:=(b0.alloc (.cells #[.int .i64 s,.int .i64 who,.bool false,.int .i64 0] 146)).cell 1 rfl;have c5:=(b0.alloc (.cells #[.int .i64 s,.int .i64 who,.bool false,.int .i64 0] 146)).cell 2 rfl;clear hb1 hv;go_wp2_with fail;refine(KW.out _).mono ?_;rintro e w2⟨rfl,hb2⟩;have b3:=(Blok.new w1 146 #[.int .i64 s,.int .i64 who,.bool false,.int .i64 0]).kept hb2;have hb12:Below w1.heap.size w1 w2:=((Below.refl _ _).alloc (Nat.le_refl _) _).trans (hb2.mono (by simp));have hE:=b2.lt;have b0:=b0.kept hb12;have b1:=b1.kept hb12;have b2:=b2.kept hb12;have hv2:=hv1.trans (hb12.mono hv1.size);clear hb2 hb12 c0 c1 c2 c3 c4 c5;generalize w1.heap.size=E at *;go_wp2_with fail;have hvN:Below w.heap.size w (w2.alloc (.cells #[.int .i64 M,.int .i64 d,.int .i64 s] 96)):=hv2.alloc hv2.size _;refine(KF.out _ hvN).mono ?_;rintro e w3⟨rfl,hb3⟩;have b4:=(Blok.new w2 96 #[.int .i64 M,.int .i64 d,.int .i64 s]).kept hb3;have hv3:=hvN.trans (hb3.mono hvN.size);have hN:=b3.lt;have b0:=(b0.alloc _).kept hb3;have b1:=(b1.alloc _).kept hb3;have b2:=(b2.alloc _).kept hb3;have b3:=(b3.alloc _).kept hb3;clear hb3 hvN hv2 hv1;generalize w2.heap.size=N at *;have hF:=b4.lt;have c5:=(b4.alloc (.cells #[.int .i64 who,.int .i64 x1,.int .i64 x2,.int .i64 x3,.int .i64 x4] 256)).cell 0 rfl;have c6:=(b4.alloc (.cells #[.int .i64 who,.int .i64 x1,.int .i64 x2,.int .i64 x3,.int .i64 x4] 256)).cell 1 rfl;have c7:=(b4.alloc (.cells #[.int .i64 who,.int .i64 x1,.int .i64 x2,.int .i64 x3,.int .i64 x4] 256)).cell 2 rfl;go_wp2;have b5:=Blok.new w3 256 #[.int .i64 who,.int .i64 x1,.int .i64 x2,.int .i64 x3,.int .i64 x4];have b0:=b0.alloc (.cells #[.int .i64 who,.int .i64 x1,.int .i64 x2,.int .i64 x3,.int .i64 x4] 256);have b1:=b1.alloc (.cells #[.int .i64 who,.int .i64 x1,.int .i64 x2,.int .i64 x3,.int .i64 x4] 256);have b2:=b2.alloc (.cells #[.int .i64 who,.int .i64 x1,.int .i64 x2,.int .i64 x3,.int .i64 x4] 256);have b3:=b3.alloc (.cells #[.int .i64 who,.int .i64 x1,.int .i64 x2,.int .i64 x3,.int .i64 x4] 256);have b4:=b4.alloc (.cells #[.int .i64 who,.int .i64 x1,.int .i64 x2,.int .i64 x3,.int .i64 x4] 256);have hv4:=hv3.alloc hv3.size (.cells #[.int .i64 who,.int .i64 x1,.int .i64 x2,.int .i64 x3,.int .i64 x4] 256);generalize hW4:w3.alloc (.cells #[.int .i64 who,.int .i64 x1,.int .i64 x2,.int .i64 x3,.int .i64 x4] 256)=W4 at *;clear hW4 c5 c6 c7;have v2:=b5.cell 4 rfl;generalize w3.heap.size=F at *;have hne1:¬(w.heap.size+1=E):=by omega
 have hne2:¬(w.heap.size+1=N):=by omega
 have hne3:¬(w.heap.size+1+1=E):=by omega
 have hne4:¬(w.heap.size+1+1=N):=by omega
 have hne5:¬(E=N):=by omega
 have hne6:¬(E=w.heap.size+1):=by omega
 have hne7:¬(N=w.heap.size+1):=by omega
 have hne8:¬(E=w.heap.size+1+1):=by omega
 have hne9:¬(N=w.heap.size+1+1):=by omega
 have hne0:¬(N=E):=by omega
 have e0:=b1.cell 0 rfl;have e1:=b1.cell 1 rfl;have e2:=b1.cell 2 rfl;have e3:=b2.cell 0 rfl;have e4:=b2.cell 1 rfl;have e5:=b2.cell 2 rfl;have e6:=b2.cell 3 rfl;have d0:=b3.cell 0 rfl;have d1:=b3.cell 1 rfl;have d2:=b3.cell 2 rfl;have d3:=b3.cell 3 rfl;have c0:=b4.cell 0 rfl;have c1:=b4.cell 1 rfl;have c2:=b4.cell 2 rfl;have q0:=b1.frozen 0;have q1:=b1.frozen 1;have q2:=b1.frozen 2;have q3:=b2.frozen 0;have q4:=b2.frozen 1;have q5:=b2.frozen 2;have q6:=b2.frozen 3;have r2:=b3.frozen 2;have r3:=b3.frozen 3;have r4:=b4.frozen 2;have r5:=b4.frozen 0;go_region
 all_goals go_wp2
 all_goals go_region
 all_goals
  go_wp2;refine bodyPost_ret (v:=.tuple #[.agg #[.int .i64 M2,.int .i64 d,.int .i64 (s+1)],.agg #[.int .i64 s,.int .i64 who,.bool false,.int .i64 0],.nilIface]) (by simp[results,Tryz.results184,go_sem,e0,e1,e2,e3,e4,e5,e6]) rfl ?_;refine⟨rfl,?_⟩
  repeat(first|(with_reducible exact hv4)|(with_reducible refine Below.drew ?_)|(with_reducible refine Below.setCell ?_ (by simp<;>omega) _))
def stepF(l:List Int)(m d s:Int):Nat×Int:=if (memRF l m d s).1=0 then(if 1000000≤s then(7,-1) else(0,-1)) else memRF l m d s
def stepOk(l:List Int)(m d s:Int)(t:List UInt8):Bool:=stepB (whoV l s.toNat) m.toNat d s t
def stepM(l:List Int)(m d s:Int)(t:List UInt8):Nat:=if stepOk l m d s t then m.toNat|||bitOf (whoV l s.toNat) else lessN (m.toNat|||bitOf (whoV l s.toNat)) (bitOf (whoV l s.toNat))
def stepV(l:List Int)(m d s:Int)(t:List UInt8):Int×Int×Int:=if (stepF l m d s).1=0 then((stepM l m d s t:Int),d,s+1) else(0,0,0)
def stepE(l:List Int)(m d s:Int)(t:List UInt8):Ent:=if (stepF l m d s).1=0 then⟨s,whoV l s.toNat,stepOk l m d s t,if stepOk l m d s t then(frameF t).2.value else 0⟩ else⟨0,0,false,0⟩
theorem ErrIs.setAt{ea:Nat→Addr}{w:World}{v:Value}{code:Nat}{pl:Int}{b:Nat}(h:ErrIs ea w v code pl)(hc:∀t p,w.cell? ⟨b,1,none⟩≠some (.iface t p))(o:Nat)(x:Value) :
 ErrIs ea (w.setCell ⟨b,o,none⟩ x) v code pl:=by
 rcases h with h|⟨h0,h1,g,rfl,hlt,h2,h3⟩
 ·exact Or.inl h
 ·have hne:b≠g:=by
   rintro rfl;rw[errV_pos ea h1] at h3;exact hc _ _ h3
  refine Or.inr ⟨h0,h1,g,rfl,by simpa using hlt,?_,?_⟩
  ·exact(World.cell?_setCell_other _ _ _ _ (fun e=>hne (congrArg Addr.block e))).trans h2
  ·exact(World.cell?_setCell_other _ _ _ _ (fun e=>hne (congrArg Addr.block e))).trans h3
theorem ErrIs.drew{ea:Nat→Addr}{w:World}{v:Value}{code:Nat}{pl:Int}(h:ErrIs ea w v code pl):ErrIs ea w.drew v code pl:=h.below (Below.refl _ _).drew
set_option maxRecDepth 100000 in
set_option maxHeartbeats 800000 in
theorem step_bad(ea:Nat→Addr)(a:Option Addr)(n cap:Nat)(l:List Int)(m d s:Int)(t:List UInt8)(w:World)(hg:Glob w ea [1,2,3,4,5,7,8])(hn:l.length=n)(hr:RowAt w a (encInts l))(hc:n≤4611686018427387904)
 (h:(memRF l m d s).1≠0) :
 Calls Tryz.prog 184 #[.slice a n cap,.agg #[.int .i64 m,.int .i64 d,.int .i64 s],.string ⟨t.toArray⟩] w fun e w'=>
  ∃v,e=.returned (.tuple #[.agg #[.int .i64 0,.int .i64 0,.int .i64 0],.agg #[.int .i64 0,.int .i64 0,.bool false,.int .i64 0],v])∧ErrIs ea w' v (memRF l m d s).1 (memRF l m d s).2∧Below w.heap.size w w':=by
 have KR:=Lib.hid (fun(W:World) (h:Below w.heap.size w W)=>memRight_any ea a n cap l m d s W ((hg.below h).sub (by simp)) hn (hr.below h) hc);rw[if_neg h] at KR;have hb0:Below w.heap.size w (((w.alloc (.cells #[.int .i64 m,.int .i64 d,.int .i64 s] 96)).alloc (.cells #[.int .i64 0,.int .i64 0,.int .i64 0] 96)).alloc (.cells #[.int .i64 0,.int .i64 0,.bool false,.int .i64 0] 146)):=(((Below.refl _ _).alloc (Nat.le_refl _) _).alloc (by simp) _).alloc (by simp;omega) _;have H0:=Lib.hid h;clear hg hn hr h;go_enter Tryz.func184,Tryz.ntmps184;go_wp2_with fail
 have b1:Blok (((w.alloc (.cells #[.int .i64 m,.int .i64 d,.int .i64 s] 96)).alloc (.cells #[.int .i64 0,.int .i64 0,.int .i64 0] 96)).alloc (.cells #[.int .i64 0,.int .i64 0,.bool false,.int .i64 0] 146)) (w.heap.size+1) 96 #[.int .i64 0,.int .i64 0,.int .i64 0]:=by
  have:=(Blok.new (w.alloc (.cells #[.int .i64 m,.int .i64 d,.int .i64 s] 96)) 96 #[.int .i64 0,.int .i64 0,.int .i64 0]).alloc (.cells #[.int .i64 0,.int .i64 0,.bool false,.int .i64 0] 146)
  rwa [World.size_alloc] at this
 have b2:Blok (((w.alloc (.cells #[.int .i64 m,.int .i64 d,.int .i64 s] 96)).alloc (.cells #[.int .i64 0,.int .i64 0,.int .i64 0] 96)).alloc (.cells #[.int .i64 0,.int .i64 0,.bool false,.int .i64 0] 146)) (w.heap.size+1+1) 146 #[.int .i64 0,.int .i64 0,.bool false,.int .i64 0]:=by
  have:=Blok.new ((w.alloc (.cells #[.int .i64 m,.int .i64 d,.int .i64 s] 96)).alloc (.cells #[.int .i64 0,.int .i64 0,.int .i64 0] 96)) 146 #[.int .i64 0,.int .i64 0,.bool false,.int .i64 0]
  rwa [World.size_alloc,World.size_alloc] at this
 generalize hW0:(((w.alloc (.cells #[.int .i64 m,.int .i64 d,.int .i64 s] 96)).alloc (.cells #[.int .i64 0,.int .i64 0,.int .i64 0] 96)).alloc (.cells #[.int .i64 0,.int .i64 0,.bool false,.int .i64 0] 146))=W0 at *;clear hW0;refine(KR.out _ hb0).mono ?_;rintro e w1⟨v,rfl,hv,hb1⟩;obtain⟨vt,vx,rfl⟩:=hv.held H0.out;have hv1:=hb0.trans (hb1.mono hb0.size);have b1:=b1.kept hb1;have b2:=b2.kept hb1;have e0:=b1.cell 0 rfl;have e1:=b1.cell 1 rfl;have e2:=b1.cell 2 rfl;have e3:=b2.cell 0 rfl;have e4:=b2.cell 1 rfl;have e5:=b2.cell 2 rfl;have e6:=b2.cell 3 rfl;have q0:=b1.frozen 0;have q1:=b1.frozen 1;have q2:=b1.frozen 2;have q3:=b2.frozen 0;have q4:=b2.frozen 1;have q5:=b2.frozen 2;have q6:=b2.frozen 3;go_wp2;refine bodyPost_ret (v:=.tuple #[.agg #[.int .i64 0,.int .i64 0,.int .i64 0],.agg #[.int .i64 0,.int .i64 0,.bool false,.int .i64 0],.iface vt vx]) (by simp[results,Tryz.results184,go_sem,e0,e1,e2,e3,e4,e5,e6]) rfl ?_;refine⟨_,rfl,?_,?_⟩
 ·repeat(first|(with_reducible exact hv)|(with_reducible refine ErrIs.setAt ?_ (by intro t p;simp[go_sem, *]) _ _))
 ·repeat(first|(with_reducible exact hv1)|(with_reducible refine Below.setCell ?_ (by simp<;>omega) _))
set_option maxRecDepth 100000 in
set_option maxHeartbeats 800000 in
theorem step_full(ea:Nat→Addr)(a:Option Addr)(n cap:Nat)(l:List Int)(m d s:Int)(t:List UInt8)(w:World)(hg:Glob w ea [1,2,3,4,5,7,8])(hn:l.length=n)(hr:RowAt w a (encInts l))(hc:n≤4611686018427387904)
 (h:(memRF l m d s).1=0) (hs:1000000≤s) :
 Calls Tryz.prog 184 #[.slice a n cap,.agg #[.int .i64 m,.int .i64 d,.int .i64 s],.string ⟨t.toArray⟩] w fun e w'=>
  ∃v,e=.returned (.tuple #[.agg #[.int .i64 0,.int .i64 0,.int .i64 0],.agg #[.int .i64 0,.int .i64 0,.bool false,.int .i64 0],v])∧ErrIs ea w' v 7 (-1)∧Below w.heap.size w w':=by
 have KR:=Lib.hid (fun(W:World) (h:Below w.heap.size w W)=>memRight_any ea a n cap l m d s W ((hg.below h).sub (by simp)) hn (hr.below h) hc);rw[(memRF_ok h).2.2.1] at KR;simp only[if_true] at KR;have HG:=Lib.hid (fun(W:World) (h:Below w.heap.size w W)=>hg.below h);have hb0:Below w.heap.size w (((w.alloc (.cells #[.int .i64 m,.int .i64 d,.int .i64 s] 96)).alloc (.cells #[.int .i64 0,.int .i64 0,.int .i64 0] 96)).alloc (.cells #[.int .i64 0,.int .i64 0,.bool false,.int .i64 0] 146)):=(((Below.refl _ _).alloc (Nat.le_refl _) _).alloc (by simp) _).alloc (by simp;omega) _;have HP:=Lib.hid (errV_pos ea (k:=7) (by decide));generalize whoV l s.toNat=who at *;clear hg hn hr h;go_enter Tryz.func184,Tryz.ntmps184;go_wp2_with fail;have b0:Blok (((w.alloc (.cells #[.int .i64 m,.int .i64 d,.int .i64 s] 96)).alloc (.cells #[.int .i64 0,.int .i64 0,.int .i64 0] 96)).alloc (.cells #[.int .i64 0,.int .i64 0,.bool false,.int .i64 0] 146)) w.heap.size 96 #[.int .i64 m,.int .i64 d,.int .i64 s]:=((Blok.new w _ _).alloc _).alloc _
 have b1:Blok (((w.alloc (.cells #[.int .i64 m,.int .i64 d,.int .i64 s] 96)).alloc (.cells #[.int .i64 0,.int .i64 0,.int .i64 0] 96)).alloc (.cells #[.int .i64 0,.int .i64 0,.bool false,.int .i64 0] 146)) (w.heap.size+1) 96 #[.int .i64 0,.int .i64 0,.int .i64 0]:=by
  have:=(Blok.new (w.alloc (.cells #[.int .i64 m,.int .i64 d,.int .i64 s] 96)) 96 #[.int .i64 0,.int .i64 0,.int .i64 0]).alloc (.cells #[.int .i64 0,.int .i64 0,.bool false,.int .i64 0] 146)
  rwa [World.size_alloc] at this
 have b2:Blok (((w.alloc (.cells #[.int .i64 m,.int .i64 d,.int .i64 s] 96)).alloc (.cells #[.int .i64 0,.int .i64 0,.int .i64 0] 96)).alloc (.cells #[.int .i64 0,.int .i64 0,.bool false,.int .i64 0] 146)) (w.heap.size+1+1) 146 #[.int .i64 0,.int .i64 0,.bool false,.int .i64 0]:=by
  have:=Blok.new ((w.alloc (.cells #[.int .i64 m,.int .i64 d,.int .i64 s] 96)).alloc (.cells #[.int .i64 0,.int .i64 0,.int .i64 0] 96)) 146 #[.int .i64 0,.int .i64 0,.bool false,.int .i64 0]
  rwa [World.size_alloc,World.size_alloc] at this
 generalize hW0:(((w.alloc (.cells #[.int .i64 m,.int .i64 d,.int .i64 s] 96)).alloc (.cells #[.int .i64 0,.int .i64 0,.int .i64 0] 96)).alloc (.cells #[.int .i64 0,.int .i64 0,.bool false,.int .i64 0] 146))=W0 at *;clear hW0;refine(KR.out _ hb0).mono ?_;rintro e w1⟨v,rfl,hv,hb1⟩;obtain rfl:v=.nilIface:=hv.nil;have hv1:=hb0.trans (hb1.mono hb0.size);have b1:=b1.kept hb1;have b2:=b2.kept hb1;have c2:=(b0.kept hb1).cell 2 rfl;have g7:=(HG.out _ hv1).cell 7 (by simp);simp only[gOf] at g7;rw[HP.out] at g7;have e0:=b1.cell 0 rfl;have e1:=b1.cell 1 rfl;have e2:=b1.cell 2 rfl;have e3:=b2.cell 0 rfl;have e4:=b2.cell 1 rfl;have e5:=b2.cell 2 rfl;have e6:=b2.cell 3 rfl;have q0:=b1.frozen 0;have q1:=b1.frozen 1;have q2:=b1.frozen 2;have q3:=b2.frozen 0;have q4:=b2.frozen 1;have q5:=b2.frozen 2;have q6:=b2.frozen 3;go_wp2;refine bodyPost_ret (v:=.tuple #[.agg #[.int .i64 0,.int .i64 0,.int .i64 0],.agg #[.int .i64 0,.int .i64 0,.bool false,.int .i64 0],errV ea 7]) (by simp[results,Tryz.results184,go_sem,e0,e1,e2,e3,e4,e5,e6,HP.out]) rfl ?_;refine⟨_,rfl,?_,?_⟩
 ·exact Or.inl ⟨rfl,rfl⟩
 ·repeat(first|(with_reducible exact hv1)|(with_reducible refine Below.setCell ?_ (by simp<;>omega) _))
theorem step_any(ea:Nat→Addr)(a:Option Addr)(n cap:Nat)(l:List Int)(m d s:Int)(t:List UInt8)(w:World)(hg:Glob w ea [1,2,3,4,5,7,8])(hT:TxtEnv w)(hn:l.length=n)(hr:RowAt w a (encInts l))(hc:n≤4611686018427387904)(ht:t.length≤4294967280) :
 Calls Tryz.prog 184 #[.slice a n cap,.agg #[.int .i64 m,.int .i64 d,.int .i64 s],.string ⟨t.toArray⟩] w fun e w'=>
  ∃v,e=.returned (.tuple #[.agg #[.int .i64 (stepV l m d s t).1,.int .i64 (stepV l m d s t).2.1,.int .i64 (stepV l m d s t).2.2],(stepE l m d s t).v,v])∧ErrIs ea w' v (stepF l m d s).1 (stepF l m d s).2∧Below w.heap.size w w':=by
 by_cases h:(memRF l m d s).1=0
 ·by_cases hs:1000000≤s
  ·have hF:stepF l m d s=(7,-1):=by rw[stepF,if_pos h,if_pos hs]
   have hV:stepV l m d s t=(0,0,0):=by rw[stepV,if_neg (by rw[hF];simp)]
   have hE:stepE l m d s t=⟨0,0,false,0⟩:=by rw[stepE,if_neg (by rw[hF];simp)]
   rw[hF,hV,hE];exact step_full ea a n cap l m d s t w hg hn hr hc h hs
  ·have hF:stepF l m d s=(0,-1):=by rw[stepF,if_pos h,if_neg hs]
   obtain⟨k,rfl⟩:∃k:Nat,m=k:=by
    obtain⟨hcm,_⟩:=viewE_zero (memRF_ok h).2.1;simp only[crewB,decide_eq_true_eq] at hcm;exact⟨m.toNat,by omega⟩
   have hV:stepV l k d s t=((stepM l k d s t:Int),d,s+1):=by rw[stepV,if_pos (by rw[hF])]
   have hE:stepE l k d s t=⟨s,whoV l s.toNat,stepOk l k d s t,if stepOk l k d s t then(frameF t).2.value else 0⟩:=by rw[stepE,if_pos (by rw[hF])]
   rw[hF,hV,hE]
   cases hok:stepOk l k d s t
   ·have hM:stepM l k d s t=lessN (k|||bitOf (whoV l s.toNat)) (bitOf (whoV l s.toNat)):=by rw[stepM,hok];rfl
    rw[hM]
    have hcase:(frameF t).1≠0∨((frameF t).1=0∧(frameF t).2.frm≠whoV l s.toNat)∨((frameF t).1=0∧(frameF t).2.frm=whoV l s.toNat∧¬((frameF t).2.mem=((k|||bitOf (whoV l s.toNat):Nat):Int)∧(frameF t).2.mode=d∧(frameF t).2.slot=s)):=by
     by_cases h1:(frameF t).1=0
     ·by_cases h2:(frameF t).2.frm=whoV l s.toNat
      ·refine .inr (.inr ⟨h1,h2,fun h3=>?_⟩)
       rw[stepOk,stepB,decide_eq_false_iff_not] at hok;exact hok ⟨h1,h2,h3⟩
      ·exact .inr (.inl ⟨h1,h2⟩)
     ·exact .inl h1
    rcases hcase with h1|⟨h1,h2⟩|⟨h1,h2,h3⟩
    ·refine(step_err ea a n cap l k d s t w hg hT hn hr hc ht h (by omega) h1).mono ?_
     rintro e w'⟨rfl,hb⟩;exact⟨_,rfl,Or.inl ⟨rfl,(errV_zero ea).symm⟩,hb⟩
    ·refine(step_from ea a n cap l k d s t w hg hT hn hr hc ht h (by omega) h1 h2).mono ?_
     rintro e w'⟨rfl,hb⟩;exact⟨_,rfl,Or.inl ⟨rfl,(errV_zero ea).symm⟩,hb⟩
    ·refine(step_view ea a n cap l k d s t w hg hT hn hr hc ht h (by omega) h1 h2 h3).mono ?_
     rintro e w'⟨rfl,hb⟩;exact⟨_,rfl,Or.inl ⟨rfl,(errV_zero ea).symm⟩,hb⟩
   ·have hM:stepM l k d s t=k|||bitOf (whoV l s.toNat):=by rw[stepM,hok];rfl
    rw[hM];refine(step_heard ea a n cap l k d s t w hg hT hn hr hc ht h (by omega) hok).mono ?_;rintro e w'⟨rfl,hb⟩;exact⟨_,rfl,Or.inl ⟨rfl,(errV_zero ea).symm⟩,hb⟩
 ·have hF:stepF l m d s=memRF l m d s:=by rw[stepF,if_neg h]
  have hV:stepV l m d s t=(0,0,0):=by rw[stepV,if_neg (by rw[hF];exact h)]
  have hE:stepE l m d s t=⟨0,0,false,0⟩:=by rw[stepE,if_neg (by rw[hF];exact h)]
  rw[hF,hV,hE];exact step_bad ea a n cap l m d s t w hg hn hr hc h
def sendFrm(_l:List Int)(m d s node value:Int):Frm:=⟨node,((m.toNat|||bitOf node:Nat):Int),d,s,value⟩
def sendF(l:List Int)(m d s node value:Int):Nat×Int:=if (memRF l m d s).1=0 then(if whoV l s.toNat=node then(frameE (sendFrm l m d s node value),-1) else(9,-1)) else memRF l m d s
def sendT(l:List Int)(m d s node value:Int):List UInt8:=if (memRF l m d s).1=0∧whoV l s.toNat=node then makeF (sendFrm l m d s node value) else[]
set_option maxRecDepth 100000 in
set_option maxHeartbeats 1600000 in
theorem send_any(ea:Nat→Addr)(a:Option Addr)(n cap:Nat)(l:List Int)(m d s node value:Int)(w:World)(hg:Glob w ea [2,3,4,5,7,9])(hT:TxtEnv w)(hn:l.length=n)(hr:RowAt w a (encInts l))(hc:n≤4611686018427387904) :
 Calls Tryz.prog 182 #[.slice a n cap,.agg #[.int .i64 m,.int .i64 d,.int .i64 s],.int .i64 node,.int .i64 value] w fun e w'=>
  ∃v,e=.returned (.tuple #[.string ⟨(sendT l m d s node value).toArray⟩,v])∧ErrIs ea w' v (sendF l m d s node value).1 (sendF l m d s node value).2∧Below w.heap.size w w':=by
 have KR:=Lib.hid (fun(W:World) (h:Below w.heap.size w W)=>memRight_any ea a n cap l m d s W ((hg.below h).sub (by simp)) hn (hr.below h) hc);have hb0:Below w.heap.size w (w.alloc (.cells #[.int .i64 m,.int .i64 d,.int .i64 s] 96)):=(Below.refl _ _).alloc (Nat.le_refl _) _;have hb1':=hb0
 by_cases h:(memRF l m d s).1=0
 ·rw[(memRF_ok h).2.2.1] at KR
  simp only[if_true] at KR
  by_cases hw:whoV l s.toNat=node
  ·have hF:sendF l m d s node value=(frameE (sendFrm l m d s node value),-1):=by rw[sendF,if_pos h,if_pos hw]
   have hT':sendT l m d s node value=makeF (sendFrm l m d s node value):=by rw[sendT,if_pos ⟨h,hw⟩]
   obtain⟨hp,hv,_,_⟩:=memRF_ok h;obtain⟨hcm,hvd⟩:=viewE_zero hv;have hnd:nodeB node=true:=by rw[←hw];exact(planF_ok hp).2.2.2 _ (whoV_mem l _ (planF_ok hp).2.1)
   obtain⟨k,rfl⟩:∃k:Nat,m=k:=by
    simp only[crewB,decide_eq_true_eq] at hcm;exact⟨m.toNat,by omega⟩
   have hk:k<65536:=by simp only[crewB,decide_eq_true_eq] at hcm;omega
   have KW:=Lib.hid (fun(W:World)=>with_any k d s node W hk hnd);have KM:=Lib.hid (fun(W:World) (h:Below w.heap.size w W)=>make_any ea node ((k|||bitOf node:Nat):Int) d s value W ((hg.below h).sub (by simp)) (hT.below h));have hfr:sendFrm l k d s node value=⟨node,((k|||bitOf node:Nat):Int),d,s,value⟩:=rfl;rw[hF,hT',hfr];rw[hw] at KR;generalize k|||bitOf node=M at *
   generalize makeF ⟨node,(M:Int),d,s,value⟩=tx at *;generalize frameE ⟨node,(M:Int),d,s,value⟩=fe at *;clear hg hT hn hr h hw hF hT' hp hv hcm hvd hnd hfr;go_enter Tryz.func182,Tryz.ntmps182;go_wp2_with fail;refine(KR.out _ hb0).mono ?_;rintro e w1⟨v,rfl,hv,hb1⟩;obtain rfl:v=.nilIface:=hv.nil;have hv1:=hb0.trans (hb1.mono hb0.size);have b0:=(Blok.new w 96 #[.int .i64 k,.int .i64 d,.int .i64 s]).kept hb1;have c0:=b0.cell 0 rfl;have c1:=b0.cell 1 rfl;have c2:=b0.cell 2 rfl;go_wp2_with fail;refine(KW.out _).mono ?_;rintro e w2⟨rfl,hb2⟩;have hv2:=hv1.trans (hb2.mono hv1.size);go_wp2_with fail;refine(KM.out _ hv2).mono ?_;rintro e w3⟨rfl,hb3⟩;go_wp2;go_ret2;exact⟨_,rfl,Or.inl ⟨rfl,rfl⟩,hv2.trans (hb3.mono hv2.size)⟩
  ·have hF:sendF l m d s node value=(9,-1):=by rw[sendF,if_pos h,if_neg hw]
   have hT':sendT l m d s node value=[]:=by rw[sendT,if_neg (fun e=>hw e.2)]
   rw[hF,hT'];have HG:=Lib.hid (fun(W:World) (h:Below w.heap.size w W)=>hg.below h);have hwb:(whoV l s.toNat != node)=true:=by simpa using hw
   generalize whoV l s.toNat=who at *;clear hg hT hn hr h hw hF hT';go_enter Tryz.func182,Tryz.ntmps182;go_wp2_with fail;refine(KR.out _ hb0).mono ?_;rintro e w1⟨v,rfl,hv,hb1⟩;obtain rfl:v=.nilIface:=hv.nil;have hv1:=hb0.trans (hb1.mono hb0.size);have g9:=(HG.out _ hv1).cell 9 (by simp);simp only[gOf] at g9;go_wp2;go_region
   all_goals
    go_wp2;go_ret2;exact⟨_,rfl,Or.inl ⟨rfl,rfl⟩,hv1.drew⟩
 ·have hF:sendF l m d s node value=memRF l m d s:=by rw[sendF,if_neg h]
  have hT':sendT l m d s node value=[]:=by rw[sendT,if_neg (fun e=>h e.1)]
  rw[hF,hT'];rw[if_neg h] at KR;have H0:=Lib.hid h;clear hg hT hn hr h hF hT';go_enter Tryz.func182,Tryz.ntmps182;go_wp2_with fail;refine(KR.out _ hb0).mono ?_;rintro e w1⟨v,rfl,hv,hb1⟩;obtain⟨vt,vx,rfl⟩:=hv.held H0.out;go_wp2;go_ret2;exact⟨_,rfl,hv,hb0.trans (hb1.mono hb0.size)⟩
end Go.Proofs.YtppfkokfnoeopaaGreatDoor
