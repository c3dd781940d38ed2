/- A part of a proof. -/
import Derived.Test.YtppfkokfnoeopaaGreatDoorDRefReadC
namespace Go.Proofs.YtppfkokfnoeopaaGreatDoor
open Go.RowKit
def rfVal(ws:List (List UInt8))(m:Nat)(j:Nat):Int:=if j=2 then(m:Int) else numN (ws.getD j [])
def rfOk(ws:List (List UInt8))(j:Nat):Bool:=if j=2 then true else numIs (ws.getD j [])&&(decide (j=5)||decide (0≤numN (ws.getD j [])))
def rfL(ws:List (List UInt8))(m:Nat)(k:Nat):List Int:=(List.range k).map fun j=>rfVal ws m (j+1)
theorem rfL_succ(ws:List (List UInt8))(m k:Nat):rfL ws m (k+1)=rfL ws m k++[rfVal ws m (k+1)]:=by rw[rfL,List.range_succ,List.map_append];rfl
theorem rf_words{w0 w1 w2 w3 w4 w5 w6:List UInt8}(h2:(readF w2).isSome=true):wordsB w1 w2 w3 w4 w5 w6=true↔∀j,1≤j→j<7→rfOk [w0,w1,w2,w3,w4,w5,w6] j=true:=by
 constructor
 ·intro h j h1 h7
  simp only[wordsB,natB,Bool.and_eq_true] at h;obtain⟨⟨⟨⟨⟨a1,_⟩,a3⟩,a4⟩,a5⟩,a6⟩:=h;have hj:j=1∨j=2∨j=3∨j=4∨j=5∨j=6:=by omega
  rcases hj with rfl|rfl|rfl|rfl|rfl|rfl<;>simp[rfOk,a1.1,a3.1,a4.1,a5,a6.1,of_decide_eq_true a1.2,of_decide_eq_true a3.2,of_decide_eq_true a4.2,of_decide_eq_true a6.2]
 ·intro h
  have b1:=h 1 (by omega) (by omega);have b3:=h 3 (by omega) (by omega);have b4:=h 4 (by omega) (by omega);have b5:=h 5 (by omega) (by omega);have b6:=h 6 (by omega) (by omega);simp only[rfOk,List.getD_cons_succ,List.getD_cons_zero] at b1 b3 b4 b5 b6;simp at b1 b3 b4 b5 b6;simp[wordsB,natB,h2,b1,b3,b4,b5,b6]
theorem rf_bad{s:List UInt8}{ws:List (List UInt8)}(hs:s.length≤100)(hc:cutL 32 s=ws)(h7:ws.length=7)(h:ws.getD 0 []≠[102,114,97,109,101]∨readF (ws.getD 2 [])=none∨∃j,1≤j∧j<7∧rfOk ws j=false):frameF s=(1,Frm0):=by
 obtain⟨w0,w1,w2,w3,w4,w5,w6,rfl⟩:=readL_seven h7;rw[frameF,if_neg (by omega),hc]
 show readW w0 w1 w2 w3 w4 w5 w6=_
 rw[readW]
 by_cases h0:w0=[102,114,97,109,101]
 ·rw[if_pos h0]
  rcases h with h|h|⟨j,h1,h2,h3⟩
  ·exact absurd h0 (by simpa using h)
  ·have h:readF w2=none:=by simpa using h
   rw[if_neg (by simp[wordsB,h])]
  ·by_cases hr:(readF w2).isSome=true
   ·rw[if_neg (fun e=>by have:=(rf_words (w0:=w0) hr).1 e j h1 h2;rw[h3] at this;cases this)]
   ·rw[if_neg (by simp[wordsB,hr])]
 ·rw[if_neg h0]
theorem rf_good{s:List UInt8}{w0 w1 w2 w3 w4 w5 w6:List UInt8}{m:Nat}(hs:s.length≤100)(hc:cutL 32 s=[w0,w1,w2,w3,w4,w5,w6])(h0:w0=[102,114,97,109,101])(h2:readF w2=some m)(h:∀j,1≤j→j<7→rfOk [w0,w1,w2,w3,w4,w5,w6] j=true) :
 frameF s=if ((sumF (joinL 32 [w0,w1,w2,w3,w4,w5]):Nat):Int)=numN w6 then
  (if frameE ⟨numN w1,m,numN w3,numN w4,numN w5⟩=0 then(0,⟨numN w1,m,numN w3,numN w4,numN w5⟩) else(frameE ⟨numN w1,m,numN w3,numN w4,numN w5⟩,Frm0)) else(8,Frm0):=by
 have hw:=(rf_words (w0:=w0) (w2:=w2) (by rw[h2];rfl)).2 h;rw[frameF,if_neg (by omega),hc]
 show readW w0 w1 w2 w3 w4 w5 w6=_
 rw[readW,if_pos h0,if_pos hw,frmOf,h2]
 rfl
theorem rf_seven(ws:List (List UInt8))(m:Nat)(w0 w1 w2 w3 w4 w5 w6:List UInt8)(h:ws=[w0,w1,w2,w3,w4,w5,w6]):rfL ws m 6=[numN w1,(m:Int),numN w3,numN w4,numN w5,numN w6]:=by
 subst h;rfl
set_option maxRecDepth 400000 in
set_option maxHeartbeats 1600000 in
theorem readFrame_short(s:List UInt8)(w:World)(hs:s.length≤100000)(h:100<s.length∨(cutL 32 s).length≠7) :
 Calls Tryz.prog 190 #[.string ⟨s.toArray⟩] w fun e w'=>e=.returned (.tuple #[.agg (frameF s).2.arr,.int .i64 (frameF s).1])∧Below w.heap.size w w':=by
 have hb0:Below w.heap.size w (w.alloc (.cells #[.int .i64 0,.int .i64 0,.int .i64 0,.int .i64 0,.int .i64 0] 256)):=(Below.refl _ _).alloc (Nat.le_refl _) _;have b0:=Blok.new w 256 #[.int .i64 0,.int .i64 0,.int .i64 0,.int .i64 0,.int .i64 0]
 by_cases h1:100<s.length
 ·have HB:Hid (frameF s=(2,Frm0)):=by unfold Hid;rw[frameF,if_pos h1]
  have hl:(100:Int)<(s.length:Int):=by omega
  have z0:=b0.cell 0 rfl;have y0:=b0.frozen 0;have z1:=b0.cell 1 rfl;have y1:=b0.frozen 1;have z2:=b0.cell 2 rfl;have y2:=b0.frozen 2;have z3:=b0.cell 3 rfl;have y3:=b0.frozen 3;have z4:=b0.cell 4 rfl;have y4:=b0.frozen 4;go_enter Tryz.func190,Tryz.ntmps190;go_wp2;refine bodyPost_ret (v:=.tuple #[.agg #[.int .i64 0,.int .i64 0,.int .i64 0,.int .i64 0,.int .i64 0],.int .i64 2]) (by simp[results,Tryz.results190,go_sem,z0,z1,z2,z3,z4]) rfl ?_;exact⟨by rw[HB.out];rfl,hb0⟩
 ·have h2:=h.resolve_left h1
  have HB:Hid (frameF s=(1,Frm0)):=by unfold Hid;rw[frameF,if_neg h1,readL_other h2]
  have hl:decide ((100:Int)<(s.length:Int))=false:=by simp;omega
  have KC:=Lib.hid (fun(W:World)=>refCut_any s 32 W hs);generalize cutL 32 s=ws at *;clear h h1;go_enter Tryz.func190,Tryz.ntmps190;go_wp2_with fail;refine(KC.out _).mono ?_;rintro e w1⟨aw,nw,cw,rfl,hrw,hnw,hcw,hb1⟩;have hn7:((nw:Int) != 7)=true:=by simp;omega
  have hv1:=hb0.trans (hb1.mono hb0.size);have b0:=b0.kept hb1;have z0:=b0.cell 0 rfl;have y0:=b0.frozen 0;have z1:=b0.cell 1 rfl;have y1:=b0.frozen 1;have z2:=b0.cell 2 rfl;have y2:=b0.frozen 2;have z3:=b0.cell 3 rfl;have y3:=b0.frozen 3;have z4:=b0.cell 4 rfl;have y4:=b0.frozen 4;go_wp2;refine bodyPost_ret (v:=.tuple #[.agg #[.int .i64 0,.int .i64 0,.int .i64 0,.int .i64 0,.int .i64 0],.int .i64 1]) (by simp[results,Tryz.results190,go_sem,z0,z1,z2,z3,z4]) rfl ?_;exact⟨by rw[HB.out];rfl,zero_below hv1⟩
set_option maxRecDepth 400000 in
set_option maxHeartbeats 12800000 in
theorem readFrame_seven(s:List UInt8)(ws:List (List UInt8))(w:World)(hs:s.length≤100)(hc:cutL 32 s=ws)(h7:ws.length=7) :
 Calls Tryz.prog 190 #[.string ⟨s.toArray⟩] w fun e w'=>e=.returned (.tuple #[.agg (frameF s).2.arr,.int .i64 (frameF s).1])∧Below w.heap.size w w':=by
 have hb0:Below w.heap.size w (w.alloc (.cells #[.int .i64 0,.int .i64 0,.int .i64 0,.int .i64 0,.int .i64 0] 256)):=(Below.refl _ _).alloc (Nat.le_refl _) _;have b0:=Blok.new w 256 #[.int .i64 0,.int .i64 0,.int .i64 0,.int .i64 0,.int .i64 0];have hl:decide ((100:Int)<(s.length:Int))=false:=by simp;omega
 have KC:=Lib.hid (fun(W:World)=>refCut_any s 32 W (by omega));have HBad:=Lib.hid (fun h=>rf_bad hs hc h7 h);have HPc:=Lib.hid (cutL_piece 32 s);have HC:=Lib.hid hc;rw[hc] at KC HPc
 have KR:=Lib.hid (fun(W:World)=>readCrew_any (ws.getD 2 []) W (by
  have:ws.getD 2 []∈ws:=by rw[List.getD_eq_getElem?_getD,List.getElem?_eq_getElem (by omega)];exact List.getElem_mem _
  have:=HPc.out _ this;omega))
 obtain⟨i0,hi,hz0,hz1,hz2⟩:=info_parts info_int;have hi':=Lib.hid hi;have hz0':=Lib.hid hz0;have hz1':=Lib.hid hz1;have hz2':=Lib.hid hz2;clear hi hz0 hz1 hz2 hc;go_enter Tryz.func190,Tryz.ntmps190;go_wp2_with fail;refine(KC.out _).mono ?_;rintro e w1⟨aw,nw,cw,rfl,hrw,hnw,hcw,hb1⟩;obtain rfl:7=nw:=by omega
 have hv1:=hb0.trans (hb1.mono hb0.size);have b0:=b0.kept hb1;have HRW:=Lib.hid hrw;obtain⟨bw,ow,rfl,hbw,cw2⟩:=textc_cell hrw 2 (by omega)
 have HCell:=Lib.hid (fun(W:World) (hb:Below w1.heap.size w1 W) (j:Nat) (hj:j<ws.length)=>show W.cell? ⟨bw,ow+j,none⟩=some (.string ⟨(ws.getD j []).toArray⟩) by
  obtain⟨b',o',e',_,c'⟩:=textc_cell HRW.out j hj;injection e' with e';injection e' with e1 e2;subst e1 e2;rw[List.getD_eq_getElem?_getD,List.getElem?_eq_getElem hj]
  exact(hb.cell (p:=⟨bw,ow+j,none⟩) hbw).trans c')
 have c2:=HCell.out w1 (Below.refl _ _) 2 (by omega);obtain⟨x2,hx2⟩:∃x2,x2=ws.getD 2 []:=⟨_,rfl⟩
 obtain⟨x0,hx0⟩:∃x0,x0=ws.getD 0 []:=⟨_,rfl⟩
 rw[←hx2] at c2 KR;have HX2:=Lib.hid hx2;have HX0:=Lib.hid hx0;clear hrw hnw cw2 hb1 KC hx2 hx0;go_wp2_with fail;refine(KR.out _).mono ?_;rintro e w2⟨rfl,hb2⟩;have hv2:=hv1.trans (hb2.mono hv1.size);have c0:=HCell.out w2 hb2 0 (by omega);rw[Nat.add_zero,←HX0.out] at c0;have b2:=b0.kept hb2;clear c2 KR
 by_cases h0:x0=[102,114,97,109,101]
 ·rw[h0] at c0
  cases hr:readF x2 with
  | none=>
   have HB:=Lib.hid (HBad.out (.inr (.inl (by rw[←HX2.out];exact hr))));have z0:=b2.cell 0 rfl;have y0:=b2.frozen 0;have z1:=b2.cell 1 rfl;have y1:=b2.frozen 1;have z2:=b2.cell 2 rfl;have y2:=b2.frozen 2;have z3:=b2.cell 3 rfl;have y3:=b2.frozen 3;have z4:=b2.cell 4 rfl;have y4:=b2.frozen 4;simp only[rcV];go_wp2;refine bodyPost_ret (v:=.tuple #[.agg #[.int .i64 0,.int .i64 0,.int .i64 0,.int .i64 0,.int .i64 0],.int .i64 1]) (by simp[results,Tryz.results190,go_sem,z0,z1,z2,z3,z4]) rfl ?_;exact⟨by rw[HB.out];rfl,zero_below hv2⟩
  | some m=>
   simp only[rcV];go_wp2;go_loopw [7,8] (fun v i wr=>∃k:Nat,k≤6∧i=.int .i64 ((k:Int)+1)∧wr.ownsRow w2.heap.size 3 1 v k (encInts (rfL ws m k))∧Hid (∀j,1≤j→j<k+1→rfOk ws j=true)∧Below w2.heap.size w2 wr) (fun _ i _=>8-(intOf i).toNat)
   case atStart=>exact⟨0,Nat.zero_le _,rfl,World.ownsRow_nil _ _ _ _,fun j h1 h2=>by omega,Below.refl _ _⟩
   case round=>
    obtain⟨k,hk,rfl,hown,hok,hb⟩:=hrel
    by_cases hlt:k<6
    ·have hwb:=hb2.trans (hb.mono hb2.size)
     have cx:=HCell.out wr hwb (k+1) (by omega);have hxl:(ws.getD (k+1) []).length≤s.length:=HPc.out _ (by rw[List.getD_eq_getElem?_getD,List.getElem?_eq_getElem (by omega)];exact List.getElem_mem _)
     have HOne:Hid (rfOk ws (k+1)=true→∀j,1≤j→j<k+2→rfOk ws j=true):=fun h j h1 h2=>by
      by_cases e:j=k+1
      ·subst e;exact h
      ·exact hok.out j h1 (by omega)
     have HBd:Hid (rfOk ws (k+1)=false→frameF s=(1,Frm0)):=fun h=>HBad.out (.inr (.inr ⟨k+1,by omega,by omega,h⟩))
     have hrok:rfOk ws (k+1)=if k+1=2 then true else numIs (ws.getD (k+1) [])&&(decide (k+1=5)||decide (0≤numN (ws.getD (k+1) []))):=rfl
     have hrv:rfVal ws m (k+1)=if k+1=2 then(m:Int) else numN (ws.getD (k+1) []):=rfl
     have HS:Hid (encInts (rfL ws m (k+1))=encInts (rfL ws m k)++[.int .i64 (rfVal ws m (k+1))]):=by unfold Hid;rw[rfL_succ];simp[encInts]
     have ecx:ow+(k+1)=ow+(k+1):=rfl;have hki:((k:Int)+1).toNat=k+1:=by omega
     have hvr:=hv2.trans (hb.mono hv2.size);have br:=b2.kept hb;generalize ws.getD (k+1) []=x at *;generalize encInts (rfL ws m k)=L at *;have KN:=Lib.hid (fun(W:World)=>numberOf_any x W (by omega));have hi0:(0:Int)≤(k:Int)+1:=by omega
     have hi1:(k:Int)+1<7:=by omega
     by_cases hk2:k+1=2
     ·rw[if_pos hk2] at hrok hrv
      have HOk:=Lib.hid (HOne.out hrok);rw[hrv] at HS;have d2:((k:Int)+1==2)=true:=by simp;omega
      have dm:decide ((m:Int)<0)=false:=by simp
      have HO:=Lib.hid (hown.alloc (.cells #[.int .i64 m] 3));have HW:=Lib.hid (RowAt.new_at wr [.int .i64 m] 3 _ rfl);have HV:=Lib.hid (hb.alloc hb.size (.cells #[.int .i64 m] 3));clear hrok hrv hk2 hown;go_wp2_with fail;refine(KN.out _).mono ?_;rintro e w3⟨rfl,rfl⟩;go_wp2_with (at_builtin;refine wpList_append2 _ rfl (.tmp 64) (.tmp 66) 72 rfl w2.heap.size 3 i0 _ 1 8 Tryz.underlying72 hi'.out hz0'.out hz1'.out hz2'.out rfl (by decide) _ k L rfl HO.out (some ⟨wr.heap.size,0,none⟩) 1 1 [.int .i64 m] rfl rfl HW.out ?_ ?_ ?_ ?_ ?_;(simp[Value.oneCell']);(unfold maxLen;omega);(omega);(exact HV.out.size);intro v1 w5 ho1 hg1 hq hm1;clear hq hm1);go_roundw
      case rel=>exact⟨k+1,by omega,by go_num,by rw[HS.out];exact ho1,HOk.out,HV.out.grown hg1 HV.out.size (fun j e=>(HO.out.lt j e).1)⟩
      case measure=>simp[intOf];omega
     ·rw[if_neg hk2] at hrok hrv
      have d2:((k:Int)+1==2)=false:=by simp;omega
      cases hn:numIs x
      ·have HB:=Lib.hid (HBd.out (by rw[hrok,hn];rfl))
       rw[hn] at KN;have z0:=br.cell 0 rfl;have y0:=br.frozen 0;have z1:=br.cell 1 rfl;have y1:=br.frozen 1;have z2:=br.cell 2 rfl;have y2:=br.frozen 2;have z3:=br.cell 3 rfl;have y3:=br.frozen 3;have z4:=br.cell 4 rfl;have y4:=br.frozen 4;clear hrok hrv hk2 hn;go_wp2_with fail;refine(KN.out _).mono ?_;rintro e w3⟨rfl,rfl⟩;go_wp2;refine bodyPost_ret (v:=.tuple #[.agg #[.int .i64 0,.int .i64 0,.int .i64 0,.int .i64 0,.int .i64 0],.int .i64 1]) (by simp[results,Tryz.results190,go_sem,z0,z1,z2,z3,z4]) rfl ?_;exact⟨by rw[HB.out];rfl,zero_below hvr⟩
      ·rw[hn] at KN
       by_cases hneg:numN x<0
       ·by_cases hk5:k+1=5
        ·have HOk:=Lib.hid (HOne.out (by rw[hrok,hn,decide_eq_true hk5];rfl))
         rw[hrv] at HS;have d5:((k:Int)+1 != 5)=false:=by simp;omega
         have HO:=Lib.hid (hown.alloc (.cells #[.int .i64 (numN x)] 3));have HW:=Lib.hid (RowAt.new_at wr [.int .i64 (numN x)] 3 _ rfl);have HV:=Lib.hid (hb.alloc hb.size (.cells #[.int .i64 (numN x)] 3));generalize numN x=n at *;clear hrok hrv hk2 hown hn hk5;go_wp2_with fail;refine(KN.out _).mono ?_;rintro e w3⟨rfl,rfl⟩;go_wp2_with (at_builtin;refine wpList_append2 _ rfl (.tmp 64) (.tmp 66) 72 rfl w2.heap.size 3 i0 _ 1 8 Tryz.underlying72 hi'.out hz0'.out hz1'.out hz2'.out rfl (by decide) _ k L rfl HO.out (some ⟨wr.heap.size,0,none⟩) 1 1 [.int .i64 n] rfl rfl HW.out ?_ ?_ ?_ ?_ ?_;(simp[Value.oneCell']);(unfold maxLen;omega);(omega);(exact HV.out.size);intro v1 w5 ho1 hg1 hq hm1;clear hq hm1);go_roundw
         case rel=>exact⟨k+1,by omega,by go_num,by rw[HS.out];exact ho1,HOk.out,HV.out.grown hg1 HV.out.size (fun j e=>(HO.out.lt j e).1)⟩
         case measure=>simp[intOf];omega
        ·have HB:=Lib.hid (HBd.out (by rw[hrok,hn,decide_eq_false hk5,decide_eq_false (by omega)];rfl))
         have d5:((k:Int)+1 != 5)=true:=by simp;omega
         have z0:=br.cell 0 rfl;have y0:=br.frozen 0;have z1:=br.cell 1 rfl;have y1:=br.frozen 1;have z2:=br.cell 2 rfl;have y2:=br.frozen 2;have z3:=br.cell 3 rfl;have y3:=br.frozen 3;have z4:=br.cell 4 rfl;have y4:=br.frozen 4;generalize numN x=n at *;clear hrok hrv hk2 hn hk5;go_wp2_with fail;refine(KN.out _).mono ?_;rintro e w3⟨rfl,rfl⟩;go_wp2;refine bodyPost_ret (v:=.tuple #[.agg #[.int .i64 0,.int .i64 0,.int .i64 0,.int .i64 0,.int .i64 0],.int .i64 1]) (by simp[results,Tryz.results190,go_sem,z0,z1,z2,z3,z4]) rfl ?_;exact⟨by rw[HB.out];rfl,zero_below hvr⟩
       ·have HOk:=Lib.hid (HOne.out (by rw[hrok,hn,decide_eq_true (show 0≤numN x by omega)];simp))
        rw[hrv] at HS;have dn:decide (numN x<0)=false:=by simp;omega
        have HO:=Lib.hid (hown.alloc (.cells #[.int .i64 (numN x)] 3));have HW:=Lib.hid (RowAt.new_at wr [.int .i64 (numN x)] 3 _ rfl);have HV:=Lib.hid (hb.alloc hb.size (.cells #[.int .i64 (numN x)] 3));generalize numN x=n at *;clear hrok hrv hk2 hown hn;go_wp2_with fail;refine(KN.out _).mono ?_;rintro e w3⟨rfl,rfl⟩;go_wp2_with (at_builtin;refine wpList_append2 _ rfl (.tmp 64) (.tmp 66) 72 rfl w2.heap.size 3 i0 _ 1 8 Tryz.underlying72 hi'.out hz0'.out hz1'.out hz2'.out rfl (by decide) _ k L rfl HO.out (some ⟨wr.heap.size,0,none⟩) 1 1 [.int .i64 n] rfl rfl HW.out ?_ ?_ ?_ ?_ ?_;(simp[Value.oneCell']);(unfold maxLen;omega);(omega);(exact HV.out.size);intro v1 w5 ho1 hg1 hq hm1;clear hq hm1);go_roundw
        case rel=>exact⟨k+1,by omega,by go_num,by rw[HS.out];exact ho1,HOk.out,HV.out.grown hg1 HV.out.size (fun j e=>(HO.out.lt j e).1)⟩
        case measure=>simp[intOf];omega
    ·obtain rfl:k=6:=by omega
     have hvr:=hv2.trans (hb.mono hv2.size);have hwb:=hb2.trans (hb.mono hb2.size);have br:=b2.kept hb;obtain⟨w0,w1',w2',w3',w4',w5',w6,hws⟩:=readL_seven h7;have c6w:=HCell.out wr hwb 6 (by omega);have h0':w0=[102,114,97,109,101]:=by have h:=h0;rw[HX0.out,hws] at h;simpa using h
     have hr':readF w2'=some m:=by have h:=hr;rw[HX2.out,hws] at h;simpa using h
     have hRF:=rf_good hs (HC.out.trans hws) h0' hr' (by rw[←hws];exact hok.out);have hL:=rf_seven ws m w0 w1' w2' w3' w4' w5' w6 hws;have hg6:ws.getD 6 []=w6:=by rw[hws];rfl
     rw[hg6] at c6w;obtain⟨P,hP⟩:∃P,P=joinL 32 [w0,w1',w2',w3',w4',w5']:=⟨_,rfl⟩
     have hsP:s=P++32::w6:=by
      have h1:=joinL_cutL 32 s;rw[HC.out,hws,show[w0,w1',w2',w3',w4',w5',w6]=[w0,w1',w2',w3',w4',w5']++[w6] from rfl,joinL_snoc 32 _ _ (by simp),←hP] at h1;exact h1.symm
     have hlen:s.length=P.length+1+w6.length:=by rw[hsP];simp;omega
     have hext:(⟨s.toArray⟩:ByteArray).extract 0 P.length=⟨P.toArray⟩:=by rw[ba_take,hsP];simp
     have hnum:(s.length:Int)-(w6.length:Int)-1=(P.length:Int):=by omega
     obtain⟨ao,co,rfl⟩:=owned_shape hown;obtain⟨ra,_,na,_⟩:=RowAt.owned hown;rw[hL] at ra;obtain⟨bo,oo,rfl,hbo,hcells⟩:=ra.at (by simp[encInts]);have v0:=hcells 0 (.int .i64 (numN w1')) (by simp[encInts]);have v1:=hcells 1 (.int .i64 m) (by simp[encInts]);have v2:=hcells 2 (.int .i64 (numN w3')) (by simp[encInts]);have v3:=hcells 3 (.int .i64 (numN w4')) (by simp[encInts]);have v4:=hcells 4 (.int .i64 (numN w5')) (by simp[encInts]);have v5:=hcells 5 (.int .i64 (numN w6)) (by simp[encInts]);rw[Nat.add_zero] at v0;rw[←hP] at hRF;have hPl:P.length≤100:=by omega
     have KS:=Lib.hid (fun(W:World)=>sumOf_any P W (by omega));generalize numN w1'=x0 at *;generalize numN w3'=x2 at *;generalize numN w4'=x3 at *;generalize numN w5'=x4 at *;generalize numN w6=x5 at *;generalize hsu:((sumF P:Nat):Int)=su at *;clear hcells ra hown hok HCell HRW HPc HBad hL hP hsP hws h0 hr h0' hr' hg6 HX0 HX2
     by_cases heq:su=x5
     ·rw[if_pos heq] at hRF
      have hq:(su != x5)=false:=by simpa using heq
      have KE:=Lib.hid (fun(W:World)=>frameError_any x0 m x2 x3 x4 W)
      by_cases hfe:frameE ⟨x0,m,x2,x3,x4⟩=0
      ·have HB:Hid (frameF s=(0,⟨x0,m,x2,x3,x4⟩)):=by unfold Hid;rw[hRF,if_pos hfe]
       rw[hfe] at KE;go_wp2;go_quiet ((go_at_call 229;exact Calls.quiet_of_same ((KS.out _).mono fun _ _ ⟨h1,h2⟩=>⟨h1,h2.symm⟩)));go_wp2;generalize hwq:wr.drewN nq=wq;have hbq0:Below wr.heap.size wr wq:=by rw[←hwq];exact below_drewN (Below.refl _ _) _
       have hvq:=hvr.trans (hbq0.mono hvr.size);have bq:=br.kept hbq0;have u0:=(hbq0.cell (p:=⟨bo,oo,none⟩) hbo).trans v0;have u1:=(hbq0.cell (p:=⟨bo,oo+1,none⟩) hbo).trans v1;have u2:=(hbq0.cell (p:=⟨bo,oo+2,none⟩) hbo).trans v2;have u3:=(hbq0.cell (p:=⟨bo,oo+3,none⟩) hbo).trans v3;have u4:=(hbq0.cell (p:=⟨bo,oo+4,none⟩) hbo).trans v4;have hbq1:=Nat.lt_of_lt_of_le hbo hbq0.size;have hnq1:¬(bo=wq.heap.size):=by omega
       have hnq2:¬(wq.heap.size=bo):=by omega
       have hBq:=bq.lt;have hnq3:¬(w.heap.size=wq.heap.size):=by omega
       have hnq4:¬(wq.heap.size=w.heap.size):=by omega
       clear hwq v0 v1 v2 v3 v4 v5 hbq0;go_region
       all_goals
        go_wp2_with fail;refine(KE.out _).mono ?_;rintro e w5⟨rfl,hb5⟩;have bT:=((Blok.new wq 256 #[.int .i64 x0,.int .i64 m,.int .i64 x2,.int .i64 x3,.int .i64 x4]).kept (Below.refl _ _).drew).kept hb5;have bR:=((bq.alloc (.cells #[.int .i64 x0,.int .i64 m,.int .i64 x2,.int .i64 x3,.int .i64 x4] 256)).kept (Below.refl _ _).drew).kept hb5;have hv4:=(hvq.alloc hvq.size (.cells #[.int .i64 x0,.int .i64 m,.int .i64 x2,.int .i64 x3,.int .i64 x4] 256)).drew;have hv5:=hv4.trans (hb5.mono hv4.size);have z0:=bR.cell 0 rfl;have y0:=bR.frozen 0;have z1:=bR.cell 1 rfl;have y1:=bR.frozen 1;have z2:=bR.cell 2 rfl;have y2:=bR.frozen 2;have z3:=bR.cell 3 rfl;have y3:=bR.frozen 3;have z4:=bR.cell 4 rfl;have y4:=bR.frozen 4;have t0:=bT.cell 0 rfl;have t1:=bT.cell 1 rfl;have t2:=bT.cell 2 rfl;have t3:=bT.cell 3 rfl;have t4:=bT.cell 4 rfl;clear hb5 bT bR;go_wp2;refine bodyPost_ret (v:=.tuple #[.agg #[.int .i64 x0,.int .i64 m,.int .i64 x2,.int .i64 x3,.int .i64 x4],.int .i64 0]) (by simp[results,Tryz.results190,go_sem,z0,z1,z2,z3,z4]) rfl ?_;refine⟨by rw[HB.out];rfl,?_⟩
        repeat(first|(with_reducible exact hv5)|(with_reducible refine Below.setCell ?_ (by simp) _))
      ·have HB:Hid (frameF s=(frameE ⟨x0,m,x2,x3,x4⟩,Frm0)):=by unfold Hid;rw[hRF,if_neg hfe]
       have hpos:(0:Int)<(frameE ⟨x0,m,x2,x3,x4⟩:Int):=by omega
       generalize hc1:(frameE ⟨x0,m,x2,x3,x4⟩:Int)=c at *;have HC1:=Lib.hid hc1;clear hc1 hfe;go_wp2;go_quiet ((go_at_call 229;exact Calls.quiet_of_same ((KS.out _).mono fun _ _ ⟨h1,h2⟩=>⟨h1,h2.symm⟩)));go_wp2;generalize hwq:wr.drewN nq=wq;have hbq0:Below wr.heap.size wr wq:=by rw[←hwq];exact below_drewN (Below.refl _ _) _
       have hvq:=hvr.trans (hbq0.mono hvr.size);have bq:=br.kept hbq0;have u0:=(hbq0.cell (p:=⟨bo,oo,none⟩) hbo).trans v0;have u1:=(hbq0.cell (p:=⟨bo,oo+1,none⟩) hbo).trans v1;have u2:=(hbq0.cell (p:=⟨bo,oo+2,none⟩) hbo).trans v2;have u3:=(hbq0.cell (p:=⟨bo,oo+3,none⟩) hbo).trans v3;have u4:=(hbq0.cell (p:=⟨bo,oo+4,none⟩) hbo).trans v4;have hbq1:=Nat.lt_of_lt_of_le hbo hbq0.size;have hnq1:¬(bo=wq.heap.size):=by omega
       have hnq2:¬(wq.heap.size=bo):=by omega
       have hBq:=bq.lt;have hnq3:¬(w.heap.size=wq.heap.size):=by omega
       have hnq4:¬(wq.heap.size=w.heap.size):=by omega
       clear hwq v0 v1 v2 v3 v4 v5 hbq0;go_region
       all_goals
        go_wp2_with fail;refine(KE.out _).mono ?_;rintro e w5⟨rfl,hb5⟩;have bT:=((Blok.new wq 256 #[.int .i64 x0,.int .i64 m,.int .i64 x2,.int .i64 x3,.int .i64 x4]).kept (Below.refl _ _).drew).kept hb5;have bR:=((bq.alloc (.cells #[.int .i64 x0,.int .i64 m,.int .i64 x2,.int .i64 x3,.int .i64 x4] 256)).kept (Below.refl _ _).drew).kept hb5;have hv4:=(hvq.alloc hvq.size (.cells #[.int .i64 x0,.int .i64 m,.int .i64 x2,.int .i64 x3,.int .i64 x4] 256)).drew;have hv5:=hv4.trans (hb5.mono hv4.size);have z0:=bR.cell 0 rfl;have y0:=bR.frozen 0;have z1:=bR.cell 1 rfl;have y1:=bR.frozen 1;have z2:=bR.cell 2 rfl;have y2:=bR.frozen 2;have z3:=bR.cell 3 rfl;have y3:=bR.frozen 3;have z4:=bR.cell 4 rfl;have y4:=bR.frozen 4;have t0:=bT.cell 0 rfl;have t1:=bT.cell 1 rfl;have t2:=bT.cell 2 rfl;have t3:=bT.cell 3 rfl;have t4:=bT.cell 4 rfl;clear hb5 bT bR;go_wp2;refine bodyPost_ret (v:=.tuple #[.agg #[.int .i64 0,.int .i64 0,.int .i64 0,.int .i64 0,.int .i64 0],.int .i64 c]) (by simp[results,Tryz.results190,go_sem,z0,z1,z2,z3,z4]) rfl ?_;exact⟨by rw[HB.out,←HC1.out];rfl,zero_below hv5⟩
     ·rw[if_neg heq] at hRF
      have hq:(su != x5)=true:=by simpa using heq
      have HB:=Lib.hid hRF;have z0:=br.cell 0 rfl;have y0:=br.frozen 0;have z1:=br.cell 1 rfl;have y1:=br.frozen 1;have z2:=br.cell 2 rfl;have y2:=br.frozen 2;have z3:=br.cell 3 rfl;have y3:=br.frozen 3;have z4:=br.cell 4 rfl;have y4:=br.frozen 4;go_wp2;go_quiet ((go_at_call 229;exact Calls.quiet_of_same ((KS.out _).mono fun _ _ ⟨h1,h2⟩=>⟨h1,h2.symm⟩)));go_wp2;refine bodyPost_ret (v:=.tuple #[.agg #[.int .i64 0,.int .i64 0,.int .i64 0,.int .i64 0,.int .i64 0],.int .i64 8]) (by simp[results,Tryz.results190,go_sem,z0,z1,z2,z3,z4]) rfl ?_;exact⟨by rw[HB.out];rfl,zero_below (below_drewN hvr _)⟩
 ·have HB:=Lib.hid (HBad.out (.inl (by rw[←HX0.out];exact h0)))
  have hq:(x0==[102,114,97,109,101])=false:=by simpa using h0
  have z0:=b2.cell 0 rfl;have y0:=b2.frozen 0;have z1:=b2.cell 1 rfl;have y1:=b2.frozen 1;have z2:=b2.cell 2 rfl;have y2:=b2.frozen 2;have z3:=b2.cell 3 rfl;have y3:=b2.frozen 3;have z4:=b2.cell 4 rfl;have y4:=b2.frozen 4
  cases hr:readF x2
  all_goals
   simp only[rcV];go_wp2;refine bodyPost_ret (v:=.tuple #[.agg #[.int .i64 0,.int .i64 0,.int .i64 0,.int .i64 0,.int .i64 0],.int .i64 1]) (by simp[results,Tryz.results190,go_sem,z0,z1,z2,z3,z4]) rfl ?_;exact⟨by rw[HB.out];rfl,zero_below hv2⟩
theorem readFrame_any(s:List UInt8)(w:World)(hs:s.length≤100000) :
 Calls Tryz.prog 190 #[.string ⟨s.toArray⟩] w fun e w'=>e=.returned (.tuple #[.agg (frameF s).2.arr,.int .i64 (frameF s).1])∧Below w.heap.size w w':=by
 by_cases h:100<s.length∨(cutL 32 s).length≠7
 ·exact readFrame_short s w hs h
 ·exact readFrame_seven s _ w (by omega) rfl (by omega)
end Go.Proofs.YtppfkokfnoeopaaGreatDoor
