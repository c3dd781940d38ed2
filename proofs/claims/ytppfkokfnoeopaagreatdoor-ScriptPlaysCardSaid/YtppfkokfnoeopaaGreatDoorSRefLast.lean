/- A part of a proof. -/
import Derived.Test.YtppfkokfnoeopaaGreatDoorSFold
import Derived.Test.YtppfkokfnoeopaaGreatDoorSRefBase
set_option maxRecDepth 400000
set_option maxHeartbeats 6400000
namespace Go.Proofs.YtppfkokfnoeopaaGreatDoor
open Go.RowKit Go.Proofs.Tryz
theorem Z9(a:Option Addr)(n cap:Nat)(es:List Ent)(w:World)(hn:es.length=n)(hr:Ac w a (Av es))(hm:n≤4611686018427387904) :
 Calls prog 144 #[.slice a n cap] w fun e w'=>∃ao co,e=.returned (.slice ao 16 co)∧Ac w' ao (Aa (Gc es 16))∧16≤co∧Below w.heap.size w w':=by
 have HN:=zh hn;have HR:=zh hr;have HT:Hid (es.take n=es):=by unfold Hid;rw[←hn,List.take_length]
 obtain⟨i0,hi,hz0,hz1,hz2⟩:=info_parts Ga;have hi':=zh hi;have hz0':=zh hz0;have hz1':=zh hz1;have hz2':=zh hz2;clear hn hr hi hz0 hz1 hz2;go_enter func144,ntmps144;go_wp2;go_loopw [3,4] (fun v i wr=>∃k:Nat,k≤16∧i=.int .i64 ((k:Int)+1)∧wr.ownsRow w.heap.size 3 1 v k (Aa (Gc es k))∧Below w.heap.size w wr) (fun _ i _=>18-(intOf i).toNat)
 case atStart=>exact⟨0,Nat.zero_le _,rfl,World.ownsRow_nil _ _ _ _,Below.refl _ _⟩
 case round=>
  obtain⟨k,hk,rfl,hown,hb⟩:=hrel
  by_cases hlt:k<16
  ·have HS:Hid (Aa (Gc es (k+1))=Aa (Gc es k)++[.int .i64 (Gz ((k:Int)+1) es)]):=by unfold Hid;rw[Z7];simp[Aa]
   have HO:=zh hown;have HW:=zh (fun x:Int=>Ac.new_at wr [.int .i64 x] 3 _ rfl);have HV:=zh (fun x:Int=>hb.alloc hb.size (.cells #[.int .i64 x] 3));have hnd:∀(v:Value) ,v=v:=fun _=>rfl
   generalize Aa (Gc es k)=xs at *;clear hown hnd;obtain⟨wo,hwo⟩:∃wo:World,wo=wr:=⟨_,rfl⟩
   go_wp2;go_loop [5,6] (fun v i=>∃j:Nat,j≤n∧i=.int .i64 ((j:Int)-1)∧v=.int .i64 0∧Hid (Gz ((k:Int)+1) (es.take j)=Gz ((k:Int)+1) es)) (fun _ i=>(intOf i+1).toNat)
   case atStart=>exact⟨n,Nat.le_refl _,by simp,rfl,by unfold Hid;rw[HT.out]⟩
   case round=>
    obtain⟨j,hj,rfl,rfl,HJ⟩:=hrel
    by_cases hj0:j=0
    ·subst hj0
     have HV0:Hid (Gz ((k:Int)+1) es=0):=by unfold Hid;rw[←HJ.out];rfl
     clear HJ;go_wp2_with (at_builtin;refine Ag _ rfl (.tmp 37) (.tmp 39) 72 rfl w.heap.size 3 i0 _ 1 8 underlying72 hi'.out hz0'.out hz1'.out hz2'.out rfl (by decide) _ k xs rfl (HO.out.alloc _) (some ⟨wr.heap.size,0,none⟩) 1 1 [.int .i64 0] rfl rfl (HW.out 0) ?_ ?_ ?_ ?_ ?_;(simp[Value.oneCell']);(unfold maxLen;omega);(omega);(exact(HV.out 0).size);intro v1 w5 ho1 hg1 hq hm1;clear hq hm1);go_roundw
     case rel=>exact⟨k+1,by omega,by go_num,by rw[HS.out,HV0.out];exact ho1,(HV.out 0).grown hg1 (HV.out 0).size (fun j e=>(HO.out.lt j e).1)⟩
     case measure=>simp[intOf];omega
    ·obtain⟨q,rfl⟩:∃q,j=q+1:=⟨j-1,by omega⟩
     have hq1:q<es.length:=by have:=HN.out;omega
     obtain⟨b,off,rfl,hbl,c0,c1,c2,c3⟩:=(HR.out.below hb).ent q hq1;have HH:=zh (Uu ((k:Int)+1) es q hq1);have HM:=zh (R8 ((k:Int)+1) es q hq1);have hi0:(0:Int)≤(q:Int):=by omega
     have hi1:(q:Int)<(n:Int):=by omega
     have e1:((q+1:Nat):Int)-1=(q:Int):=by omega
     rw[e1];generalize es[q]=e at *
     by_cases hf:e.frm=(k:Int)+1
     ·cases hh:e.heard
      ·have HX:Hid (Gz ((k:Int)+1) (es.take q)=Gz ((k:Int)+1) es):=by unfold Hid;rw[←HM.out (by simp[hh]),HJ.out]
       rw[hh] at c2;rw[hf] at c1;clear HH HM HJ hh hf;go_wp2;go_round
       case rel=>exact⟨q,by omega,by go_num,rfl,HX⟩
       case measure=>simp[intOf]<;>omega
      ·have HX:Hid (Gz ((k:Int)+1) es=e.value):=by unfold Hid;rw[←HJ.out,HH.out ⟨hf,hh⟩]
       rw[hh] at c2;rw[hf] at c1;clear HH HM HJ hh hf;go_wp2_with (at_builtin;refine Ag _ rfl (.tmp 37) (.tmp 39) 72 rfl w.heap.size 3 i0 _ 1 8 underlying72 hi'.out hz0'.out hz1'.out hz2'.out rfl (by decide) _ k xs rfl (HO.out.alloc _) (some ⟨wr.heap.size,0,none⟩) 1 1 [.int .i64 e.value] rfl rfl (HW.out e.value) ?_ ?_ ?_ ?_ ?_;(simp[Value.oneCell']);(unfold maxLen;omega);(omega);(exact(HV.out e.value).size);intro v1 w5 ho1 hg1 hq hm1;clear hq hm1);go_roundw
       case rel=>exact⟨k+1,by omega,by go_num,by rw[HS.out,HX.out];exact ho1,(HV.out e.value).grown hg1 (HV.out e.value).size (fun j e=>(HO.out.lt j e).1)⟩
       case measure=>simp[intOf];omega
     ·have HX:Hid (Gz ((k:Int)+1) (es.take q)=Gz ((k:Int)+1) es):=by unfold Hid;rw[←HM.out (by simp[hf]),HJ.out]
      have hfb:(e.frm==(k:Int)+1)=false:=by simpa using hf
      clear HH HM HJ hf;go_wp2;go_round
      case rel=>exact⟨q,by omega,by go_num,rfl,HX⟩
      case measure=>simp[intOf]<;>omega
  ·obtain rfl:k=16:=by omega
   obtain⟨ao,co,rfl⟩:=Aj hown;obtain⟨ra,_,na,_⟩:=Ac.owned hown;go_wp2;go_ret;exact⟨ao,co,rfl,ra,na,hb⟩
theorem Zb(a:Option Addr)(n cap:Nat)(es:List Ent)(w:World)(hn:es.length=n)(hr:Ac w a (Av es))(hm:n≤4611686018427387904)(hs:∀k,-16777216≤((Gc es 16).take k).sum∧((Gc es 16).take k).sum≤16777216) :
 Calls prog 91 #[.slice a n cap] w fun e w'=>e=.returned (.int .i64 (Gc es 16).sum)∧Below w.heap.size w w':=by
 have K:=zh (Z9 a n cap es w hn hr hm);have hl:=Oe es 16;generalize Gc es 16=L at *;clear hn hr hm;go_enter func91,ntmps91;go_wp2_with fail;refine K.out.mono ?_;rintro e w1⟨ao,co,rfl,hrx,hco,hb1⟩;go_wp2;go_loop [3,5] (fun t i=>∃k:Nat,k≤16∧i=.int .i64 k∧t=.int .i64 (L.take k).sum) (fun _ i=>16-(intOf i).toNat)
 case atStart=>exact⟨0,by omega,rfl,rfl⟩
 case round=>
  obtain⟨k,hk,rfl,rfl⟩:=hrel
  by_cases hlt:k<16
  ·have hk1:k<L.length:=by omega
   obtain⟨b,off,rfl,hbl,c0⟩:=hrx.int k hk1;have hs1:=hs k;have hs2:=hs (k+1);have HS:=zh (Y7 L k hk1);rw[HS.out] at hs2;have hi0:(0:Int)≤(k:Int):=by omega
   have hi1:(k:Int)<16:=by omega
   generalize L[k]=v at *;go_wp2;go_round
   case rel=>exact⟨k+1,by omega,by go_num,by rw[HS.out]⟩
   case measure=>simp[intOf];omega
  ·obtain rfl:k=16:=by omega
   rw[List.take_of_length_le (by omega)];go_wp2;go_ret;exact⟨rfl,hb1⟩
end Go.Proofs.YtppfkokfnoeopaaGreatDoor
