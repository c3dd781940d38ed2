/- A part of a proof. -/
import Derived.Deep.RegionHeld3
import Derived.Deep.AppendLies
import Derived.Test.YtppfkokfnoeopaaGreatDoorSClique
set_option maxRecDepth 400000
set_option maxHeartbeats 6400000
namespace Go.Proofs.YtppfkokfnoeopaaGreatDoor
open Go.RowKit Go.Proofs.Tryz
def I7(x:Int)(i:Int):List Int→Int
 | []=>-1
 | y::r=>if x=y then i else I7 x (i+1) r
theorem N9(x:Int):∀(l:List Int) (i:Int),0≤i→(0≤I7 x i l↔x∈l)
 | [],i,_=>by simp[I7]
 | y::r,i,h=>by
  rw[I7]
  by_cases hx:x=y
  ·simp[hx,h]
  ·simp[hx,N9 x r (i+1) (by omega)]
theorem zCx(x:Int)(a:Option Addr)(n cap:Nat)(l:List Int)(w:World)(hn:l.length=n)(hr:Ac w a (Aa l))(hc:n≤4611686018427387904) :
 Calls prog 221 #[.slice a n cap,.int .i64 x] w fun e w'=>e=.returned (.int .i64 (I7 x 0 l))∧w=w':=by
 have HN:=zh hn;clear hn;go_enter func221,ntmps221;go_wp2;go_loop [8] (fun i=>∃k:Nat,k≤n∧i=.int .i64 k∧Hid (I7 x k (l.drop k)=I7 x 0 l)) (fun i=>n-(intOf i).toNat)
 case atStart=>exact⟨0,Nat.zero_le _,rfl,rfl⟩
 case round=>
  obtain⟨k,hk,rfl,HK⟩:=hrel
  by_cases hlt:k<n
  ·have hkt:k<l.length:=by have:=HN.out;omega
   obtain⟨b,off,rfl,hbl,c0⟩:=hr.int k hkt;have hd:l.drop k=l[k]::l.drop (k+1):=List.drop_eq_getElem_cons hkt;generalize l[k]=y at *;clear hkt
   by_cases hx:x=y
   ·have HS:Hid (I7 x 0 l=k):=by unfold Hid at HK ⊢;rw[←HK,hd,I7,if_pos hx]
    have hb:(x==y)=true:=by simp[hx]
    clear hd hx HK;go_wp2;go_ret;exact⟨Hn HS.out.symm,rfl⟩
   ·have HS:Hid (I7 x (k+1:Nat) (l.drop (k+1))=I7 x 0 l):=by unfold Hid at HK ⊢;rw[←HK,hd,I7,if_neg hx];rfl
    have hb:(x==y)=false:=by simp[hx]
    clear hd hx HK;go_wp2;go_round
    case rel=>exact⟨k+1,by omega,by go_num,HS⟩
    case measure=>simp[intOf];omega
  ·have HS:Hid (I7 x 0 l=-1):=by unfold Hid at HK ⊢;rw[←HK,List.drop_eq_nil_of_le (by have:=HN.out;omega)];rfl
   go_wp2;go_ret;exact⟨Hn HS.out.symm,rfl⟩
theorem Nx(x:Int)(a:Option Addr)(n cap:Nat)(l:List Int)(w:World)(hn:l.length=n)(hr:Ac w a (Aa l))(hc:n≤4611686018427387904) :
 Calls prog 183 #[.slice a n cap,.int .i64 x] w fun e w'=>e=.returned (.bool (decide (x∈l)))∧w=w':=by
 have HB:Hid (decide (0≤I7 x 0 l)=decide (x∈l)):=by unfold Hid;rw[Bool.eq_iff_iff];simp[N9 x l 0 (by omega)]
 go_enter func183,ntmps183;go_wp2_with (go_at_call 221;refine(zCx _ _ _ _ l _ hn hr hc).mono ?_;rintro e w'⟨rfl,rfl⟩);go_ret;exact⟨Ca HB.out,rfl⟩
end Go.Proofs.YtppfkokfnoeopaaGreatDoor
