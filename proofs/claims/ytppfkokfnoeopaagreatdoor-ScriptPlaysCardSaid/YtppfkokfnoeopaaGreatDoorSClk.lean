/- A part of a proof. -/
import Derived.Test.YtppfkokfnoeopaaGreatDoorSRefBase
import Derived.Test.YtppfkokfnoeopaaGreatDoorSSorted
set_option maxRecDepth 400000
set_option maxHeartbeats 6400000
namespace Go.Proofs.YtppfkokfnoeopaaGreatDoor
open Go.RowKit Go.Shelf
theorem J6{w W w':World}(h:Below w.heap.size w W)(h2:Below W.heap.size W w'):Below w.heap.size w w':=h.trans (h2.mono h.size)
def It(n:Int):Bool:=decide (n < -1000000∨1000000<n)
theorem zBp(n:Int)(w:World):Calls Tryz.prog 271 #[.int .i64 n] w fun e w'=>e=.returned (.bool (It n))∧w=w':=by
 by_cases h:n < -1000000
 ·have HF:=zh (show It n=true by simp[It];omega)
  go_enter Tryz.func271,Tryz.ntmps271;go_wp2;go_ret;exact⟨Ca HF.out.symm,rfl⟩
 ·have hd:decide (n < -1000000)=false:=by simpa using h
  by_cases h2:1000000<n
  ·have HF:=zh (show It n=true by simp[It];omega)
   go_enter Tryz.func271,Tryz.ntmps271;go_wp2;go_ret;exact⟨Ca HF.out.symm,rfl⟩
  ·have HF:=zh (show It n=false by simp[It];omega)
   go_enter Tryz.func271,Tryz.ntmps271;go_wp2;go_ret;exact⟨Ca HF.out.symm,rfl⟩
def Cw(i:Int):List Int→Int
 | []=>-1
 | x::r=>if It x then i else Cw (i+1) r
theorem M8:∀(l:List Int) (i:Int),0≤i→(Cw i l<0↔∀x∈l,It x=false)
 | [],i,_=>by simp[Cw]
 | x::r,i,h=>by
  rw[Cw]
  cases hx:It x
  ·simp only[Bool.false_eq_true,if_false,List.mem_cons,forall_eq_or_imp,hx,true_and];exact M8 r (i+1) (by omega)
  ·simp only[if_true,List.mem_cons,forall_eq_or_imp,hx];simp;omega
def Dc(l:List Int)(k:Int):Nat×Int:=if k<0∨(l.length:Int)<k∨(l.length:Int)<2*k+1 then(2,-1) else if Cw 0 l<0 then(0,-1) else(2,Cw 0 l)
theorem zCg(l:List Int)(k:Int):(Dc l k).1≤11:=by unfold Dc;repeat(first|exact Nat.le_of_ble_eq_true rfl|split)
theorem Pv{l:List Int}{k:Int}(h:(Dc l k).1=0):Dc l k=(0,-1)∧0≤k∧2*k+1≤l.length∧∀x∈l,It x=false:=by
 unfold Dc at h ⊢
 split at h
 ·simp at h
 ·split at h
  ·rename_i h1 h2
   rw[if_neg h1,if_pos h2];exact⟨rfl,by omega,by omega,(M8 l 0 (by omega)).1 h2⟩
  ·simp at h
theorem Rw(a:Option Addr)(n cap:Nat)(l:List Int)(w:World)(hn:l.length=n)(hr:Ac w a (Aa l))(hc:n≤4611686018427387904) :
 Calls Tryz.prog 204 #[.slice a n cap,.func (.func 271) #[] #[]] w fun e w'=>e=.returned (.int .i64 (Cw 0 l))∧w=w':=by
 go_enter Tryz.func204,Tryz.ntmps204;go_wp2;go_loop [8] (fun i=>∃k:Nat,k≤n∧i=.int .i64 k∧Hid (Cw k (l.drop k)=Cw 0 l)) (fun i=>n-(intOf i).toNat)
 case atStart=>exact⟨0,Nat.zero_le _,rfl,rfl⟩
 case round=>
  obtain⟨k,hk,rfl,HK⟩:=hrel
  by_cases hlt:k<n
  ·obtain⟨b,off,rfl,hbl,c0⟩:=hr.int k (by omega)
   have hkt:k<l.length:=by omega
   have hd:l.drop k=l[k]::l.drop (k+1):=List.drop_eq_getElem_cons hkt;generalize l[k]=x at *
   cases hx:It x
   ·have HS:Hid (Cw (k+1:Nat) (l.drop (k+1))=Cw 0 l):=by unfold Hid at HK ⊢;rw[←HK,hd,Cw,hx];rfl
    have HX:=zh hx;clear hd hx HK;go_wp2_with (go_at_call 271;refine(zBp _ _).mono ?_;rintro e w'⟨rfl,rfl⟩;rw[HX.out]);go_round
    case rel=>exact⟨k+1,by omega,by go_num,HS⟩
    case measure=>simp[intOf];omega
   ·have HS:Hid (Cw 0 l=k):=by unfold Hid at HK ⊢;rw[←HK,hd,Cw,hx];rfl
    have HX:=zh hx;clear hd hx HK;go_wp2_with (go_at_call 271;refine(zBp _ _).mono ?_;rintro e w'⟨rfl,rfl⟩;rw[HX.out]);go_ret;exact⟨Hn HS.out.symm,rfl⟩
  ·have HS:Hid (Cw 0 l=-1):=by unfold Hid at HK ⊢;rw[←HK,List.drop_eq_nil_of_le (by omega)];rfl
   go_wp2;go_ret;exact⟨Hn HS.out.symm,rfl⟩
theorem Lm(ea:Nat→Addr)(a:Option Addr)(n cap:Nat)(l:List Int)(k:Int)(w:World)(hg:Bh w ea [2])(hn:l.length=n)(hr:Ac w a (Aa l))(hc:n≤1000) :
 Calls Tryz.prog 247 #[.slice a n cap,.int .i64 k] w fun e w'=>∃v,e=.returned v∧Bg ea w' v (Dc l k).1 (Dc l k).2∧Below w.heap.size w w':=by
 have g2:=hg.cell 2 (by simp);simp only[gOf] at g2;have HN:=zh hn
 by_cases h0:k<0∨(n:Int)<k∨(n:Int)<2*k+1
 ·have HP:Hid (Dc l k=(2,-1)):=by unfold Hid;rw[Dc,if_pos (by rw[hn];exact h0)]
  clear hn
  by_cases h1:k<0
  ·clear h0
   go_enter Tryz.func247,Tryz.ntmps247;go_wp2;go_ret;exact⟨_,rfl,by rw[HP.out];exact Bg.bare ea w 2,Below.refl _ _⟩
  ·by_cases h2:(n:Int)<k
   ·clear h0
    go_enter Tryz.func247,Tryz.ntmps247;go_wp2;go_ret;exact⟨_,rfl,by rw[HP.out];exact Bg.bare ea w 2,Below.refl _ _⟩
   ·have h3:(n:Int)<2*k+1:=by omega
    clear h0;go_enter Tryz.func247,Tryz.ntmps247;go_wp2;go_ret;exact⟨_,rfl,by rw[HP.out];exact Bg.bare ea w 2,Below.refl _ _⟩
 ·have b0:0≤k:=by omega
  have b1:2*k+1≤n:=by omega
  have b2:k≤n:=by omega
  by_cases h2:Cw 0 l<0
  ·have HP:Hid (Dc l k=(0,-1)):=by unfold Hid;rw[Dc,if_neg (by rw[hn];exact h0),if_pos h2]
   clear h0 hn;go_enter Tryz.func247,Tryz.ntmps247;go_wp2_with (go_at_call 204;refine(Rw _ _ _ l _ HN.out hr (by omega)).mono ?_;rintro e w'⟨rfl,rfl⟩);go_ret;exact⟨_,rfl,by rw[HP.out];exact Or.inl ⟨rfl,(Al ea).symm⟩,Below.refl _ _⟩
  ·have HP:Hid (Dc l k=(2,Cw 0 l)):=by unfold Hid;rw[Dc,if_neg (by rw[hn];exact h0),if_neg h2]
   have h3:0≤Cw 0 l:=by omega
   have HE:=zh (Ae ea (k:=2) (by decide));rw[HE.out] at g2;have e0:decide (k<0)=false:=decide_eq_false (by omega);have e1:decide ((n:Int)<k)=false:=decide_eq_false (by omega);have e2:decide ((n:Int)<2*k+1)=false:=decide_eq_false (by omega);clear h0 hn h2;go_enter Tryz.func247,Tryz.ntmps247;go_wp2_with (go_at_call 204;refine(Rw _ _ _ l _ HN.out hr (by omega)).mono ?_;rintro e w'⟨rfl,rfl⟩);go_ret;exact⟨_,rfl,by rw[HP.out];exact Or.inr ⟨h3,by simp,w.heap.size,rfl,by simp,by simp,by simp;exact HE.out.symm⟩,zb.alloc zl _⟩
theorem Ac.intG{w:World}{a:Option Addr}{l:List Int}(h:Ac w a (Aa l))(k:Nat)(hk:k<l.length) :
 ∃b off,a=some ⟨b,off,none⟩∧b<w.heap.size∧w.cell? ⟨b,off+k,none⟩=some (.int .i64 (l.getD k 0)):=by
 obtain⟨b,off,e,hb,hc⟩:=h.int k hk;exact⟨b,off,e,hb,by rw[hc,List.getD_eq_getElem?_getD,List.getElem?_eq_getElem hk];rfl⟩
def Sa(l:List Int)(k:Nat):Int:=((Bt l).getD k 0+(Bt l).getD (l.length-1-k) 0)/2
theorem zJr(ea:Nat→Addr)(a:Option Addr)(n cap:Nat)(l:List Int)(k:Nat)(w:World)(hg:Bh w ea [2])(hn:l.length=n)(hr:Ac w a (Aa l))(hc:n≤1000)(h:(Dc l k).1=0) :
 Calls Tryz.prog 202 #[.slice a n cap,.int .i64 k] w fun e w'=>e=.returned (.tuple #[.int .i64 (Sa l k),.nilIface])∧Below w.heap.size w w':=by
 have C:=zh (Lm ea a n cap l k w hg hn hr hc);obtain⟨hF,_,hk2,hfar⟩:=Pv h;rw[hF] at C;have hk:2*k+1≤n:=by omega
 have HN:=zh hn;obtain⟨b,off,rfl,hbl,hcells⟩:=hr.at (fun e=>by have h1:=Ci l;rw[e,hn] at h1;simp at h1;omega);have hI:∀W:World,Below w.heap.size w W→Jj W.heap.size W (.slice (some ⟨b,off,none⟩) n cap) l:=fun W hb=>Or.inr ⟨b,off,cap,by rw[hn],Nat.lt_of_lt_of_le hbl hb.size,fun j hj=>(hb.cell (p:=⟨b,off+j,none⟩) hbl).trans (hcells j _ (by simp[Aa,hj]))⟩
 have HI:=zh hI
 have hfx:∀j,j<n→-1000000≤(Bt l).getD j 0∧(Bt l).getD j 0≤1000000:=fun j hj=>by
  have hm:(Bt l).getD j 0∈Bt l:=by
   rw[List.getD_eq_getElem?_getD,List.getElem?_eq_getElem (by rw[Ds];omega)];exact List.getElem_mem _
  have:=hfar _ ((List.mergeSort_perm l _).mem_iff.1 hm);simp only[It,decide_eq_false_iff_not] at this;omega
 have b1:=hfx k (by omega);have b2:=hfx (n-1-k) (by omega);have hL:=Ds l;have HM:Hid (Sa l k=((Bt l).getD k 0+(Bt l).getD (n-1-k) 0)/2):=by unfold Hid;rw[Sa,hn]
 have HSL:Hid ((Bt l).length=n):=by unfold Hid;rw[hL,hn]
 clear h hF hn hr hcells hI hfx hL hfar hk2;have KV:=zh (fun(W:World)=>callsIn_wide.1 (Wy Fence.wide 3 trivial rfl (some ⟨b,off,none⟩) n cap W));go_enter Tryz.func202,Tryz.ntmps202;go_wp2_with fail;refine C.out.mono ?_;rintro e w1⟨v,rfl,hE,hb⟩;obtain rfl:=hE.nil;clear hE;have hs1:=hb.size;go_wp2_with (go_at_call 249;refine(KV.out _).mono ?_;rintro e w2⟨rfl,rfl⟩);have hbv:=hb.alloc hb.size (.cells #[.slice (some ⟨b,off,none⟩) n cap] 72);refine(zAy w1.heap.size (.slice (some ⟨b,off,none⟩) n cap) l _ (by rw[HN.out];exact hc) (by simp) (by simp) (HI.out _ hbv)).mono ?_;rintro e w3⟨v,rfl,ho,hb3⟩;rw[HN.out] at ho;obtain⟨ao,co,rfl⟩:=Aj ho;obtain⟨ra,_,na,_⟩:=Ac.owned ho;obtain⟨bx,ox,rfl,hbx,q0⟩:=ra.intG k (by rw[HSL.out];omega);obtain⟨bx',ox',e',_,q1⟩:=ra.intG (n-1-k) (by rw[HSL.out];omega);obtain⟨rfl,rfl⟩:bx=bx'∧ox=ox':=by injection e' with e';injection e' with e1 e2;exact⟨e1,e2⟩
 have hbf:=J6 hb (J6 (zb.alloc zl _) hb3);clear ho ra e';generalize hA:(Bt l).getD k 0=A at *;generalize hB:(Bt l).getD (n-1-k) 0=B at *;clear hA hB;have w1':IntKind.i64.wrap (A+B)=A+B:=IntWalk.i64_in _ (by omega);have w2':IntKind.i64.wrap ((n:Int)-1)=(n:Int)-1:=IntWalk.i64_in _ (by omega);have w3':IntKind.i64.wrap ((n:Int)-1-(k:Int))=(n:Int)-1-(k:Int):=IntWalk.i64_in _ (by omega);have w4':((n:Int)-1-(k:Int)).toNat=n-1-k:=by omega
 have i0:(0:Int)≤(k:Int):=by omega
 have i1:(k:Int)<(n:Int):=by omega
 have i2:(0:Int)≤(n:Int)-1-(k:Int):=by omega
 have i3:(n:Int)-1-(k:Int)<(n:Int):=by omega
 go_wp2;go_quiet (fail);clear w1' w2' w3' w4';go_wp2;go_ret2;rw[HM.out];exact⟨rfl,Ab hbf _⟩
end Go.Proofs.YtppfkokfnoeopaaGreatDoor
namespace Go.Proofs.YtppfkokfnoeopaaGreatDoor
theorem K7(l:List Int):(Bt l).Pairwise (·≤·):=by
 have h:=List.pairwise_mergeSort (le:=fun x y:Int=>decide (x≤y)) (by intro a b c;simp;omega) (by intro a b;simp;omega) l;exact h.imp (fun h=>by simpa using h)
theorem Im(l:List Int):(Bt l).Perm l:=List.mergeSort_perm l _
theorem zD8{x:List Int}(h:x.Pairwise (·≤·)){i j:Nat}(hij:i≤j)(hj:j<x.length):x.getD i 0≤x.getD j 0:=by
 rw[List.getD_eq_getElem?_getD,List.getD_eq_getElem?_getD,List.getElem?_eq_getElem (by omega),List.getElem?_eq_getElem hj];simp only[Option.getD_some]
 rcases Nat.lt_or_eq_of_le hij with h1|rfl
 ·exact List.pairwise_iff_getElem.1 h i j (by omega) hj h1
 ·exact Int.le_refl _
theorem zF2{x:List Int}{k:Nat}(hk:k<x.length):x.getD k 0∈x:=by
 rw[List.getD_eq_getElem?_getD,List.getElem?_eq_getElem hk];exact List.getElem_mem _
end Go.Proofs.YtppfkokfnoeopaaGreatDoor
namespace Go.Proofs.YtppfkokfnoeopaaGreatDoor
open Go.RowKit
def E2(l:List Int)(k:Int):Int×Nat×Int:=if (Dc l k).1=0 then(Sa l k.toNat,0,-1) else(0,Dc l k)
theorem zIj(l:List Int)(k:Int):(E2 l k).2.1≤11:=by
 have:=zCg l k;unfold E2;split
 ·exact Nat.zero_le _
 ·exact this
theorem zIl(ea:Nat→Addr)(a:Option Addr)(n cap:Nat)(l:List Int)(k:Int)(w:World)(hg:Bh w ea [2])(hn:l.length=n)(hr:Ac w a (Aa l))(hc:n≤1000)(h:(Dc l k).1≠0) :
 Calls Tryz.prog 202 #[.slice a n cap,.int .i64 k] w fun e w'=>∃v,e=.returned (.tuple #[.int .i64 0,v])∧Bg ea w' v (Dc l k).1 (Dc l k).2∧Below w.heap.size w w':=by
 have C:=zh (Lm ea a n cap l k w hg hn hr hc);have H:=zh h;clear h hn;go_enter Tryz.func202,Tryz.ntmps202;go_wp2_with fail;refine C.out.mono ?_;rintro e w1⟨v,rfl,hE,hb⟩;obtain⟨t,x,rfl⟩:=hE.held H.out;go_wp2;go_ret2;exact⟨_,rfl,hE,hb⟩
theorem zIk(ea:Nat→Addr)(a:Option Addr)(n cap:Nat)(l:List Int)(k:Int)(w:World)(hg:Bh w ea [2])(hn:l.length=n)(hr:Ac w a (Aa l))(hc:n≤1000) :
 Calls Tryz.prog 202 #[.slice a n cap,.int .i64 k] w fun e w'=>∃v,e=.returned (.tuple #[.int .i64 (E2 l k).1,v])∧Bg ea w' v (E2 l k).2.1 (E2 l k).2.2∧Below w.heap.size w w':=by
 by_cases h:(Dc l k).1=0
 ·obtain⟨m,rfl⟩:∃m:Nat,k=m:=⟨k.toNat,by have:=(Pv h).2.1;omega⟩
  have hF:E2 l m=(Sa l m,0,-1):=by rw[E2,if_pos h,Int.toNat_natCast]
  rw[hF];refine(zJr ea a n cap l m w hg hn hr hc h).mono ?_;rintro e w'⟨rfl,hb⟩;exact⟨_,rfl,Or.inl ⟨rfl,(Al ea).symm⟩,hb⟩
 ·have hF:E2 l k=(0,Dc l k):=by rw[E2,if_neg h]
  rw[hF];exact zIl ea a n cap l k w hg hn hr hc h
end Go.Proofs.YtppfkokfnoeopaaGreatDoor
namespace Go.Proofs.YtppfkokfnoeopaaGreatDoor
open Go.RowKit Go.Proofs.Tryz
theorem Us(n:Int)(w:World):Calls prog 162 #[.int .i64 n] w fun e w'=>e=.returned (.bool (It n))∧w=w':=by
 by_cases h:n < -1000000
 ·have HF:=zh (show It n=true by simp[It];omega)
  go_enter func162,ntmps162;go_wp2;go_ret;exact⟨Ca HF.out.symm,rfl⟩
 ·have hd:decide (n < -1000000)=false:=by simpa using h
  by_cases h2:1000000<n
  ·have HF:=zh (show It n=true by simp[It];omega)
   go_enter func162,ntmps162;go_wp2;go_ret;exact⟨Ca HF.out.symm,rfl⟩
  ·have HF:=zh (show It n=false by simp[It];omega)
   go_enter func162,ntmps162;go_wp2;go_ret;exact⟨Ca HF.out.symm,rfl⟩
def I8(x:List Int)(v:Int)(m:Nat):List Int:=x.take m++[v]++x.drop m
theorem Z6(x:List Int)(v:Int)(m:Nat):(I8 x v m).Perm (x++[v]):=by
 unfold I8
 have h1:(x.take m++[v]++x.drop m).Perm (x.take m++x.drop m++[v]):=by
  rw[List.append_assoc,List.append_assoc];exact List.Perm.append_left _ List.perm_append_comm
 rwa [List.take_append_drop] at h1
theorem V3{x:List Int}(hs:x.Pairwise (·≤·))(v:Int)(m:Nat)(hm:m≤x.length)(h1:∀j,j<m→x.getD j 0≤v)(h2:∀j,m≤j→j<x.length→v<x.getD j 0):(I8 x v m).Pairwise (·≤·):=by
 unfold I8
 have hlo:∀a∈x.take m,a≤v:=fun a ha=>by
  obtain⟨i,hi,rfl⟩:=List.getElem_of_mem ha;have hi':i<m:=by rw[List.length_take] at hi;omega
  have:=h1 i hi';rw[List.getD_eq_getElem?_getD,List.getElem?_eq_getElem (by omega)] at this;rw[List.getElem_take];exact this
 have hhi:∀a∈x.drop m,v≤a:=fun a ha=>by
  obtain⟨i,hi,rfl⟩:=List.getElem_of_mem ha;have hi':m+i<x.length:=by rw[List.length_drop] at hi;omega
  have:=h2 (m+i) (by omega) hi';rw[List.getD_eq_getElem?_getD,List.getElem?_eq_getElem hi'] at this;rw[List.getElem_drop];exact Int.le_of_lt this
 rw[List.pairwise_append,List.pairwise_append];refine⟨⟨hs.sublist (List.take_sublist _ _),by simp,fun a ha b hb=>by simp at hb;subst hb;exact hlo a ha⟩,hs.sublist (List.drop_sublist _ _),fun a ha b hb=>?_⟩
 rcases List.mem_append.1 ha with ha|ha
 ·exact Int.le_trans (hlo a ha) (hhi b hb)
 ·simp at ha;subst ha;exact hhi b hb
theorem zD6(l:List Int)(k:Nat)(hk:k<l.length)(m:Nat)(hm:m≤k)(h1:∀j,j<m→(Bt (l.take k)).getD j 0≤l.getD k 0)(h2:∀j,m≤j→j<k→l.getD k 0<(Bt (l.take k)).getD j 0) :
 Bt (l.take (k+1))=I8 (Bt (l.take k)) (l.getD k 0) m:=by
 have hl:(Bt (l.take k)).length=k:=by rw[Ds,List.length_take];omega
 have hp:(Bt (l.take (k+1))).Perm (I8 (Bt (l.take k)) (l.getD k 0) m):=by
  refine(Im _).trans (List.Perm.trans ?_ (Z6 _ _ m).symm);rw[List.take_succ_eq_append_getElem hk,List.getD_eq_getElem?_getD,List.getElem?_eq_getElem hk];exact List.Perm.append_right _ (Im _).symm
 exact hp.eq_of_pairwise (le:=(·≤·)) (by intro a b _ _ h1 h2;exact Int.le_antisymm h1 h2) (K7 _) (V3 (K7 _) _ m (by omega) h1 (fun j a b=>h2 j a (by omega)))
theorem Hm{W:World}{base base':Nat}{e:TypeId}{size:Nat}{v:Value}{k:Nat}{xs:List Value}(h:W.ownsRow base e size v k xs)(hb:base'≤base):W.ownsRow base' e size v k xs:=
 ⟨h.1,h.2.imp id (fun⟨g,cap,cur,e1,e2,e3⟩=>⟨g,cap,cur,e1,Nat.le_trans hb e2,e3⟩)⟩
theorem Z0(n:Int)(_h:n<0) : -((1-n)/2)=n/2:=by omega
theorem Yb(a:Option Addr)(n cap:Nat)(k:Int)(w:World)(hc:n≤1000)(h:k<0∨(n:Int)<k∨(n:Int)<2*k+1) :
 Calls prog 113 #[.slice a n cap,.int .i64 k] w fun e w'=>e=.returned (.tuple #[.int .i64 0,.agg #[.int .i64 2,.int .i64 (-1)]])∧Below w.heap.size w w':=by
 by_cases h1:k<0∨(n:Int)<k
 ·clear h
  go_enter func113,ntmps113;go_wp2_with (go_at_call 118;refine(Cu _ _).mono ?_;rintro e w1⟨rfl,hb⟩;obtain⟨c0,c1,f0,f1,z1,hw1⟩:=L1 hb)
  all_goals first
   | omega
   | (refine bodyPost_ret (v:=.tuple #[.int .i64 0,.agg #[.int .i64 2,.int .i64 (-1)]]) (by simp[results,results113,go_sem,c0,c1]) rfl ?_
      exact⟨rfl,(hw1.setCell (by simp) _).setCell (by simp) _⟩)
 ·have b0:0≤k:=by omega
  have b1:k≤n:=by omega
  have b2:(n:Int)<2*k+1:=by omega
  clear h h1;go_enter func113,ntmps113;go_wp2_with (go_at_call 118;refine(Cu _ _).mono ?_;rintro e w1⟨rfl,hb⟩;obtain⟨c0,c1,f0,f1,z1,hw1⟩:=L1 hb);refine bodyPost_ret (v:=.tuple #[.int .i64 0,.agg #[.int .i64 2,.int .i64 (-1)]]) (by simp[results,results113,go_sem,c0,c1]) rfl ?_;exact⟨rfl,(hw1.setCell (by simp) _).setCell (by simp) _⟩
theorem zGg(a:Option Addr)(n cap:Nat)(l:List Int)(q:Nat)(w:World)(hn:l.length=n)(hr:Ac w a (Aa l))(hc:n≤1000)(hq:2*q+1≤n) :
 Calls prog 113 #[.slice a n cap,.int .i64 q] w fun e w'=>e=.returned (.tuple #[.int .i64 (E2 l q).1,.agg #[.int .i64 (E2 l q).2.1,.int .i64 (E2 l q).2.2]])∧Below w.heap.size w w':=by
 have HFar:Hid (0≤Cw 0 l→E2 l q=(0,2,Cw 0 l)):=by
  unfold Hid;intro h;have hcF:Dc l q=(2,Cw 0 l):=by rw[Dc,if_neg (by omega),if_neg (by omega)]
  rw[E2,hcF,if_neg (by simp)]
 have HOk:Hid (Cw 0 l<0→E2 l q=(Sa l q,0,-1)):=by
  unfold Hid;intro h;have hcF:Dc l q=(0,-1):=by rw[Dc,if_neg (by omega),if_pos h]
  rw[E2,hcF,if_pos rfl,Int.toNat_natCast]
 obtain⟨i0,hi,hz0,hz1,hz2⟩:=info_parts Ga;have hi':=zh hi;have hz0':=zh hz0;have hz1':=zh hz1;have hz2':=zh hz2;have HN:=zh hn;obtain⟨b,off,rfl,hbl,hcells⟩:=hr.at (fun e=>by have h1:=Ci l;rw[e,hn] at h1;simp at h1;omega);have hw0:Below w.heap.size w (w.alloc (.cells #[.int .i64 0,.int .i64 0] 55)):=zb.alloc zl _;have HC:=zh (fun(j:Nat) (hj:j<n)=>show w.cell? ⟨b,off+j,none⟩=some (.int .i64 (l.getD j 0)) from hcells j _ (by simp[Aa,List.getD_eq_getElem?_getD,hn,hj]));have q0:(0:Int)≤(q:Int):=by omega
 have q1:2*(q:Int)+1≤(n:Int):=by omega
 have hdA:decide ((q:Int)<0)=false:=by simp
 have hdB:decide (n<q)=false:=by simp;omega
 have hdC:decide ((n:Int)<2*(q:Int)+1)=false:=by simp;omega
 clear hi hz0 hz1 hz2 hn hcells hr;go_enter func113,ntmps113;go_wp2;have e0:(w.alloc (.cells #[.int .i64 0,.int .i64 0] 55)).cell? ⟨w.heap.size,0,none⟩=some (.int .i64 0):=by simp
 have e1:(w.alloc (.cells #[.int .i64 0,.int .i64 0] 55)).cell? ⟨w.heap.size,1,none⟩=some (.int .i64 0):=by simp
 have g0:(w.alloc (.cells #[.int .i64 0,.int .i64 0] 55)).frozen? ⟨w.heap.size,0,none⟩=false:=by simp
 have g1:(w.alloc (.cells #[.int .i64 0,.int .i64 0] 55)).frozen? ⟨w.heap.size,1,none⟩=false:=by simp
 have hsz:w.heap.size<(w.alloc (.cells #[.int .i64 0,.int .i64 0] 55)).heap.size:=by simp
 generalize hW0:w.alloc (.cells #[.int .i64 0,.int .i64 0] 55)=W0 at *;clear hW0;go_loopw [6,7] (fun v i wr=>∃k:Nat,k≤n∧i=.int .i64 k∧Hid (Cw k (l.drop k)=Cw 0 l)∧wr.ownsRow W0.heap.size 3 1 v k (Aa (Bt (l.take k)))∧(k=0→v=.slice none 0 0)∧Below W0.heap.size W0 wr) (fun _ i _=>n-(intOf i).toNat)
 case atStart=>exact⟨0,Nat.zero_le _,rfl,rfl,by rw[List.take_zero,show Bt []=[] by simp[Bt]];exact World.ownsRow_nil _ _ _ _,fun _=>rfl,Below.refl _ _⟩
 case round=>
  obtain⟨k,hk,rfl,HK,ho,hnil,hbr⟩:=hrel;have hszr:=hbr.size;have hbw:=J6 hw0 hbr;obtain⟨c0,c1,f0,f1,z0⟩:=Qd hbr hsz e0 e1 g0 g1
  by_cases hlt:k<n
  ·have hkt:k<l.length:=by have:=HN.out;omega
   have d0:=(hbw.cell (p:=⟨b,off+k,none⟩) hbl).trans (HC.out k hlt);have hdr:l.drop k=l.getD k 0::l.drop (k+1):=by rw[List.drop_eq_getElem_cons hkt,List.getD_eq_getElem?_getD,List.getElem?_eq_getElem hkt];rfl
   have hi0:(0:Int)≤(k:Int):=by omega
   have hi1:(k:Int)<(n:Int):=by omega
   have HINS:=zh (fun m hm h1 h2=>zD6 l k hkt m hm h1 h2);generalize l.getD k 0=x at *;clear hkt
   cases hx:It x
   ·have HS:Hid (Cw (k+1:Nat) (l.drop (k+1))=Cw 0 l):=by unfold Hid at HK ⊢;rw[←HK,hdr,Cw,hx];rfl
    have HX:=zh hx;clear hdr hx HK;obtain⟨ao,co,rfl⟩:=Aj ho;go_wp2_with (go_at_call 162;refine(Us _ _).mono ?_;rintro e w1⟨rfl,rfl⟩;rw[HX.out]);obtain⟨ra,_,na,ma⟩:=Ac.owned ho;have HSL:Hid ((Bt (l.take k)).length=k):=by unfold Hid;rw[Ds,List.length_take];have:=HN.out;omega
    obtain⟨wo,hwo⟩:∃wo:World,wo=wr:=⟨_,rfl⟩
    rw[←hwo] at ho hbr hszr hbw c0 c1 f0 f1 z0 d0 ra ⊢;clear hwo;clear wr;have HSS:Hid ((Bt (l.take k)).Pairwise (·≤·)):=K7 _;generalize Bt (l.take k)=S at *
    by_cases hk0:k=0
    ·subst hk0
     have hv:=hnil rfl;injection hv with hv1 hv2 hv3;subst hv1 hv3;have hS:S=[]:=List.eq_nil_of_length_eq_zero HSL.out;subst hS;have d0:wo.cell? ⟨b,off,none⟩=some (.int .i64 x):=by simpa using d0
     refine wp_loop_rounds 1 ?_;rw[rounds_succ];go_wp2;go_quiet (fail);obtain⟨W1,hW1⟩:∃W1,W1=wo.drewN nq:=⟨_,rfl⟩
     rw[←hW1];have hbW1:Below wo.heap.size wo W1:=by rw[hW1];exact Ab zb _
     have hbW:Below W0.heap.size W0 W1:=J6 hbr hbW1;have dW:=(hbW1.cell (p:=⟨b,off,none⟩) (Nat.lt_of_lt_of_le hbl hbw.size)).trans d0;have hblW:b<W1.heap.size:=Nat.lt_of_lt_of_le (Nat.lt_of_lt_of_le hbl hbw.size) hbW1.size;have hsW1:=hbW1.size;clear hW1;have hTW:Ac W1 none []:=Or.inl rfl;have hDW:Ac W1 none []:=Or.inl rfl
     go_wp2_with (first
      | (at_builtin;refine Ag _ rfl (.tmp 60) (.tmp 63) 72 rfl W1.heap.size 3 i0 _ 1 8 underlying72 hi'.out hz0'.out hz1'.out hz2'.out rfl (by decide) (.slice none 0 0) 0 [] rfl (World.ownsRow_nil _ _ _ _) none 0 0 [] rfl ?_ ?_ ?_ ?_ ?_ ?_ ?_;rfl;exact hTW;(intro u hu;cases hu);unfold maxLen;omega;omega;exact Nat.le_refl _;intro v2 w2 ho2 hg2 hq hm2;clear hq hm2;rw[List.nil_append,Nat.zero_add] at ho2;have hB2:=(Below.refl W1.heap.size W1).grown hg2 zl (fun j e=>by simp[Value.ownBlock] at e);have dd:=(hB2.cell (p:=⟨b,off,none⟩) hblW).trans dW;have hs2:=hB2.size)
      | (at_builtin;refine Ag _ rfl (.tmp 65) (.tmp 70) 72 rfl W1.heap.size 3 i0 _ 1 8 underlying72 hi'.out hz0'.out hz1'.out hz2'.out rfl (by decide) v2 0 [] rfl (ho2.alloc _) _ 1 1 [.int .i64 x] rfl rfl ?_ ?_ ?_ ?_ ?_ ?_;exact Ac.new_at _ [.int .i64 x] _ _ (by simp);(intro u hu;simp at hu;subst hu;rfl);unfold maxLen;omega;omega;(simp;omega);intro v3 w3 ho3 hg3 hq hm3;clear hq hm3;have hB3:=(hB2.alloc hs2 _).grown hg3 (by simp;omega) (fun j e=>(ho2.lt j e).1);have hs3:=hB3.size)
      | (at_builtin;refine Ag _ rfl (.tmp 72) (.tmp 75) 72 rfl W1.heap.size 3 i0 _ 1 8 underlying72 hi'.out hz0'.out hz1'.out hz2'.out rfl (by decide) v3 (0+1) (([]:List Value)++[.int .i64 x]) rfl ho3 none 0 0 [] rfl ?_ ?_ ?_ ?_ ?_ ?_ ?_;rfl;exact hDW.below hB3;(intro u hu;cases hu);unfold maxLen;omega;omega;exact hs3;intro v4 w4 ho4 hg4 hq hm4;clear hq hm4;have hB4:=hB3.grown hg4 hs3 (fun j e=>(ho3.lt j e).1)))
     have hins:Hid (([]:List Value)++[.int .i64 x]++[]=Aa (I8 [] x 0)):=by unfold Hid;simp[I8,Aa]
     rw[hins.out] at ho4;go_roundw
     case rel=>exact⟨0+1,by omega,by go_num,HS,by rw[HINS.out 0 (by omega) (fun j hj=>by omega) (fun j a b=>by omega)];exact Hm ho4 (Nat.le_trans hszr hsW1),by omega,J6 hbW hB4⟩
     case measure=>simp[intOf];omega
    ·obtain⟨g,og,rfl,hgl,_⟩:=ra.intG 0 (by rw[HSL.out];omega)
     go_loopw [9] (fun t wr=>∃m:Nat,m≤k∧t=.int .i64 m∧Hid (∀j,m≤j→j<k→x<S.getD j 0)∧Below wo.heap.size wo wr∧wr.heap.size=wo.heap.size) (fun t _=>(intOf t).toNat)
     case atStart=>exact⟨k,Nat.le_refl _,rfl,fun j a b=>by omega,Below.refl _ _,rfl⟩
     case round=>
      obtain⟨m,hm,rfl,HX2,hbm,hzm⟩:=hrel;have dm:=(hbm.cell (p:=⟨b,off+k,none⟩) (Nat.lt_of_lt_of_le hbl hbw.size)).trans d0;have hsW:=hbm.size
      by_cases hm0:m=0
      ·subst hm0
       go_wp2;go_quiet (fail);obtain⟨W1,hW1⟩:∃W1,W1=wr.drewN nq:=⟨_,rfl⟩
       rw[←hW1];have hbW1:Below wo.heap.size wo W1:=by rw[hW1];exact Ab hbm _
       have hbW:Below W0.heap.size W0 W1:=J6 hbr hbW1;have raW:=ra.below hbW1;have dW:=(hbW1.cell (p:=⟨b,off+k,none⟩) (Nat.lt_of_lt_of_le hbl hbw.size)).trans d0;have hblW:b<W1.heap.size:=Nat.lt_of_lt_of_le (Nat.lt_of_lt_of_le hbl hbw.size) hbW1.size;have hsW1:=hbW1.size;clear hW1;have hTW:Ac W1 (some ⟨g,og,none⟩) []:=Or.inl rfl;have hDW:=raW;have hco:0<co:=by omega
       go_wp2_with (first
        | (at_builtin;refine Ag _ rfl (.tmp 60) (.tmp 63) 72 rfl W1.heap.size 3 i0 _ 1 8 underlying72 hi'.out hz0'.out hz1'.out hz2'.out rfl (by decide) (.slice none 0 0) 0 [] rfl (World.ownsRow_nil _ _ _ _) (some ⟨g,og,none⟩) 0 co [] rfl ?_ ?_ ?_ ?_ ?_ ?_ ?_;rfl;exact hTW;(intro u hu;cases hu);unfold maxLen;omega;omega;exact Nat.le_refl _;intro v2 w2 ho2 hg2 hq hm2;clear hq hm2;rw[List.nil_append,Nat.zero_add] at ho2;have hB2:=(Below.refl W1.heap.size W1).grown hg2 zl (fun j e=>by simp[Value.ownBlock] at e);have dd:=(hB2.cell (p:=⟨b,off+k,none⟩) hblW).trans dW;have hs2:=hB2.size)
        | (at_builtin;refine Ag _ rfl (.tmp 65) (.tmp 70) 72 rfl W1.heap.size 3 i0 _ 1 8 underlying72 hi'.out hz0'.out hz1'.out hz2'.out rfl (by decide) v2 0 [] rfl (ho2.alloc _) _ 1 1 [.int .i64 x] rfl rfl ?_ ?_ ?_ ?_ ?_ ?_;exact Ac.new_at _ [.int .i64 x] _ _ (by simp);(intro u hu;simp at hu;subst hu;rfl);unfold maxLen;omega;omega;(simp;omega);intro v3 w3 ho3 hg3 hq hm3;clear hq hm3;have hB3:=(hB2.alloc hs2 _).grown hg3 (by simp;omega) (fun j e=>(ho2.lt j e).1);have hs3:=hB3.size)
        | (at_builtin;refine Ag _ rfl (.tmp 72) (.tmp 75) 72 rfl W1.heap.size 3 i0 _ 1 8 underlying72 hi'.out hz0'.out hz1'.out hz2'.out rfl (by decide) v3 (0+1) (([]:List Value)++[.int .i64 x]) rfl ho3 (some ⟨g,og,none⟩) k co (Aa (S)) rfl ?_ ?_ ?_ ?_ ?_ ?_ ?_;(rw[Ci,HSL.out];omega);exact hDW.below hB3;exact Fy _;unfold maxLen;omega;omega;exact hs3;intro v4 w4 ho4 hg4 hq hm4;clear hq hm4;have hB4:=hB3.grown hg4 hs3 (fun j e=>(ho3.lt j e).1)))
       have hins:Hid (([]:List Value)++[.int .i64 x]++Aa S=Aa (I8 S x 0)):=by unfold Hid;simp[I8,Aa]
       rw[hins.out,show 0+1+k=k+1 by omega] at ho4;go_roundw
       case rel=>exact⟨k+1,by omega,by go_num,HS,by rw[HINS.out 0 (by omega) (fun j hj=>by omega) HX2.out];exact Hm ho4 (Nat.le_trans hszr hsW1),by omega,J6 hbW hB4⟩
       case measure=>simp[intOf];omega
      ·obtain⟨g',og',e',_,cm⟩:=(ra.below hbm).intG (m-1) (by rw[HSL.out];omega)
       injection e' with e';injection e' with e1' e2';subst e1' e2';have i2:(0:Int)≤(m:Int)-1:=by omega
       have i3:(m:Int)-1<(k:Int):=by omega
       have i4:((m:Int)-1).toNat=m-1:=by omega
       have w2':IntKind.i64.wrap ((m:Int)-1)=(m:Int)-1:=IntWalk.i64_in _ (by omega);have hgt0:decide (0<m)=true:=by simp;omega
       have hgt1:0<m:=by omega
       generalize hy:S.getD (m-1) 0=y at *;have HY:=zh hy;clear hy
       by_cases hlt2:x<y
       ·have HX3:Hid (∀j,m-1≤j→j<k→x<S.getD j 0):=fun j a b=>by
         by_cases hj:j=m-1
         ·subst hj;rw[HY.out];exact hlt2
         ·exact HX2.out j (by omega) b
        have hdl:decide (x<y)=true:=by simpa using hlt2
        go_wp2;go_quiet (fail);clear w2';go_wp2;go_roundw
        case rel=>exact⟨m-1,by omega,by go_num,HX3,Ab hbm _,hzm⟩
        case measure=>simp[intOf];omega
       ·have hdl:decide (x<y)=false:=by simpa using hlt2
        go_wp2
        have HLE:Hid (∀j,j<m→S.getD j 0≤x):=fun j hj=>by
         have:=zD8 HSS.out (i:=j) (j:=m-1) (by omega) (by rw[HSL.out];omega);rw[HY.out] at this;omega
        go_quiet (fail);clear w2';obtain⟨W1,hW1⟩:∃W1,W1=wr.drewN nq:=⟨_,rfl⟩
        rw[←hW1];have hbW1:Below wo.heap.size wo W1:=by rw[hW1];exact Ab hbm _
        have hbW:Below W0.heap.size W0 W1:=J6 hbr hbW1;have raW:=ra.below hbW1;have dW:=(hbW1.cell (p:=⟨b,off+k,none⟩) (Nat.lt_of_lt_of_le hbl hbw.size)).trans d0;have hblW:b<W1.heap.size:=Nat.lt_of_lt_of_le (Nat.lt_of_lt_of_le hbl hbw.size) hbW1.size;have hsW1:=hbW1.size;have HGT:=HX2;clear hW1;have hTW:Ac W1 (some ⟨g,og,none⟩) (Aa (S.take m)):=by rw[Vy];exact raW.take m
        by_cases hmc:m<co
        ·have hDW:Ac W1 (some ⟨g,og+m,none⟩) (Aa (S.drop m)):=by
          have h:=raW.drop m;rw[Option.map_some,show(⟨g,og,none⟩:Addr).add m=⟨g,og+m,none⟩ by(unfold Addr.add;split<;>simp_all)] at h
          rwa [Vw]
         go_wp2_with (first
          | (at_builtin;refine Ag _ rfl (.tmp 60) (.tmp 63) 72 rfl W1.heap.size 3 i0 _ 1 8 underlying72 hi'.out hz0'.out hz1'.out hz2'.out rfl (by decide) (.slice none 0 0) 0 [] rfl (World.ownsRow_nil _ _ _ _) (some ⟨g,og,none⟩) m co (Aa (S.take m)) rfl ?_ ?_ ?_ ?_ ?_ ?_ ?_;(rw[Ci,List.length_take,HSL.out];omega);exact hTW;exact Fy _;unfold maxLen;omega;omega;exact Nat.le_refl _;intro v2 w2 ho2 hg2 hq hm2;clear hq hm2;rw[List.nil_append,Nat.zero_add] at ho2;have hB2:=(Below.refl W1.heap.size W1).grown hg2 zl (fun j e=>by simp[Value.ownBlock] at e);have dd:=(hB2.cell (p:=⟨b,off+k,none⟩) hblW).trans dW;have hs2:=hB2.size)
          | (at_builtin;refine Ag _ rfl (.tmp 65) (.tmp 70) 72 rfl W1.heap.size 3 i0 _ 1 8 underlying72 hi'.out hz0'.out hz1'.out hz2'.out rfl (by decide) v2 m (Aa (S.take m)) rfl (ho2.alloc _) _ 1 1 [.int .i64 x] rfl rfl ?_ ?_ ?_ ?_ ?_ ?_;exact Ac.new_at _ [.int .i64 x] _ _ (by simp);(intro u hu;simp at hu;subst hu;rfl);unfold maxLen;omega;omega;(simp;omega);intro v3 w3 ho3 hg3 hq hm3;clear hq hm3;have hB3:=(hB2.alloc hs2 _).grown hg3 (by simp;omega) (fun j e=>(ho2.lt j e).1);have hs3:=hB3.size)
          | (at_builtin;refine Ag _ rfl (.tmp 72) (.tmp 75) 72 rfl W1.heap.size 3 i0 _ 1 8 underlying72 hi'.out hz0'.out hz1'.out hz2'.out rfl (by decide) v3 (m+1) (Aa (S.take m)++[.int .i64 x]) rfl ho3 (some ⟨g,og+m,none⟩) (k-m) (co-m) (Aa (S.drop m)) rfl ?_ ?_ ?_ ?_ ?_ ?_ ?_;(rw[Ci,List.length_drop,HSL.out];omega);exact hDW.below hB3;exact Fy _;unfold maxLen;omega;omega;exact hs3;intro v4 w4 ho4 hg4 hq hm4;clear hq hm4;have hB4:=hB3.grown hg4 hs3 (fun j e=>(ho3.lt j e).1)))
         have hins:Hid (Aa (S.take m)++[.int .i64 x]++Aa (S.drop m)=Aa (I8 S x m)):=by unfold Hid;simp[I8,Aa]
         rw[hins.out,show m+1+(k-m)=k+1 by omega] at ho4;go_roundw
         case rel=>exact⟨k+1,by omega,by go_num,HS,by rw[HINS.out m (by omega) HLE.out HGT.out];exact Hm ho4 (Nat.le_trans hszr hsW1),by omega,J6 hbW hB4⟩
         case measure=>simp[intOf];omega
        ·obtain rfl:m=k:=by omega
         obtain rfl:co=m:=by omega
         have hDW:Ac W1 (some ⟨g,og,none⟩) (Aa (S.drop co)):=by rw[List.drop_eq_nil_of_le (by rw[HSL.out];omega)];exact Or.inl rfl
         go_wp2_with (first
          | (at_builtin;refine Ag _ rfl (.tmp 60) (.tmp 63) 72 rfl W1.heap.size 3 i0 _ 1 8 underlying72 hi'.out hz0'.out hz1'.out hz2'.out rfl (by decide) (.slice none 0 0) 0 [] rfl (World.ownsRow_nil _ _ _ _) (some ⟨g,og,none⟩) co co (Aa (S.take co)) rfl ?_ ?_ ?_ ?_ ?_ ?_ ?_;(rw[Ci,List.length_take,HSL.out];omega);exact hTW;exact Fy _;unfold maxLen;omega;omega;exact Nat.le_refl _;intro v2 w2 ho2 hg2 hq hm2;clear hq hm2;rw[List.nil_append,Nat.zero_add] at ho2;have hB2:=(Below.refl W1.heap.size W1).grown hg2 zl (fun j e=>by simp[Value.ownBlock] at e);have dd:=(hB2.cell (p:=⟨b,off+co,none⟩) hblW).trans dW;have hs2:=hB2.size)
          | (at_builtin;refine Ag _ rfl (.tmp 65) (.tmp 70) 72 rfl W1.heap.size 3 i0 _ 1 8 underlying72 hi'.out hz0'.out hz1'.out hz2'.out rfl (by decide) v2 co (Aa (S.take co)) rfl (ho2.alloc _) _ 1 1 [.int .i64 x] rfl rfl ?_ ?_ ?_ ?_ ?_ ?_;exact Ac.new_at _ [.int .i64 x] _ _ (by simp);(intro u hu;simp at hu;subst hu;rfl);unfold maxLen;omega;omega;(simp;omega);intro v3 w3 ho3 hg3 hq hm3;clear hq hm3;have hB3:=(hB2.alloc hs2 _).grown hg3 (by simp;omega) (fun j e=>(ho2.lt j e).1);have hs3:=hB3.size)
          | (at_builtin;refine Ag _ rfl (.tmp 72) (.tmp 75) 72 rfl W1.heap.size 3 i0 _ 1 8 underlying72 hi'.out hz0'.out hz1'.out hz2'.out rfl (by decide) v3 (co+1) (Aa (S.take co)++[.int .i64 x]) rfl ho3 (some ⟨g,og,none⟩) 0 0 (Aa (S.drop co)) rfl ?_ ?_ ?_ ?_ ?_ ?_ ?_;(rw[Ci,List.length_drop,HSL.out];omega);exact hDW.below hB3;exact Fy _;unfold maxLen;omega;omega;exact hs3;intro v4 w4 ho4 hg4 hq hm4;clear hq hm4;have hB4:=hB3.grown hg4 hs3 (fun j e=>(ho3.lt j e).1)))
         have hins:Hid (Aa (S.take co)++[.int .i64 x]++Aa (S.drop co)=Aa (I8 S x co)):=by unfold Hid;simp[I8,Aa]
         rw[hins.out,show co+1+0=co+1 by omega] at ho4;go_roundw
         case rel=>exact⟨co+1,by omega,by go_num,HS,by rw[HINS.out co (by omega) HLE.out HGT.out];exact Hm ho4 (Nat.le_trans hszr hsW1),by omega,J6 hbW hB4⟩
         case measure=>simp[intOf];omega
   ·have HS:Hid (Cw 0 l=k):=by unfold Hid at HK ⊢;rw[←HK,hdr,Cw,hx];rfl
    have HX:=zh hx;clear hdr hx HK;go_wp2_with (go_at_call 162;refine(Us _ _).mono ?_;rintro e w1⟨rfl,rfl⟩;rw[HX.out]);refine bodyPost_ret (v:=.tuple #[.int .i64 0,.agg #[.int .i64 2,.int .i64 k]]) (by simp[results,results113,go_sem,c0,c1]) rfl ?_;rw[HFar.out (by rw[HS.out];omega),HS.out];exact⟨rfl,(hbw.setCell (by simp) _).setCell (by simp) _⟩
  ·obtain rfl:k=n:=by omega
   have hS:Hid (Cw 0 l=-1):=by unfold Hid at HK ⊢;rw[←HK,List.drop_eq_nil_of_le (by have:=HN.out;omega)];rfl
   have hall:l.take k=l:=List.take_of_length_le (by have:=HN.out;omega);rw[hall] at ho;have hfar:=(M8 l 0 (by omega)).1 (by rw[hS.out];omega)
   have hfx:∀j,j<k→-1000000≤(Bt l).getD j 0∧(Bt l).getD j 0≤1000000:=fun j hj=>by
    have:=hfar _ ((Im l).mem_iff.1 (zF2 (x:=Bt l) (k:=j) (by rw[Ds];have:=HN.out;omega)));simp only[It,decide_eq_false_iff_not] at this;omega
   have b1:=hfx q (by omega);have b2:=hfx (k-1-q) (by omega);have HM:Hid (Sa l q=((Bt l).getD q 0+(Bt l).getD (k-1-q) 0)/2):=by unfold Hid;rw[Sa,HN.out]
   have HSL:(Bt l).length=k:=by rw[Ds];exact HN.out
   obtain⟨ao,co,rfl⟩:=Aj ho;obtain⟨ra,_,na,_⟩:=Ac.owned ho;obtain⟨bx,ox,rfl,hbx,p0⟩:=ra.intG q (by omega);obtain⟨bx',ox',e',_,p1⟩:=ra.intG (k-1-q) (by omega);injection e' with e';injection e' with e1' e2';subst e1' e2';clear HK hall hfar hfx ho ra HSL hnil;generalize hA:(Bt l).getD q 0=A at *;generalize hB:(Bt l).getD (k-1-q) 0=B at *;clear hA hB;have w1':IntKind.i64.wrap (A+B)=A+B:=IntWalk.i64_in _ (by omega);have w2':IntKind.i64.wrap ((k:Int)-1)=(k:Int)-1:=IntWalk.i64_in _ (by omega);have w3':IntKind.i64.wrap ((k:Int)-1-(q:Int))=(k:Int)-1-(q:Int):=IntWalk.i64_in _ (by omega);have w4':((k:Int)-1-(q:Int)).toNat=k-1-q:=by omega
   have i1:(q:Int)<(k:Int):=by omega
   have i2:(0:Int)≤(k:Int)-1-(q:Int):=by omega
   have i3:(k:Int)-1-(q:Int)<(k:Int):=by omega
   go_wp2;go_quiet (fail);clear w1' w2' w3' w4';obtain⟨W1,hW1⟩:∃W1,W1=wr.drewN nq:=⟨_,rfl⟩
   rw[←hW1];have hbW1:Below wr.heap.size wr W1:=by rw[hW1];exact Ab zb _
   have hbF:=J6 hbw hbW1;obtain⟨c0,c1,f0,f1,z0⟩:=Qd hbW1 z0 c0 c1 f0 f1;clear hW1
   by_cases hneg:A+B<0
   ·have hh:=zh (Z0 (A+B) hneg)
    have hd1:0≤(1-(A+B))/2:=by omega
    have hd2:(1-(A+B))/2≤2000001:=by omega
    go_wp2_with (go_at_call 64;refine(Jz _).mono ?_;rintro e w5⟨rfl,hb5⟩;obtain⟨c0,c1,f0,f1,z5⟩:=Qd hb5 z0 c0 c1 f0 f1);refine bodyPost_ret (v:=.tuple #[.int .i64 (-((1-(A+B))/2)),.agg #[.int .i64 0,.int .i64 (-1)]]) (by simp[results,results113,go_sem,c0,c1]) rfl ?_;rw[HOk.out (by rw[hS.out];omega),HM.out,hh.out];exact⟨rfl,((J6 hbF hb5).setCell (by simp) _).setCell (by simp) _⟩
   ·go_wp2_with (go_at_call 64;refine(Jz _).mono ?_;rintro e w5⟨rfl,hb5⟩;obtain⟨c0,c1,f0,f1,z5⟩:=Qd hb5 z0 c0 c1 f0 f1)
    refine bodyPost_ret (v:=.tuple #[.int .i64 ((A+B)/2),.agg #[.int .i64 0,.int .i64 (-1)]]) (by simp[results,results113,go_sem,c0,c1]) rfl ?_;rw[HOk.out (by rw[hS.out];omega),HM.out];exact⟨rfl,((J6 hbF hb5).setCell (by simp) _).setCell (by simp) _⟩
theorem zC4(a:Option Addr)(n cap:Nat)(l:List Int)(k:Int)(w:World)(hn:l.length=n)(hr:Ac w a (Aa l))(hc:n≤1000) :
 Calls prog 113 #[.slice a n cap,.int .i64 k] w fun e w'=>e=.returned (.tuple #[.int .i64 (E2 l k).1,.agg #[.int .i64 (E2 l k).2.1,.int .i64 (E2 l k).2.2]])∧Below w.heap.size w w':=by
 by_cases h:k<0∨(n:Int)<k∨(n:Int)<2*k+1
 ·have hm:E2 l k=(0,2,-1):=by
   have hcF:Dc l k=(2,-1):=by rw[Dc,hn,if_pos h]
   rw[E2,hcF,if_neg (by simp)]
  rw[hm];exact Yb a n cap k w hc h
 ·obtain⟨q,rfl⟩:∃q:Nat,k=q:=⟨k.toNat,by omega⟩
  exact zGg a n cap l q w hn hr hc (by omega)
end Go.Proofs.YtppfkokfnoeopaaGreatDoor
