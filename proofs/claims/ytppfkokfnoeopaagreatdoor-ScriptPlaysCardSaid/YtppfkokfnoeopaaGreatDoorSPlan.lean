/- A part of a proof. -/
import Derived.Test.YtppfkokfnoeopaaGreatDoorSCrew
set_option maxRecDepth 400000
set_option maxHeartbeats 6400000
namespace Go.Proofs.YtppfkokfnoeopaaGreatDoor
open Go.RowKit
def Bl(i:Int):List Int→Int
 | []=>-1
 | x::r=>if Aq x then Bl (i+1) r else i
def Ay(l:List Int):Nat×Int:=if l.length=0 then(5,-1) else if 32<l.length then(7,-1) else if Bl 0 l<0 then(0,-1) else(4,Bl 0 l)
theorem E7:∀(l:List Int) (i:Int),0≤i→(Bl i l<0↔∀x∈l,Aq x=true)
 | [],i,_=>by simp[Bl]
 | x::r,i,h=>by
  rw[Bl]
  cases hx:Aq x
  ·simp[hx];omega
  ·simp[hx,E7 r (i+1) (by omega)]
theorem Ai{l:List Int}(h:(Ay l).1=0):Ay l=(0,-1)∧0<l.length∧l.length≤32∧∀x∈l,Aq x=true:=by
 unfold Ay at h ⊢
 split at h
 ·simp at h
 ·split at h
  ·simp at h
  ·split at h
   ·rename_i h1 h2 h3
    rw[if_neg h1,if_neg h2,if_pos h3];exact⟨rfl,by omega,by omega,(E7 l 0 (by omega)).1 h3⟩
   ·simp at h
theorem Pt(x:Int)(w:World):Calls Tryz.prog 205 #[.int .i64 x] w fun e w'=>e=.returned (.bool (!Aq x))∧w=w':=by
 go_enter Tryz.func205,Tryz.ntmps205;go_wp2_with (go_at_call 154;refine(Fq _ _).mono ?_;rintro e w'⟨rfl,rfl⟩);go_ret;exact⟨rfl,rfl⟩
theorem Qc(a:Option Addr)(n cap:Nat)(l:List Int)(w:World)(hn:l.length=n)(hr:Ac w a (Aa l))(hc:n≤4611686018427387904) :
 Calls Tryz.prog 204 #[.slice a n cap,.func (.func 205) #[] #[]] w fun e w'=>e=.returned (.int .i64 (Bl 0 l))∧w=w':=by
 go_enter Tryz.func204,Tryz.ntmps204;go_wp2;go_loop [8] (fun i=>∃k:Nat,k≤n∧i=.int .i64 k∧Hid (Bl k (l.drop k)=Bl 0 l)) (fun i=>n-(intOf i).toNat)
 case atStart=>exact⟨0,Nat.zero_le _,rfl,rfl⟩
 case round=>
  obtain⟨k,hk,rfl,HK⟩:=hrel
  by_cases hlt:k<n
  ·obtain⟨b,off,rfl,hbl,c0⟩:=hr.int k (by omega)
   have hkt:k<l.length:=by omega
   have hd:l.drop k=l[k]::l.drop (k+1):=List.drop_eq_getElem_cons hkt;generalize l[k]=x at *
   cases hx:Aq x
   ·have HS:Hid (Bl 0 l=k):=by unfold Hid at HK ⊢;rw[←HK,hd,Bl,hx];rfl
    have HX:=zh hx;clear hd hx HK;go_wp2_with (go_at_call 205;refine(Pt _ _).mono ?_;rintro e w'⟨rfl,rfl⟩;rw[HX.out]);go_ret;exact⟨Hn HS.out.symm,rfl⟩
   ·have HS:Hid (Bl (k+1:Nat) (l.drop (k+1))=Bl 0 l):=by unfold Hid at HK ⊢;rw[←HK,hd,Bl,hx];rfl
    have HX:=zh hx;clear hd hx HK;go_wp2_with (go_at_call 205;refine(Pt _ _).mono ?_;rintro e w'⟨rfl,rfl⟩;rw[HX.out]);go_round
    case rel=>exact⟨k+1,by omega,by go_num,HS⟩
    case measure=>simp[intOf];omega
  ·have HS:Hid (Bl 0 l=-1):=by unfold Hid at HK ⊢;rw[←HK,List.drop_eq_nil_of_le (by omega)];rfl
   go_wp2;go_ret;exact⟨Hn HS.out.symm,rfl⟩
theorem Ez(ea:Nat→Addr)(a:Option Addr)(n cap:Nat)(l:List Int)(w:World)(hg:Bh w ea [5,7,4])(hn:l.length=n)(hr:Ac w a (Aa l))(hc:n≤4611686018427387904) :
 Calls Tryz.prog 164 #[.slice a n cap] w fun e w'=>∃v,e=.returned v∧Bg ea w' v (Ay l).1 (Ay l).2∧Below w.heap.size w w':=by
 have g5:=hg.cell 5 (by simp);have g7:=hg.cell 7 (by simp);have g4:=hg.cell 4 (by simp);simp only[gOf] at g5 g7 g4
 by_cases h0:n=0
 ·have HP:Hid (Ay l=(5,-1)):=by unfold Hid;rw[Ay,if_pos (by omega)]
  subst h0;go_enter Tryz.func164,Tryz.ntmps164;go_wp2;go_ret;exact⟨_,rfl,by rw[HP.out];exact Bg.bare ea w 5,Below.refl _ _⟩
 ·have hz:((n:Int)==0)=false:=by simp;omega
  by_cases h1:32<n
  ·have HP:Hid (Ay l=(7,-1)):=by unfold Hid;rw[Ay,if_neg (by omega),if_pos (by omega)]
   clear h0;go_enter Tryz.func164,Tryz.ntmps164;go_wp2;go_ret;exact⟨_,rfl,by rw[HP.out];exact Bg.bare ea w 7,Below.refl _ _⟩
  ·have HN:=zh hn
   by_cases h2:Bl 0 l<0
   ·have HP:Hid (Ay l=(0,-1)):=by unfold Hid;rw[Ay,if_neg (by omega),if_neg (by omega),if_pos h2]
    clear h0 hn;go_enter Tryz.func164,Tryz.ntmps164;go_wp2_with (go_at_call 204;refine(Qc _ _ _ l _ HN.out hr hc).mono ?_;rintro e w'⟨rfl,rfl⟩);go_ret;exact⟨_,rfl,by rw[HP.out];exact Or.inl ⟨rfl,(Al ea).symm⟩,Below.refl _ _⟩
   ·have HP:Hid (Ay l=(4,Bl 0 l)):=by unfold Hid;rw[Ay,if_neg (by omega),if_neg (by omega),if_neg h2]
    have h3:0≤Bl 0 l:=by omega
    have HE:=zh (Ae ea (k:=4) (by decide));rw[HE.out] at g4;clear h0 hn h2;go_enter Tryz.func164,Tryz.ntmps164;go_wp2_with (go_at_call 204;refine(Qc _ _ _ l _ HN.out hr hc).mono ?_;rintro e w'⟨rfl,rfl⟩);go_ret;exact⟨_,rfl,by rw[HP.out];exact Or.inr ⟨h3,by simp,w.heap.size,rfl,by simp,by simp,by simp;exact HE.out.symm⟩,zb.alloc zl _⟩
def Bj(l:List Int)(s:Int):Nat×Int:=if (Ay l).1=0 then(if 0≤s∧s≤1000000 then(0,-1) else(2,-1)) else Ay l
theorem J7(ea:Nat→Addr)(a:Option Addr)(n cap:Nat)(l:List Int)(s:Int)(w:World)(hg:Bh w ea [5,7,4,2])(hn:l.length=n)(hr:Ac w a (Aa l))(hc:n≤4611686018427387904) :
 Calls Tryz.prog 217 #[.slice a n cap,.int .i64 s] w fun e w'=>∃v,e=.returned v∧Bg ea w' v (Bj l s).1 (Bj l s).2∧Below w.heap.size w w':=by
 have hgp:Bh w ea [5,7,4]:=hg.sub (by simp);have HN:=zh hn;clear hn
 by_cases h0:(Ay l).1=0
 ·have hF:=Ai h0
  have H0:=zh h0;clear h0
  by_cases hs:0≤s∧s≤1000000
  ·have HP:Hid (Bj l s=(0,-1)):=by unfold Hid;rw[Bj,if_pos H0.out,if_pos hs]
   obtain⟨hs0,hs1⟩:=hs;clear hF;go_enter Tryz.func217,Tryz.ntmps217;go_wp2_with (go_at_call 164;refine(Ez ea _ _ _ l _ hgp HN.out hr hc).mono ?_;rintro e w1⟨v,rfl,hE,hb⟩;rw[H0.out] at hE;obtain rfl:=hE.nil);go_ret;exact⟨_,rfl,by rw[HP.out];exact Or.inl ⟨rfl,(Al ea).symm⟩,hb⟩
  ·have HP:Hid (Bj l s=(2,-1)):=by unfold Hid;rw[Bj,if_pos H0.out,if_neg hs]
   clear hF
   by_cases hs0:s<0
   all_goals
    have hs2:s<0∨1000000<s:=by omega
    clear hs;go_enter Tryz.func217,Tryz.ntmps217;go_wp2_with (go_at_call 164;refine(Ez ea _ _ _ l _ hgp HN.out hr hc).mono ?_;rintro e w1⟨v,rfl,hE,hb⟩;rw[H0.out] at hE;obtain rfl:=hE.nil;have g2:=(hg.below hb).cell 2 (by simp);simp only[gOf] at g2);go_ret;exact⟨_,rfl,by rw[HP.out];exact Bg.bare ea _ 2,hb⟩
 ·have HP:Hid (Bj l s=Ay l):=by unfold Hid;rw[Bj,if_neg h0]
  have H0:=zh h0;clear h0;go_enter Tryz.func217,Tryz.ntmps217;go_wp2_with (go_at_call 164;refine(Ez ea _ _ _ l _ hgp HN.out hr hc).mono ?_;rintro e w1⟨v,rfl,hE,hb⟩;obtain⟨t,x,rfl⟩:=hE.held H0.out);go_ret;exact⟨_,rfl,by rw[HP.out];exact hE,hb⟩
theorem zH7{w:World}{a:Option Addr}{l:List Int}(h:Ac w a (Aa l))(k:Nat)(hk:k<l.length) :
 ∃b off,a=some ⟨b,off,none⟩∧b<w.heap.size∧w.cell? ⟨b,off+k,none⟩=some (.int .i64 (l.getD k 0)):=by
 obtain⟨b,off,e,hb,hc⟩:=h.int k hk;exact⟨b,off,e,hb,by rw[hc,List.getD_eq_getElem?_getD,List.getElem?_eq_getElem hk];rfl⟩
def Am(l:List Int)(s:Nat):Int:=l.getD (s%l.length) 0
theorem Dw{l:List Int}{s:Int}(h:(Bj l s).1=0):(Ay l).1=0∧0≤s∧s≤1000000:=by
 unfold Bj at h
 split at h
 ·rename_i h0
  split at h
  ·rename_i hs;exact⟨h0,hs.1,hs.2⟩
  ·simp at h
 ·rename_i h0;exact absurd h h0
theorem zJ7(ea:Nat→Addr)(a:Option Addr)(n cap:Nat)(l:List Int)(s:Nat)(w:World)(hg:Bh w ea [5,7,4,2])(hn:l.length=n)(hr:Ac w a (Aa l))(h:(Bj l s).1=0) :
 Calls Tryz.prog 181 #[.slice a n cap,.int .i64 s] w fun e w'=>e=.returned (.tuple #[.int .i64 (Am l s),.nilIface])∧Below w.heap.size w w':=by
 have hF:=Ai (Dw h).1;have hs:=(Dw h).2.2;have hlen:=hF.2.1;have hlen2:=hF.2.2.1;have hm:s%n<n:=Nat.mod_lt _ (by omega);obtain⟨b,off,rfl,hbl,c0⟩:=zH7 hr (s%n) (by omega);have hV:Hid (Am l s=l.getD (s%n) 0):=by unfold Hid;rw[Am,hn]
 have hc:n≤4611686018427387904:=by omega
 have hn0:0<n:=by omega
 have hnz:((n:Int)==0)=false:=by simp;omega
 have HN:=zh hn;have H:=zh h;clear hF hlen hlen2 h hn;generalize l.getD (s%n) 0=x at *;go_enter Tryz.func181,Tryz.ntmps181;go_wp2_with (go_at_call 217;refine(J7 ea _ _ _ l _ _ hg HN.out hr hc).mono ?_;rintro e w1⟨v,rfl,hE,hb⟩;rw[H.out] at hE;obtain rfl:=hE.nil;have c1:=(hb.cell (p:=⟨b,off+s%n,none⟩) hbl).trans c0);go_ret2;rw[hV.out];exact⟨rfl,hb⟩
theorem zI8(ea:Nat→Addr)(a:Option Addr)(n cap:Nat)(l:List Int)(s:Int)(w:World)(hg:Bh w ea [5,7,4,2])(hn:l.length=n)(hr:Ac w a (Aa l))(hc:n≤4611686018427387904)(h:(Bj l s).1≠0) :
 Calls Tryz.prog 181 #[.slice a n cap,.int .i64 s] w fun e w'=>∃v,e=.returned (.tuple #[.int .i64 0,v])∧Bg ea w' v (Bj l s).1 (Bj l s).2∧Below w.heap.size w w':=by
 have HN:=zh hn;have H:=zh h;clear h hn;go_enter Tryz.func181,Tryz.ntmps181;go_wp2_with (go_at_call 217;refine(J7 ea _ _ _ l _ _ hg HN.out hr hc).mono ?_;rintro e w1⟨v,rfl,hE,hb⟩;obtain⟨t,x,rfl⟩:=hE.held H.out);go_ret2;exact⟨_,rfl,hE,hb⟩
theorem Jl(p:Nat→Prop):∀n:Nat,(∃k,k<n∧p k∧∀j,j<k→¬p j)∨∀j,j<n→¬p j
 | 0=>Or.inr (fun j h=>by omega)
 | n+1=>by
  rcases Jl p n with⟨k,hk,h1,h2⟩|h
  ·exact Or.inl ⟨k,by omega,h1,h2⟩
  ·by_cases hp:p n
   ·exact Or.inl ⟨n,by omega,hp,h⟩
   ·exact Or.inr (fun j hj=>by
     rcases Nat.lt_succ_iff_lt_or_eq.1 hj with h'|rfl
     ·exact h j h'
     ·exact hp)
theorem Ig{w:World}{a:Option Addr}{l:List Int}{n:Nat}(s k:Nat)(hr:Ac w a (Aa l))(hn:l.length=n)(h0:0<n) :
 ∃b off,a=some ⟨b,off,none⟩∧b<w.heap.size∧w.cell? ⟨b,off+(s+k)%n,none⟩=some (.int .i64 (Am l (s+k))):=by
 obtain⟨b,off,e,hb,hc⟩:=zH7 hr ((s+k)%n) (by rw[hn];exact Nat.mod_lt _ h0);exact⟨b,off,e,hb,by rw[hc,Am,hn]⟩
theorem zIo(ea:Nat→Addr)(a:Option Addr)(n cap:Nat)(l:List Int)(node:Int)(s m:Nat)(w:World)(hg:Bh w ea [5,7,4,2])(hn:l.length=n)(hr:Ac w a (Aa l))(h:(Bj l s).1=0)
 (hm:m<n) (hw:Am l (s+m)=node) (hno:∀j,j<m→¬Am l (s+j)=node) :
 Calls Tryz.prog 203 #[.slice a n cap,.int .i64 node,.int .i64 s] w fun e w'=>e=.returned (.tuple #[.int .i64 ((s+m:Nat):Int),.nilIface])∧Below w.heap.size w w':=by
 have hF:=Ai (Dw h).1;have hs:=(Dw h).2.2;have hc:n≤32:=by omega
 have hn0:0<n:=by omega
 have hnz:((n:Int)==0)=false:=by simp;omega
 have HN:=zh hn;have H:=zh h;have HW:=zh hw;have HNO:=zh hno;clear hF h hn hw hno;go_enter Tryz.func203,Tryz.ntmps203;go_wp2_with (go_at_call 217;refine(J7 ea _ _ _ l _ _ hg HN.out hr (by omega)).mono ?_;rintro e w1⟨v,rfl,hE,hb⟩;rw[H.out] at hE;obtain rfl:=hE.nil);go_loop [18] (fun i=>∃k:Nat,k≤m∧i=.int .i64 k) (fun i=>n-(intOf i).toNat)
 case atStart=>exact⟨0,Nat.zero_le _,rfl⟩
 case round=>
  obtain⟨k,hk,rfl⟩:=hrel;obtain⟨b,off,rfl,hbl,c0⟩:=Ig s k (hr.below hb) HN.out hn0;have hkn:k<n:=by omega
  have hm1:=Nat.mod_lt (s+k) hn0;have hm2:0≤((s:Int)+k)%n:=Int.emod_nonneg _ (by omega);have hm3:((s:Int)+k)%n<n:=Int.emod_lt_of_pos _ (by omega)
  by_cases hlt:k<m
  ·have hx:(Am l (s+k)==node)=false:=by simpa using HNO.out k hlt
   generalize Am l (s+k)=x at *;go_wp2;go_round
   case rel=>exact⟨k+1,by omega,by go_num⟩
   case measure=>simp[intOf];omega
  ·obtain rfl:k=m:=by omega
   have hx:(Am l (s+k)==node)=true:=by simpa using HW.out
   generalize Am l (s+k)=x at *;go_wp2;go_ret2;exact⟨by simp,hb⟩
theorem zC7(ea:Nat→Addr)(a:Option Addr)(n cap:Nat)(l:List Int)(node:Int)(s:Nat)(w:World)(hg:Bh w ea [5,7,4,2])(hn:l.length=n)(hr:Ac w a (Aa l))(h:(Bj l s).1=0)
 (hno:∀j,j<n→¬Am l (s+j)=node) :
 Calls Tryz.prog 203 #[.slice a n cap,.int .i64 node,.int .i64 s] w fun e w'=>e=.returned (.tuple #[.int .i64 0,Bm ea 5])∧Below w.heap.size w w':=by
 have hF:=Ai (Dw h).1;have hs:=(Dw h).2.2;have hc:n≤32:=by omega
 have hn0:0<n:=by omega
 have hnz:((n:Int)==0)=false:=by simp;omega
 have HN:=zh hn;have H:=zh h;have HNO:=zh hno;clear hF h hn hno;go_enter Tryz.func203,Tryz.ntmps203;go_wp2_with (go_at_call 217;refine(J7 ea _ _ _ l _ _ hg HN.out hr (by omega)).mono ?_;rintro e w1⟨v,rfl,hE,hb⟩;rw[H.out] at hE;obtain rfl:=hE.nil);have g5:=(hg.below hb).cell 5 (by simp);simp only[gOf] at g5;go_loop [18] (fun i=>∃k:Nat,k≤n∧i=.int .i64 k) (fun i=>n-(intOf i).toNat)
 case atStart=>exact⟨0,Nat.zero_le _,rfl⟩
 case round=>
  obtain⟨k,hk,rfl⟩:=hrel
  by_cases hlt:k<n
  ·obtain⟨b,off,rfl,hbl,c0⟩:=Ig s k (hr.below hb) HN.out hn0
   have hm1:=Nat.mod_lt (s+k) hn0;have hm2:0≤((s:Int)+k)%n:=Int.emod_nonneg _ (by omega);have hm3:((s:Int)+k)%n<n:=Int.emod_lt_of_pos _ (by omega);have hx:(Am l (s+k)==node)=false:=by simpa using HNO.out k hlt
   generalize Am l (s+k)=x at *;go_wp2;go_round
   case rel=>exact⟨k+1,by omega,by go_num⟩
   case measure=>simp[intOf];omega
  ·go_wp2
   go_quiet (fail);go_wp2;go_ret2;exact⟨rfl,Ab hb _⟩
theorem zGm(ea:Nat→Addr)(a:Option Addr)(n cap:Nat)(l:List Int)(node s:Int)(w:World)(hg:Bh w ea [5,7,4,2])(hn:l.length=n)(hr:Ac w a (Aa l))(hc:n≤4611686018427387904)(h:(Bj l s).1≠0) :
 Calls Tryz.prog 203 #[.slice a n cap,.int .i64 node,.int .i64 s] w fun e w'=>∃v,e=.returned (.tuple #[.int .i64 0,v])∧Bg ea w' v (Bj l s).1 (Bj l s).2∧Below w.heap.size w w':=by
 have HN:=zh hn;have H:=zh h;clear h hn;go_enter Tryz.func203,Tryz.ntmps203;go_wp2_with (go_at_call 217;refine(J7 ea _ _ _ l _ _ hg HN.out hr hc).mono ?_;rintro e w1⟨v,rfl,hE,hb⟩;obtain⟨t,x,rfl⟩:=hE.held H.out);go_ret2;exact⟨_,rfl,hE,hb⟩
theorem Yi(ea:Nat→Addr)(a:Option Addr)(n cap:Nat)(l:List Int)(w:World)(hg:Bh w ea [5,7,4])(hn:l.length=n)(hr:Ac w a (Aa l))(h:(Ay l).1=0) :
 Calls Tryz.prog 115 #[.slice a n cap] w fun e w'=>e=.returned (.tuple #[.int .i64 (A6 l),.nilIface])∧Below w.heap.size w w':=by
 have hF:=Ai h;have hc:n≤32:=by omega
 have HA:=zh hF.2.2.2;have HN:=zh hn;have H:=zh h;clear hF h hn;go_enter Tryz.func115,Tryz.ntmps115
 go_wp2_with (first
  | (go_at_call 164;refine(Ez ea _ _ _ l _ hg HN.out hr (by omega)).mono ?_;rintro e w1⟨v,rfl,hE,hb⟩;rw[H.out] at hE;obtain rfl:=hE.nil)
  | (go_at_call 106;refine(zJe _ _ _ l _ HN.out (hr.below hb) (by omega) HA.out).mono ?_;rintro e w2⟨rfl,rfl⟩))
 go_ret2;exact⟨rfl,hb⟩
theorem Wh(ea:Nat→Addr)(a:Option Addr)(n cap:Nat)(l:List Int)(w:World)(hg:Bh w ea [5,7,4])(hn:l.length=n)(hr:Ac w a (Aa l))(hc:n≤4611686018427387904)(h:(Ay l).1≠0) :
 Calls Tryz.prog 115 #[.slice a n cap] w fun e w'=>∃v,e=.returned (.tuple #[.int .i64 0,v])∧Bg ea w' v (Ay l).1 (Ay l).2∧Below w.heap.size w w':=by
 have HN:=zh hn;have H:=zh h;clear h hn;go_enter Tryz.func115,Tryz.ntmps115;go_wp2_with (go_at_call 164;refine(Ez ea _ _ _ l _ hg HN.out hr hc).mono ?_;rintro e w1⟨v,rfl,hE,hb⟩;obtain⟨t,x,rfl⟩:=hE.held H.out);go_ret2;exact⟨_,rfl,hE,hb⟩
theorem zGv(l:List Int):(Ay l).1≤11:=by unfold Ay;repeat(first|(exact Nat.le_of_ble_eq_true rfl)|split)
theorem zDz(l:List Int)(s:Int):(Bj l s).1≤11:=by
 unfold Bj;split
 ·split<;>simp
 ·exact zGv l
theorem Jg{l:List Int}{s:Int}(h:(Bj l s).1=0):Bj l s=(0,-1):=by
 have h0:=(Dw h);rw[Bj,if_pos h0.1,if_pos h0.2]
def zEh(l:List Int)(s:Int):Int:=if (Bj l s).1=0 then Am l s.toNat else 0
theorem zB9(ea:Nat→Addr)(a:Option Addr)(n cap:Nat)(l:List Int)(s:Int)(w:World)(hg:Bh w ea [5,7,4,2])(hn:l.length=n)(hr:Ac w a (Aa l))(hc:n≤4611686018427387904) :
 Calls Tryz.prog 181 #[.slice a n cap,.int .i64 s] w fun e w'=>∃v,e=.returned (.tuple #[.int .i64 (zEh l s),v])∧Bg ea w' v (Bj l s).1 (Bj l s).2∧Below w.heap.size w w':=by
 by_cases h:(Bj l s).1=0
 ·have h1:=Jg h
  obtain⟨k,rfl⟩:∃k:Nat,s=k:=⟨s.toNat,by have:=(Dw h).2.1;omega⟩
  refine(zJ7 ea a n cap l k w hg hn hr h).mono ?_;rintro e w'⟨rfl,hb⟩;exact⟨_,by rw[zEh,if_pos h];rfl,by rw[h1];exact Or.inl ⟨rfl,(Al ea).symm⟩,hb⟩
 ·refine(zI8 ea a n cap l s w hg hn hr hc h).mono ?_
  rintro e w'⟨v,rfl,hE,hb⟩;exact⟨v,by rw[zEh,if_neg h],hE,hb⟩
def Mn(l:List Int):Int:=if (Ay l).1=0 then A6 l else 0
theorem Oq(ea:Nat→Addr)(a:Option Addr)(n cap:Nat)(l:List Int)(w:World)(hg:Bh w ea [5,7,4])(hn:l.length=n)(hr:Ac w a (Aa l))(hc:n≤4611686018427387904) :
 Calls Tryz.prog 115 #[.slice a n cap] w fun e w'=>∃v,e=.returned (.tuple #[.int .i64 (Mn l),v])∧Bg ea w' v (Ay l).1 (Ay l).2∧Below w.heap.size w w':=by
 by_cases h:(Ay l).1=0
 ·have h1:=(Ai h).1
  refine(Yi ea a n cap l w hg hn hr h).mono ?_;rintro e w'⟨rfl,hb⟩;exact⟨_,by rw[Mn,if_pos h],by rw[h1];exact Or.inl ⟨rfl,(Al ea).symm⟩,hb⟩
 ·refine(Wh ea a n cap l w hg hn hr hc h).mono ?_
  rintro e w'⟨v,rfl,hE,hb⟩;exact⟨v,by rw[Mn,if_neg h],hE,hb⟩
def Pd(l:List Int)(node:Int)(s:Nat):Option Nat:=(List.range l.length).find? fun j=>Am l (s+j)==node
theorem Qh{l:List Int}{node:Int}{s m:Nat}(hm:m<l.length)(hw:Am l (s+m)=node)(hno:∀j,j<m→¬Am l (s+j)=node):Pd l node s=some m:=by
 rw[Pd,List.find?_range_eq_some];refine⟨by simpa using hw,by simpa using hm,fun j hj=>by simpa using hno j hj⟩
theorem Qg{l:List Int}{node:Int}{s:Nat}(hno:∀j,j<l.length→¬Am l (s+j)=node):Pd l node s=none:=by
 rw[Pd,List.find?_range_eq_none];exact fun j hj=>by simpa using hno j hj
def Dy(l:List Int)(node s:Int):Int×Nat×Int:=
 if (Bj l s).1=0 then(match Pd l node s.toNat with|some m=>(s+m,0,-1)|none=>(0,5,-1)) else(0,Bj l s)
theorem zGk(l:List Int)(node s:Int):(Dy l node s).2.1≤11:=by
 unfold Dy;split
 ·split<;>simp
 ·exact zDz l s
theorem zGl(ea:Nat→Addr)(a:Option Addr)(n cap:Nat)(l:List Int)(node s:Int)(w:World)(hg:Bh w ea [5,7,4,2])(hn:l.length=n)(hr:Ac w a (Aa l))(hc:n≤4611686018427387904) :
 Calls Tryz.prog 203 #[.slice a n cap,.int .i64 node,.int .i64 s] w fun e w'=>∃v,e=.returned (.tuple #[.int .i64 (Dy l node s).1,v])∧Bg ea w' v (Dy l node s).2.1 (Dy l node s).2.2∧Below w.heap.size w w':=by
 by_cases h:(Bj l s).1=0
 ·obtain⟨k,rfl⟩:∃k:Nat,s=k:=⟨s.toNat,by have:=(Dw h).2.1;omega⟩
  rcases Jl (fun j=>Am l (k+j)=node) n with⟨m,hm,hw,hno⟩|hno
  ·have hF:Dy l node k=((k:Int)+m,0,-1):=by rw[Dy,if_pos h,Int.toNat_natCast,Qh (by omega) hw hno]
   rw[hF];refine(zIo ea a n cap l node k m w hg hn hr h hm hw hno).mono ?_;rintro e w'⟨rfl,hb⟩;exact⟨_,by rw[Int.natCast_add],Or.inl ⟨rfl,(Al ea).symm⟩,hb⟩
  ·have hF:Dy l node k=(0,5,-1):=by rw[Dy,if_pos h,Int.toNat_natCast,Qg (by rw[hn];exact hno)]
   rw[hF];refine(zC7 ea a n cap l node k w hg hn hr h hno).mono ?_;rintro e w'⟨rfl,hb⟩;exact⟨_,rfl,Bg.bare ea w' 5,hb⟩
 ·have hF:Dy l node s=(0,Bj l s):=by rw[Dy,if_neg h]
  rw[hF];refine(zGm ea a n cap l node s w hg hn hr hc h).mono ?_;rintro e w'⟨v,rfl,hE,hb⟩;exact⟨v,rfl,hE,hb⟩
end Go.Proofs.YtppfkokfnoeopaaGreatDoor
namespace Go.Proofs.YtppfkokfnoeopaaGreatDoor
theorem zHa(l:List Int)(s:Nat)(h:0<l.length):(List.range l.length).map (fun j=>Am l (s+j))=l.drop (s%l.length)++l.take (s%l.length):=by
 have hr:s%l.length<l.length:=Nat.mod_lt _ h;generalize hq:s%l.length=r at *;refine List.ext_getElem (by simp;omega) (fun j h1 h2=>?_);simp only[List.length_map,List.length_range] at h1;rw[List.getElem_map,List.getElem_range,Am];have e1:(s+j)%l.length=(r+j)%l.length:=by rw[←hq,Nat.mod_add_mod]
 rw[e1]
 by_cases hj:r+j<l.length
 ·rw[Nat.mod_eq_of_lt hj,List.getElem_append_left (by simp;omega),List.getElem_drop,List.getD_eq_getElem?_getD,List.getElem?_eq_getElem hj];rfl
 ·have e2:(r+j)%l.length=r+j-l.length:=by
   rw[Nat.mod_eq_sub_mod (by omega),Nat.mod_eq_of_lt (by omega)]
  rw[e2,List.getElem_append_right (by simp;omega),List.getElem_take,List.getD_eq_getElem?_getD,List.getElem?_eq_getElem (by omega)];simp only[List.length_drop,Option.getD_some]
  congr 1
  omega
theorem D0(l:List Int)(s:Nat)(h:0<l.length):Am l s∈l:=by
 rw[Am,List.getD_eq_getElem?_getD,List.getElem?_eq_getElem (Nat.mod_lt _ h)];exact List.getElem_mem _
theorem zGf(l:List Int)(s:Nat)(h:0<l.length)(x:Int)(hx:x∈l):∃j,j<l.length∧Am l (s+j)=x:=by
 have:x∈(List.range l.length).map (fun j=>Am l (s+j)):=by
  rw[zHa l s h,List.mem_append,or_comm,←List.mem_append,List.take_append_drop];exact hx
 obtain⟨j,hj,e⟩:=List.mem_map.1 this;exact⟨j,by simpa using hj,e⟩
end Go.Proofs.YtppfkokfnoeopaaGreatDoor
