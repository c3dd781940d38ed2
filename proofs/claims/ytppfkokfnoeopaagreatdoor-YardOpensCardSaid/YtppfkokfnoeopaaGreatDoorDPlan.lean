/- A part of a proof. -/
import Derived.Test.YtppfkokfnoeopaaGreatDoorDCrew
namespace Go.Proofs.YtppfkokfnoeopaaGreatDoor
open Go.RowKit
def badIdx(i:Int):List Int→Int
 | []=>-1
 | x::r=>if nodeB x then badIdx (i+1) r else i
def planF(l:List Int):Nat×Int:=if l.length=0 then(5,-1) else if 32<l.length then(7,-1) else if badIdx 0 l<0 then(0,-1) else(4,badIdx 0 l)
theorem badIdx_neg:∀(l:List Int) (i:Int),0≤i→(badIdx i l<0↔∀x∈l,nodeB x=true)
 | [],i,_=>by simp[badIdx]
 | x::r,i,h=>by
  rw[badIdx]
  cases hx:nodeB x
  ·simp[hx];omega
  ·simp[hx,badIdx_neg r (i+1) (by omega)]
theorem planF_ok{l:List Int}(h:(planF l).1=0):planF l=(0,-1)∧0<l.length∧l.length≤32∧∀x∈l,nodeB x=true:=by
 unfold planF at h ⊢
 split at h
 ·simp at h
 ·split at h
  ·simp at h
  ·split at h
   ·rename_i h1 h2 h3
    rw[if_neg h1,if_neg h2,if_pos h3];exact⟨rfl,by omega,by omega,(badIdx_neg l 0 (by omega)).1 h3⟩
   ·simp at h
theorem badPred_any(x:Int)(w:World):Calls Tryz.prog 205 #[.int .i64 x] w fun e w'=>e=.returned (.bool (!nodeB x))∧w=w':=by
 go_enter Tryz.func205,Tryz.ntmps205;go_wp2_with (go_at_call 154;refine(node_any _ _).mono ?_;rintro e w'⟨rfl,rfl⟩);go_ret;exact⟨rfl,rfl⟩
theorem idxFunc_any(a:Option Addr)(n cap:Nat)(l:List Int)(w:World)(hn:l.length=n)(hr:RowAt w a (encInts l))(hc:n≤4611686018427387904) :
 Calls Tryz.prog 204 #[.slice a n cap,.func (.func 205) #[] #[]] w fun e w'=>e=.returned (.int .i64 (badIdx 0 l))∧w=w':=by
 go_enter Tryz.func204,Tryz.ntmps204;go_wp2;go_loop [8] (fun i=>∃k:Nat,k≤n∧i=.int .i64 k∧Hid (badIdx k (l.drop k)=badIdx 0 l)) (fun i=>n-(intOf i).toNat)
 case atStart=>exact⟨0,Nat.zero_le _,rfl,rfl⟩
 case round=>
  obtain⟨k,hk,rfl,HK⟩:=hrel
  by_cases hlt:k<n
  ·obtain⟨b,off,rfl,hbl,c0⟩:=hr.int k (by omega)
   have hkt:k<l.length:=by omega
   have hd:l.drop k=l[k]::l.drop (k+1):=List.drop_eq_getElem_cons hkt;generalize l[k]=x at *
   cases hx:nodeB x
   ·have HS:Hid (badIdx 0 l=k):=by unfold Hid at HK ⊢;rw[←HK,hd,badIdx,hx];rfl
    have HX:=Lib.hid hx;clear hd hx HK;go_wp2_with (go_at_call 205;refine(badPred_any _ _).mono ?_;rintro e w'⟨rfl,rfl⟩;rw[HX.out]);go_ret;exact⟨ret_int HS.out.symm,rfl⟩
   ·have HS:Hid (badIdx (k+1:Nat) (l.drop (k+1))=badIdx 0 l):=by unfold Hid at HK ⊢;rw[←HK,hd,badIdx,hx];rfl
    have HX:=Lib.hid hx;clear hd hx HK;go_wp2_with (go_at_call 205;refine(badPred_any _ _).mono ?_;rintro e w'⟨rfl,rfl⟩;rw[HX.out]);go_round
    case rel=>exact⟨k+1,by omega,by go_num,HS⟩
    case measure=>simp[intOf];omega
  ·have HS:Hid (badIdx 0 l=-1):=by unfold Hid at HK ⊢;rw[←HK,List.drop_eq_nil_of_le (by omega)];rfl
   go_wp2;go_ret;exact⟨ret_int HS.out.symm,rfl⟩
theorem planCheck_any(ea:Nat→Addr)(a:Option Addr)(n cap:Nat)(l:List Int)(w:World)(hg:Glob w ea [5,7,4])(hn:l.length=n)(hr:RowAt w a (encInts l))(hc:n≤4611686018427387904) :
 Calls Tryz.prog 164 #[.slice a n cap] w fun e w'=>∃v,e=.returned v∧ErrIs ea w' v (planF l).1 (planF l).2∧Below w.heap.size w w':=by
 have g5:=hg.cell 5 (by simp);have g7:=hg.cell 7 (by simp);have g4:=hg.cell 4 (by simp);simp only[gOf] at g5 g7 g4
 by_cases h0:n=0
 ·have HP:Hid (planF l=(5,-1)):=by unfold Hid;rw[planF,if_pos (by omega)]
  subst h0;go_enter Tryz.func164,Tryz.ntmps164;go_wp2;go_ret;exact⟨_,rfl,by rw[HP.out];exact ErrIs.bare ea w 5,Below.refl _ _⟩
 ·have hz:((n:Int)==0)=false:=by simp;omega
  by_cases h1:32<n
  ·have HP:Hid (planF l=(7,-1)):=by unfold Hid;rw[planF,if_neg (by omega),if_pos (by omega)]
   clear h0;go_enter Tryz.func164,Tryz.ntmps164;go_wp2;go_ret;exact⟨_,rfl,by rw[HP.out];exact ErrIs.bare ea w 7,Below.refl _ _⟩
  ·have HN:=Lib.hid hn
   by_cases h2:badIdx 0 l<0
   ·have HP:Hid (planF l=(0,-1)):=by unfold Hid;rw[planF,if_neg (by omega),if_neg (by omega),if_pos h2]
    clear h0 hn;go_enter Tryz.func164,Tryz.ntmps164;go_wp2_with (go_at_call 204;refine(idxFunc_any _ _ _ l _ HN.out hr hc).mono ?_;rintro e w'⟨rfl,rfl⟩);go_ret;exact⟨_,rfl,by rw[HP.out];exact Or.inl ⟨rfl,(errV_zero ea).symm⟩,Below.refl _ _⟩
   ·have HP:Hid (planF l=(4,badIdx 0 l)):=by unfold Hid;rw[planF,if_neg (by omega),if_neg (by omega),if_neg h2]
    have h3:0≤badIdx 0 l:=by omega
    have HE:=Lib.hid (errV_pos ea (k:=4) (by decide));rw[HE.out] at g4;clear h0 hn h2;go_enter Tryz.func164,Tryz.ntmps164;go_wp2_with (go_at_call 204;refine(idxFunc_any _ _ _ l _ HN.out hr hc).mono ?_;rintro e w'⟨rfl,rfl⟩);go_ret;exact⟨_,rfl,by rw[HP.out];exact Or.inr ⟨h3,by simp,w.heap.size,rfl,by simp,by simp,by simp;exact HE.out.symm⟩,(Below.refl _ _).alloc (Nat.le_refl _) _⟩
def rightF(l:List Int)(s:Int):Nat×Int:=if (planF l).1=0 then(if 0≤s∧s≤1000000 then(0,-1) else(2,-1)) else planF l
theorem right_any(ea:Nat→Addr)(a:Option Addr)(n cap:Nat)(l:List Int)(s:Int)(w:World)(hg:Glob w ea [5,7,4,2])(hn:l.length=n)(hr:RowAt w a (encInts l))(hc:n≤4611686018427387904) :
 Calls Tryz.prog 217 #[.slice a n cap,.int .i64 s] w fun e w'=>∃v,e=.returned v∧ErrIs ea w' v (rightF l s).1 (rightF l s).2∧Below w.heap.size w w':=by
 have hgp:Glob w ea [5,7,4]:=hg.sub (by simp);have HN:=Lib.hid hn;clear hn
 by_cases h0:(planF l).1=0
 ·have hF:=planF_ok h0
  have H0:=Lib.hid h0;clear h0
  by_cases hs:0≤s∧s≤1000000
  ·have HP:Hid (rightF l s=(0,-1)):=by unfold Hid;rw[rightF,if_pos H0.out,if_pos hs]
   obtain⟨hs0,hs1⟩:=hs;clear hF;go_enter Tryz.func217,Tryz.ntmps217;go_wp2_with (go_at_call 164;refine(planCheck_any ea _ _ _ l _ hgp HN.out hr hc).mono ?_;rintro e w1⟨v,rfl,hE,hb⟩;rw[H0.out] at hE;obtain rfl:=hE.nil);go_ret;exact⟨_,rfl,by rw[HP.out];exact Or.inl ⟨rfl,(errV_zero ea).symm⟩,hb⟩
  ·have HP:Hid (rightF l s=(2,-1)):=by unfold Hid;rw[rightF,if_pos H0.out,if_neg hs]
   clear hF
   by_cases hs0:s<0
   all_goals
    have hs2:s<0∨1000000<s:=by omega
    clear hs;go_enter Tryz.func217,Tryz.ntmps217;go_wp2_with (go_at_call 164;refine(planCheck_any ea _ _ _ l _ hgp HN.out hr hc).mono ?_;rintro e w1⟨v,rfl,hE,hb⟩;rw[H0.out] at hE;obtain rfl:=hE.nil;have g2:=(hg.below hb).cell 2 (by simp);simp only[gOf] at g2);go_ret;exact⟨_,rfl,by rw[HP.out];exact ErrIs.bare ea _ 2,hb⟩
 ·have HP:Hid (rightF l s=planF l):=by unfold Hid;rw[rightF,if_neg h0]
  have H0:=Lib.hid h0;clear h0;go_enter Tryz.func217,Tryz.ntmps217;go_wp2_with (go_at_call 164;refine(planCheck_any ea _ _ _ l _ hgp HN.out hr hc).mono ?_;rintro e w1⟨v,rfl,hE,hb⟩;obtain⟨t,x,rfl⟩:=hE.held H0.out);go_ret;exact⟨_,rfl,by rw[HP.out];exact hE,hb⟩
theorem intD{w:World}{a:Option Addr}{l:List Int}(h:RowAt w a (encInts l))(k:Nat)(hk:k<l.length) :
 ∃b off,a=some ⟨b,off,none⟩∧b<w.heap.size∧w.cell? ⟨b,off+k,none⟩=some (.int .i64 (l.getD k 0)):=by
 obtain⟨b,off,e,hb,hc⟩:=h.int k hk;exact⟨b,off,e,hb,by rw[hc,List.getD_eq_getElem?_getD,List.getElem?_eq_getElem hk];rfl⟩
def whoV(l:List Int)(s:Nat):Int:=l.getD (s%l.length) 0
theorem rightF_ok{l:List Int}{s:Int}(h:(rightF l s).1=0):(planF l).1=0∧0≤s∧s≤1000000:=by
 unfold rightF at h
 split at h
 ·rename_i h0
  split at h
  ·rename_i hs;exact⟨h0,hs.1,hs.2⟩
  ·simp at h
 ·rename_i h0;exact absurd h h0
theorem who_ok(ea:Nat→Addr)(a:Option Addr)(n cap:Nat)(l:List Int)(s:Nat)(w:World)(hg:Glob w ea [5,7,4,2])(hn:l.length=n)(hr:RowAt w a (encInts l))(h:(rightF l s).1=0) :
 Calls Tryz.prog 181 #[.slice a n cap,.int .i64 s] w fun e w'=>e=.returned (.tuple #[.int .i64 (whoV l s),.nilIface])∧Below w.heap.size w w':=by
 have hF:=planF_ok (rightF_ok h).1;have hs:=(rightF_ok h).2.2;have hlen:=hF.2.1;have hlen2:=hF.2.2.1;have hm:s%n<n:=Nat.mod_lt _ (by omega);obtain⟨b,off,rfl,hbl,c0⟩:=intD hr (s%n) (by omega);have hV:Hid (whoV l s=l.getD (s%n) 0):=by unfold Hid;rw[whoV,hn]
 have hc:n≤4611686018427387904:=by omega
 have hn0:0<n:=by omega
 have hnz:((n:Int)==0)=false:=by simp;omega
 have HN:=Lib.hid hn;have H:=Lib.hid h;clear hF hlen hlen2 h hn;generalize l.getD (s%n) 0=x at *;go_enter Tryz.func181,Tryz.ntmps181;go_wp2_with (go_at_call 217;refine(right_any ea _ _ _ l _ _ hg HN.out hr hc).mono ?_;rintro e w1⟨v,rfl,hE,hb⟩;rw[H.out] at hE;obtain rfl:=hE.nil;have c1:=(hb.cell (p:=⟨b,off+s%n,none⟩) hbl).trans c0);go_ret2;rw[hV.out];exact⟨rfl,hb⟩
theorem who_err(ea:Nat→Addr)(a:Option Addr)(n cap:Nat)(l:List Int)(s:Int)(w:World)(hg:Glob w ea [5,7,4,2])(hn:l.length=n)(hr:RowAt w a (encInts l))(hc:n≤4611686018427387904)(h:(rightF l s).1≠0) :
 Calls Tryz.prog 181 #[.slice a n cap,.int .i64 s] w fun e w'=>∃v,e=.returned (.tuple #[.int .i64 0,v])∧ErrIs ea w' v (rightF l s).1 (rightF l s).2∧Below w.heap.size w w':=by
 have HN:=Lib.hid hn;have H:=Lib.hid h;clear h hn;go_enter Tryz.func181,Tryz.ntmps181;go_wp2_with (go_at_call 217;refine(right_any ea _ _ _ l _ _ hg HN.out hr hc).mono ?_;rintro e w1⟨v,rfl,hE,hb⟩;obtain⟨t,x,rfl⟩:=hE.held H.out);go_ret2;exact⟨_,rfl,hE,hb⟩
theorem planCrew_ok(ea:Nat→Addr)(a:Option Addr)(n cap:Nat)(l:List Int)(w:World)(hg:Glob w ea [5,7,4])(hn:l.length=n)(hr:RowAt w a (encInts l))(h:(planF l).1=0) :
 Calls Tryz.prog 115 #[.slice a n cap] w fun e w'=>e=.returned (.tuple #[.int .i64 (crewOf l),.nilIface])∧Below w.heap.size w w':=by
 have hF:=planF_ok h;have hc:n≤32:=by omega
 have HA:=Lib.hid hF.2.2.2;have HN:=Lib.hid hn;have H:=Lib.hid h;clear hF h hn;go_enter Tryz.func115,Tryz.ntmps115
 go_wp2_with (first
  | (go_at_call 164;refine(planCheck_any ea _ _ _ l _ hg HN.out hr (by omega)).mono ?_;rintro e w1⟨v,rfl,hE,hb⟩;rw[H.out] at hE;obtain rfl:=hE.nil)
  | (go_at_call 106;refine(of_ok _ _ _ l _ HN.out (hr.below hb) (by omega) HA.out).mono ?_;rintro e w2⟨rfl,rfl⟩))
 go_ret2;exact⟨rfl,hb⟩
theorem planCrew_err(ea:Nat→Addr)(a:Option Addr)(n cap:Nat)(l:List Int)(w:World)(hg:Glob w ea [5,7,4])(hn:l.length=n)(hr:RowAt w a (encInts l))(hc:n≤4611686018427387904)(h:(planF l).1≠0) :
 Calls Tryz.prog 115 #[.slice a n cap] w fun e w'=>∃v,e=.returned (.tuple #[.int .i64 0,v])∧ErrIs ea w' v (planF l).1 (planF l).2∧Below w.heap.size w w':=by
 have HN:=Lib.hid hn;have H:=Lib.hid h;clear h hn;go_enter Tryz.func115,Tryz.ntmps115;go_wp2_with (go_at_call 164;refine(planCheck_any ea _ _ _ l _ hg HN.out hr hc).mono ?_;rintro e w1⟨v,rfl,hE,hb⟩;obtain⟨t,x,rfl⟩:=hE.held H.out);go_ret2;exact⟨_,rfl,hE,hb⟩
theorem rightF_zero{l:List Int}{s:Int}(h:(rightF l s).1=0):rightF l s=(0,-1):=by
 have h0:=(rightF_ok h);rw[rightF,if_pos h0.1,if_pos h0.2]
def whoF(l:List Int)(s:Int):Int:=if (rightF l s).1=0 then whoV l s.toNat else 0
theorem who_any(ea:Nat→Addr)(a:Option Addr)(n cap:Nat)(l:List Int)(s:Int)(w:World)(hg:Glob w ea [5,7,4,2])(hn:l.length=n)(hr:RowAt w a (encInts l))(hc:n≤4611686018427387904) :
 Calls Tryz.prog 181 #[.slice a n cap,.int .i64 s] w fun e w'=>∃v,e=.returned (.tuple #[.int .i64 (whoF l s),v])∧ErrIs ea w' v (rightF l s).1 (rightF l s).2∧Below w.heap.size w w':=by
 by_cases h:(rightF l s).1=0
 ·have h1:=rightF_zero h
  obtain⟨k,rfl⟩:∃k:Nat,s=k:=⟨s.toNat,by have:=(rightF_ok h).2.1;omega⟩
  refine(who_ok ea a n cap l k w hg hn hr h).mono ?_;rintro e w'⟨rfl,hb⟩;exact⟨_,by rw[whoF,if_pos h];rfl,by rw[h1];exact Or.inl ⟨rfl,(errV_zero ea).symm⟩,hb⟩
 ·refine(who_err ea a n cap l s w hg hn hr hc h).mono ?_
  rintro e w'⟨v,rfl,hE,hb⟩;exact⟨v,by rw[whoF,if_neg h],hE,hb⟩
def planCrewF(l:List Int):Int:=if (planF l).1=0 then crewOf l else 0
theorem planCrew_any(ea:Nat→Addr)(a:Option Addr)(n cap:Nat)(l:List Int)(w:World)(hg:Glob w ea [5,7,4])(hn:l.length=n)(hr:RowAt w a (encInts l))(hc:n≤4611686018427387904) :
 Calls Tryz.prog 115 #[.slice a n cap] w fun e w'=>∃v,e=.returned (.tuple #[.int .i64 (planCrewF l),v])∧ErrIs ea w' v (planF l).1 (planF l).2∧Below w.heap.size w w':=by
 by_cases h:(planF l).1=0
 ·have h1:=(planF_ok h).1
  refine(planCrew_ok ea a n cap l w hg hn hr h).mono ?_;rintro e w'⟨rfl,hb⟩;exact⟨_,by rw[planCrewF,if_pos h],by rw[h1];exact Or.inl ⟨rfl,(errV_zero ea).symm⟩,hb⟩
 ·refine(planCrew_err ea a n cap l w hg hn hr hc h).mono ?_
  rintro e w'⟨v,rfl,hE,hb⟩;exact⟨v,by rw[planCrewF,if_neg h],hE,hb⟩
end Go.Proofs.YtppfkokfnoeopaaGreatDoor
namespace Go.Proofs.YtppfkokfnoeopaaGreatDoor
theorem whoV_mem(l:List Int)(s:Nat)(h:0<l.length):whoV l s∈l:=by
 rw[whoV,List.getD_eq_getElem?_getD,List.getElem?_eq_getElem (Nat.mod_lt _ h)];exact List.getElem_mem _
end Go.Proofs.YtppfkokfnoeopaaGreatDoor
