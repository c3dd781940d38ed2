/- A part of a proof. -/
import Derived.Test.YtppfkokfnoeopaaGreatDoorSLib
set_option maxRecDepth 400000
set_option maxHeartbeats 6400000
namespace Go.Proofs.YtppfkokfnoeopaaGreatDoor
open Go.RowKit
def Bu(i:Int)(e:Ent):Nat:=
 if e.slot≠i then 10 else if Aq e.frm=false then 4 else if Cr e.value=false then 2 else if e.heard=false∧e.value≠0 then 3 else 0
theorem Xn(ea:Nat→Addr)(i:Int)(s f:Int)(h:Bool)(v:Int)(w:World)(hg:Bh w ea [10,4,2,3]) :
 Calls Tryz.prog 198 #[.int .i64 i,.agg #[.int .i64 s,.int .i64 f,.bool h,.int .i64 v]] w fun e w'=>e=.returned (Bm ea (Bu i ⟨s,f,h,v⟩))∧Below w.heap.size w w':=by
 have g10:=hg.cell 10 (by simp);have g4:=hg.cell 4 (by simp);have g2:=hg.cell 2 (by simp);have g3:=hg.cell 3 (by simp);have l10:=hg.lt 10 (by simp);have l4:=hg.lt 4 (by simp);have l2:=hg.lt 2 (by simp);have l3:=hg.lt 3 (by simp);simp only[gOf] at g10 g4 g2 g3 l10 l4 l2 l3;go_enter Tryz.func198,Tryz.ntmps198;go_wp2_with (go_at_call 154;refine(Fq _ _).mono ?_;rintro e w'⟨rfl,rfl⟩)
 all_goals
  go_ret
  first
   | refine⟨zB5 (congrArg (Bm ea) ?_),zb.alloc zl _⟩
   | refine⟨zB5 (Lz ea ?_),zb.alloc zl _⟩
  clear hg g10 g4 g2 g3 l10 l4 l2 l3
  first
   | (simp_all [Bu,Cr];done)
   | (simp_all [Bu,Cr];omega)
def Co(i:Int):List Ent→Nat×Int
 | []=>(0,-1)
 | e::r=>if Bu i e=0 then Co (i+1) r else(Bu i e,i)
def chk(es:List Ent):Nat×Int:=if 200<es.length then(7,-1) else Co 0 es
theorem Mc(ea:Nat→Addr)(a:Option Addr)(n cap:Nat)(es:List Ent)(w:World)(hg:Bh w ea [7,10,4,2,3])(hn:es.length=n)(hr:Ac w a (Av es))(hm:n≤4611686018427387904):
 Calls Tryz.prog 152 #[.slice a n cap] w fun e w'=>∃v,e=.returned v∧Bg ea w' v (chk es).1 (chk es).2∧Below w.heap.size w w':=by
 have g7:=hg.cell 7 (by simp);have l7:=hg.lt 7 (by simp);simp only[gOf] at g7 l7;go_enter Tryz.func152,Tryz.ntmps152;go_wp2
 ·go_ret
  have h2:200<es.length:=by omega
  exact⟨_,rfl,by simp only[chk,if_pos h2];exact Bg.bare ea w 7,Below.refl _ _⟩
 have h2:¬200<es.length:=by omega
 have HC:Hid (chk es=Co 0 es):=by unfold Hid;rw[chk,if_neg h2]
 clear g7 l7 h2;go_loopw [12] (fun i wr=>∃k:Nat,k≤n∧i=.int .i64 k∧Hid (Co k (es.drop k)=Co 0 es)∧Below w.heap.size w wr) (fun i _=>n-(intOf i).toNat)
 case atStart=>exact⟨0,Nat.zero_le _,rfl,rfl,Below.refl _ _⟩
 case round=>
  obtain⟨k,hk,rfl,HK,hb⟩:=hrel
  by_cases hlt:k<n
  ·obtain⟨b,off,rfl,hbl,c0,c1,c2,c3⟩:=(hr.below hb).ent k (by omega)
   have hge:=(hg.below hb).sub (ls:=[10,4,2,3]) (by simp);have hd:es.drop k=es[k]::es.drop (k+1):=List.drop_eq_getElem_cons (by omega)
   by_cases hz:Bu k es[k]=0
   ·have he:Bm ea (Bu k ⟨es[k].slot,es[k].frm,es[k].heard,es[k].value⟩)=.nilIface:=by rw[show Bu k ⟨es[k].slot,es[k].frm,es[k].heard,es[k].value⟩=0 from hz];exact Al ea
    have HS:Hid (Co (k+1:Nat) (es.drop (k+1))=Co 0 es):=by
     unfold Hid at HK ⊢;rw[←HK,hd,Co,if_pos hz];rfl
    clear hd hz HK HC;go_wp2_with (go_at_call 198;refine(Xn ea _ _ _ _ _ _ ?_).mono ?_;exact hge.below (zb.alloc zl _);rintro e w1⟨rfl,hb1⟩);go_roundw
    case rel=>exact⟨k+1,by omega,by go_num,HS,hb.trans ((zb.alloc hb.size _).trans (hb1.mono (by simp;have:=hb.size;omega)))⟩
    case measure=>simp[intOf];omega
   ·have he:Bm ea (Bu k ⟨es[k].slot,es[k].frm,es[k].heard,es[k].value⟩)=.iface 346 (.pointer (some (ea (Bu k ⟨es[k].slot,es[k].frm,es[k].heard,es[k].value⟩)))):=Ae ea hz
    have HS:Hid (chk es=(Bu k es[k],(k:Int))):=by
     unfold Hid at HK HC ⊢;rw[HC,←HK,hd,Co,if_neg hz]
    have HE:=zh he;have HZ:=zh hz;clear hd hz HK HC;go_wp2_with (go_at_call 198;refine(Xn ea _ _ _ _ _ _ ?_).mono ?_;exact hge.below (zb.alloc zl _);rintro e w1⟨rfl,hb1⟩);go_ret;have hsz:=hb.size;refine⟨_,rfl,?_,(hb.trans ((zb.alloc hb.size _).trans (hb1.mono (by simp;omega)))).alloc (by have:=hb1.size;simp at this;omega) _⟩;rw[HS.out];exact Or.inr ⟨by omega,HZ.out,w1.heap.size,rfl,by simp,by simp,by simp;exact HE.out.symm⟩
  ·have HS:Hid (chk es=(0,-1)):=by
    unfold Hid at HK HC ⊢;rw[HC,←HK,List.drop_eq_nil_of_le (by omega)];rfl
   go_wp2;go_ret;refine⟨_,rfl,?_,hb⟩;rw[HS.out];exact Or.inl ⟨rfl,(Al ea).symm⟩
def Gy(l:List Ent):Int:=((l.filter (fun e=>e.heard)).length:Int)
def Lh(l:List Ent):Int:=((l.filter (fun e=>!e.heard)).length:Int)
def Fc(r:Int)(es:List Ent):List Ent:=es.drop ((es.length:Int)-r).toNat
theorem Xt(l:List Ent):0≤Gy l∧Gy l≤l.length:=by have:=List.length_filter_le (fun e:Ent=>e.heard) l;simp only[Gy];omega
theorem zBh(l:List Ent):0≤Lh l∧Lh l≤l.length:=by have:=List.length_filter_le (fun e:Ent=>!e.heard) l;simp only[Lh];omega
theorem Zz(l:List Ent)(k:Nat)(hk:k<l.length):Gy (l.take (k+1))=Gy (l.take k)+(if l[k].heard then 1 else 0):=by
 rw[List.take_succ_eq_append_getElem hk];simp only[Gy,List.filter_append];by_cases h:l[k].heard=true<;>simp[h]
theorem zCb(l:List Ent)(k:Nat)(hk:k<l.length):Lh (l.take (k+1))=Lh (l.take k)+(if l[k].heard then 0 else 1):=by
 rw[List.take_succ_eq_append_getElem hk];simp only[Lh,List.filter_append];by_cases h:l[k].heard=true<;>simp[h]
theorem zHm(ea:Nat→Addr)(a:Option Addr)(n cap:Nat)(es:List Ent)(r:Int)(w:World)(hg:Bh w ea [7,10,4,2,3])(hn:es.length=n)(hr:Ac w a (Av es))(hm:n≤cap)(hc:n≤4611686018427387904)
 (h0:(chk es).1=0) (h1:1≤r) (h2:r≤32) :
 Calls Tryz.prog 262 #[.slice a n cap,.int .i64 r] w fun e w'=>e=.returned (.tuple #[.int .i64 (Gy (Fc r es)),.int .i64 (Lh (Fc r es)),.nilIface])∧Below w.heap.size w w':=by
 have H0:=zh h0;clear h0;go_enter Tryz.func262,Tryz.ntmps262;go_wp2_with (go_at_call 152;refine(Mc ea _ _ _ es _ hg hn hr (by omega)).mono ?_;rintro e w1⟨v,rfl,hE,hb⟩;rw[H0.out] at hE;obtain rfl:=hE.nil)
 all_goals first
  | (have hlt:r<n:=by assumption
     have hr':Ac w1 (Option.map (fun x=>x.add (((n:Int)-r).toNat*4)) a) (Av (Fc r es)):=by rw[Fc,Vv,hn];exact(hr.below hb).drop _
     have hl:(Fc r es).length=n-((n:Int)-r).toNat:=by rw[Fc,List.length_drop,hn]
     generalize Option.map (fun x:Addr=>x.add (((n:Int)-r).toNat*4)) a=a' at *;generalize n-((n:Int)-r).toNat=n' at *
     generalize cap-((n:Int)-r).toNat=cap' at *)
  | (have hr':Ac w1 a (Av (Fc r es)):=by rw[Fc,show((es.length:Int)-r).toNat=0 by omega];exact hr.below hb
     have hl:(Fc r es).length=n:=by rw[Fc,List.length_drop];omega
     obtain⟨a',ha'⟩:∃a',a'=a:=⟨_,rfl⟩
     obtain⟨n',hn'⟩:∃n',n'=n:=⟨_,rfl⟩
     rw[←ha'] at hr' ⊢;rw[←hn'] at hl ⊢
     clear ha' hn')
 all_goals
  have hle:(Fc r es).length≤4611686018427387904:=by rw[Fc,List.length_drop];omega
  generalize htl:Fc r es=tl at *;have HTL:=zh htl;clear htl;clear hr hE H0 hg;have HL:=zh hl;have hle':n'≤4611686018427387904:=by omega
  clear hl hn;go_loopw [4,5,30] (fun g b i wr=>∃k:Nat,k≤n'∧i=.int .i64 k∧g=.int .i64 (Gy (tl.take k))∧b=.int .i64 (Lh (tl.take k))∧Below w1.heap.size w1 wr) (fun _ _ i _=>n'-(intOf i).toNat)
  case atStart=>exact⟨0,Nat.zero_le _,rfl,rfl,rfl,Below.refl _ _⟩
  case round=>
   obtain⟨k,hk,rfl,rfl,rfl,hbr⟩:=hrel;have hg0:=Xt (tl.take k);have hb0:=zBh (tl.take k);have hlk:(tl.take k).length≤k:=List.length_take_le _ _
   by_cases hlt:k<n'
   ·have hkt:k<tl.length:=by have:=HL.out;omega
    obtain⟨b,off,rfl,hbl,c0,c1,c2,c3⟩:=(hr'.below hbr).ent k hkt;have HG:=zh (Zz tl k hkt);have HB:=zh (zCb tl k hkt);have hsz:=hbr.size;generalize tl[k]=ek at *;clear hkt
    cases hh:ek.heard
    all_goals
     rw[hh] at c2;have HH:=zh hh;clear hh;go_wp2;go_roundw
     case rel=>exact⟨k+1,by omega,by go_num,by rw[HG.out,HH.out];first|rfl|go_num,by rw[HB.out,HH.out];first|rfl|go_num,hbr.alloc hsz _⟩
     case measure=>simp[intOf];omega
   ·have hlt2:tl.length≤k:=by have:=HL.out;omega
    have e1:tl.take k=tl:=List.take_of_length_le hlt2;rw[e1];clear e1 hlt2;go_wp2;go_ret3;rw[HTL.out];exact⟨rfl,hb.trans (hbr.mono hb.size)⟩
theorem zEd(ea:Nat→Addr)(a:Option Addr)(n cap:Nat)(es:List Ent)(r:Int)(w:World)(hg:Bh w ea [7,10,4,2,3])(hn:es.length=n)(hr:Ac w a (Av es))(_hm:n≤cap)(hc:n≤4611686018427387904)
 (h0:(chk es).1≠0) :
 Calls Tryz.prog 262 #[.slice a n cap,.int .i64 r] w fun e w'=>∃v,e=.returned (.tuple #[.int .i64 0,.int .i64 0,v])∧Bg ea w' v (chk es).1 (chk es).2∧Below w.heap.size w w':=by
 have H0:=zh h0;clear h0;go_enter Tryz.func262,Tryz.ntmps262;go_wp2_with (go_at_call 152;refine(Mc ea _ _ _ es _ hg hn hr (by omega)).mono ?_;rintro e w1⟨v,rfl,hE,hb⟩;obtain⟨t,x,rfl⟩:=hE.held H0.out);go_ret3;exact⟨_,rfl,hE,hb⟩
theorem Za(ea:Nat→Addr)(a:Option Addr)(n cap:Nat)(es:List Ent)(r:Int)(w:World)(hg:Bh w ea [7,10,4,2,3])(hn:es.length=n)(hr:Ac w a (Av es))(_hm:n≤cap)(hc:n≤4611686018427387904)
 (h0:(chk es).1=0) (h1:¬(1≤r∧r≤32)) :
 Calls Tryz.prog 262 #[.slice a n cap,.int .i64 r] w fun e w'=>e=.returned (.tuple #[.int .i64 0,.int .i64 0,Bm ea 2])∧Below w.heap.size w w':=by
 have H0:=zh h0;clear h0;have hg2:=hg.cell 2 (by simp);have l2:=hg.lt 2 (by simp)
 by_cases hlo:r<1
 all_goals
  have hx:r<1∨32<r:=by omega
  clear h1;go_enter Tryz.func262,Tryz.ntmps262;go_wp2_with (go_at_call 152;refine(Mc ea _ _ _ es _ hg hn hr (by omega)).mono ?_;rintro e w1⟨v,rfl,hE,hb⟩;rw[H0.out] at hE;obtain rfl:=hE.nil);have g2:w1.cell? ⟨gOf 2,0,none⟩=some (Bm ea 2):=(hg.below hb).cell 2 (by simp);simp only[gOf] at g2;go_quiet (fail);go_wp2;go_ret3;exact⟨rfl,Ab hb _⟩
def zJ5(r:Int)(es:List Ent):Bool:=decide (Lh (Fc r es)<Gy (Fc r es))
theorem zHg(ea:Nat→Addr)(a:Option Addr)(n cap:Nat)(es:List Ent)(r:Int)(w:World)(hg:Bh w ea [7,10,4,2,3])(hn:es.length=n)(hr:Ac w a (Av es))(hm:n≤cap)(hc:n≤4611686018427387904)
 (h0:(chk es).1=0) (h1:1≤r) (h2:r≤32) :
 Calls Tryz.prog 226 #[.slice a n cap,.int .i64 r] w fun e w'=>e=.returned (.tuple #[.bool (zJ5 r es),.nilIface])∧Below w.heap.size w w':=by
 have H0:=zh h0;clear h0;go_enter Tryz.func226,Tryz.ntmps226;go_wp2_with (go_at_call 262;refine(zHm ea _ _ _ es _ _ hg hn hr hm hc H0.out h1 h2).mono ?_;rintro e w1⟨rfl,hb⟩);go_ret2;exact⟨rfl,hb⟩
theorem zEa(ea:Nat→Addr)(a:Option Addr)(n cap:Nat)(es:List Ent)(r:Int)(w:World)(hg:Bh w ea [7,10,4,2,3])(hn:es.length=n)(hr:Ac w a (Av es))(hm:n≤cap)(hc:n≤4611686018427387904)
 (h0:(chk es).1≠0) :
 Calls Tryz.prog 226 #[.slice a n cap,.int .i64 r] w fun e w'=>∃v,e=.returned (.tuple #[.bool false,v])∧Bg ea w' v (chk es).1 (chk es).2∧Below w.heap.size w w':=by
 have H0:=zh h0;clear h0;go_enter Tryz.func226,Tryz.ntmps226;go_wp2_with (go_at_call 262;refine(zEd ea _ _ _ es _ _ hg hn hr hm hc H0.out).mono ?_;rintro e w1⟨v,rfl,hE,hb⟩;obtain⟨t,x,rfl⟩:=hE.held H0.out);go_ret2;exact⟨_,rfl,hE,hb⟩
theorem Y0(ea:Nat→Addr)(a:Option Addr)(n cap:Nat)(es:List Ent)(r:Int)(w:World)(hg:Bh w ea [7,10,4,2,3])(hn:es.length=n)(hr:Ac w a (Av es))(hm:n≤cap)(hc:n≤4611686018427387904)
 (h0:(chk es).1=0) (h1:¬(1≤r∧r≤32)) :
 Calls Tryz.prog 226 #[.slice a n cap,.int .i64 r] w fun e w'=>e=.returned (.tuple #[.bool false,Bm ea 2])∧Below w.heap.size w w':=by
 have H0:=zh h0;have H1:=zh h1;have h2:Bm ea 2=.iface 346 (.pointer (some (ea 2))):=Ae ea (by decide);have H2:=zh h2;clear h0 h1 h2;go_enter Tryz.func226,Tryz.ntmps226;go_wp2_with (go_at_call 262;refine(Za ea _ _ _ es _ _ hg hn hr hm hc H0.out H1.out).mono ?_;rintro e w1⟨rfl,hb⟩;rw[H2.out]);go_ret2;rw[H2.out];exact⟨rfl,hb⟩
theorem Ia(x:Int)(a:Option Addr)(n cap:Nat)(l:List Int)(w:World)(hn:l.length=n)(hr:Ac w a (Aa l))(hc:n≤4611686018427387904) :
 Calls Tryz.prog 120 #[.int .i64 x,.slice a n cap] w fun e w'=>e=.returned (.bool (decide (x∈l)))∧w=w':=by
 go_enter Tryz.func120,Tryz.ntmps120;go_wp2;go_loop [5] (fun i=>∃k:Nat,k≤n∧i=.int .i64 k∧Hid (x∉l.take k)) (fun i=>n-(intOf i).toNat)
 case atStart=>exact⟨0,Nat.zero_le _,rfl,by unfold Hid;simp⟩
 case round=>
  obtain⟨k,hk,rfl,HK⟩:=hrel
  by_cases hlt:k<n
  ·obtain⟨b,off,rfl,hbl,c0⟩:=hr.int k (by omega)
   have hkt:k<l.length:=by omega
   have ht:l.take (k+1)=l.take k++[l[k]]:=List.take_succ_eq_append_getElem hkt
   by_cases hx:l[k]=x
   ·have hm:x∈l:=hx▸List.getElem_mem hkt
    have HM:=zh hm;have hb:(l[k]==x)=true:=by simp[hx]
    clear hx hm ht;go_wp2;go_ret;exact⟨Ca (by simp[HM.out]),rfl⟩
   ·have HN:Hid (x∉l.take (k+1)):=by
     unfold Hid at HK ⊢;rw[ht,List.mem_append,not_or];exact⟨HK,by simpa using fun e=>hx e.symm⟩
    have hb:(l[k]==x)=false:=by simp[hx]
    clear hx ht;go_wp2;go_round
    case rel=>exact⟨k+1,by omega,by go_num,HN⟩
    case measure=>simp[intOf];omega
  ·have HN:Hid (x∉l):=by unfold Hid at HK ⊢;rwa [List.take_of_length_le (by omega)] at HK
   go_wp2;go_ret;exact⟨Ca (by simp[HN.out]),rfl⟩
end Go.Proofs.YtppfkokfnoeopaaGreatDoor
namespace Go.Proofs.YtppfkokfnoeopaaGreatDoor
theorem Nw:∀(es:List Ent) (i:Int),(Co i es).1=0→Co i es=(0,-1)
 | [],_,_=>rfl
 | e::r,i,h=>by
  rw[Co] at h ⊢
  split
  ·rename_i hz;rw[if_pos hz] at h;exact Nw r _ h
  ·rename_i hz;rw[if_neg hz] at h;exact absurd h hz
theorem Lk{es:List Ent}(h:(chk es).1=0):chk es=(0,-1):=by
 unfold chk at h ⊢
 split
 ·rename_i hl;rw[if_pos hl] at h;simp at h
 ·rename_i hl;rw[if_neg hl] at h;exact Nw es 0 h
end Go.Proofs.YtppfkokfnoeopaaGreatDoor
