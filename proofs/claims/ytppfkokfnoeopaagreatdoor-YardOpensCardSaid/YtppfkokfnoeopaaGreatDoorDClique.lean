/- A part of a proof. -/
import Derived.Test.YtppfkokfnoeopaaGreatDoorDLib
namespace Go.Proofs.YtppfkokfnoeopaaGreatDoor
open Go.RowKit
def chkE(i:Int)(e:Ent):Nat:=
 if e.slot≠i then 10 else if nodeB e.frm=false then 4 else if numB e.value=false then 2 else if e.heard=false∧e.value≠0 then 3 else 0
set_option maxHeartbeats 400000 in
theorem each_any(ea:Nat→Addr)(i:Int)(s f:Int)(h:Bool)(v:Int)(w:World)(hg:Glob w ea [10,4,2,3]) :
 Calls Tryz.prog 198 #[.int .i64 i,.agg #[.int .i64 s,.int .i64 f,.bool h,.int .i64 v]] w fun e w'=>e=.returned (errV ea (chkE i ⟨s,f,h,v⟩))∧Below w.heap.size w w':=by
 have g10:=hg.cell 10 (by simp);have g4:=hg.cell 4 (by simp);have g2:=hg.cell 2 (by simp);have g3:=hg.cell 3 (by simp);have l10:=hg.lt 10 (by simp);have l4:=hg.lt 4 (by simp);have l2:=hg.lt 2 (by simp);have l3:=hg.lt 3 (by simp);simp only[gOf] at g10 g4 g2 g3 l10 l4 l2 l3;go_enter Tryz.func198,Tryz.ntmps198;go_wp2_with (go_at_call 154;refine(node_any _ _).mono ?_;rintro e w'⟨rfl,rfl⟩)
 all_goals
  go_ret
  first
   | refine⟨ret_v (congrArg (errV ea) ?_),(Below.refl _ _).alloc (Nat.le_refl _) _⟩
   | refine⟨ret_v (nil_errV ea ?_),(Below.refl _ _).alloc (Nat.le_refl _) _⟩
  clear hg g10 g4 g2 g3 l10 l4 l2 l3
  first
   | (simp_all [chkE,numB];done)
   | (simp_all [chkE,numB];omega)
def chkFrom(i:Int):List Ent→Nat×Int
 | []=>(0,-1)
 | e::r=>if chkE i e=0 then chkFrom (i+1) r else(chkE i e,i)
def chk(es:List Ent):Nat×Int:=if 200<es.length then(7,-1) else chkFrom 0 es
set_option maxHeartbeats 400000 in
theorem check_any(ea:Nat→Addr)(a:Option Addr)(n cap:Nat)(es:List Ent)(w:World)(hg:Glob w ea [7,10,4,2,3])(hn:es.length=n)(hr:RowAt w a (encEnts es))(hm:n≤4611686018427387904):
 Calls Tryz.prog 152 #[.slice a n cap] w fun e w'=>∃v,e=.returned v∧ErrIs ea w' v (chk es).1 (chk es).2∧Below w.heap.size w w':=by
 have g7:=hg.cell 7 (by simp);have l7:=hg.lt 7 (by simp);simp only[gOf] at g7 l7;go_enter Tryz.func152,Tryz.ntmps152;go_wp2
 ·go_ret
  have h2:200<es.length:=by omega
  exact⟨_,rfl,by simp only[chk,if_pos h2];exact ErrIs.bare ea w 7,Below.refl _ _⟩
 have h2:¬200<es.length:=by omega
 have HC:Hid (chk es=chkFrom 0 es):=by unfold Hid;rw[chk,if_neg h2]
 clear g7 l7 h2;go_loopw [12] (fun i wr=>∃k:Nat,k≤n∧i=.int .i64 k∧Hid (chkFrom k (es.drop k)=chkFrom 0 es)∧Below w.heap.size w wr) (fun i _=>n-(intOf i).toNat)
 case atStart=>exact⟨0,Nat.zero_le _,rfl,rfl,Below.refl _ _⟩
 case round=>
  obtain⟨k,hk,rfl,HK,hb⟩:=hrel
  by_cases hlt:k<n
  ·obtain⟨b,off,rfl,hbl,c0,c1,c2,c3⟩:=(hr.below hb).ent k (by omega)
   have hge:=(hg.below hb).sub (ls:=[10,4,2,3]) (by simp);have hd:es.drop k=es[k]::es.drop (k+1):=List.drop_eq_getElem_cons (by omega)
   by_cases hz:chkE k es[k]=0
   ·have he:errV ea (chkE k ⟨es[k].slot,es[k].frm,es[k].heard,es[k].value⟩)=.nilIface:=by rw[show chkE k ⟨es[k].slot,es[k].frm,es[k].heard,es[k].value⟩=0 from hz];exact errV_zero ea
    have HS:Hid (chkFrom (k+1:Nat) (es.drop (k+1))=chkFrom 0 es):=by
     unfold Hid at HK ⊢;rw[←HK,hd,chkFrom,if_pos hz];rfl
    clear hd hz HK HC;go_wp2_with (go_at_call 198;refine(each_any ea _ _ _ _ _ _ ?_).mono ?_;exact hge.below ((Below.refl _ _).alloc (Nat.le_refl _) _);rintro e w1⟨rfl,hb1⟩);go_roundw
    case rel=>exact⟨k+1,by omega,by go_num,HS,hb.trans (((Below.refl _ _).alloc hb.size _).trans (hb1.mono (by simp;have:=hb.size;omega)))⟩
    case measure=>simp[intOf];omega
   ·have he:errV ea (chkE k ⟨es[k].slot,es[k].frm,es[k].heard,es[k].value⟩)=.iface 346 (.pointer (some (ea (chkE k ⟨es[k].slot,es[k].frm,es[k].heard,es[k].value⟩)))):=errV_pos ea hz
    have HS:Hid (chk es=(chkE k es[k],(k:Int))):=by
     unfold Hid at HK HC ⊢;rw[HC,←HK,hd,chkFrom,if_neg hz]
    have HE:=Lib.hid he;have HZ:=Lib.hid hz;clear hd hz HK HC;go_wp2_with (go_at_call 198;refine(each_any ea _ _ _ _ _ _ ?_).mono ?_;exact hge.below ((Below.refl _ _).alloc (Nat.le_refl _) _);rintro e w1⟨rfl,hb1⟩);go_ret;have hsz:=hb.size;refine⟨_,rfl,?_,(hb.trans (((Below.refl _ _).alloc hb.size _).trans (hb1.mono (by simp;omega)))).alloc (by have:=hb1.size;simp at this;omega) _⟩;rw[HS.out];exact Or.inr ⟨by omega,HZ.out,w1.heap.size,rfl,by simp,by simp,by simp;exact HE.out.symm⟩
  ·have HS:Hid (chk es=(0,-1)):=by
    unfold Hid at HK HC ⊢;rw[HC,←HK,List.drop_eq_nil_of_le (by omega)];rfl
   go_wp2;go_ret;refine⟨_,rfl,?_,hb⟩;rw[HS.out];exact Or.inl ⟨rfl,(errV_zero ea).symm⟩
def goods(l:List Ent):Int:=((l.filter (fun e=>e.heard)).length:Int)
def bads(l:List Ent):Int:=((l.filter (fun e=>!e.heard)).length:Int)
def lastR(r:Int)(es:List Ent):List Ent:=es.drop ((es.length:Int)-r).toNat
theorem goods_le(l:List Ent):0≤goods l∧goods l≤l.length:=by have:=List.length_filter_le (fun e:Ent=>e.heard) l;simp only[goods];omega
theorem bads_le(l:List Ent):0≤bads l∧bads l≤l.length:=by have:=List.length_filter_le (fun e:Ent=>!e.heard) l;simp only[bads];omega
theorem goods_snoc(l:List Ent)(k:Nat)(hk:k<l.length):goods (l.take (k+1))=goods (l.take k)+(if l[k].heard then 1 else 0):=by
 rw[List.take_succ_eq_append_getElem hk];simp only[goods,List.filter_append];by_cases h:l[k].heard=true<;>simp[h]
theorem bads_snoc(l:List Ent)(k:Nat)(hk:k<l.length):bads (l.take (k+1))=bads (l.take k)+(if l[k].heard then 0 else 1):=by
 rw[List.take_succ_eq_append_getElem hk];simp only[bads,List.filter_append];by_cases h:l[k].heard=true<;>simp[h]
set_option maxHeartbeats 800000 in
theorem tally_ok(ea:Nat→Addr)(a:Option Addr)(n cap:Nat)(es:List Ent)(r:Int)(w:World)(hg:Glob w ea [7,10,4,2,3])(hn:es.length=n)(hr:RowAt w a (encEnts es))(hm:n≤cap)(hc:n≤4611686018427387904)
 (h0:(chk es).1=0) (h1:1≤r) (h2:r≤32) :
 Calls Tryz.prog 262 #[.slice a n cap,.int .i64 r] w fun e w'=>e=.returned (.tuple #[.int .i64 (goods (lastR r es)),.int .i64 (bads (lastR r es)),.nilIface])∧Below w.heap.size w w':=by
 have H0:=Lib.hid h0;clear h0;go_enter Tryz.func262,Tryz.ntmps262;go_wp2_with (go_at_call 152;refine(check_any ea _ _ _ es _ hg hn hr (by omega)).mono ?_;rintro e w1⟨v,rfl,hE,hb⟩;rw[H0.out] at hE;obtain rfl:=hE.nil)
 all_goals first
  | (have hlt:r<n:=by assumption
     have hr':RowAt w1 (Option.map (fun x=>x.add (((n:Int)-r).toNat*4)) a) (encEnts (lastR r es)):=by rw[lastR,encEnts_drop,hn];exact(hr.below hb).drop _
     have hl:(lastR r es).length=n-((n:Int)-r).toNat:=by rw[lastR,List.length_drop,hn]
     generalize Option.map (fun x:Addr=>x.add (((n:Int)-r).toNat*4)) a=a' at *;generalize n-((n:Int)-r).toNat=n' at *
     generalize cap-((n:Int)-r).toNat=cap' at *)
  | (have hr':RowAt w1 a (encEnts (lastR r es)):=by rw[lastR,show((es.length:Int)-r).toNat=0 by omega];exact hr.below hb
     have hl:(lastR r es).length=n:=by rw[lastR,List.length_drop];omega
     obtain⟨a',ha'⟩:∃a',a'=a:=⟨_,rfl⟩
     obtain⟨n',hn'⟩:∃n',n'=n:=⟨_,rfl⟩
     rw[←ha'] at hr' ⊢;rw[←hn'] at hl ⊢
     clear ha' hn')
 all_goals
  have hle:(lastR r es).length≤4611686018427387904:=by rw[lastR,List.length_drop];omega
  generalize htl:lastR r es=tl at *;have HTL:=Lib.hid htl;clear htl;clear hr hE H0 hg;have HL:=Lib.hid hl;have hle':n'≤4611686018427387904:=by omega
  clear hl hn;go_loopw [4,5,30] (fun g b i wr=>∃k:Nat,k≤n'∧i=.int .i64 k∧g=.int .i64 (goods (tl.take k))∧b=.int .i64 (bads (tl.take k))∧Below w1.heap.size w1 wr) (fun _ _ i _=>n'-(intOf i).toNat)
  case atStart=>exact⟨0,Nat.zero_le _,rfl,rfl,rfl,Below.refl _ _⟩
  case round=>
   obtain⟨k,hk,rfl,rfl,rfl,hbr⟩:=hrel;have hg0:=goods_le (tl.take k);have hb0:=bads_le (tl.take k);have hlk:(tl.take k).length≤k:=List.length_take_le _ _
   by_cases hlt:k<n'
   ·have hkt:k<tl.length:=by have:=HL.out;omega
    obtain⟨b,off,rfl,hbl,c0,c1,c2,c3⟩:=(hr'.below hbr).ent k hkt;have HG:=Lib.hid (goods_snoc tl k hkt);have HB:=Lib.hid (bads_snoc tl k hkt);have hsz:=hbr.size;generalize tl[k]=ek at *;clear hkt
    cases hh:ek.heard
    all_goals
     rw[hh] at c2;have HH:=Lib.hid hh;clear hh;go_wp2;go_roundw
     case rel=>exact⟨k+1,by omega,by go_num,by rw[HG.out,HH.out];first|rfl|go_num,by rw[HB.out,HH.out];first|rfl|go_num,hbr.alloc hsz _⟩
     case measure=>simp[intOf];omega
   ·have hlt2:tl.length≤k:=by have:=HL.out;omega
    have e1:tl.take k=tl:=List.take_of_length_le hlt2;rw[e1];clear e1 hlt2;go_wp2;go_ret3;rw[HTL.out];exact⟨rfl,hb.trans (hbr.mono hb.size)⟩
theorem tally_chk(ea:Nat→Addr)(a:Option Addr)(n cap:Nat)(es:List Ent)(r:Int)(w:World)(hg:Glob w ea [7,10,4,2,3])(hn:es.length=n)(hr:RowAt w a (encEnts es))(_hm:n≤cap)(hc:n≤4611686018427387904)
 (h0:(chk es).1≠0) :
 Calls Tryz.prog 262 #[.slice a n cap,.int .i64 r] w fun e w'=>∃v,e=.returned (.tuple #[.int .i64 0,.int .i64 0,v])∧ErrIs ea w' v (chk es).1 (chk es).2∧Below w.heap.size w w':=by
 have H0:=Lib.hid h0;clear h0;go_enter Tryz.func262,Tryz.ntmps262;go_wp2_with (go_at_call 152;refine(check_any ea _ _ _ es _ hg hn hr (by omega)).mono ?_;rintro e w1⟨v,rfl,hE,hb⟩;obtain⟨t,x,rfl⟩:=hE.held H0.out);go_ret3;exact⟨_,rfl,hE,hb⟩
set_option maxHeartbeats 400000 in
theorem tally_round(ea:Nat→Addr)(a:Option Addr)(n cap:Nat)(es:List Ent)(r:Int)(w:World)(hg:Glob w ea [7,10,4,2,3])(hn:es.length=n)(hr:RowAt w a (encEnts es))(_hm:n≤cap)(hc:n≤4611686018427387904)
 (h0:(chk es).1=0) (h1:¬(1≤r∧r≤32)) :
 Calls Tryz.prog 262 #[.slice a n cap,.int .i64 r] w fun e w'=>e=.returned (.tuple #[.int .i64 0,.int .i64 0,errV ea 2])∧Below w.heap.size w w':=by
 have H0:=Lib.hid h0;clear h0;have hg2:=hg.cell 2 (by simp);have l2:=hg.lt 2 (by simp)
 by_cases hlo:r<1
 all_goals
  have hx:r<1∨32<r:=by omega
  clear h1;go_enter Tryz.func262,Tryz.ntmps262;go_wp2_with (go_at_call 152;refine(check_any ea _ _ _ es _ hg hn hr (by omega)).mono ?_;rintro e w1⟨v,rfl,hE,hb⟩;rw[H0.out] at hE;obtain rfl:=hE.nil);have g2:w1.cell? ⟨gOf 2,0,none⟩=some (errV ea 2):=(hg.below hb).cell 2 (by simp);simp only[gOf] at g2;go_quiet (fail);go_wp2;go_ret3;exact⟨rfl,below_drewN hb _⟩
def staysB(r:Int)(es:List Ent):Bool:=decide (bads (lastR r es)<goods (lastR r es))
theorem stays_ok(ea:Nat→Addr)(a:Option Addr)(n cap:Nat)(es:List Ent)(r:Int)(w:World)(hg:Glob w ea [7,10,4,2,3])(hn:es.length=n)(hr:RowAt w a (encEnts es))(hm:n≤cap)(hc:n≤4611686018427387904)
 (h0:(chk es).1=0) (h1:1≤r) (h2:r≤32) :
 Calls Tryz.prog 226 #[.slice a n cap,.int .i64 r] w fun e w'=>e=.returned (.tuple #[.bool (staysB r es),.nilIface])∧Below w.heap.size w w':=by
 have H0:=Lib.hid h0;clear h0;go_enter Tryz.func226,Tryz.ntmps226;go_wp2_with (go_at_call 262;refine(tally_ok ea _ _ _ es _ _ hg hn hr hm hc H0.out h1 h2).mono ?_;rintro e w1⟨rfl,hb⟩);go_ret2;exact⟨rfl,hb⟩
theorem stays_chk(ea:Nat→Addr)(a:Option Addr)(n cap:Nat)(es:List Ent)(r:Int)(w:World)(hg:Glob w ea [7,10,4,2,3])(hn:es.length=n)(hr:RowAt w a (encEnts es))(hm:n≤cap)(hc:n≤4611686018427387904)
 (h0:(chk es).1≠0) :
 Calls Tryz.prog 226 #[.slice a n cap,.int .i64 r] w fun e w'=>∃v,e=.returned (.tuple #[.bool false,v])∧ErrIs ea w' v (chk es).1 (chk es).2∧Below w.heap.size w w':=by
 have H0:=Lib.hid h0;clear h0;go_enter Tryz.func226,Tryz.ntmps226;go_wp2_with (go_at_call 262;refine(tally_chk ea _ _ _ es _ _ hg hn hr hm hc H0.out).mono ?_;rintro e w1⟨v,rfl,hE,hb⟩;obtain⟨t,x,rfl⟩:=hE.held H0.out);go_ret2;exact⟨_,rfl,hE,hb⟩
theorem stays_round(ea:Nat→Addr)(a:Option Addr)(n cap:Nat)(es:List Ent)(r:Int)(w:World)(hg:Glob w ea [7,10,4,2,3])(hn:es.length=n)(hr:RowAt w a (encEnts es))(hm:n≤cap)(hc:n≤4611686018427387904)
 (h0:(chk es).1=0) (h1:¬(1≤r∧r≤32)) :
 Calls Tryz.prog 226 #[.slice a n cap,.int .i64 r] w fun e w'=>e=.returned (.tuple #[.bool false,errV ea 2])∧Below w.heap.size w w':=by
 have H0:=Lib.hid h0;have H1:=Lib.hid h1;have h2:errV ea 2=.iface 346 (.pointer (some (ea 2))):=errV_pos ea (by decide);have H2:=Lib.hid h2;clear h0 h1 h2;go_enter Tryz.func226,Tryz.ntmps226;go_wp2_with (go_at_call 262;refine(tally_round ea _ _ _ es _ _ hg hn hr hm hc H0.out H1.out).mono ?_;rintro e w1⟨rfl,hb⟩;rw[H2.out]);go_ret2;rw[H2.out];exact⟨rfl,hb⟩
theorem inInts_any(x:Int)(a:Option Addr)(n cap:Nat)(l:List Int)(w:World)(hn:l.length=n)(hr:RowAt w a (encInts l))(hc:n≤4611686018427387904) :
 Calls Tryz.prog 120 #[.int .i64 x,.slice a n cap] w fun e w'=>e=.returned (.bool (decide (x∈l)))∧w=w':=by
 go_enter Tryz.func120,Tryz.ntmps120;go_wp2;go_loop [5] (fun i=>∃k:Nat,k≤n∧i=.int .i64 k∧Hid (x∉l.take k)) (fun i=>n-(intOf i).toNat)
 case atStart=>exact⟨0,Nat.zero_le _,rfl,by unfold Hid;simp⟩
 case round=>
  obtain⟨k,hk,rfl,HK⟩:=hrel
  by_cases hlt:k<n
  ·obtain⟨b,off,rfl,hbl,c0⟩:=hr.int k (by omega)
   have hkt:k<l.length:=by omega
   have ht:l.take (k+1)=l.take k++[l[k]]:=List.take_succ_eq_append_getElem hkt
   by_cases hx:l[k]=x
   ·have hm:x∈l:=hx▸List.getElem_mem hkt
    have HM:=Lib.hid hm;have hb:(l[k]==x)=true:=by simp[hx]
    clear hx hm ht;go_wp2;go_ret;exact⟨ret_bool (by simp[HM.out]),rfl⟩
   ·have HN:Hid (x∉l.take (k+1)):=by
     unfold Hid at HK ⊢;rw[ht,List.mem_append,not_or];exact⟨HK,by simpa using fun e=>hx e.symm⟩
    have hb:(l[k]==x)=false:=by simp[hx]
    clear hx ht;go_wp2;go_round
    case rel=>exact⟨k+1,by omega,by go_num,HN⟩
    case measure=>simp[intOf];omega
  ·have HN:Hid (x∉l):=by unfold Hid at HK ⊢;rwa [List.take_of_length_le (by omega)] at HK
   go_wp2;go_ret;exact⟨ret_bool (by simp[HN.out]),rfl⟩
end Go.Proofs.YtppfkokfnoeopaaGreatDoor
namespace Go.Proofs.YtppfkokfnoeopaaGreatDoor
theorem chkFrom_zero:∀(es:List Ent) (i:Int),(chkFrom i es).1=0→chkFrom i es=(0,-1)
 | [],_,_=>rfl
 | e::r,i,h=>by
  rw[chkFrom] at h ⊢
  split
  ·rename_i hz;rw[if_pos hz] at h;exact chkFrom_zero r _ h
  ·rename_i hz;rw[if_neg hz] at h;exact absurd h hz
theorem chk_zero{es:List Ent}(h:(chk es).1=0):chk es=(0,-1):=by
 unfold chk at h ⊢
 split
 ·rename_i hl;rw[if_pos hl] at h;simp at h
 ·rename_i hl;rw[if_neg hl] at h;exact chkFrom_zero es 0 h
end Go.Proofs.YtppfkokfnoeopaaGreatDoor
