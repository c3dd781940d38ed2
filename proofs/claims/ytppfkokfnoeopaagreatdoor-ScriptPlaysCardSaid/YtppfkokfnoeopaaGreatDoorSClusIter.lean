/- A part of a proof. -/
import Derived.Test.YtppfkokfnoeopaaGreatDoorSCoded
import Derived.Test.YtppfkokfnoeopaaGreatDoorSClusPlay
import Derived.Test.YtppfkokfnoeopaaGreatDoorSRPlan
import Derived.Test.YtppfkokfnoeopaaGreatDoorSSorted
set_option maxRecDepth 400000
set_option maxHeartbeats 6400000
namespace Go.Proofs.YtppfkokfnoeopaaGreatDoor
open Go.RowKit Go.Proofs.Tryz
theorem zJs(ea:Nat→Addr)(a:Option Addr)(n cap:Nat)(l:List Int)(w:World)(hg:Bh w ea [4])(hn:l.length=n)(hr:Ac w a (Aa l))(hc:n≤4611686018427387904) :
 Calls prog 106 #[.slice a n cap] w fun e w'=>∃v,e=.returned (.tuple #[.int .i64 (Fx l).1,v])∧Bg ea w' v (Fx l).2.1 (Fx l).2.2∧Below w.heap.size w w':=by
 by_cases h:Bl 0 l<0
 ·have hF:Fx l=((A6 l:Int),0,-1):=by rw[Fx,if_pos h]
  rw[hF];refine(zJe a n cap l w hn hr hc ((E7 l 0 (by omega)).1 h)).mono ?_;rintro e w'⟨rfl,rfl⟩;exact⟨_,rfl,Or.inl ⟨rfl,(Al ea).symm⟩,Below.refl _ _⟩
 ·have hF:Fx l=(0,4,Bl 0 l):=by rw[Fx,if_neg h]
  rw[hF];have H0:=zh h;have g4:=hg.cell 4 (by simp);simp only[gOf] at g4;have HE:=zh (Ae ea (k:=4) (by decide));rw[HE.out] at g4;clear h hF hg;go_enter func106,ntmps106;go_wp2;go_loop [4,9] (fun c i=>∃k:Nat,k≤n∧i=.int .i64 k∧Hid (Bl k (l.drop k)=Bl 0 l)∧Hid (∀x∈l.take k,Aq x=true)∧c=.int .i64 (A6 (l.take k))) (fun _ i=>n-(intOf i).toNat)
  case atStart=>exact⟨0,Nat.zero_le _,rfl,rfl,by unfold Hid;simp,rfl⟩
  case round=>
   obtain⟨k,hk,rfl,HK,HA,rfl⟩:=hrel
   by_cases hlt:k<n
   ·have hkt:k<l.length:=by omega
    obtain⟨b,off,rfl,hbl,c0⟩:=hr.int k hkt;have hd:l.drop k=l[k]::l.drop (k+1):=List.drop_eq_getElem_cons hkt;have ht:l.take (k+1)=l.take k++[l[k]]:=List.take_succ_eq_append_getElem hkt;have hs:A6 (l.take (k+1))=A6 (l.take k)|||At l[k]:=by rw[ht,A6,List.foldl_append];rfl
    have hlt1:A6 (l.take k)<65536:=Hq HA.out;generalize l[k]=x at *
    cases hx:Aq x
    ·have HS:Hid (Bl 0 l=k):=by unfold Hid at HK ⊢;rw[←HK,hd,Bl,hx];rfl
     have HX:=zh hx;clear hd ht hs hx HK HA;generalize A6 (l.take k)=C at *;go_wp2_with (go_at_call 154;refine(Fq _ _).mono ?_;rintro e w'⟨rfl,rfl⟩;rw[HX.out]);go_region
     all_goals
      go_wp2;go_ret2;exact⟨_,rfl,by rw[HS.out];exact Or.inr ⟨by omega,by simp,w.heap.size,rfl,by simp,by simp,by simp;exact HE.out.symm⟩,(zb.alloc zl _).drew⟩
    ·have HS:Hid (Bl (k+1:Nat) (l.drop (k+1))=Bl 0 l):=by unfold Hid at HK ⊢;rw[←HK,hd,Bl,hx];rfl
     have HB:Hid (∀y∈l.take (k+1),Aq y=true):=by
      unfold Hid;intro y hy;rw[ht] at hy
      rcases List.mem_append.1 hy with h|h
      ·exact HA.out y h
      ·rw[List.mem_singleton.1 h];exact hx
     have hlt2:=Dx hx;have hO:bits .or .i64 (A6 (l.take k):Int) (At x:Int)=((A6 (l.take k)|||At x:Nat):Int):=Wc _ _ (by omega) (by omega);have HX:=zh hx;have HC:=zh hs;clear hd ht hs hx HK HA
     go_wp2_with (first
      | (go_at_call 154;refine(Fq _ _).mono ?_;rintro e w'⟨rfl,rfl⟩;rw[HX.out])
      | (go_at_call 155;refine(Q0 _ _ HX.out).mono ?_;rintro e w'⟨rfl,rfl⟩))
     go_round
     case rel=>exact⟨k+1,by omega,by go_num,HS,HB,by rw[HC.out]⟩
     case measure=>simp[intOf];omega
   ·exfalso
    have:=HK.out;rw[List.drop_eq_nil_of_le (by omega)] at this;have h2:=H0.out;rw[←this] at h2;simp[Bl] at h2
end Go.Proofs.YtppfkokfnoeopaaGreatDoor
namespace Go.Proofs.YtppfkokfnoeopaaGreatDoor
open Go.RowKit Go.Maps Go.Proofs.Tryz
section
variable {w:World} {ops:Array Oper} {rest:List Oper} {o:Oper} {a:Go.Act} {Q:Exit→Go.Act→World→Prop}
theorem Ha(hgd:o.guard=none)(s x:Operand)(ho:o.op=.call { callee:=.builtin .append,args:=#[s,x],argTypes:=#[72,72] })(base:Nat){v:Value}{n:Nat}{xs:List Int}{b:Nat}{i:Int}(hs:a.eval s=v)(hx:a.eval x=.slice (some ⟨b,0,none⟩) 1 1)
 (hown:w.ownsRow base 3 1 v n (Aa xs)) (hc:w.cell? ⟨b,0,none⟩=some (.int .i64 i)) (hb:b<w.heap.size) (hn:n≤100000) (hbase:base≤w.heap.size)
 (h:∀v' w',w'.ownsRow base 3 1 v' (n+1) (Aa (xs++[i]))→w.grownBy w' v.ownBlock→zEp w v v'→wpList prog ops Q rest (a.put o.dst v') w'):wpList prog ops Q (o::rest) a w:=by
 obtain⟨i0,hi,hz0,hz1,hz2⟩:=info_parts Ga;refine Ag w hgd s x 72 ho base 3 i0 _ 1 8 underlying72 hi hz0 hz1 hz2 rfl (by decide) v n (Aa xs) hs hown (some ⟨b,0,none⟩) 1 1 [.int .i64 i] hx rfl ?_ (by simp[Value.oneCell']) (by unfold maxLen;omega) (by omega) hbase ?_
 ·refine Or.inr ⟨b,0,rfl,hb,fun k u hk=>?_⟩
  cases k with
  | zero=>simp at hk;subst hk;exact hc
  | succ k=>simp at hk
 ·intro v' w' h1 h2 _ h4
  exact h v' w' (by rw[Vx];exact h1) h2 h4
end
theorem Bb.row{w w':World}{mb r q cnt:Nat}{g:Int→Option NP}{left:Int→Bool}(h:Bb w mb r g q left cnt){base size n:Nat}{t:TypeId}{v:Value}{xs:List Value}(ho:w.ownsRow base t size v n xs)(hg:w.grownBy w' (some r)):w'.ownsRow base t size v n xs:=
 Dh ho (S:=fun k=>k=r) (Fr.grown hg (fun k e=>by injection e with e;exact e.symm)) (fun k cur hk e=>by
  obtain⟨s,seen,c,hi⟩:=h.iter
  rw[←e,hk] at hi;cases hi)
theorem Zk(L:CL)(c:CP)(w:World)(h:Ap w L c) :
 Calls prog 102 #[.pointer (some ⟨L.cb,0,none⟩)] w fun e w'=>∃(zs:List Int) (v:Value),e=.returned v∧w'.ownsRow w.heap.size 3 1 v zs.length (Aa (Bt zs))∧zs.Nodup∧(∀i,i∈zs↔(c.f i).isSome=true)∧zs.length≤100∧Below w.heap.size w w':=by
 obtain⟨c0,c1,c2,c3⟩:=h.cells;obtain⟨l1,l2,l3,l4⟩:=h.lt;obtain⟨q,hq,hN⟩:=h.nodes;have HN:=zh hN;clear h hN;go_enter func102,ntmps102;go_wp2_with (at_range;refine El rfl _ rfl rfl HN.out ?_;intro w0 hR0 hb0 hz0);go_frame;go_loopw [3] (fun v wr=>∃(left:Int→Bool) (cnt:Nat) (ks:List Int),Bb wr L.mb w.heap.size c.f q left cnt∧wr.ownsRow w.heap.size 3 1 v ks.length (Aa ks)∧Hid (ks.Nodup∧∀i,i∈ks↔((c.f i).isSome=true∧left i=false))∧ks.length+cnt≤q∧Below w.heap.size w wr) (fun _ wr=>wr.rangeLeft L.mb w.heap.size)
 case atStart=>exact⟨_,q,[],hR0,World.ownsRow_nil _ _ _ _,⟨List.nodup_nil,fun i=>by cases c.f i<;>simp⟩,by simp,hb0⟩
 case round=>
  clear hR0 hb0 hz0;obtain⟨left,cnt,ks,hR,ho,hks,hqc,hb⟩:=hrel;have HR:=zh hR;have HB:=zh hb;have HO:=zh ho;clear hb ho;go_wp2_with (at_next;refine E0 rfl _ rfl rfl hR ?_ ?_)
  ·intro hc0 hl0
   clear hR;have HL0:=zh hl0;clear hl0;obtain⟨hnd,hmem⟩:=hks.out;have hmem':∀i,i∈ks↔(c.f i).isSome=true:=fun i=>by rw[hmem i,HL0.out i];simp
   have HE:Hid (ks.Nodup∧(∀i,i∈ks↔(c.f i).isSome=true)∧ks.length≤100):=⟨hnd,hmem',by omega⟩;clear hnd hmem hmem' hks;have ho:=HO.out
   rcases ho.2 with⟨hv,hnil⟩|⟨g,cap,cur,hv,hbase,hg,hn,hcap,hcs,htake⟩
   ·have hzn:ks=[]:=by simpa[Aa] using hnil
    subst hzn;subst hv;clear hnil ho;go_wp2_with (go_at_call 151;refine(Tryz.slices_Sort_int_none none 0 _).mono ?_;rintro e w2⟨rfl,rfl⟩);go_ret;have e0:Bt []=[]:=by simp[Bt]
    exact⟨[],_,rfl,by rw[e0];exact World.ownsRow_nil _ _ _ _,HE.out.1,HE.out.2.1,HE.out.2.2,HB.out⟩
   ·have hlt:g<wr.heap.size:=(Array.getElem?_eq_some_iff.1 hg).1
    have HS:=zh (Tryz.slices_Sort_int g 0 cap ks wr (holds_of_blockI hg (by simpa[Aa] using htake)) hlt (by omega));have HX:=zh (fun(n:Nat) (os:Array Obj)=>ownsRow_sortedI (n:=n) (os:=os) (base:=w.heap.size) (ts:=Bt ks) (Ds ks) hbase hg hn hcap hcs);have HBX:Hid (∀(n:Nat) (os:Array Obj),Below w.heap.size w (Sort.grow (Sort.putRow (Value.int .i64) (Sort.ahead wr n) g 0 (Bt ks).toArray) os)):=fun n os=>HB.out.grown (grownBy_sortedI _) HB.out.size (fun j e=>by injection e with e;omega)
    subst hv;clear ho hg htake hcs;go_wp2_with fail;refine HS.out.mono ?_;rintro e w2⟨rfl,n,os,rfl⟩;go_wp2;go_ret;exact⟨ks,_,rfl,HX.out n os,HE.out.1,HE.out.2.1,HE.out.2.2,HBX.out n os⟩
  ·intro i x sa sc w1 cnt1 hwi hli hgi hrow hR1 hlt hg1 hz1 hen
   have hb1:Below w.heap.size w w1:=HB.out.grown hg1 HB.out.size (fun j e=>by injection e with e;omega);have ho1:=hR.row HO.out hg1;obtain⟨va,vc,rfl⟩:=Aj ho1;have hR2:Hid (Bb (w1.alloc (.cells #[.int .i64 i] 3)) L.mb w.heap.size c.f q (fun j=>left j&&!(j==i)) cnt1):=hR1.below (zb.alloc zl _);have hb2:Below w.heap.size w (w1.alloc (.cells #[.int .i64 i] 3)):=hb1.alloc hb1.size _
   have hks2:Hid ((ks++[i]).Nodup∧∀j,j∈ks++[i]↔((c.f j).isSome=true∧(left j&&!(j==i))=false)):=by
    obtain⟨h1,h2⟩:=hks.out;have hni:i∉ks:=fun hx=>by have:=(h2 i).1 hx;rw[hli] at this;simp at this
    refine⟨by rw[List.nodup_append];exact⟨h1,by simp,fun a ha b hb=>by rw[List.mem_singleton] at hb;subst hb;rintro rfl;exact hni ha⟩,fun j=>?_⟩;rw[List.mem_append,h2 j,List.mem_singleton]
    by_cases e:j=i
    ·subst e;simp[hgi]
    ·simp[e]
   have hlk:ks.length≤100:=by omega
   have HZ1:=zh hz1;have HO1:=zh (ho1.alloc (.cells #[.int .i64 i] 3));have HB2:=zh hb2;clear hz1 hg1 ho1 hks hb1 hR1 hrow hR hb2;go_wp2_with (at_builtin;refine Ha rfl (.tmp 14) (.tmp 16) rfl w.heap.size (v:=.slice va ks.length vc) (xs:=ks) (b:=w1.heap.size) (i:=i) rfl rfl HO1.out ?_ ?_ ?_ ?_ ?_;(simp);(simp);omega;exact HB2.out.size;intro v' w5 ho5 hg5 hm5);have HR5:Hid (Bb w5 L.mb w.heap.size c.f q (fun j=>left j&&!(j==i)) cnt1):=hR2.out.push HO1.out hg5;have HB5:Hid (Below w.heap.size w w5):=HB2.out.grown hg5 HB2.out.size (fun j e=>(HO1.out.lt j e).1);have HL5:Hid ((ks++[i]).length=ks.length+1):=by unfold Hid;simp
   clear hg5 hm5;go_roundw
   case rel=>exact⟨_,cnt1,ks++[i],HR5.out,by rw[HL5.out];exact ho5,hks2,by rw[HL5.out];omega,HB5.out⟩
   case measure=>rw[HR5.out.left_eq,HR.out.left_eq];exact hlt
theorem Rg(L:CL)(c:CP)(w:World)(h:Ap w L c)(hd:∀i,(c.f i).isSome=decide (i∈c.plan))(hp:∀i∈c.plan,Aq i=true) :
 Calls prog 102 #[.pointer (some ⟨L.cb,0,none⟩)] w fun e w'=>∃(a:Option Addr) (cap:Nat),e=.returned (.slice a (Bq c.plan).length cap)∧w'.ownsRow w.heap.size 3 1 (.slice a (Bq c.plan).length cap) (Bq c.plan).length (Aa (Bq c.plan))∧Below w.heap.size w w':=by
 refine(Zk L c w h).mono ?_;rintro e w'⟨zs,v,rfl,ho,hn,hm,hl,hb⟩;have e1:Bt zs=Bq c.plan:=Yz hp hn (fun x=>by rw[hm x,hd x,decide_eq_true_eq]);have e2:zs.length=(Bq c.plan).length:=by rw[←e1,Ds]
 rw[e1,e2] at ho;obtain⟨a,cap,rfl⟩:=Aj ho;exact⟨a,cap,rfl,ho,hb⟩
theorem J3(l:List Int):(Bq l).length≤16:=Ck _ _
theorem Hs{l:List Int}(hl:∀n∈l,Aq n=true)(x:Int):x∈Bq l↔x∈l:=Qf hl x
theorem Kr(l:List Int):(Bq l).Pairwise (· < ·):=Jo _ _
theorem Yt{l:List Int}(h:l.Pairwise (· < ·)){k:Nat}(hk:k<l.length):l[k]∉l.take k:=by
 intro hm;obtain⟨j,hj,e⟩:=List.getElem_of_mem hm;rw[List.length_take] at hj;have h1:=List.pairwise_iff_getElem.1 h j k (by omega) hk (by omega);rw[List.getElem_take] at e;omega
theorem Xi{c:CP}(hd:∀i,(c.f i).isSome=decide (i∈c.plan)){ks:List Int}(h:∀i,i∈ks↔Ns (c.f i)=true):A6 ks=c.crewN:=Vu fun x=>by
 rw[h,List.mem_filter]
 constructor
 ·intro hx
  refine⟨?_,hx⟩;have:=hd x
  cases hf:c.f x with
  | none=>rw[hf] at hx;simp[Ns] at hx
  | some y=>rw[hf] at this;simpa using this.symm
 ·exact fun hx=>hx.2
theorem zCd(ea:Nat→Addr)(L:CL)(c:CP)(w:World)(hg:Bh w ea [4])(h:Ap w L c)(hd:∀i,(c.f i).isSome=decide (i∈c.plan))(hp:∀i∈c.plan,Aq i=true) :
 Calls prog 56 #[.pointer (some ⟨L.cb,0,none⟩)] w fun e w'=>e=.returned (.int .i64 (c.crewN:Nat))∧Below w.heap.size w w':=by
 obtain⟨c0,c1,c2,c3⟩:=h.cells;obtain⟨l1,l2,l3,l4⟩:=h.lt;obtain⟨q,hq,hN⟩:=h.nodes;have HN:=zh hN;have HG:=zh hg;have HD:=zh hd;have HP:=zh hp;clear h hN hg hd hp;go_enter func56,ntmps56;go_wp2_with (at_range;refine El rfl _ rfl rfl HN.out ?_;intro w0 hR0 hb0 hz0);go_frame;go_loopw [3] (fun v wr=>∃(left:Int→Bool) (cnt:Nat) (ks:List Int),Bb wr L.mb w.heap.size c.f q left cnt∧wr.ownsRow w.heap.size 3 1 v ks.length (Aa ks)∧Hid (∀i,i∈ks↔(Ns (c.f i)=true∧left i=false))∧ks.length+cnt≤q∧Below w.heap.size w wr) (fun _ wr=>wr.rangeLeft L.mb w.heap.size)
 case atStart=>exact⟨_,q,[],hR0,World.ownsRow_nil _ _ _ _,fun i=>by cases c.f i<;>simp[Ns],by simp,hb0⟩
 case round=>
  clear hR0 hb0 hz0;obtain⟨left,cnt,ks,hR,ho,hks,hqc,hb⟩:=hrel;have HR:=zh hR;have HB:=zh hb;have HO:=zh ho;clear hb ho;go_wp2_with (at_next;refine E0 rfl _ rfl rfl hR ?_ ?_)
  ·intro hc0 hl0
   clear hR;have hmem':∀i,i∈ks↔Ns (c.f i)=true:=fun i=>by rw[hks.out i,hl0 i];simp
   have hkn:∀i∈ks,Aq i=true:=fun i hi=>by
    have h1:=(hmem' i).1 hi;refine HP.out i ?_;have h2:=HD.out i
    cases hf:c.f i with
    | none=>rw[hf] at h1;simp[Ns] at h1
    | some y=>rw[hf] at h2;simpa using h2.symm
   have hF:Fx ks=((A6 ks:Int),0,-1):=by rw[Fx,if_pos ((E7 ks 0 (by omega)).2 hkn)]
   have HCR:=zh (Xi HD.out hmem');obtain⟨va,vc,rfl⟩:=Aj HO.out;have C:=zh (zJs ea va ks.length vc ks wr (HG.out.below HB.out) rfl (Cd HO.out) (by omega));rw[hF] at C;clear hl0 hmem' hkn hks hF;go_wp2_with fail;refine C.out.mono ?_;rintro e w2⟨v,rfl,hE,hb2⟩;obtain rfl:=hE.nil;clear hE;go_wp2;go_ret;exact⟨by rw[←HCR.out];rfl,Ar HB.out hb2⟩
  ·intro i x sa sc w1 cnt1 hwi hli hgi hrow hR1 hlt hg1 hz1 hen
   have hb1:Below w.heap.size w w1:=HB.out.grown hg1 HB.out.size (fun j e=>by injection e with e;omega);have ho1:=hR.row HO.out hg1;obtain⟨va,vc,rfl⟩:=Aj ho1;obtain⟨W2,hW2,S2,hb2,hz2,hc2⟩:=Ng w1 143 (.int .i64 x.st) (.int .i64 x.val) (.int .i64 x.m) (.int .i64 x.d) (.int .i64 x.s) (.slice sa x.h.length sc);have HZ1:=zh hz1;have ho2:=Cb ho1 hb2;have hb12:=Ar hb1 hb2;have hR2':=hR1.below hb2
   by_cases hst:x.st=2
   ·have hd:(x.st==2)=true:=by simpa using hst
    have hR2:Hid (Bb (W2.alloc (.cells #[.int .i64 i] 3)) L.mb w.heap.size c.f q (fun j=>left j&&!(j==i)) cnt1):=hR2'.below (zb.alloc zl _);have hb3:Below w.heap.size w (W2.alloc (.cells #[.int .i64 i] 3)):=hb12.alloc hb12.size _
    have hks2:Hid (∀j,j∈ks++[i]↔(Ns (c.f j)=true∧(left j&&!(j==i))=false)):=by
     intro j;rw[List.mem_append,hks.out j,List.mem_singleton]
     by_cases e:j=i
     ·subst e;simp[hgi,Ns,hst]
     ·simp[e]
    have hlk:ks.length≤100:=by omega
    have HO1:=zh (ho2.alloc (.cells #[.int .i64 i] 3));have HB3:=zh hb3;clear hz1 hg1 ho1 ho2 hks hb1 hb12 hR1 hR2' hrow hR hb3 hb2 hz2 hc2 S2 hst;go_upto_region 6 with(fail);rw[←hW2];clear hW2;go_wp2_with (at_builtin;refine Ha rfl (.tmp 21) (.tmp 23) rfl w.heap.size (v:=.slice va ks.length vc) (xs:=ks) (b:=W2.heap.size) (i:=i) rfl rfl HO1.out ?_ ?_ ?_ ?_ ?_;(simp);(simp);omega;exact HB3.out.size;intro v' w5 ho5 hg5 hm5);have HR5:Hid (Bb w5 L.mb w.heap.size c.f q (fun j=>left j&&!(j==i)) cnt1):=hR2.out.push HO1.out hg5;have HB5:Hid (Below w.heap.size w w5):=HB3.out.grown hg5 HB3.out.size (fun j e=>(HO1.out.lt j e).1);have HL5:Hid ((ks++[i]).length=ks.length+1):=by unfold Hid;simp
    clear hg5 hm5;go_roundw
    case rel=>exact⟨_,cnt1,ks++[i],HR5.out,by rw[HL5.out];exact ho5,hks2,by rw[HL5.out];omega,HB5.out⟩
    case measure=>rw[HR5.out.left_eq,HR.out.left_eq];exact hlt
   ·have hd:(x.st==2)=false:=by simpa using hst
    have hks2:Hid (∀j,j∈ks↔(Ns (c.f j)=true∧(left j&&!(j==i))=false)):=by
     intro j;rw[hks.out j]
     by_cases e:j=i
     ·subst e;simp[hgi,Ns,hst]
     ·simp[e]
    have HB12:=zh hb12;have HR2:=zh hR2';have HO2:=zh ho2;clear hz1 hg1 ho1 ho2 hks hb1 hb12 hR1 hR2' hrow hR hb2 hz2 hc2 S2 hst;go_wp2;rw[←hW2];go_roundw
    case rel=>exact⟨_,cnt1,ks,HR2.out,HO2.out,hks2,by omega,HB12.out⟩
    case measure=>rw[HR2.out.left_eq,HR.out.left_eq];exact hlt
end Go.Proofs.YtppfkokfnoeopaaGreatDoor
