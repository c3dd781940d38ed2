/- A part of a proof. -/
import Derived.Sort.OwnSortedInts
import Derived.Test.YtppfkokfnoeopaaGreatDoorSCrewRead
set_option maxRecDepth 400000
set_option maxHeartbeats 6400000
namespace Go.Proofs.YtppfkokfnoeopaaGreatDoor
open Go.RowKit Go.Shelf Go.Proofs.Tryz
attribute [local go_sem] Oper.semAt_some
def Ew{α:Type}(f:Nat→α)(k:Nat):List α:=(List.range k).map f
theorem Oy{α:Type}(f:Nat→α)(k:Nat):Ew f (k+1)=Ew f k++[f k]:=by simp[Ew,List.range_succ]
theorem Th{α:Type}(f:Nat→α)(k:Nat):(Ew f k).length=k:=by simp[Ew]
theorem Zc(zs:List Int):Ew (fun j=>zs[j]?.getD 0) zs.length=zs:=by
 apply List.ext_getElem
 ·simp[Ew]
 ·intro i h1 h2
  simp[Ew,h2]
theorem Uh(F:Fence)(n:Nat)(h7:F.fn 273)(hro:F.round=none)(hn:1≤n)(l Bs n₀ b off len cap:Nat)(zs:List Int)(hreach:len*8≤140737488351232)(hb:b<n₀)(J Jx:List Int→World→Prop)
 (hY:∀pre x W,J pre W→pre.length<len→YieldAt F (n-1) prog l #[.int .i64 x] W fun e W'=>
  (e=.returned (.bool true)∧J (pre++[x]) W'∧Below n₀ W W')∨(e=.returned (.bool false)∧Jx (pre++[x]) W'))
 (W:World) (hBs:W.cell? ⟨Bs,0,none⟩=some (.slice (some ⟨b,off,none⟩) len cap)) (hc:∀j,j<len→W.cell? ⟨b,off+j,none⟩=some (.int .i64 (zs[j]?.getD 0))) (h0:J [] W) :
 CallsIn F n prog 273 #[.func (.yield l) #[] #[],.pointer (some ⟨Bs,0,none⟩)] W fun e W'=>(∃v,e=.returned v) ∧
  ((∃ys,ys=Ew (fun j=>zs[j]?.getD 0) len∧J ys W')∨(∃pre,(∃k,k≤len∧pre=Ew (fun j=>zs[j]?.getD 0) k)∧Jx pre W')):=by
 refine callsIn_of_wp func273 rfl h7 ?_ hro;simp only[ntmps273,List.size_toArray,List.length_cons,List.length_nil,Nat.reduceAdd,Nat.reduceSub,Array.replicate_succ,Array.replicate_zero,List.push_toArray,List.append_toArray,List.nil_append,List.cons_append]
 gi_wp2
 gi_loopw [7] (fun i wr=>∃k:Nat,k≤len∧i=.int .i64 k∧J (Ew (fun j=>zs[j]?.getD 0) k) wr∧Below n₀ W wr)
  (fun i _=>len-(intOf i).toNat)
 case atStart=>exact⟨0,Nat.zero_le _,rfl,h0,Below.refl _ _⟩
 case round=>
  obtain⟨k,hk,rfl,hJs,hnx⟩:=hrel;have hcx:k<len→wr.cell? ⟨b,off+k,none⟩=some (.int .i64 (zs[k]?.getD 0)):=fun h=>(hnx.cell (p:=⟨b,off+k,none⟩) hb).trans (hc k h)
  by_cases hlt:k<len
  ·obtain⟨fn,tmps,assign,body,hy,hR⟩:=hY _ (zs[k]?.getD 0) wr hJs (by rw[Th];exact hlt)
   have hcx':=hcx hlt
   gi_wp2
   refine hR.mono ?_;rintro e W3 (⟨rfl,hJ3,hk3⟩|⟨rfl,hJx3⟩)
   ·
    gi_wp2
    go_roundw
    case rel=>exact⟨k+1,by omega,by simp,by rw[Oy];exact hJ3,hnx.trans hk3⟩
    case measure=>simp[intOf];omega
   ·gi_wp2
    refine bodyPost_ret (results_none rfl _ _ _) rfl ?_;exact⟨⟨_,rfl⟩,.inr ⟨_,⟨k+1,by omega,(Oy _ _).symm⟩,hJx3⟩⟩
  ·obtain rfl:k=len:=by omega
   gi_wp2
   go_end0;exact⟨⟨_,rfl⟩,.inl ⟨_,rfl,hJs⟩⟩
theorem Wx(zs:List Int){k:Nat}(hk:k≤zs.length):Ew (fun j=>zs[j]?.getD 0) k=zs.take k:=by
 apply List.ext_getElem
 ·simp[Ew,hk]
 ·intro i h1 h2
  have:i<zs.length:=by simp[Ew] at h1;omega
  simp[Ew,this]
def Jj(n₀:Nat)(W:World)(sv:Value)(zs:List Int):Prop:=
 (sv=.slice none 0 0∧zs=[])∨∃b off cap,sv=.slice (some ⟨b,off,none⟩) zs.length cap∧b<n₀∧∀j,j<zs.length→W.cell? ⟨b,off+j,none⟩=some (.int .i64 (zs[j]?.getD 0))
theorem Jj.below{n₀:Nat}{A B:World}(h:Below n₀ A B){sv:Value}{zs:List Int}:Jj n₀ A sv zs→Jj n₀ B sv zs
 | .inl e=>.inl e
 | .inr ⟨b,off,cap,e,hb,hc⟩=>.inr ⟨b,off,cap,e,hb,fun j hj=>(h.cell (p:=⟨b,off+j,none⟩) hb).trans (hc j hj)⟩
theorem Oz(F:Fence)(n:Nat)(h7:F.fn 273)(hro:F.round=none)(l Bs:Nat)(J:List Int→World→Prop)(W:World)(hBs:W.cell? ⟨Bs,0,none⟩=some (.slice none 0 0))(h0:J [] W) :
 CallsIn F n prog 273 #[.func (.yield l) #[] #[],.pointer (some ⟨Bs,0,none⟩)] W fun e W'=>(∃v,e=.returned v)∧J [] W':=by
 refine callsIn_of_wp func273 rfl h7 ?_ hro;simp only[ntmps273,List.size_toArray,List.length_cons,List.length_nil,Nat.reduceAdd,Nat.reduceSub,Array.replicate_succ,Array.replicate_zero,List.push_toArray,List.append_toArray,List.nil_append,List.cons_append]
 gi_wp2
 gi_loopw [7] (fun i wr=>i=.int .i64 0∧J [] wr) (fun _ _=>0)
 case atStart=>exact⟨rfl,h0⟩
 case round=>
  obtain⟨rfl,hJs⟩:=hrel
  gi_wp2
  go_end0;exact⟨⟨_,rfl⟩,hJs⟩
theorem Wy(F:Fence)(n:Nat)(h5:F.fn 249)(hro:F.round=none)(a:Option Addr)(len cap:Nat)(w:World) :
 CallsIn F n prog 249 #[.slice a len cap] w fun e w'=>e=.returned (.func (.func 273) #[] #[.pointer (some ⟨w.heap.size,0,none⟩)])∧w'=w.alloc (.cells #[.slice a len cap] 72):=by
 refine callsIn_of_wp func249 rfl h5 ?_ hro;simp only[ntmps249,List.size_toArray,List.length_cons,List.length_nil,Nat.reduceAdd,Nat.reduceSub,Array.replicate_succ,Array.replicate_zero,List.push_toArray,List.append_toArray,List.nil_append,List.cons_append]
 gi_wp2
 go_ret;exact⟨rfl,rfl⟩
theorem Qz(F:Fence)(n:Nat)(h7:F.fn 273)(hro:F.round=none)(hn:1≤n)(Bs n₀:Nat)(sv:Value)(zs:List Int)(hreach:zs.length*8≤140737488351232)(w:World)(hBs:Bs<w.heap.size)(hn₀:n₀≤w.heap.size)
 (hc:w.cell? ⟨Bs,0,none⟩=some sv) (hI:Jj n₀ w sv zs) :
 SeqStopsK F n prog 273 #[.pointer (some ⟨Bs,0,none⟩)] (fun x:Int=>#[Value.int .i64 x]) (Below n₀) (fun ys=>ys=zs) (fun pre=>pre <+: zs) zs.length w:=fun l J Jx W hW _ _ hY h0=>by
 have hc':=(hW.cell (p:=⟨Bs,0,none⟩) hBs).trans hc
 rcases hI.below (hW.mono hn₀) with⟨rfl,rfl⟩|⟨b,off,cap,rfl,hb,hcs⟩
 ·exact(Oz F n h7 hro l Bs J W hc' h0).mono fun e W' ⟨he,hj⟩=>⟨he,.inl ⟨_,rfl,hj⟩⟩
 ·refine(Uh F n h7 hro hn l Bs n₀ b off zs.length cap zs hreach hb J Jx hY W hc' hcs h0).mono ?_
  rintro e W'⟨he,⟨ys,rfl,hj⟩|⟨pre,⟨k,hk,rfl⟩,hj⟩⟩
  ·exact⟨he,.inl ⟨_,Zc zs,hj⟩⟩
  ·exact⟨he,.inr ⟨_,by rw[Wx zs hk];exact List.take_prefix _ _,hj⟩⟩
end Go.Proofs.YtppfkokfnoeopaaGreatDoor
namespace Go.Proofs.YtppfkokfnoeopaaGreatDoor
open Go.RowKit Go.Shelf Go.Proofs.Tryz
attribute [local go_sem] Oper.semAt_some
theorem Vq(F:Fence)(n:Nat)(h5:F.fn 278)(h6:F.fn 273)(hro:F.round=none)(hn:3≤n)(Bs:Nat)(sv:Value)(zs:List Int)(w:World)(hz:zs.length≤1000)(hBs:Bs<w.heap.size)
 (hc:w.cell? ⟨Bs,0,none⟩=some sv) (hI:Jj w.heap.size w sv zs) :
 CallsIn F n prog 278 #[.slice none 0 0,.func (.func 273) #[] #[.pointer (some ⟨Bs,0,none⟩)]] w fun e W'=>∃v,e=.returned v∧W'.ownsRow w.heap.size 3 1 v zs.length (Aa zs)∧Below w.heap.size w W':=by
 have h1:1≤n:=by omega
 obtain⟨i0,hi,hz0,hz1,hz2⟩:=info_parts Ga;refine callsIn_of_wp_marks func278 rfl h5 ?_ hro;simp only[ntmps278,List.size_toArray,List.length_cons,List.length_nil,Nat.reduceAdd,Nat.reduceSub,Array.replicate_succ,Array.replicate_zero,List.push_toArray,List.append_toArray,List.nil_append,List.cons_append]
 gi_wp2
 have hB0:Below w.heap.size w (w.alloc (.cells #[.slice none 0 0] 72)):=(Below.refl _ w).alloc zl _;have hb:=(hB0.cell (p:=⟨Bs,0,none⟩) hBs).trans hc
 refine wpIn_rangeFunc_ownF hro h1 (gf:=273) (lb:=#[.pointer (some ⟨Bs,0,none⟩)]) rfl h6 (enters_of func273 (by kernel_rfl) rfl)
  (Qz F (n-1) h6 hro (by omega) Bs w.heap.size sv zs (by omega) _ (by simp;omega) (by simp) hb (hI.below hB0)) belowK_t (belowK_b (by simp)) zb (fun _=>rfl)
  (fun pre W=>(∃v,Boxed W w.heap.size 72 v∧W.ownsRow w.heap.size 3 1 v pre.length (pre.map (Value.int .i64))∧(v=.slice none 0 0↔pre=[]))∧Below w.heap.size w W)
  (fun _ _ _=>False)
  (OwnFrom.and (Own.from (holdsRow_own w.heap.size w.heap.size 72 3 1 (fun pre=>pre.length) (fun pre=>pre.map (Value.int .i64)) (fun pre v=>v=.slice none 0 0↔pre=[])) _) (ownFrom_below zl (by simp)))
  (fun _ _ _ _ _ hs _ _=>hs)
  ⟨⟨_,Boxed.new _ _ _,World.ownsRow_nil _ _ _ _,by simp⟩,hB0⟩
  (fun x=>{ tmps:=#[.slice none 0 0,.func (.func 273) #[] #[.pointer (some ⟨Bs,0,none⟩)],.pointer (some ⟨w.heap.size,0,none⟩),undef,.slice none 0 0,.int .i64 x,.func (.func 273) #[] #[.pointer (some ⟨Bs,0,none⟩)],.int .i64 x,undef,undef,undef,undef,undef],defers:=[] }) ?assign ?body ?done ?stop
 case assign=>
  intro l x W K hK
  gi_wp2
  exact hK
 case body=>
  rintro l pre x W⟨⟨v,hv,hrow,hnil⟩,hB⟩hlen;have hc:=hv.cell
  gi_wp2_with (gi_at_builtin;refine wpListIn_append_own _ rfl _ _ 72 rfl w.heap.size 3 i0 (.int .i64 0) 1 8 underlying72 hi hz0 hz1 hz2 rfl (by decide) _ _ _ rfl (hrow.alloc _) ⟨W.heap.size,0,none⟩ 1 1 [.int .i64 x] rfl rfl (cell_one_new _ _ _) (by simp[Value.oneCell']) (by unfold maxLen;omega) (by omega) (by have:=hB.size;simp;omega) ?_;intro v' w1 hown' hgrow _;obtain⟨g',cap',rfl⟩:=ownsRow_succ hown';obtain⟨hv1,hv2,hr2,hk2,hb2⟩:=hv.appended (by decide) hrow hB.size zl hown' hgrow;have hc1:=hv1.cell;have hf1:=hv1.frozen)
  exact⟨hk2,hb2,⟨_,hv2,by simpa using hr2,by simp⟩,hB.trans hb2⟩
 case done=>
  rintro D ys W hD rfl⟨⟨v,hv,hrow,_⟩,hB⟩hK;have hc:=hv.cell
  gi_wp2
  refine⟨by simp,.inl ⟨_,_,rfl,run_takeDeferred hK,?_⟩⟩;exact⟨_,results_tmp rfl _ _ _,⟨_,rfl,ownsRow_putObj hrow _ hK rfl,hB.trans (belowK_b (w:=w) zl W D _ _ (by simp at hD;omega) hK rfl rfl)⟩⟩
 case stop=>
  rintro D c pre W _ _ h _;exact h.elim
theorem Xh(Bs:Nat)(sv:Value)(zs:List Int)(w:World)(hz:zs.length≤1000)(hBs:Bs<w.heap.size)(hc:w.cell? ⟨Bs,0,none⟩=some sv)(hI:Jj w.heap.size w sv zs) :
 Calls prog 272 #[.func (.func 273) #[] #[.pointer (some ⟨Bs,0,none⟩)]] w fun e W'=>∃v,e=.returned v∧W'.ownsRow w.heap.size 3 1 v zs.length (Aa zs)∧Below w.heap.size w W':=by
 have C:=zh (callsIn_wide.1 (Vq Fence.wide 3 trivial trivial rfl (by omega) Bs sv zs w hz hBs hc hI));clear hc hI;go_enter func272,ntmps272;go_wp2_with (go_at_call 278;refine C.out.mono ?_;rintro e w1⟨v,rfl,ho,hb⟩);go_ret;exact⟨_,rfl,ho,hb⟩
def Bt(zs:List Int):List Int:=zs.mergeSort fun x y=>decide (x≤y)
theorem Ds(zs:List Int):(Bt zs).length=zs.length:=by simp[Bt]
theorem zAy(Bs:Nat)(sv:Value)(zs:List Int)(w:World)(hz:zs.length≤1000)(hBs:Bs<w.heap.size)(hc:w.cell? ⟨Bs,0,none⟩=some sv)(hI:Jj w.heap.size w sv zs) :
 Calls prog 248 #[.func (.func 273) #[] #[.pointer (some ⟨Bs,0,none⟩)]] w fun e W'=>∃v,e=.returned v∧W'.ownsRow w.heap.size 3 1 v zs.length (Aa (Bt zs))∧Below w.heap.size w W':=by
 have C:=zh (Xh Bs sv zs w hz hBs hc hI);clear hc hI;go_enter func248,ntmps248;go_wp2_with fail;refine C.out.mono ?_;rintro e w1⟨v,rfl,ho,hb⟩
 rcases ho.2 with⟨rfl,hnil⟩|⟨g,cap,cur,rfl,hbase,hg,hn,hcap,hcs,htake⟩
 ·have hzn:zs=[]:=by simpa[Aa] using hnil
  subst hzn;clear C;go_wp2_with (go_at_call 151;refine(Tryz.slices_Sort_int_none none 0 _).mono ?_;rintro e w2⟨rfl,rfl⟩);go_ret;have e0:Bt []=[]:=by simp[Bt]
  rw[e0];exact⟨_,rfl,World.ownsRow_nil _ _ _ _,hb⟩
 ·have hlt:g<w1.heap.size:=(Array.getElem?_eq_some_iff.1 hg).1
  have HS:=zh (Tryz.slices_Sort_int g 0 cap zs w1 (holds_of_blockI hg (by simpa[Aa] using htake)) hlt (by omega));have HO:=zh (fun(n:Nat) (os:Array Obj)=>ownsRow_sortedI (n:=n) (os:=os) (base:=w.heap.size) (ts:=Bt zs) (Ds zs) hbase hg hn hcap hcs);have HB:Hid (∀(n:Nat) (os:Array Obj),Below w.heap.size w (Sort.grow (Sort.putRow (Value.int .i64) (Sort.ahead w1 n) g 0 (Bt zs).toArray) os)):=fun n os=>hb.grown (grownBy_sortedI _) hb.size (fun j e=>by injection e with e;omega)
  clear ho hg htake hcs;go_wp2_with fail;refine HS.out.mono ?_;rintro e w2⟨rfl,n,os,rfl⟩;go_wp2;go_ret;exact⟨_,rfl,HO.out n os,HB.out n os⟩
end Go.Proofs.YtppfkokfnoeopaaGreatDoor
namespace Go.Proofs.YtppfkokfnoeopaaGreatDoor
open Go.RowKit Go.Proofs.Tryz
theorem Vu{l m:List Int}(h:∀x,x∈l↔x∈m):A6 l=A6 m:=by
 apply Nat.eq_of_testBit_eq;intro i;rw[A6,A6,Ho,Ho,Nat.zero_testBit,Bool.false_or,Bool.false_or,Bool.eq_iff_iff,List.any_eq_true,List.any_eq_true]
 constructor
 ·rintro⟨x,hx,e⟩;exact⟨x,(h x).1 hx,e⟩
 ·rintro⟨x,hx,e⟩;exact⟨x,(h x).2 hx,e⟩
theorem Nf(c x:Int):∀k,x∈Ao c k↔Ep c x=true∧1≤x∧x≤k
 | 0=>by simp[Ao];omega
 | k+1=>by
  rw[Ao,List.mem_append,Nf c x k]
  constructor
  ·rintro(⟨h1,h2,h3⟩|h)
   ·exact⟨h1,h2,by omega⟩
   ·split at h
    ·rename_i hh
     rw[List.mem_singleton] at h;subst h;exact⟨hh,by omega,by omega⟩
    ·simp at h
  ·rintro⟨h1,h2,h3⟩
   by_cases e:x=(k:Int)+1
   ·subst e;right;rw[if_pos h1];simp
   ·left;exact⟨h1,h2,by omega⟩
theorem Qf{l:List Int}(hl:∀n∈l,Aq n=true)(x:Int):x∈Ao (A6 l) 16↔x∈l:=by
 rw[Nf,Qb hl,decide_eq_true_eq]
 constructor
 ·exact fun h=>h.1
 ·intro h
  have:=hl x h;simp only[Aq,decide_eq_true_eq] at this;exact⟨h,this.1,by omega⟩
theorem Jo(c:Int):∀k,(Ao c k).Pairwise (· < ·)
 | 0=>List.Pairwise.nil
 | k+1=>by
  rw[Ao,List.pairwise_append];refine⟨Jo c k,?_,fun a ha b hb=>?_⟩
  ·split<;>simp
  ·have:=(Nf c a k).1 ha
   split at hb
   ·rw[List.mem_singleton] at hb;omega
   ·simp at hb
theorem Pk:∀{l m:List Int},l.Pairwise (· < ·)→m.Pairwise (· < ·)→(∀x,x∈l↔x∈m)→l=m
 | [],[],_,_,_=>rfl
 | [],y::m,_,_,h=>by have:=(h y).2 (by simp);simp at this
 | x::l,[],_,_,h=>by have:=(h x).1 (by simp);simp at this
 | x::l,y::m,h1,h2,h=>by
  rw[List.pairwise_cons] at h1 h2
  have e:x=y:=by
   rcases List.mem_cons.1 ((h x).1 (by simp)) with e|e
   ·exact e
   ·rcases List.mem_cons.1 ((h y).2 (by simp)) with e2|e2
    ·exact e2.symm
    ·have a1:=h1.1 y e2
     have a2:=h2.1 x e;omega
  subst e;rw[Pk h1.2 h2.2 (fun z=>?_)]
  constructor
  ·intro hz
   rcases List.mem_cons.1 ((h z).1 (List.mem_cons_of_mem _ hz)) with e|e
   ·subst e;have:=h1.1 z hz;omega
   ·exact e
  ·intro hz
   rcases List.mem_cons.1 ((h z).2 (List.mem_cons_of_mem _ hz)) with e|e
   ·subst e;have:=h2.1 z hz;omega
   ·exact e
theorem zD7(zs:List Int)(x:Int):x∈Bt zs↔x∈zs:=by
 have:=(List.mergeSort_perm zs fun x y=>decide (x≤y)).mem_iff (a:=x);exact this
theorem Wr{zs:List Int}(h:zs.Nodup):(Bt zs).Pairwise (· < ·):=by
 have h1:(Bt zs).Pairwise (fun a b=>decide (a≤b)=true):=List.pairwise_mergeSort (fun a b c h1 h2=>by simp at *;omega) (fun a b=>by simp;omega) zs;have h2:(Bt zs).Nodup:=(List.mergeSort_perm zs fun x y=>decide (x≤y)).nodup_iff.2 h;have h3:(Bt zs).Pairwise (fun a b=>decide (a≤b)=true∧a≠b):=h1.and h2;exact h3.imp fun {a b} h=>by simp at h;omega
theorem Yz{l zs:List Int}(hl:∀n∈l,Aq n=true)(hz:zs.Nodup)(h:∀x,x∈zs↔x∈l):Bt zs=Ao (A6 l) 16:=
 Pk (Wr hz) (Jo _ _) fun x=>by rw[zD7,h,Qf hl]
end Go.Proofs.YtppfkokfnoeopaaGreatDoor
