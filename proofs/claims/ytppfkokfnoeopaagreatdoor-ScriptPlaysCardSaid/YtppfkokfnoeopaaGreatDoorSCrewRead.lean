/- A part of a proof. -/
import Derived.Test.YtppfkokfnoeopaaGreatDoorSTxt
import Derived.Test.YtppfkokfnoeopaaGreatDoorSCrewIter
set_option maxRecDepth 400000
set_option maxHeartbeats 6400000
namespace Go.Proofs.YtppfkokfnoeopaaGreatDoor
open Go.RowKit Go.Shelf Go.Proofs.Tryz
attribute [local go_sem] Oper.semAt_some
def Pr(n₀ b0:Nat)(A B:World):Prop:=Below n₀ A B∧∀j,j<3→B.heap[b0+j]?=A.heap[b0+j]?
theorem zBw{n₀ b0:Nat}{A B C:World}(h:Pr n₀ b0 A B)(k:Pr n₀ b0 B C):Pr n₀ b0 A C:=⟨h.1.trans k.1,fun j hj=>(k.2 j hj).trans (h.2 j hj)⟩
theorem zBv{n₀ b0:Nat}{w:World}(hn:n₀≤w.heap.size)(hB:b0+3≤w.heap.size)(W:World)(l:Nat)(o o':Obj)(hl:w.heap.size≤l)(h:W.heap[l]?=some o)(h1:o.isCells=false)(h2:o.isWalk=false):Pr n₀ b0 W (W.putObj l o'):=
 ⟨belowK_b hn W l o o' hl h h1 h2,fun j hj=>World.putObj_heap_other (by omega)⟩
def F5(b0:Nat)(c:UInt8)(l:List UInt8)(W:World):Prop:=
 Boxed W b0 9 (.string ⟨l.toArray⟩)∧Boxed W (b0+1) 9 (.string ⟨#[c]⟩)∧Boxed W (b0+2) 3 (.int .i64 0)
theorem F5.kept{n₀ b0:Nat}{c:UInt8}{l:List UInt8}{A B:World}(h:F5 b0 c l A)(k:Pr n₀ b0 A B):F5 b0 c l B:=
 ⟨(k.2 0 (by omega)).trans h.1,(k.2 1 (by omega)).trans h.2.1,(k.2 2 (by omega)).trans h.2.2⟩
theorem F5.set{b0:Nat}{c:UInt8}{l:List UInt8}{A:World}(h:F5 b0 c l A)(m:List UInt8):F5 b0 c m (A.setCell ⟨b0,0,none⟩ (.string ⟨m.toArray⟩)):=
 ⟨h.1.set _,h.2.1.other (by omega) _,h.2.2.other (by omega) _⟩
def zAa(b0:Nat)(W:World):Nat:=match W.cell? ⟨b0,0,none⟩ with
 | some (.string s)=>s.size
 | _=>0
theorem Uv{b0:Nat}{c:UInt8}{l:List UInt8}{W:World}(h:F5 b0 c l W):zAa b0 W=l.length:=by
 rw[zAa,h.1.cell];simp[ByteArray.size]
theorem Ws(n:Nat)(hn:1≤n)(l b0 n₀:Nat)(c:UInt8)(s:List UInt8)(hs:s.length≤4294967280)(J Jx:List (List UInt8)→World→Prop)(hJ:Js (some b0) J)
 (hY:∀pre (x:List UInt8) W,J pre W→pre++[x] <+: Az c s→YieldAt Fence.wide (n-1) prog l #[.string ⟨x.toArray⟩] W fun e W'=>
  (e=.returned (.bool true)∧J (pre++[x]) W'∧Pr n₀ b0 W W')∨(e=.returned (.bool false)∧Jx (pre++[x]) W'))
 (W:World) (hB:F5 b0 c s W) (h0:J [] W) :
 CallsIn Fence.wide n prog 216 #[.func (.yield l) #[] #[],.pointer (some ⟨b0+1,0,none⟩),.pointer (some ⟨b0,0,none⟩),.pointer (some ⟨b0+2,0,none⟩)] W fun e W'=>(∃v,e=.returned v) ∧
  ((∃ys,ys=Az c s∧J ys W')∨(∃pre,pre <+: Az c s∧Jx pre W')):=by
 have HJ:=zh hJ;clear hJ;refine callsIn_of_wp func216 rfl trivial ?_ rfl;simp only[ntmps216,List.size_toArray,List.length_cons,List.length_nil,Nat.reduceAdd,Nat.reduceSub,Array.replicate_succ,Array.replicate_zero,List.push_toArray,List.append_toArray,List.nil_append,List.cons_append];have h1:=hB.1.cell;have h2:=hB.2.1.cell
 gi_wp2
 clear h1 h2
 gi_loopw [7] (fun _ wr=>∃(pre:List (List UInt8)) (rest:List UInt8),Hid (Az c s=pre++Az c rest)∧pre.length+rest.length≤s.length∧F5 b0 c rest wr∧J pre wr) (fun _ wr=>zAa b0 wr)
 case atStart=>exact⟨[],s,rfl,by simp,hB,h0⟩
 case round=>
  obtain⟨pre,rest,HC,hlen,hS,hJs⟩:=hrel;have HS:=zh hS;have c0:=hS.1.cell;have c1:=hS.2.1.cell;have c2:=hS.2.2.cell;have f0:=hS.1.frozen;have KI:=zh (callsIn_wide (n:=n-1) |>.2 ((Tryz.strings_Index_one ⟨rest.toArray⟩ c wr)));have hge:=Lib.indexByte_ge rest c;clear hS
  by_cases hi:Lib.indexByte rest c=-1
  ·have HW:Hid (Az c s=pre++[rest]):=by unfold Hid;rw[HC.out,Md c rest hi]
   have KI':Hid (CallsIn Fence.wide (n-1) prog 125 #[.string ⟨rest.toArray⟩,.string ⟨#[c]⟩] wr fun e w'=>e=.returned (.int .i64 (-1))∧w'=wr):=by
    unfold Hid;have:=KI.out;rw[show(⟨rest.toArray⟩:ByteArray).data.toList=rest from rfl,hi] at this;exact this
   clear KI hi hge;obtain⟨fn,tmps,assign,body,hy,hR⟩:=hY pre rest wr hJs (by rw[HW.out];exact List.prefix_refl _)
   gi_wp2_with (refine⟨trivial,?_⟩;gi_at_call 125;refine KI'.out.mono ?_;rintro e w'⟨rfl,rfl⟩)
   refine hR.mono ?_;rintro e W3 (⟨rfl,hJ3,hk3⟩|⟨rfl,hJx3⟩)
   ·gi_wp2
    go_end0;exact⟨⟨_,rfl⟩,.inl ⟨_,HW.out.symm,hJ3⟩⟩
   ·gi_wp2
    go_end0;exact⟨⟨_,rfl⟩,.inr ⟨_,by rw[HW.out];exact List.prefix_refl _,hJx3⟩⟩
  ·obtain⟨k,hk⟩:∃k:Nat,Lib.indexByte rest c=k:=⟨(Lib.indexByte rest c).toNat,by omega⟩
   obtain⟨hkl,hcut⟩:=Ny c rest k hk;have HW:Hid (Az c s=(pre++[rest.take k])++Az c (rest.drop (k+1))):=by unfold Hid;rw[HC.out,hcut,List.append_assoc];rfl
   have KI':Hid (CallsIn Fence.wide (n-1) prog 125 #[.string ⟨rest.toArray⟩,.string ⟨#[c]⟩] wr fun e w'=>e=.returned (.int .i64 (k:Int))∧w'=wr):=by
    unfold Hid;have:=KI.out;rw[show(⟨rest.toArray⟩:ByteArray).data.toList=rest from rfl,hk] at this;exact this
   clear KI hi hk hcut hge;obtain⟨fn,tmps,assign,body,hy,hR⟩:=hY pre (rest.take k) wr hJs (by rw[HW.out];exact List.prefix_append _ _);have e1:=Vs rest k;have e2:=He rest (k+1);have hk0:(0:Int)≤(k:Int):=by omega
   have hk1:(k:Int)≤(rest.length:Int):=by omega
   gi_wp2_with (refine⟨trivial,?_⟩;gi_at_call 125;refine KI'.out.mono ?_;rintro e w'⟨rfl,rfl⟩)
   refine hR.mono ?_;rintro e W3 (⟨rfl,hJ3,hk3⟩|⟨rfl,hJx3⟩)
   ·have hS3:=HS.out.kept hk3
    have HS3:=zh hS3;have c0:=hS3.1.cell;have c1:=hS3.2.1.cell;have f0:=hS3.1.frozen;clear hS3
    gi_wp2
    go_roundw
    case rel=>exact⟨_,rest.drop (k+1),HW.out,by simp;omega,HS3.out.set _,HJ.out _ _ _ (some b0) hJ3 (grownBy_setCell' _ _ _) (fun r e=>by rw[←e])⟩
    case measure=>rw[Uv (HS3.out.set _),Uv HS.out];simp;omega
   ·gi_wp2
    refine bodyPost_ret (results_none rfl _ _ _) rfl ?_;exact⟨⟨_,rfl⟩,.inr ⟨_,by rw[HW.out];exact List.prefix_append _ _,hJx3⟩⟩
def Fe(w:World)(s:List UInt8)(c:UInt8):World:=((w.alloc (.cells #[.string ⟨s.toArray⟩] 9)).alloc (.cells #[.string ⟨#[c]⟩] 9)).alloc (.cells #[.int .i64 0] 3)
theorem Le(w:World)(s:List UInt8)(c:UInt8):(Fe w s c).heap.size=w.heap.size+3:=by simp[Fe]
theorem J8(w:World)(s:List UInt8)(c:UInt8):Below w.heap.size w (Fe w s c):=(((Below.refl _ w).alloc zl _).alloc (by simp) _).alloc (by simp;omega) _
theorem M4(w:World)(s:List UInt8)(c:UInt8):F5 w.heap.size c s (Fe w s c):=by
 refine⟨((Boxed.new w _ _).alloc _).alloc _,?_,?_⟩
 ·have:=(Boxed.new (w.alloc (.cells #[.string ⟨s.toArray⟩] 9)) 9 (.string ⟨#[c]⟩)).alloc (.cells #[.int .i64 0] 3)
  rw[World.size_alloc] at this;exact this
 ·have:=Boxed.new ((w.alloc (.cells #[.string ⟨s.toArray⟩] 9)).alloc (.cells #[.string ⟨#[c]⟩] 9)) 3 (.int .i64 0)
  rw[World.size_alloc,World.size_alloc] at this;exact this
theorem Ue(s:List UInt8)(c:UInt8)(w:World) :
 Calls prog 180 #[.string ⟨s.toArray⟩,.string ⟨#[c]⟩,.int .i64 0] w fun e w'=>e=.returned (.func (.func 216) #[] #[.pointer (some ⟨w.heap.size+1,0,none⟩),.pointer (some ⟨w.heap.size,0,none⟩),.pointer (some ⟨w.heap.size+2,0,none⟩)])∧w'=Fe w s c:=by
 go_enter func180,ntmps180;go_wp2;go_ret;exact⟨rfl,rfl⟩
theorem Ov(s:List UInt8)(c:UInt8)(w:World) :
 Calls prog 135 #[.string ⟨s.toArray⟩,.string ⟨#[c]⟩] w fun e w'=>e=.returned (.func (.func 216) #[] #[.pointer (some ⟨w.heap.size+1,0,none⟩),.pointer (some ⟨w.heap.size,0,none⟩),.pointer (some ⟨w.heap.size+2,0,none⟩)])∧w'=Fe w s c:=by
 have K:=zh (Ue s c w);go_enter func135,ntmps135;go_wp2_with fail;refine K.out.mono ?_;rintro e w'⟨rfl,rfl⟩;go_wp2;go_ret;exact⟨rfl,rfl⟩
theorem L8(n:Nat)(hn:1≤n)(b0 n₀:Nat)(c:UInt8)(s:List UInt8)(hs:s.length≤4294967280)(w:World)(hb0:b0+3≤w.heap.size)(hB:F5 b0 c s w) :
 Ze Fence.wide n prog 216 #[.pointer (some ⟨b0+1,0,none⟩),.pointer (some ⟨b0,0,none⟩),.pointer (some ⟨b0+2,0,none⟩)] (fun x:List UInt8=>#[Value.string ⟨x.toArray⟩]) (Pr n₀ b0) (fun ys=>ys=Az c s) (fun pre=>pre <+: Az c s) (some b0) w:=fun l J Jx W hW hJ _ hY h0=>
 Ws n hn l b0 n₀ c s hs J Jx hJ hY W ⟨(hW.block b0 (by omega)).trans hB.1,(hW.block (b0+1) (by omega)).trans hB.2.1,(hW.block (b0+2) (by omega)).trans hB.2.2⟩ h0
end Go.Proofs.YtppfkokfnoeopaaGreatDoor
namespace Go.Proofs.YtppfkokfnoeopaaGreatDoor
open Go.RowKit Go.Shelf Go.Proofs.Tryz
attribute [local go_sem] Oper.semAt_some
def G8(x:List UInt8)(last:Int):Option Int:=match Cl x with
 | some n=>if Aq n=true∧last<n then some n else none
 | none=>none
def G3(st:Option (Nat×Int))(x:List UInt8):Option (Nat×Int):=st.bind fun p=>(G8 x p.2).map fun n=>(p.1|||At n,n)
def Ct(l:List (List UInt8)):Option (Nat×Int):=l.foldl G3 (some (0,0))
def Cq(s:List UInt8):Option Nat:=if s=[45] then some 0 else(Ct (Az 44 s)).map (·.1)
theorem Ev(l:List (List UInt8))(x:List UInt8):Ct (l++[x])=G3 (Ct l) x:=by simp[Ct]
theorem Ky:∀(r:List (List UInt8)) {l:List (List UInt8)},Ct l=none→Ct (l++r)=none
 | [],l,h=>by simpa using h
 | x::r,l,h=>by
  rw[show l++x::r=(l++[x])++r by simp];exact Ky r (by rw[Ev,h];rfl)
theorem Qo{x:List UInt8}{last n:Int}(h:G8 x last=some n):x=Lib.itoa n∧Aq n=true∧last<n:=by
 unfold G8 at h
 split at h
 ·rename_i m hm
  split at h
  ·rename_i hc
   injection h with h;subst h;exact⟨((D7 x m).1 hm).1,hc⟩
  ·cases h
 ·cases h
theorem U8{x:List UInt8}{last n:Int}(h:x=Lib.itoa n)(hn:Aq n=true)(hl:last<n):G8 x last=some n:=by
 have hn':=hn;simp only[Aq,decide_eq_true_eq] at hn';have:Cl x=some n:=(D7 x n).2 ⟨h,by omega,by omega⟩;unfold G8;rw[this];simp only;rw[if_pos ⟨hn,hl⟩]
def L6(ea:Nat→Addr):Option Nat→Value
 | some c=>.tuple #[.int .i64 c,.nilIface]
 | none=>.tuple #[.int .i64 0,Bm ea 1]
structure Rd(n₀ b0:Nat)(W W':World):Prop where
 others:KeepsOthers W W'
 below:Below n₀ W W'
 boxes:∀j,j<3→W'.heap[b0+j]?=W.heap[b0+j]?
theorem Rd.refl(n₀ b0:Nat)(W:World):Rd n₀ b0 W W:=⟨KeepsOthers.refl _,Below.refl _ _,fun _ _=>rfl⟩
theorem Rd.trans{n₀ b0:Nat}{A B C:World}(h:Rd n₀ b0 A B)(k:Rd n₀ b0 B C):Rd n₀ b0 A C:=⟨h.others.trans k.others,h.below.trans k.below,fun j hj=>(k.boxes j hj).trans (h.boxes j hj)⟩
theorem Rd.call{n₀ b0:Nat}{A B:World}(h:Below A.heap.size A B)(h1:n₀≤A.heap.size)(h2:b0+3≤A.heap.size):Rd n₀ b0 A B:=
 ⟨⟨h.size,fun k o hk _=>(h.block k (Array.getElem?_eq_some_iff.1 hk).1).trans hk⟩,h.mono h1,fun j hj=>h.block _ (by omega)⟩
theorem Rd.set{n₀ b0:Nat}(A:World)(b:Nat)(v:Value)(h1:n₀≤b)(h2:b<b0∨b0+3≤b):Rd n₀ b0 A (A.setCell ⟨b,0,none⟩ v):=
 ⟨KeepsOthers.setCell _ _ _,zb.setCell (p:=⟨b,0,none⟩) h1 _,fun j hj=>Below.heap_setCell _ _ _ _ (by simp;omega)⟩
theorem Rd.drew{n₀ b0:Nat}(A:World):Rd n₀ b0 A A.drew:=⟨KeepsOthers.drew _,zb.drew,fun _ _=>rfl⟩
theorem Rd.keepB{n₀ b0:Nat}{A B:World}(h:Rd n₀ b0 A B):Pr n₀ b0 A B:=⟨h.below,h.boxes⟩
theorem As{A B:World}{b:Nat}{t:TypeId}{v:Value}(h:Boxed A b t v)(hb:Below A.heap.size A B):Boxed B b t v:=(hb.block b h.lt).trans h
def zBd(B:Nat)(w:World)(pre:List (List UInt8))(W:World):Prop:=
 (∃(c:Nat) (last:Int),Hid (Ct pre=some (c,last))∧(c<65536∧0≤last∧last≤16)∧Boxed W (B+2) 3 (.int .i64 c)∧Boxed W (B+3) 3 (.int .i64 last)) ∧
  Boxed W B 3 (.int .i64 0)∧Boxed W (B+1) 33 .nilIface∧Below B w W∧B+7≤W.heap.size
def zEr(ea:Nat→Addr)(B:Nat)(w:World)(c:Code)(pre:List (List UInt8))(W:World):Prop:=
 c=.ret∧Ct pre=none∧Boxed W B 3 (.int .i64 0)∧Boxed W (B+1) 33 (.iface 346 (.pointer (some (ea 1))))∧Below B w W
theorem Qn{B:Nat}{w:World}{pre:List (List UInt8)}{W W':World}{row:Option Nat}(h:zBd B w pre W)(hg:W.grownBy W' row)(hr:∀r,row=some r→B+4≤r):zBd B w pre W':=by
 obtain⟨⟨c,last,h1,h2,h3,h4⟩,h5,h6,h7,h8⟩:=h;have hne:∀k,k<B+4→some k≠row:=fun k hk e=>by have:=hr k e.symm;omega
 exact⟨⟨c,last,h1,h2,h3.kept hg (hne _ (by omega)),h4.kept hg (hne _ (by omega))⟩,h5.kept hg (hne _ (by omega)),h6.kept hg (hne _ (by omega)),h7.grown hg (by omega) (fun k e=>by have:=hr k e;omega),Nat.le_trans h8 hg.size⟩
theorem Qp{ea:Nat→Addr}{B:Nat}{w:World}{c:Code}{pre:List (List UInt8)}{W W':World}{row:Option Nat}(h:zEr ea B w c pre W)(hg:W.grownBy W' row)(hr:∀r,row=some r→B+4≤r):zEr ea B w c pre W':=by
 obtain⟨h0,h1,h5,h6,h7⟩:=h;have hne:∀k,k<B+4→some k≠row:=fun k hk e=>by have:=hr k e.symm;omega
 exact⟨h0,h1,h5.kept hg (hne _ (by omega)),h6.kept hg (hne _ (by omega)),h7.grown hg (by have:=h5.lt;omega) (fun k e=>by have:=hr k e;omega)⟩
theorem zI0(ea:Nat→Addr)(s:List UInt8)(w:World)(hs:s.length≤4294967280)(hg:Bh w ea [1])(hT:Bf w)(hne:s≠[45]) :
 CallsIn Fence.wide 3 prog 136 #[.string ⟨s.toArray⟩] w fun e W'=>e=.returned (L6 ea (Cq s))∧Below w.heap.size w W':=by
 have HF:Hid (Cq s=(Ct (Az 44 s)).map (·.1)):=by unfold Hid;rw[Cq,if_neg hne]
 have HG:=zh (fun(W:World) (h:Below w.heap.size w W)=>hg.below h);have HT:=zh (fun(W:World) (h:Below w.heap.size w W)=>hT.below h);have hgl:=hg.lt 1 (by simp);simp only[gOf] at hgl;have hq:(s==[45])=false:=by simpa using hne
 clear hg hT hne;refine callsIn_of_wp_marks func136 rfl trivial ?_ rfl;simp only[ntmps136,List.size_toArray,List.length_cons,List.length_nil,Nat.reduceAdd,Nat.reduceSub,Array.replicate_succ,Array.replicate_zero,List.push_toArray,List.append_toArray,List.nil_append,List.cons_append]
 gi_wp2_with (refine⟨trivial,?_⟩;gi_at_call 135;refine(callsIn_wide.2 (Ov s 44 _)).mono ?_;rintro e w'⟨rfl,rfl⟩)
 clear hq;obtain⟨W0,hW0⟩:∃W0,W0=(((w.alloc (.cells #[.int .i64 0] 3)).alloc (.cells #[.nilIface] 33)).alloc (.cells #[.int .i64 0] 3)).alloc (.cells #[.int .i64 0] 3):=⟨_,rfl⟩
 have hz0:W0.heap.size=w.heap.size+4:=by rw[hW0];simp
 have hb0:Below w.heap.size w W0:=by rw[hW0];exact((((Below.refl _ w).alloc zl _).alloc (by simp) _).alloc (by simp;omega) _).alloc (by simp;omega) _
 have hx0:Boxed W0 w.heap.size 3 (.int .i64 0):=by rw[hW0];exact(((Boxed.new w _ _).alloc _).alloc _).alloc _
 have hx1:Boxed W0 (w.heap.size+1) 33 .nilIface:=by
  rw[hW0];have:=((Boxed.new (w.alloc (.cells #[.int .i64 0] 3)) 33 .nilIface).alloc (.cells #[.int .i64 0] 3)).alloc (.cells #[.int .i64 0] 3);rw[World.size_alloc] at this;exact this
 have hx2:Boxed W0 (w.heap.size+2) 3 (.int .i64 0):=by
  rw[hW0];have:=(Boxed.new ((w.alloc (.cells #[.int .i64 0] 3)).alloc (.cells #[.nilIface] 33)) 3 (.int .i64 0)).alloc (.cells #[.int .i64 0] 3);rw[World.size_alloc,World.size_alloc] at this;exact this
 have hx3:Boxed W0 (w.heap.size+3) 3 (.int .i64 0):=by
  rw[hW0];have:=Boxed.new (((w.alloc (.cells #[.int .i64 0] 3)).alloc (.cells #[.nilIface] 33)).alloc (.cells #[.int .i64 0] 3)) 3 (.int .i64 0);rw[World.size_alloc,World.size_alloc,World.size_alloc] at this;exact this
 rw[←hW0];clear hW0;have hz1:=Le W0 s 44;have hb1:=J8 W0 s 44;have hsp:=M4 W0 s 44;generalize Fe W0 s 44=W1 at *;rw[hz0] at hsp;simp only[Nat.add_assoc,Nat.reduceAdd];have hI0:zBd w.heap.size w [] W1:=⟨⟨0,0,rfl,⟨by omega,by omega,by omega⟩,As hx2 hb1,As hx3 hb1⟩,As hx0 hb1,As hx1 hb1,hb0.trans (hb1.mono (by omega)),by omega⟩;clear hb1 hx0 hx1 hx2 hx3 hb0;have hz:W1.heap.size=w.heap.size+7:=by omega
 generalize hB:w.heap.size=B at *
 refine Fw rfl (by omega) (gf:=216) (lb:=#[.pointer (some ⟨B+5,0,none⟩),.pointer (some ⟨B+4,0,none⟩),.pointer (some ⟨B+6,0,none⟩)]) rfl trivial (enters_of func216 (by kernel_rfl) rfl)
  (L8 2 (by omega) (B+4) B 44 s hs W1 (by omega) hsp) (fun b e=>by cases e;omega) zBw (zBv (by omega) (by omega)) (fun _=>rfl)
  (zBd B w) (zEr ea B w)
  (fun _ _ _ _ h hg hr=>Qn h hg (fun r e=>by have:=(hr r e).1;omega)) (fun _ _ _ _ _ h hg hr=>Qp h hg (fun r e=>by have:=(hr r e).1;omega))
  (fun _ _ _ _ h hg hr=>Qn h hg (fun r e=>by have:=Option.some.inj (hr r e);omega)) (fun _ _ _ _ _ h hg hr=>Qp h hg (fun r e=>by have:=Option.some.inj (hr r e);omega)) hI0
  (fun x a' _=>a' = { tmps:=#[.string ⟨s.toArray⟩,undef,.pointer (some ⟨B,0,none⟩),.pointer (some ⟨B+1,0,none⟩),.pointer (some ⟨B+2,0,none⟩),.pointer (some ⟨B+3,0,none⟩),.string ⟨x.toArray⟩,undef,undef,.string ⟨s.toArray⟩,.bool false,.string ⟨s.toArray⟩,.func (.func 216) #[] #[.pointer (some ⟨B+5,0,none⟩),.pointer (some ⟨B+4,0,none⟩),.pointer (some ⟨B+6,0,none⟩)],.string ⟨x.toArray⟩,undef,undef,undef,undef,undef,undef,undef,undef,undef,undef,undef,undef,undef,undef,undef,undef,undef,undef,undef,undef,undef,undef,undef,undef,undef,undef,undef,undef,undef,undef],defers:=[] })
  (fun _ _ _ _ _ _ hs _ _=>hs) ?assign ?body ?done ?stop
 case assign=>
  intro l pre x W K hi hK
  gi_wp2
  exact hK _ _ (KeepsFrom.refl _ _) ⟨Below.refl _ _,fun _ _=>rfl⟩ hi rfl
 case body=>
  rintro l pre x a' W hi rfl hpre;obtain⟨⟨c,last,hacc,⟨hc,hl0,hl1⟩,bx2,bx3⟩,bx0,bx1,hbw,hsz⟩:=hi;have hxl:x.length≤4294967280:=Nat.le_trans (Cz 44 s x (hpre.subset (by simp))) hs;have hmx:prog.follows .mixedOrders=true:=by kernel_rfl
  have hn1:¬(1=B):=by omega
  have hn2:¬(B=1):=by omega
  have hTW:=zh (HT.out W hbw);clear hpre
  by_cases hr:∃n,G8 x last=some n
  ·obtain⟨n,hr⟩:=hr
   have HA:Hid (Ct (pre++[x])=some (c|||At n,n)):=by unfold Hid;rw[Ev,hacc.out,G3,Option.bind_some,hr];rfl
   obtain⟨rfl,hn,hln⟩:=Qo hr;have hbl:=Dx hn;have hor:c|||At n<65536:=Nat.or_lt_two_pow (n:=16) hc hbl
   have hN:=hn;simp only[Aq,decide_eq_true_eq] at hN;have KA:=zh (Jv (Lib.itoa n) n W hxl (F6 n (by omega) (by omega)));have KI:=zh (fun(W':World) (h:Below W.heap.size W W')=>Df n W' (hTW.out.below h) (by omega));have KB:=zh (fun(W':World)=>Q0 n W' hn);have KN:=zh (fun(W':World)=>Fq n W');have hO:bits .or .i64 (c:Int) (At n:Int)=((c|||At n:Nat):Int):=Wc _ _ (by omega) (by omega);rw[hn] at KN;clear hr hn;generalize At n=q at *;generalize Lib.itoa n=x at *
   gi_wp2_with (first
    | (refine⟨trivial,?_⟩;gi_at_call 175;refine(CallsIn.inRound l (callsIn_wide.2 KA.out)).mono ?_;rintro e w1⟨rfl,hb1⟩)
    | (refine⟨trivial,?_⟩;gi_at_call 46;refine(CallsIn.inRound l (callsIn_wide.2 (KI.out _ hb1))).mono ?_;rintro e w2⟨rfl,hb2⟩;have hr2:=(Rd.call (n₀:=B) (b0:=B+4) hb1 (by omega) (by omega)).trans (Rd.call (n₀:=B) (b0:=B+4) hb2 (by have:=hb1.size;omega) (by have:=hb1.size;omega));have bx2:=As (As bx2 hb1) hb2;have bx3:=As (As bx3 hb1) hb2;have bx0:=As (As bx0 hb1) hb2;have bx1:=As (As bx1 hb1) hb2;have c2:=bx2.cell;have f2:=bx2.frozen;have c3:=bx3.cell;have f3:=bx3.frozen)
    | (refine⟨trivial,?_⟩;gi_at_call 154;refine(CallsIn.inRound l (callsIn_wide.2 (KN.out _))).mono ?_;rintro e w'⟨rfl,rfl⟩))
   gi_region_with_o (refine⟨trivial,?_⟩;gi_at_call 155;refine(CallsIn.inRound l (callsIn_wide.2 (KB.out _))).mono ?_;rintro e w'⟨rfl,rfl⟩)
   all_goals gi_wp2
   all_goals
    have hR:=hr2.trans (((Rd.set w2 (B+2) (.int .i64 ((c|||q:Nat):Int)) (by omega) (by omega)).trans (Rd.set _ (B+3) (.int .i64 n) (by omega) (by omega))).trans (Rd.drew _));exact⟨hR.others.from _,hR.keepB,⟨⟨_,n,HA.out,⟨hor,by omega,by omega⟩,(bx2.set _).other (by omega) _,(bx3.other (by omega) _).set _⟩,(bx0.other (by omega) _).other (by omega) _,(bx1.other (by omega) _).other (by omega) _,hbw.trans hR.below,Nat.le_trans hsz hR.below.size⟩⟩
  ·have hrn:G8 x last=none:=by
    cases h:G8 x last with
    | none=>rfl
    | some n=>exact absurd ⟨n,h⟩ hr
   have HA:Hid (Ct (pre++[x])=none):=by unfold Hid;rw[Ev,hacc.out,G3,Option.bind_some,hrn];rfl
   have HR:=zh hr;clear hr hrn
   by_cases hat:∃n,Lib.atoiAll x=.ok n
   ·obtain⟨n,hn⟩:=hat
    have hbd:=Lib.atoiAll_bounds hn;have KA:=zh (Jv x n W hxl hn);have KI:=zh (fun(W':World) (h:Below W.heap.size W W')=>Df n W' (hTW.out.below h) hbd);have KN:=zh (fun(W':World)=>Fq n W');clear hn
    by_cases hx:Lib.itoa n=x
    ·cases hnd:Aq n
     ·rw[hx] at KI
      rw[hnd] at KN;clear hx hnd
      gi_wp2_with (first
       | (refine⟨trivial,?_⟩;gi_at_call 175;refine(CallsIn.inRound l (callsIn_wide.2 KA.out)).mono ?_;rintro e w1⟨rfl,hb1⟩)
       | (refine⟨trivial,?_⟩;gi_at_call 46;refine(CallsIn.inRound l (callsIn_wide.2 (KI.out _ hb1))).mono ?_;rintro e w2⟨rfl,hb2⟩;have hr2:=(Rd.call (n₀:=B) (b0:=B+4) hb1 (by omega) (by omega)).trans (Rd.call (n₀:=B) (b0:=B+4) hb2 (by have:=hb1.size;omega) (by have:=hb1.size;omega));have bx3:=As (As bx3 hb1) hb2;have bx0:=As (As bx0 hb1) hb2;have bx1:=As (As bx1 hb1) hb2;have c0:=bx0.cell;have f0:=bx0.frozen;have c1:=bx1.cell;have f1:=bx1.frozen;have c3:=bx3.cell;have g1:=(HG.out _ (hbw.trans hr2.below)).cell 1 (by simp);simp only[gOf] at g1;rw[Ae ea (by decide)] at g1)
       | (refine⟨trivial,?_⟩;gi_at_call 154;refine(CallsIn.inRound l (callsIn_wide.2 (KN.out _))).mono ?_;rintro e w'⟨rfl,rfl⟩)
       | (refine⟨trivial,?_⟩))
      gi_region_o
      all_goals gi_wp2
      all_goals
       first
        | (have hR:=hr2.trans (((Rd.set w2 B (.int .i64 0) (by omega) (by omega)).trans (Rd.set _ (B+1) (.iface 346 (.pointer (some (ea 1)))) (by omega) (by omega))).trans (Rd.drew _));exact⟨hR.others.from _,rfl,HA.out,(bx0.set _).other (by omega) _,(bx1.other (by omega) _).set _,hbw.trans hR.below⟩)
        | (have hR:=hr2.trans (((Rd.set w2 (B+1) (.iface 346 (.pointer (some (ea 1)))) (by omega) (by omega)).trans (Rd.set _ B (.int .i64 0) (by omega) (by omega))).trans (Rd.drew _));exact⟨hR.others.from _,rfl,HA.out,(bx0.other (by omega) _).set _,(bx1.set _).other (by omega) _,hbw.trans hR.below⟩)
     ·have hle:n≤last:=by
       by_cases hl:last<n
       ·exact absurd ⟨n,U8 hx.symm hnd hl⟩ HR.out
       ·omega
      rw[hx] at KI;rw[hnd] at KN;clear hx hnd
      gi_wp2_with (first
       | (refine⟨trivial,?_⟩;gi_at_call 175;refine(CallsIn.inRound l (callsIn_wide.2 KA.out)).mono ?_;rintro e w1⟨rfl,hb1⟩)
       | (refine⟨trivial,?_⟩;gi_at_call 46;refine(CallsIn.inRound l (callsIn_wide.2 (KI.out _ hb1))).mono ?_;rintro e w2⟨rfl,hb2⟩;have hr2:=(Rd.call (n₀:=B) (b0:=B+4) hb1 (by omega) (by omega)).trans (Rd.call (n₀:=B) (b0:=B+4) hb2 (by have:=hb1.size;omega) (by have:=hb1.size;omega));have bx3:=As (As bx3 hb1) hb2;have bx0:=As (As bx0 hb1) hb2;have bx1:=As (As bx1 hb1) hb2;have c0:=bx0.cell;have f0:=bx0.frozen;have c1:=bx1.cell;have f1:=bx1.frozen;have c3:=bx3.cell;have g1:=(HG.out _ (hbw.trans hr2.below)).cell 1 (by simp);simp only[gOf] at g1;rw[Ae ea (by decide)] at g1)
       | (refine⟨trivial,?_⟩;gi_at_call 154;refine(CallsIn.inRound l (callsIn_wide.2 (KN.out _))).mono ?_;rintro e w'⟨rfl,rfl⟩)
       | (refine⟨trivial,?_⟩))
      gi_region_o
      all_goals gi_wp2
      all_goals
       first
        | (have hR:=hr2.trans (((Rd.set w2 B (.int .i64 0) (by omega) (by omega)).trans (Rd.set _ (B+1) (.iface 346 (.pointer (some (ea 1)))) (by omega) (by omega))).trans (Rd.drew _));exact⟨hR.others.from _,rfl,HA.out,(bx0.set _).other (by omega) _,(bx1.other (by omega) _).set _,hbw.trans hR.below⟩)
        | (have hR:=hr2.trans (((Rd.set w2 (B+1) (.iface 346 (.pointer (some (ea 1)))) (by omega) (by omega)).trans (Rd.set _ B (.int .i64 0) (by omega) (by omega))).trans (Rd.drew _));exact⟨hR.others.from _,rfl,HA.out,(bx0.other (by omega) _).set _,(bx1.set _).other (by omega) _,hbw.trans hR.below⟩)
    ·generalize Lib.itoa n=y at *
     have hyx:(y==x)=false:=by simpa using hx
     gi_wp2_with (first
      | (refine⟨trivial,?_⟩;gi_at_call 175;refine(CallsIn.inRound l (callsIn_wide.2 KA.out)).mono ?_;rintro e w1⟨rfl,hb1⟩)
      | (refine⟨trivial,?_⟩;gi_at_call 46;refine(CallsIn.inRound l (callsIn_wide.2 (KI.out _ hb1))).mono ?_;rintro e w2⟨rfl,hb2⟩;have hr2:=(Rd.call (n₀:=B) (b0:=B+4) hb1 (by omega) (by omega)).trans (Rd.call (n₀:=B) (b0:=B+4) hb2 (by have:=hb1.size;omega) (by have:=hb1.size;omega));have bx3:=As (As bx3 hb1) hb2;have bx0:=As (As bx0 hb1) hb2;have bx1:=As (As bx1 hb1) hb2;have c0:=bx0.cell;have f0:=bx0.frozen;have c1:=bx1.cell;have f1:=bx1.frozen;have c3:=bx3.cell;have g1:=(HG.out _ (hbw.trans hr2.below)).cell 1 (by simp);simp only[gOf] at g1;rw[Ae ea (by decide)] at g1)
      | (refine⟨trivial,?_⟩))
     gi_region_o
     all_goals gi_wp2
     all_goals
      first
       | (have hR:=hr2.trans (((Rd.set w2 B (.int .i64 0) (by omega) (by omega)).trans (Rd.set _ (B+1) (.iface 346 (.pointer (some (ea 1)))) (by omega) (by omega))).trans (Rd.drew _));exact⟨hR.others.from _,rfl,HA.out,(bx0.set _).other (by omega) _,(bx1.other (by omega) _).set _,hbw.trans hR.below⟩)
       | (have hR:=hr2.trans (((Rd.set w2 (B+1) (.iface 346 (.pointer (some (ea 1)))) (by omega) (by omega)).trans (Rd.set _ B (.int .i64 0) (by omega) (by omega))).trans (Rd.drew _));exact⟨hR.others.from _,rfl,HA.out,(bx0.other (by omega) _).set _,(bx1.set _).other (by omega) _,hbw.trans hR.below⟩)
   ·have KA:=zh (Nt x W hTW.out hxl (fun n hn=>hat ⟨n,hn⟩))
    clear hat
    gi_wp2_with (first
     | (refine⟨trivial,?_⟩;gi_at_call 175;refine(CallsIn.inRound l (callsIn_wide.2 KA.out)).mono ?_;rintro e w2⟨⟨m,tt,vv,rfl⟩,hb2⟩;have hr2:=Rd.call (n₀:=B) (b0:=B+4) hb2 (by omega) (by omega);have bx0:=As bx0 hb2;have bx1:=As bx1 hb2;have c0:=bx0.cell;have f0:=bx0.frozen;have c1:=bx1.cell;have f1:=bx1.frozen;have g1:=(HG.out _ (hbw.trans hr2.below)).cell 1 (by simp);simp only[gOf] at g1;rw[Ae ea (by decide)] at g1)
     | (refine⟨trivial,?_⟩))
    gi_region_o
    all_goals gi_wp2
    all_goals
     first
      | (have hR:=hr2.trans (((Rd.set w2 B (.int .i64 0) (by omega) (by omega)).trans (Rd.set _ (B+1) (.iface 346 (.pointer (some (ea 1)))) (by omega) (by omega))).trans (Rd.drew _));exact⟨hR.others.from _,rfl,HA.out,(bx0.set _).other (by omega) _,(bx1.other (by omega) _).set _,hbw.trans hR.below⟩)
      | (have hR:=hr2.trans (((Rd.set w2 (B+1) (.iface 346 (.pointer (some (ea 1)))) (by omega) (by omega)).trans (Rd.set _ B (.int .i64 0) (by omega) (by omega))).trans (Rd.drew _));exact⟨hR.others.from _,rfl,HA.out,(bx0.other (by omega) _).set _,(bx1.set _).other (by omega) _,hbw.trans hR.below⟩)
 case done=>
  rintro D ys W hD rfl hi hK;obtain⟨⟨c,last,hacc,_,bx2,_⟩,bx0,bx1,hbw,hsz⟩:=hi;have HR:Hid (Cq s=some c):=by unfold Hid;rw[HF.out,hacc.out];rfl
  have c2:=bx2.cell;have c0:=bx0.cell;have f0:=bx0.frozen;have c1:=bx1.cell;have f1:=bx1.frozen
  gi_wp2
  have hK':=((KeepsOthers.setCell W ⟨B,0,none⟩ (.int .i64 c)).trans (KeepsOthers.setCell _ ⟨B+1,0,none⟩ .nilIface)).same D _ hK rfl;obtain⟨V,hV⟩:∃V,V=(W.setCell ⟨B,0,none⟩ (.int .i64 c)).setCell ⟨B+1,0,none⟩ .nilIface:=⟨_,rfl⟩
  rw[←hV] at hK' ⊢;have b0:Boxed V B 3 (.int .i64 c):=by rw[hV];exact(bx0.set _).other (by omega) _
  have b1:Boxed V (B+1) 33 .nilIface:=by rw[hV];exact(bx1.other (by omega) _).set _
  have hbV:Below B w V:=by rw[hV];exact(hbw.setCell (p:=⟨B,0,none⟩) zl _).setCell (p:=⟨B+1,0,none⟩) (by simp) _
  have p0:=b0.kept (grownBy_putObj' V D (.deferred none)) (fun e=>by injection e with e;omega);have p1:=b1.kept (grownBy_putObj' V D (.deferred none)) (fun e=>by injection e with e;omega);have hbF:=hbV.trans (belowK_b (n₀:=B) (w:=w) (by omega) V D _ (.deferred none) (by omega) hK' rfl rfl);refine⟨by simp,.inl ⟨_,_,rfl,run_takeDeferred hK',?_⟩⟩;refine⟨L6 ea (Cq s),?_,rfl,by rw[hB];exact hbF⟩;rw[HR.out];simp[results,results136,go_sem,p0.cell,p1.cell,L6]
 case stop=>
  rintro D c pre W hD hpre⟨rfl,hacc,bx0,bx1,hbw⟩hK
  have HR:Hid (Cq s=none):=by
   obtain⟨r,hr⟩:=hpre;unfold Hid;rw[HF.out,←hr,Ky r hacc];rfl
  gi_wp2
  have hK':=hK;have b0:=bx0;have b1:=bx1;have hbV:=hbw;have p0:=b0.kept (grownBy_putObj' W D (.deferred none)) (fun e=>by injection e with e;omega);have p1:=b1.kept (grownBy_putObj' W D (.deferred none)) (fun e=>by injection e with e;omega);have hbF:=hbV.trans (belowK_b (n₀:=B) (w:=w) (by omega) W D _ (.deferred none) (by omega) hK' rfl rfl);refine⟨by simp,.inl ⟨_,_,rfl,run_takeDeferred hK',?_⟩⟩;refine⟨L6 ea (Cq s),?_,rfl,by rw[hB];exact hbF⟩;rw[HR.out];simp[results,results136,go_sem,p0.cell,p1.cell,L6,Ae ea (k:=1) (by decide)]
theorem Sw(ea:Nat→Addr)(s:List UInt8)(w:World)(hs:s.length≤4294967280)(hg:Bh w ea [1])(hT:Bf w) :
 Calls prog 136 #[.string ⟨s.toArray⟩] w fun e W'=>e=.returned (L6 ea (Cq s))∧Below w.heap.size w W':=by
 by_cases h:s=[45]
 ·subst h
  have HR:Hid (Cq [45]=some 0):=by unfold Hid;rw[Cq,if_pos rfl]
  clear hg hT;go_enter func136,ntmps136;go_wp2;refine bodyPost_ret (v:=.tuple #[.int .i64 0,.nilIface]) (by simp[results,results136,go_sem]) rfl ?_;rw[HR.out];exact⟨rfl,((Below.refl _ w).alloc zl _).alloc (by simp) _⟩
 ·exact callsIn_wide.1 (zI0 ea s w hs hg hT h)
end Go.Proofs.YtppfkokfnoeopaaGreatDoor
namespace Go.Proofs.YtppfkokfnoeopaaGreatDoor
open Go.RowKit Go.Shelf Go.Proofs.Tryz
attribute [local go_sem] Oper.semAt_some
def Db(c:Int):List UInt8:=if Bn c then(if c=0 then[45] else Lib.join ((Ao c 16).map Lib.itoa) [44]) else[]
theorem Mi{c:Bool}{p q:Prop}(h:c=true)(hp:p):if c=true then p else q:=by rw[if_pos h];exact hp
theorem Gj{F:Fence}{n:Nat}{P:Program}{o:Oper}{a:Act}{w:World}{K:Act→World→Prop}{Q:Exit→Act→World→Prop}(s x:Operand)(t:TypeId)
 (ho:o.op=.call { callee:=.builtin .append,args:=#[s,x],argTypes:=#[t,t] }) (v u:Value) {v':Value} {w':World} (hs:a.eval s=v) (hx:a.eval x=u) (hr:(Builtin.append_ #[t,t] o.type #[v,u]).run P w=.ok v' w')
 (h:K (a.put o.dst v') w'):Oper.wpIn F n P o a w K Q:=by
 unfold Oper.wpIn;refine⟨by simp[Oper.about,ho,resolve,Target.leads,Sem.run_pure],?_⟩;rw[Oper.semAt_plain F _ _ (by rw[ho];intro c hc';cases hc')];simp[execOp,ho,resolve,invoke,builtin,hs,hx,hr,Result.andThen];exact h
theorem Ry(a:Option Addr)(n cap:Nat)(l:List (List UInt8))(sep:List UInt8)(w:World)(hn:l.length=n)(hr:Ac w a (Ad l))(hc:n≤cap)(hl:(Lib.join l sep).length≤140737488355328)(hN:n≤140737488355328) :
 Calls prog 128 #[.slice a n cap,.string ⟨sep.toArray⟩] w fun e w'=>e=.returned (.string ⟨(Lib.join l sep).toArray⟩)∧Below w.heap.size w w':=by
 by_cases h0:n=0
 ·subst h0
  obtain rfl:l=[]:=List.eq_nil_of_length_eq_zero hn;refine(Tryz.strings_Join_none a cap ⟨sep.toArray⟩ w).mono ?_;rintro e w'⟨rfl,rfl⟩;exact⟨rfl,Below.refl _ _⟩
 ·obtain⟨b,off,rfl,hb,hcells⟩:=hr.at (fun e=>h0 (by rw[←hn];simpa[Ad] using congrArg List.length e))
  have hm:(l.map fun x=>(⟨x.toArray⟩:ByteArray)).map (·.data.toList)=l:=by
   rw[List.map_map];exact(List.map_congr_left (fun x _=>by simp)).trans (List.map_id l)
  have hlen:(l.map fun x=>(⟨x.toArray⟩:ByteArray)).length=n:=by simp[hn]
  have h:=Tryz.strings_Join b off cap (l.map fun x=>⟨x.toArray⟩) ⟨sep.toArray⟩ w (fun j x hx=>hcells j _ (by simp only[Ad,List.getElem?_map,Option.map_eq_some_iff] at hx ⊢;obtain⟨y,hy,rfl⟩:=hx;exact⟨y,hy,rfl⟩)) hb (by omega) (by omega) (by rw[hm];exact hl);rw[hm,hlen] at h;exact h
theorem Ko:∀(l:List (List UInt8)),(∀x∈l,x.length≤21)→(Lib.join l [44]).length≤l.length*22
 | [],_=>by simp[Lib.join,List.intercalate]
 | [x],h=>by have:=h x (by simp);simp[Lib.join,List.intercalate];omega
 | x::y::r,h=>by
  have ih:=Ko (y::r) (fun z hz=>h z (List.mem_cons_of_mem _ hz));have hx:=h x (by simp);simp only[Lib.join,List.intercalate,List.intersperse,List.flatten_cons,List.length_append,List.length_cons,List.length_nil] at ih ⊢;omega
def zBe(B:Nat)(w:World)(c:Int)(pre:List Int)(W:World):Prop:=
 (∃v,Boxed W B 22 v∧W.ownsRow (B+2) 9 1 v pre.length (Ad (pre.map Lib.itoa)))∧Boxed W (B+1) 3 (.int .i64 c)∧Below B w W∧B+2≤W.heap.size
theorem Qq{B:Nat}{w:World}{c:Int}{pre:List Int}{W W':World}{row:Option Nat}(h:zBe B w c pre W)(hg:W.grownBy W' row)(hr:∀r,row=some r→B+2≤r∧∃o:Obj,W.heap[r]?=some o∧o.isCells=false):zBe B w c pre W':=by
 obtain⟨⟨v,h1,h2⟩,h3,h4,h5⟩:=h;have hne:∀k,k<B+2→some k≠row:=fun k hk e=>by have:=(hr k e.symm).1;omega
 exact⟨⟨v,h1.kept hg (hne _ (by omega)),(holdsRow_own (β:=Unit) (B+2) B 22 9 1 (fun _=>pre.length) (fun _=>Ad (pre.map Lib.itoa)) (fun _ u=>u=v) () W W' row ⟨v,h1,h2,rfl⟩ hg (fun r e=>(hr r e).2)).elim fun u hu=>hu.2.2▸hu.2.1⟩,h3.kept hg (hne _ (by omega)),h4.grown hg (by omega) (fun k e=>by have:=(hr k e).1;omega),Nat.le_trans h5 hg.size⟩
theorem zI4(ea:Nat→Addr)(c:Nat)(w:World)(hg:Bh w ea [2])(hc:c<65536)(hc0:c≠0) :
 CallsIn Fence.wide 3 prog 74 #[.int .i64 c] w fun e W'=>e=.returned (.string ⟨(Db c).toArray⟩)∧Below w.heap.size w W':=by
 have HG:=zh (fun(W:World) (h:Below w.heap.size w W)=>hg.below h);have KC:=zh (Dt ea c w hg);have hcb:Bn (c:Int)=true:=by simp only[Bn,decide_eq_true_eq];omega
 have he:Bm ea (Fn c)=.nilIface:=by rw[Fn,hcb];exact Al ea
 rw[he] at KC;have hz:((c:Int)==0)=false:=by simp;omega
 have HF:Hid (Db c=Lib.join ((Ao c 16).map Lib.itoa) [44]):=by unfold Hid;rw[Db,if_pos hcb,if_neg (by omega)]
 have HNE:Hid (∀x∈Ao c 16,1≤x∧x≤16):=by
  have:∀k,k≤16→∀x∈Ao (c:Int) k,1≤x∧x≤16:=by
   intro k
   induction k with
   | zero=>intro _ x hx;cases hx
   | succ k ih=>
    intro hk x hx;rw[Ao,List.mem_append] at hx
    rcases hx with hx|hx
    ·exact ih (by omega) x hx
    ·split at hx
     ·simp at hx;omega
     ·cases hx
  exact this 16 zl
 clear hg he hcb;obtain⟨i0,hi,hz0,hz1,hz2⟩:=info_parts Do;refine callsIn_of_wp_marks func74 rfl trivial ?_ rfl;simp only[ntmps74,List.size_toArray,List.length_cons,List.length_nil,Nat.reduceAdd,Nat.reduceSub,Array.replicate_succ,Array.replicate_zero,List.push_toArray,List.append_toArray,List.nil_append,List.cons_append]
 gi_wp2_with (first
  | (refine⟨trivial,?_⟩;gi_at_call 126;refine(callsIn_wide.2 KC.out).mono ?_;rintro e w'⟨rfl,rfl⟩)
  | (refine⟨trivial,?_⟩;gi_at_call 127;refine(callsIn_wide.2 (U1 _ _)).mono ?_;rintro e w'⟨rfl,rfl⟩))
 obtain⟨W0,hW0⟩:∃W0,W0=(w.alloc (.cells #[.slice none 0 0] 22)).alloc (.cells #[.int .i64 c] 3):=⟨_,rfl⟩
 have hz0':W0.heap.size=w.heap.size+2:=by rw[hW0];simp
 have hb0:Below w.heap.size w W0:=by rw[hW0];exact((Below.refl _ w).alloc zl _).alloc (by simp) _
 have hx0:Boxed W0 w.heap.size 22 (.slice none 0 0):=by rw[hW0];exact(Boxed.new w _ _).alloc _
 have hx1:Boxed W0 (w.heap.size+1) 3 (.int .i64 c):=by
  rw[hW0];have:=Boxed.new (w.alloc (.cells #[.slice none 0 0] 22)) 3 (.int .i64 c);rw[World.size_alloc] at this;exact this
 rw[←hW0];clear hW0;have HGW:=zh (fun(W':World) (h:Below w.heap.size W0 W')=>HG.out W' (hb0.trans h));generalize hB:w.heap.size=B at *
 refine Fw rfl (by omega) (gf:=170) (lb:=#[.pointer (some ⟨B+1,0,none⟩)]) rfl trivial (enters_of func170 (by kernel_rfl) rfl)
  (zDa ea 2 (by omega) (B+1) B c W0 (by omega) (by omega) hx1.cell HGW.out) (fun b e=>by cases e) V6 (zBx (by omega) (by omega)) (fun _=>rfl)
  (zBe B w c) (fun _ _ _=>False)
  (fun _ _ _ _ h hg hr=>Qq h hg (fun r e=>by have:=(hr r e).1;exact⟨by omega,(hr r e).2⟩)) (fun _ _ _ _ _ h _ _=>h)
  (fun _ _ _ _ h hg hr=>Qq h hg (fun r e=>by cases hr r e)) (fun _ _ _ _ _ h _ _=>h) ⟨⟨_,hx0,World.ownsRow_nil _ _ _ _⟩,hx1,hb0,by omega⟩
  (fun x a' _=>a' = { tmps:=#[.int .i64 c,undef,.string ⟨#[]⟩,.pointer (some ⟨B,0,none⟩),.int .i64 x,.bool false,.int .i64 c,.nilIface,.bool false,.bool false,.int .i64 c,.bool false,.int .i64 c,.func (.func 170) #[] #[.pointer (some ⟨B+1,0,none⟩)],.int .i64 x,undef,undef,undef,undef,undef,undef,undef],defers:=[] })
  (fun _ _ _ _ _ _ hs _ _=>hs) ?assign ?body ?done ?stop
 case assign=>
  intro l pre x W K hi hK
  gi_wp2
  exact hK _ _ (KeepsFrom.refl _ _) ⟨Below.refl _ _,rfl⟩ hi rfl
 case body=>
  rintro l pre x a' W⟨⟨v,hv,hrow⟩,hcb,hbw,hsz⟩rfl hpre;have hxb:=HNE.out x (hpre.subset (by simp));have hxl:pre.length≤16:=by have:=hpre.length_le;have:=Ck c 16;simp at *;omega
  obtain⟨m,rfl⟩:∃m:Nat,x=m:=⟨x.toNat,by omega⟩
  have hmx:prog.follows .mixedOrders=true:=by kernel_rfl
  have KI:=zh (fun(W':World)=>Tryz.strconv_Itoa_small m (by omega) W');have hc:=hv.cell;have hf:=hv.frozen;clear hpre;obtain⟨v',w1,hrun,hown',hgrow,_,_⟩:=Ld (P:=prog) (W.drew.alloc (.cells #[.string ⟨(Lib.decDigits m).toArray⟩] 9)) (B+2) 22 22 9 i0 (.string ByteArray.empty) 1 16 underlying22 hi hz0 hz1 hz2 rfl (by decide) v pre.length (Ad (pre.map Lib.itoa)) ((show W.drew.ownsRow (B+2) 9 1 v pre.length (Ad (pre.map Lib.itoa)) from hrow).alloc _) (some ⟨W.heap.size,0,none⟩) 1 1 [.string ⟨(Lib.decDigits m).toArray⟩] rfl (Ac.new_at W.drew [.string ⟨(Lib.decDigits m).toArray⟩] 9 _ rfl) (by simp[Value.oneCell']) (by unfold maxLen;omega) (by omega) (by simp;omega);obtain⟨g',cap',rfl⟩:=ownsRow_succ hown';have hown2:=Du hown' (base':=B) (by omega);have hrow':W.drew.ownsRow B 9 1 v pre.length (Ad (pre.map Lib.itoa)):=Du hrow (by omega);obtain⟨hv1,hv2,hr2,hk2,hb2⟩:=(show Boxed W.drew B 22 v from hv).appended (by decide) hrow' (by show B≤W.heap.size;omega) zl hown2 hgrow;have hca:=(hv.alloc (.cells #[.string ⟨(Lib.decDigits m).toArray⟩] 9)).cell;have hc1:=hv1.cell;have hf1:=hv1.frozen;have hcb2:=(((show Boxed W.drew (B+1) 3 (.int .i64 c) from hcb).alloc (.cells #[.string ⟨(Lib.decDigits m).toArray⟩] 9)).kept hgrow (G1 hrow (by omega))).kept (grownBy_setCell' w1 B (.slice (some ⟨g',0,none⟩) (pre.length+1) cap')) (by simp);have hr3:=hown'.kept (grownBy_setCell' w1 B (.slice (some ⟨g',0,none⟩) (pre.length+1) cap')) (.inr (hv1.not_row (by decide) hown').symm);have hit:Ad ((pre++[(m:Int)]).map Lib.itoa)=Ad (pre.map Lib.itoa)++[.string ⟨(Lib.decDigits m).toArray⟩]:=by simp[Ad,Lib.itoa_nonneg]
  have hfin:=zh (show KeepsFrom W0.heap.size W (w1.setCell ⟨B,0,none⟩ (.slice (some ⟨g',0,none⟩) (pre.length+1) cap'))∧Nq B (B+1) W (w1.setCell ⟨B,0,none⟩ (.slice (some ⟨g',0,none⟩) (pre.length+1) cap'))∧zBe B w c (pre++[(m:Int)]) (w1.setCell ⟨B,0,none⟩ (.slice (some ⟨g',0,none⟩) (pre.length+1) cap')) from
   ⟨((KeepsOthers.drew W).trans hk2).from _,⟨((Below.refl B W).drew).trans hb2,hcb2.cell.trans hcb.cell.symm⟩,⟨_,hv2,by rw[hit,List.length_append];exact hr3⟩,hcb2,hbw.trans (((Below.refl B W).drew).trans hb2),Nat.le_trans hsz hb2.size⟩)
  clear hit hr3 hcb2 hown2 hr2 hown' hgrow hv2 hk2 hb2
  gi_wp2
  refine wpIn_region_any hmx ?_;refine wpAnyIn_ready (rs:=[0,1]) (by kernel_rfl) (by simp) ?_;refine AllReadyIn.cons rfl (fun K hK=>?_) ?_
  ·go_simp;refine hK _ _ ?_
   refine wpAnyIn_ready (rs:=[1]) (by kernel_rfl) (by simp) ?_;refine AllReadyIn.cons rfl (fun K hK=>?_) AllReadyIn.nil;go_simp;refine hK _ _ ?_;refine wpAnyIn_ready (rs:=[2]) (by kernel_rfl) (by simp) ?_;refine AllReadyIn.cons rfl (fun K hK=>?_) AllReadyIn.nil;go_simp;refine⟨trivial,?_⟩;refine(CallsIn.inRound l (callsIn_wide.2 (KI.out _))).mono ?_;rintro e w'⟨rfl,rfl⟩;refine hK _ _ ?_;refine wpAnyIn_ready (rs:=[3]) (by kernel_rfl) (by simp) ?_;refine AllReadyIn.cons rfl (fun K hK=>?_) AllReadyIn.nil;go_simp;refine hK _ _ ?_;refine wpAnyIn_ready (rs:=[4]) (by kernel_rfl) (by simp) ?_;refine AllReadyIn.cons rfl (fun K hK=>?_) AllReadyIn.nil;refine Mi rfl (Gj (.tmp 15) (.tmp 18) 22 rfl _ _ rfl rfl hrun ?_);refine hK _ _ ?_;refine wpAnyIn_ready (rs:=[5]) (by kernel_rfl) (by simp) ?_;refine AllReadyIn.cons rfl (fun K hK=>?_) AllReadyIn.nil;go_simp;refine hK _ _ ?_;refine wpAnyIn_done (by kernel_rfl) ?_ _;exact hfin.out
  refine AllReadyIn.cons rfl (fun K hK=>?_) AllReadyIn.nil;go_simp;refine hK _ _ ?_;refine wpAnyIn_ready (rs:=[0,2]) (by kernel_rfl) (by simp) ?_;refine AllReadyIn.cons rfl (fun K hK=>?_) ?_
  ·go_simp;refine hK _ _ ?_
   refine wpAnyIn_ready (rs:=[2]) (by kernel_rfl) (by simp) ?_;refine AllReadyIn.cons rfl (fun K hK=>?_) AllReadyIn.nil;go_simp;refine⟨trivial,?_⟩;refine(CallsIn.inRound l (callsIn_wide.2 (KI.out _))).mono ?_;rintro e w'⟨rfl,rfl⟩;refine hK _ _ ?_;refine wpAnyIn_ready (rs:=[3]) (by kernel_rfl) (by simp) ?_;refine AllReadyIn.cons rfl (fun K hK=>?_) AllReadyIn.nil;go_simp;refine hK _ _ ?_;refine wpAnyIn_ready (rs:=[4]) (by kernel_rfl) (by simp) ?_;refine AllReadyIn.cons rfl (fun K hK=>?_) AllReadyIn.nil;refine Mi rfl (Gj (.tmp 15) (.tmp 18) 22 rfl _ _ rfl rfl hrun ?_);refine hK _ _ ?_;refine wpAnyIn_ready (rs:=[5]) (by kernel_rfl) (by simp) ?_;refine AllReadyIn.cons rfl (fun K hK=>?_) AllReadyIn.nil;go_simp;refine hK _ _ ?_;refine wpAnyIn_done (by kernel_rfl) ?_ _;exact hfin.out
  refine AllReadyIn.cons rfl (fun K hK=>?_) AllReadyIn.nil;go_simp;refine⟨trivial,?_⟩;refine(CallsIn.inRound l (callsIn_wide.2 (KI.out _))).mono ?_;rintro e w'⟨rfl,rfl⟩;refine hK _ _ ?_;refine wpAnyIn_ready (rs:=[0,3]) (by kernel_rfl) (by simp) ?_;refine AllReadyIn.cons rfl (fun K hK=>?_) ?_
  ·go_simp;refine hK _ _ ?_
   refine wpAnyIn_ready (rs:=[3]) (by kernel_rfl) (by simp) ?_;refine AllReadyIn.cons rfl (fun K hK=>?_) AllReadyIn.nil;go_simp;refine hK _ _ ?_;refine wpAnyIn_ready (rs:=[4]) (by kernel_rfl) (by simp) ?_;refine AllReadyIn.cons rfl (fun K hK=>?_) AllReadyIn.nil;refine Mi rfl (Gj (.tmp 15) (.tmp 18) 22 rfl _ _ rfl rfl hrun ?_);refine hK _ _ ?_;refine wpAnyIn_ready (rs:=[5]) (by kernel_rfl) (by simp) ?_;refine AllReadyIn.cons rfl (fun K hK=>?_) AllReadyIn.nil;go_simp;refine hK _ _ ?_;refine wpAnyIn_done (by kernel_rfl) ?_ _;exact hfin.out
  refine AllReadyIn.cons rfl (fun K hK=>?_) AllReadyIn.nil;go_simp;refine hK _ _ ?_;refine wpAnyIn_ready (rs:=[0]) (by kernel_rfl) (by simp) ?_;refine AllReadyIn.cons rfl (fun K hK=>?_) AllReadyIn.nil;go_simp;refine hK _ _ ?_;refine wpAnyIn_ready (rs:=[4]) (by kernel_rfl) (by simp) ?_;refine AllReadyIn.cons rfl (fun K hK=>?_) AllReadyIn.nil;refine Mi rfl (Gj (.tmp 15) (.tmp 18) 22 rfl _ _ rfl rfl hrun ?_);refine hK _ _ ?_;refine wpAnyIn_ready (rs:=[5]) (by kernel_rfl) (by simp) ?_;refine AllReadyIn.cons rfl (fun K hK=>?_) AllReadyIn.nil;go_simp;refine hK _ _ ?_;refine wpAnyIn_done (by kernel_rfl) ?_ _;exact hfin.out
 case done=>
  rintro D ys W hD rfl⟨⟨v,hv,hrow⟩,_,hbw,hsz⟩hK;have hc:=hv.cell;obtain⟨ao,co,rfl⟩:=Aj hrow;obtain⟨ra,_,na,_⟩:=Ac.owned hrow;have hlen:=Ck c 16
  have KJ:=zh (Ry ao ((Ao c 16).length) co ((Ao c 16).map Lib.itoa) [44] W (by simp) ra na (by
   refine Nat.le_trans (Ko ((Ao c 16).map Lib.itoa) (fun x hx=>?_)) (by simp;omega);obtain⟨y,hy,rfl⟩:=List.mem_map.1 hx;have:=HNE.out y hy
   exact Lib.itoa_length_le y (by omega) (by omega)) (by omega))
  gi_wp2_with (refine⟨trivial,?_⟩;gi_at_call 128;refine(callsIn_wide.2 KJ.out).mono ?_;rintro e w2⟨rfl,hb2⟩)
  have hK2:w2.heap[D]?=some (.deferred (some [])):=(hb2.block D (Array.getElem?_eq_some_iff.1 hK).1).trans hK;refine⟨by simp,.inl ⟨_,_,rfl,run_takeDeferred hK2,?_⟩⟩;exact⟨_,results_tmp rfl _ _ _,by rw[HF.out];rfl,by rw[hB];exact(hbw.trans (hb2.mono (by omega))).trans (belowK_b (n₀:=B) (w:=w) (by omega) w2 D _ (.deferred none) (by omega) hK2 rfl rfl)⟩
 case stop=>
  rintro D c pre W _ _ h _;exact h.elim
theorem Te(ea:Nat→Addr)(c:Int)(w:World)(hg:Bh w ea [2]) :
 Calls prog 74 #[.int .i64 c] w fun e W'=>e=.returned (.string ⟨(Db c).toArray⟩)∧Below w.heap.size w W':=by
 cases hc:Bn c
 ·have he:Bm ea (Fn c)=.iface 346 (.pointer (some (ea 2))):=by rw[Fn,hc];exact Ae ea (by decide)
  have KC:=zh (Dt ea c w hg);rw[he] at KC;have HR:Hid (Db c=[]):=by unfold Hid;rw[Db,if_neg (by simp[hc])]
  clear he hc hg;go_enter func74,ntmps74;go_wp2_with (go_at_call 126;refine KC.out.mono ?_;rintro e w'⟨rfl,rfl⟩);go_ret;exact⟨by rw[HR.out];rfl,Below.refl _ _⟩
 ·obtain⟨k,rfl,hk⟩:=Ln hc
  by_cases h0:k=0
  ·subst h0
   have he:Bm ea (Fn ((0:Nat):Int))=.nilIface:=by rw[Fn,hc];exact Al ea
   have KC:=zh (Dt ea ((0:Nat):Int) w hg);rw[he] at KC;have HR:Hid (Db ((0:Nat):Int)=[45]):=by unfold Hid;rw[Db,if_pos hc,if_pos (by omega)]
   simp only[Int.cast_ofNat_Int] at KC HR ⊢;clear he hc hg;go_enter func74,ntmps74;go_wp2_with (go_at_call 126;refine KC.out.mono ?_;rintro e w'⟨rfl,rfl⟩);go_ret;exact⟨by rw[HR.out];rfl,Below.refl _ _⟩
  ·exact callsIn_wide.1 (zI4 ea k w hg hk h0)
end Go.Proofs.YtppfkokfnoeopaaGreatDoor
namespace Go.Proofs.YtppfkokfnoeopaaGreatDoor
open Go.RowKit Go.Proofs.Tryz
def t1(x:Nat):Nat:=(x/2&&&85)+(x&&&85)
def t2(x:Nat):Nat:=(x/4&&&51)+(x&&&51)
theorem J0(c k:Nat)(hc:c<65536)(hk:k<16):Ep (c:Int) ((k:Int)+1)=c.testBit k:=by
 have h1:Bn (c:Int)=true:=by simp only[Bn,decide_eq_true_eq];omega
 have h2:Aq ((k:Int)+1)=true:=by simp only[Aq,decide_eq_true_eq];omega
 rw[Ep,h1,h2,Bool.true_and,Bool.true_and,Int.toNat_natCast,show((k:Int)+1).toNat-1=k by omega]
theorem Kq(c k:Nat):c%2^(k+1)=c%2^k|||(if c.testBit k then 2^k else 0):=by
 apply Nat.eq_of_testBit_eq;intro i;rw[Nat.testBit_mod_two_pow,Nat.testBit_or,Nat.testBit_mod_two_pow]
 cases hb:c.testBit k
 ·rw[if_neg (by decide),Nat.zero_testBit,Bool.or_false]
  by_cases e:i=k
  ·subst e;rw[hb];simp
  ·congr 1;rw[decide_eq_decide];omega
 ·rw[if_pos rfl,Nat.testBit_two_pow]
  by_cases e:i=k
  ·subst e;rw[hb];simp
  ·rw[show decide (k=i)=false by simp;omega,Bool.or_false];congr 1;rw[decide_eq_decide];omega
theorem Kh(k:Nat):At ((k:Int)+1)=2^k:=by rw[At,show((k:Int)+1).toNat-1=k by omega]
theorem Pw(c:Nat)(hc:c<65536):∀k,k≤16→A6 (Ao c k)=c%2^k
 | 0,_=>by simp[Ao,A6,Nat.mod_one]
 | k+1,h=>by
  have ih:=Pw c hc k (by omega);have hb:=J0 c k hc (by omega);rw[Kq,←ih,Ao,hb]
  cases c.testBit k
  ·simp
  ·simp only[if_true];rw[A6,List.foldl_append];simp only[List.foldl_cons,List.foldl_nil];rw[Kh];rfl
theorem Tp(c:Nat)(hc:c<65536):A6 (Ao c 16)=c:=by rw[Pw c hc 16 zl];exact Nat.mod_eq_of_lt (by simpa using hc)
theorem Ic(c:Int):∀k,k≤16→∀x∈Ao c k,Aq x=true∧1≤x∧x≤k
 | 0,_,x,hx=>by cases hx
 | k+1,hk,x,hx=>by
  rw[Ao,List.mem_append] at hx
  rcases hx with hx|hx
  ·have:=Ic c k (by omega) x hx;exact⟨this.1,this.2.1,by omega⟩
  ·split at hx
   ·simp at hx;subst hx;exact⟨by simp only[Aq,decide_eq_true_eq];omega,by omega,by omega⟩
   ·cases hx
theorem U9(c:Nat)(hc:c<65536):∀k:Nat,k≤16→∃last:Int,0≤last∧last≤(k:Int)∧Ct ((Ao c k).map Lib.itoa)=some (c%2^k,last)
 | 0,_=>⟨0,by omega,by omega,by simp[Ao,Ct,Nat.mod_one]⟩
 | k+1,h=>by
  obtain⟨last,h1,h2,h3⟩:=U9 c hc k (by omega);have hb:=J0 c k hc (by omega);rw[Kq,Ao,hb]
  cases c.testBit k
  ·exact⟨last,h1,by omega,by simpa using h3⟩
  ·refine⟨(k:Int)+1,by omega,by omega,?_⟩
   simp only[if_true,List.map_append,List.map_cons,List.map_nil];rw[Ev,h3,G3,Option.bind_some,U8 (n:=(k:Int)+1) rfl (by simp only[Aq,decide_eq_true_eq];omega) (by simp only;omega)];simp only[Option.map_some];rw[Kh]
theorem Et(c:UInt8):∀l:List (List UInt8),Lib.join l [c]=Cv c l
 | []=>rfl
 | [x]=>by simp[Lib.join,List.intercalate,Cv]
 | x::y::r=>by
  have ih:=Et c (y::r);rw[Er c x (by simp),←ih];simp[Lib.join,List.intercalate,List.intersperse]
theorem Hh{c:UInt8}(hc:c.toNat<45∨c.toNat=46∨c.toNat=47∨57<c.toNat)(n:Int):c∉Lib.itoa n:=by
 intro h;unfold Lib.itoa at h
 split at h
 ·rcases List.mem_cons.1 h with rfl|h
  ·revert hc;decide
  ·have:=Dq _ c h;omega
 ·have:=Dq _ c h;omega
theorem zFi(l:List Int)(hl:l≠[]):Az 44 (Lib.join (l.map Lib.itoa) [44])=l.map Lib.itoa:=by
 rw[Et];exact Kj 44 _ (by simpa using hl) (fun w hw=>by obtain⟨n,_,rfl⟩:=List.mem_map.1 hw;exact Hh (by decide) n)
theorem zDx(c:Nat)(hc:c<65536):Cq (Db c)=some c:=by
 have hcb:Bn (c:Int)=true:=by simp only[Bn,decide_eq_true_eq];omega
 rw[Db,if_pos hcb]
 by_cases h0:c=0
 ·subst h0;rfl
 ·rw[if_neg (by omega)]
  have hne:Ao c 16≠[]:=fun e=>h0 (by have:=Tp c hc;rw[e] at this;exact this.symm)
  have hcut:=zFi _ hne
  have hs:Lib.join ((Ao c 16).map Lib.itoa) [44]≠[45]:=fun e=>by
   rw[e] at hcut;have h1:Az 44 [45]=[[45]]:=rfl;rw[h1] at hcut;have hm:([45]:List UInt8)∈(Ao c 16).map Lib.itoa:=by rw[←hcut];simp
   obtain⟨n,hn,hi⟩:=List.mem_map.1 hm;have:=(Ic c 16 zl n hn).2.1;unfold Lib.itoa at hi;rw[if_neg (by omega)] at hi;have:=Dq n.toNat 45 (by rw[hi];simp);exact absurd this.1 (by decide)
  obtain⟨last,_,_,h3⟩:=U9 c hc 16 zl;rw[Cq,if_neg hs,hcut,h3,Option.map_some,Nat.mod_eq_of_lt (by simpa using hc)]
theorem zJ3{c k:Nat}(h:c.testBit k=true):c|||2^k=c:=by
 apply Nat.eq_of_testBit_eq;intro i;rw[Nat.testBit_or,Nat.testBit_two_pow]
 by_cases e:k=i
 ·subst e;simp[h]
 ·simp[e]
theorem zGu{c k:Nat}(h:c.testBit k=false):c|||2^k=c+2^k:=by
 have hr:c%2^(k+1)=c%2^k:=by rw[Kq,h];simp
 have hp:=Nat.two_pow_pos k;have hlt:c%2^k<2^k:=Nat.mod_lt _ hp;have hc:c=2^(k+1)*(c/2^(k+1))+c%2^k:=by rw[←hr];exact(Nat.div_add_mod _ _).symm
 generalize c/2^(k+1)=q at hc;generalize c%2^k=r at *;have e1:=Nat.two_pow_add_eq_or_of_lt (i:=k+1) (b:=r) (by rw[Nat.pow_succ];omega) q;have e2:=Nat.two_pow_add_eq_or_of_lt (i:=k+1) (b:=2^k+r) (by rw[Nat.pow_succ];omega) q;have e3:=Nat.two_pow_add_eq_or_of_lt (i:=k) (b:=r) hlt 1;rw[Nat.mul_one] at e3;rw[hc,e1,Nat.or_assoc,Nat.or_comm r,←e3,←e2,←e1];omega
theorem J1(a b i:Nat):(Fp a b).testBit i=(a.testBit i&&!b.testBit i):=by
 rw[Fp,Nat.testBit_xor,Nat.testBit_and]
 cases a.testBit i<;>cases b.testBit i<;>rfl
theorem zIe(c b:Nat):Fp (c|||b) b=Fp c b:=by
 apply Nat.eq_of_testBit_eq;intro i;rw[J1,J1,Nat.testBit_or]
 cases c.testBit i<;>cases b.testBit i<;>rfl
theorem zGb{c k:Nat}(h:c.testBit k=true):Fp c (2^k)+2^k=c:=by
 have h1:(Fp c (2^k)).testBit k=false:=by rw[J1,Nat.testBit_two_pow];simp
 rw[←zGu h1];apply Nat.eq_of_testBit_eq;intro i;rw[Nat.testBit_or,J1,Nat.testBit_two_pow]
 by_cases e:k=i
 ·subst e;simp[h]
 ·simp[e]
theorem zGc{c k:Nat}(h:c.testBit k=false):Fp c (2^k)=c:=by
 apply Nat.eq_of_testBit_eq;intro i;rw[J1,Nat.testBit_two_pow]
 by_cases e:k=i
 ·subst e;simp[h]
 ·simp[e]
end Go.Proofs.YtppfkokfnoeopaaGreatDoor
