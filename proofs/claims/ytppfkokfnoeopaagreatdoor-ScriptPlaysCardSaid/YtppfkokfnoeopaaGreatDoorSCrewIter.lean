/- A part of a proof. -/
import Derived.RangeFuncNested
import Derived.RangeFuncFrom
import Derived.Maps.AppendAt
import Derived.RangeFuncBound
import Derived.RangeFuncCalls
import Derived.RangeFuncLeaves
import Derived.Shelf.Abstract
import Derived.Shelf.RegionOpen
import Derived.OwnWalkIn
import Derived.TacticsInMore
import Derived.LoopNIn
import Derived.LoopIn
import Derived.Test.YtppfkokfnoeopaaGreatDoorSCrew
set_option maxRecDepth 400000
set_option maxHeartbeats 6400000
namespace Go.Proofs.YtppfkokfnoeopaaGreatDoor
open Go.RowKit Go.Proofs.Tryz
def Js{β:Type}(Bs:Option Nat)(J:β→World→Prop):Prop:=∀s W W' row,J s W→W.grownBy W' row→(∀r,row=some r→Bs=some r)→J s W'
def Ze{α:Type}(F:Fence)(n:Nat)(P:Program)(g:Nat)(lb:Array Value)(encs:α→Array Value)(Kp:World→World→Prop)(S Sp:List α→Prop)(Bs:Option Nat)(w:World):Prop:=
 ∀(l:Nat) (J Jx:List α→World→Prop) (W:World),Below w.heap.size w W→Js Bs J→Js Bs Jx→
  (∀pre x W1,J pre W1→Sp (pre++[x])→YieldAt F (n-1) P l (encs x) W1 fun e W'=>
   (e=.returned (.bool true)∧J (pre++[x]) W'∧Kp W1 W')∨(e=.returned (.bool false)∧Jx (pre++[x]) W'))→
  J [] W→
  CallsIn F n P g (#[.func (.yield l) #[] #[]]++lb) W fun e W'=>(∃v,e=.returned v)∧((∃xs,S xs∧J xs W')∨(∃pre,Sp pre∧Jx pre W'))
theorem Qa{W W':World}{row Bs:Option Nat}{k:Nat}{o:Obj}(hg:W.grownBy W' row)(hr:∀r,row=some r→Bs=some r)(hne:Bs≠some k)(hk:W.heap[k]?=some o):W'.heap[k]?=some o:=
 (hg.block k (Array.getElem?_eq_some_iff.1 hk).1 (fun e=>hne (hr k e.symm))).trans hk
def Gp(l D:Nat)(r:Loop)(W:World):Prop:=W.heap[l]?=some (.loop r)∧W.heap[D]?=some (.deferred (some []))
theorem Gp.grown{l D:Nat}{r:Loop}{W W':World}{row Bs:Option Nat}(h:Gp l D r W)(hg:W.grownBy W' row)(hr:∀q,row=some q→Bs=some q)(h1:Bs≠some l)(h2:Bs≠some D):Gp l D r W':=
 ⟨Qa hg hr h1 h.1,Qa hg hr h2 h.2⟩
theorem Gp.kept{l D B:Nat}{r:Loop}{W W':World}(h:Gp l D r W)(hk:KeepsFrom B W W')(h1:B≤l)(h2:B≤D):Gp l D r W':=
 ⟨hk.same l _ h1 h.1 rfl,hk.same D _ h2 h.2 rfl⟩
variable {F:Fence} {n:Nat} {P:Program}
theorem Fw{α:Type}{g:Operand}{ps:Array Tmp}{assign body:Code}{Q:Exit→Act→World→Prop}{a:Act}{w:World}
 (hro:F.round=none) (h1:1≤n) {gf:Nat} {lb:Array Value} (hg:a.eval g=.func (.func gf) #[] lb) (hFg:F.fn gf) (eg:∀args w,(callFunc gf args).run P w=.ok (.enter gf args) w)
 {encs:α→Array Value} {Kp:World→World→Prop} {S Sp:List α→Prop} {Bs:Option Nat} (hseq:Ze F (n-1) P gf lb encs Kp S Sp Bs w) (hBs:∀b,Bs=some b→b<w.heap.size)
 (hKt:∀{A B C:World},Kp A B→Kp B C→Kp A C) (hKb:∀(W:World) (l:Nat) (o o':Obj),w.heap.size≤l→W.heap[l]?=some o→o.isCells=false→o.isWalk=false→Kp W (W.putObj l o')) (hps:∀x,(encs x).size=ps.size)
 (I:List α→World→Prop) (Ix:Code→List α→World→Prop) (hI:OwnFrom w.heap.size I) (hIx:∀c,OwnFrom w.heap.size (Ix c)) (hIb:Js Bs I) (hIxb:∀c,Js Bs (Ix c)) (h0:I [] w)
 (Ax:α→Act→World→Prop) (hAx:∀x a',OwnFrom w.heap.size (fun(_:Unit) W=>Ax x a' W))
 (hassign:∀(l:Nat) (pre:List α) (x:α) (W:World) (K:Act→World→Prop),I pre W→(∀a' W',KeepsFrom w.heap.size W W'→Kp W W'→I pre W'→Ax x a' W'→K a' W')→
  assign.wpIn (F.inRound l) (n-1-1) P (Exit.then K (fun _ _ _=>False)) { tmps:=(ps.zip (encs x)).foldl (fun t (p,v)=>t.setIfInBounds p v) a.tmps,defers:=[] } W)
 (hbody:∀(l:Nat) (pre:List α) (x:α) (a':Act) (W:World),I pre W→Ax x a' W→Sp (pre++[x])→body.wpIn (F.inRound l) (n-1-1) P (ownPostG w.heap.size Kp I Ix (pre++[x]) W) a' W)
 (hdone:∀(D:Nat) (xs:List α) (W:World),w.heap.size≤D→S xs→I xs W→W.heap[D]?=some (.deferred (some []))→Q .normal { a with defers:={ target:=.collected D,args:=#[] }::a.defers } W)
 (hstop:∀(D:Nat) (c:Code) (pre:List α) (W:World),w.heap.size≤D→Sp pre→Ix c pre W→W.heap[D]?=some (.deferred (some []))→c.wpIn F n P Q { a with defers:={ target:=.collected D,args:=#[] }::a.defers } W) :
 (Code.rangeFunc g ps assign body).wpIn F n P Q a w:=by
 refine wpIn_rangeFunc fun fn hfn=>?_
 rw[hro]
 let D:=w.heap.size
 let l:=w.heap.size+1
 let rec0:LoopState→Option Code→Loop:=fun st pe=>{ state:=st,pending:=pe,fn,tmps:=a.tmps,params:=ps,assign,body,defers:=D }
 let W1:=(w.alloc (.deferred (some []))).alloc (.loop (rec0 .ready none))
 have hbook:Gp l D (rec0 .ready none) W1:=by
  refine⟨?_,?_⟩
  ·have:=World.alloc_heap_new (w.alloc (.deferred (some []))) (.loop (rec0 .ready none))
   rwa [World.size_alloc] at this
  ·exact(Below.heap_alloc _ _ _ (by simp[D])).trans (World.alloc_heap_new w _)
 have hI1:I [] W1:=hI.alloc _ (hI.alloc _ h0);have hb1:Below w.heap.size w W1:=((Below.refl _ w).alloc zl _).alloc (by simp) _;have hl:Bs≠some l:=fun e=>by have:=hBs _ e;omega
 have hD:Bs≠some D:=fun e=>by have:=hBs _ e;omega
 refine⟨l,[{ target:=.collected D,args:=#[] }],W1,{ target:=.fn (.func gf) lb,args:=#[.func (.yield l) #[] #[]] },W1,gf,#[.func (.yield l) #[] #[]]++lb,W1,run_enterLoop_outer _ _ _ _ _,?_,?_,?_,fun _=>h1,?_⟩
 ·simp only[resolve,hg];simp[go_sem]
 ·intro f' hf';simp[Target.leads] at hf';subst hf';exact hFg
 ·simp[invoke,go_sem,eg]
 refine(hseq l (fun pre W=>I pre W∧Gp l D (rec0 .ready none) W) (fun pre W=>∃c,Ix c pre W∧Gp l D (rec0 .done (some c)) W) W1 hb1
  (fun s A B row hs hg' hr=>⟨hIb s A B row hs.1 hg' hr,hs.2.grown hg' hr hl hD⟩)
  (fun s A B row ⟨c,hc,hk⟩ hg' hr=>⟨c,hIxb c s A B row hc hg' hr,hk.grown hg' hr hl hD⟩) ?_ ⟨hI1,hbook⟩).mono ?_
 ·rintro pre x W ⟨hi,hk⟩ hlen
  refine⟨fn,_,assign,body,run_yield (P:=P) (args:=encs x) hk.1 (hps x),roundIn_of_wpIn hfn (hassign _ pre x W _ hi ?_)⟩;intro a' Wa hkfa hkpa hia hax;have hka:Gp l D (rec0 .ready none) Wa:=hk.kept hkfa (by show w.heap.size≤w.heap.size+1;omega) zl;have hlt:l<Wa.heap.size:=(Array.getElem?_eq_some_iff.1 hka.1).1;have hle:w.heap.size≤l:=by show w.heap.size≤w.heap.size+1;omega
  have hne:D≠l:=by show w.heap.size≠w.heap.size+1;omega
  have hbusy:Gp l D { rec0 .ready none with state:=.busy } (Wa.putObj l (.loop { rec0 .ready none with state:=.busy })):=⟨World.putObj_heap_same hlt,(World.putObj_heap_other hne).trans hka.2⟩;refine⟨_,run_beginRound hka.1 rfl,wpIn_mono (hbody _ pre x a' _ (hI.putObj _ hia hle hka.1 rfl) ((hAx x a').putObj (s:=()) _ hax hle hka.1 rfl) hlen) ?_⟩;have hw2:Kp Wa (Wa.putObj l (.loop { rec0 .ready none with state:=.busy })):=hKb _ _ _ _ hle hka.1 rfl rfl
  have hend:∀(jump:Option Code) (W3:World),KeepsFrom w.heap.size (Wa.putObj l (.loop { rec0 .ready none with state:=.busy })) W3→
   (Instr.endRound l jump).run P W3=.ok (.bool jump.isNone) (W3.putObj l (.loop (rec0 (if jump.isNone then .ready else .done) jump)))∧W3.heap[l]?=some (.loop { rec0 .ready none with state:=.busy })
    ∧Gp l D (rec0 (if jump.isNone then .ready else .done) jump) (W3.putObj l (.loop (rec0 (if jump.isNone then .ready else .done) jump))):=fun jump W3 hk3=>by
   have hb3:=hbusy.kept hk3 hle zl;exact⟨run_endRound (P:=P) jump hb3.1,hb3.1,World.putObj_heap_same (Array.getElem?_eq_some_iff.1 hb3.1).1,(World.putObj_heap_other hne).trans hb3.2⟩
  rintro e a3 W3 hp
  have leave:∀c:Code,KeepsFrom w.heap.size (Wa.putObj l (.loop { rec0 .ready none with state:=.busy })) W3→Ix c (pre++[x]) W3→
   ∃c',Ix c' (pre++[x]) (W3.putObj l (.loop (rec0 .done (some c))))∧Gp l D (rec0 .done (some c')) (W3.putObj l (.loop (rec0 .done (some c)))):=fun c hk3 hi3=>by
   obtain⟨_,hl3,hb3⟩:=hend (some c) W3 hk3;exact⟨c,(hIx c).putObj _ hi3 hle hl3 rfl,hb3⟩
  cases e with
  | normal=>
   obtain⟨hr,hl3,hb3⟩:=hend none W3 hp.1;exact⟨_,_,hr,.inl ⟨rfl,⟨hI.putObj _ hp.2.2 hle hl3 rfl,hb3⟩,hKt hkpa (hKt (hKt hw2 hp.2.1) (hKb _ _ _ _ hle hl3 rfl rfl))⟩⟩
  | ret=>exact⟨_,_,(hend (some .ret) W3 hp.1).1,.inr ⟨rfl,leave _ hp.1 hp.2⟩⟩
  | exit id=>exact⟨_,_,(hend (some (.exit id)) W3 hp.1).1,.inr ⟨rfl,leave _ hp.1 hp.2⟩⟩
  | goto t=>exact⟨_,_,(hend (some (.goto t)) W3 hp.1).1,.inr ⟨rfl,leave _ hp.1 hp.2⟩⟩
  | panic ch=>exact hp.elim
  | outgrown=>exact hp.elim
 ·have hle:w.heap.size≤l:=by show w.heap.size≤w.heap.size+1;omega
  have hne:D≠l:=by show w.heap.size≠w.heap.size+1;omega
  rintro e W2⟨⟨v,rfl⟩,(⟨xs,hS,hi,hk⟩|⟨pre,hSp,c,hi,hk⟩)⟩
  ·exact⟨none,_,run_endLoop (P:=P) hk.1 (by simp[rec0]),hdone _ xs _ zl hS (hI.putObj _ hi hle hk.1 rfl) ((World.putObj_heap_other hne).trans hk.2)⟩
  ·exact⟨some c,_,run_endLoop (P:=P) hk.1 (by simp[rec0]),hstop _ c pre _ zl hSp ((hIx c).putObj _ hi hle hk.1 rfl) ((World.putObj_heap_other hne).trans hk.2)⟩
end Go.Proofs.YtppfkokfnoeopaaGreatDoor
namespace Go.Proofs.YtppfkokfnoeopaaGreatDoor
open Go.RowKit Go.Shelf Go.Proofs.Tryz
attribute [local go_sem] Oper.semAt_some
def Ao(c:Int):Nat→List Int
 | 0=>[]
 | k+1=>Ao c k++if Ep c ((k:Int)+1) then[(k:Int)+1] else[]
theorem Nd{c:Int}{k:Nat}(h:Ep c ((k:Int)+1)=true):Ao c (k+1)=Ao c k++[(k:Int)+1]:=by rw[Ao,if_pos h]
theorem Pb{c:Int}{k:Nat}(h:Ep c ((k:Int)+1)=false):Ao c (k+1)=Ao c k:=by rw[Ao,if_neg (by simp[h]),List.append_nil]
theorem Ck(c:Int):∀k,(Ao c k).length≤k
 | 0=>Nat.le_refl _
 | k+1=>by
  have:=Ck c k;rw[Ao,List.length_append]
  split<;>simp<;>omega
theorem Mz(c:Int)(k:Nat):∀m,k≤m→Ao c k <+: Ao c m
 | 0,h=>by obtain rfl:k=0:=by omega
           exact List.prefix_refl _
 | m+1,h=>by
  by_cases e:k=m+1
  ·subst e;exact List.prefix_refl _
  ·exact(Mz c k m (by omega)).trans (by rw[Ao];exact List.prefix_append _ _)
def Nq(n₀ Bc:Nat)(A B:World):Prop:=Below n₀ A B∧B.cell? ⟨Bc,0,none⟩=A.cell? ⟨Bc,0,none⟩
theorem V6{n₀ Bc:Nat}{A B C:World}(h:Nq n₀ Bc A B)(k:Nq n₀ Bc B C):Nq n₀ Bc A C:=⟨h.1.trans k.1,k.2.trans h.2⟩
theorem zBx{n₀ Bc:Nat}{w:World}(hn:n₀≤w.heap.size)(hB:Bc<w.heap.size)(W:World)(l:Nat)(o o':Obj)(hl:w.heap.size≤l)(h:W.heap[l]?=some o)(h1:o.isCells=false)(h2:o.isWalk=false):Nq n₀ Bc W (W.putObj l o'):=
 ⟨belowK_b hn W l o o' hl h h1 h2,(belowK_b (n₀:=w.heap.size) zl W l o o' hl h h1 h2).cell (p:=⟨Bc,0,none⟩) hB⟩
theorem U0(ea:Nat→Addr)(n:Nat)(hn:1≤n)(l Bc n₀:Nat)(c:Int)(J Jx:List Int→World→Prop)
 (hY:∀pre x W,J pre W→pre++[x] <+: Ao c 16→YieldAt Fence.wide (n-1) prog l #[.int .i64 x] W fun e W'=>
  (e=.returned (.bool true)∧J (pre++[x]) W'∧Nq n₀ Bc W W')∨(e=.returned (.bool false)∧Jx (pre++[x]) W'))
 (W:World) (hBc:W.cell? ⟨Bc,0,none⟩=some (.int .i64 c)) (hG:∀W',Below n₀ W W'→Bh W' ea [2]) (h0:J [] W) :
 CallsIn Fence.wide n prog 170 #[.func (.yield l) #[] #[],.pointer (some ⟨Bc,0,none⟩)] W fun e W'=>(∃v,e=.returned v) ∧
  ((∃ys,ys=Ao c 16∧J ys W')∨(∃pre,pre <+: Ao c 16∧Jx pre W')):=by
 have HG:=zh hG;clear hG;refine callsIn_of_wp func170 rfl trivial ?_ rfl;simp only[ntmps170,List.size_toArray,List.length_cons,List.length_nil,Nat.reduceAdd,Nat.reduceSub,Array.replicate_succ,Array.replicate_zero,List.push_toArray,List.append_toArray,List.nil_append,List.cons_append]
 gi_wp2
 gi_loopw [4] (fun i wr=>∃k:Nat,k≤16∧i=.int .i64 k∧J (Ao c k) wr∧Nq n₀ Bc W wr) (fun i _=>16-(intOf i).toNat)
 case atStart=>exact⟨0,Nat.zero_le _,rfl,h0,Below.refl _ _,rfl⟩
 case round=>
  obtain⟨k,hk,rfl,hJs,hkp⟩:=hrel;have hcx:=hkp.2.trans hBc;have hg:=HG.out wr hkp.1
  by_cases hlt:k<16
  ·have KH:=zh (callsIn_wide (n:=n-1) |>.2 (zBq ea c ((k:Int)+1) wr hg))
   cases hh:Ep c ((k:Int)+1)
   ·have HS:=zh (Pb hh)
    rw[hh] at KH;clear hh hg
    gi_wp2_with (refine⟨trivial,?_⟩;gi_at_call 171;refine KH.out.mono ?_;rintro e w'⟨rfl,rfl⟩)
    refine⟨fun _ h=>(by cases h),?_⟩
    gi_wp2
    go_roundw
    case rel=>exact⟨k+1,by omega,by go_num,by rw[HS.out];exact hJs,hkp⟩
    case measure=>simp[intOf];omega
   ·have HS:=zh (Nd hh)
    have HP:=zh (Mz c (k+1) 16 (by omega));rw[hh] at KH;obtain⟨fn,tmps,assign,body,hy,hR⟩:=hY _ ((k:Int)+1) wr hJs (by rw[←HS.out];exact HP.out);clear hh hg
    gi_wp2_with (refine⟨trivial,?_⟩;gi_at_call 171;refine KH.out.mono ?_;rintro e w'⟨rfl,rfl⟩)
    refine hR.mono ?_;rintro e W3 (⟨rfl,hJ3,hk3⟩|⟨rfl,hJx3⟩)
    ·gi_wp2
     go_roundw
     case rel=>exact⟨k+1,by omega,by go_num,by rw[HS.out];exact hJ3,V6 hkp hk3⟩
     case measure=>simp[intOf];omega
    ·gi_wp2
     refine bodyPost_ret (results_none rfl _ _ _) rfl ?_;exact⟨⟨_,rfl⟩,.inr ⟨_,by rw[←HS.out];exact HP.out,hJx3⟩⟩
  ·obtain rfl:k=16:=by omega
   gi_wp2
   go_end0;exact⟨⟨_,rfl⟩,.inl ⟨_,rfl,hJs⟩⟩
theorem U1(c:Int)(w:World) :
 Calls prog 127 #[.int .i64 c] w fun e w'=>e=.returned (.func (.func 170) #[] #[.pointer (some ⟨w.heap.size,0,none⟩)])∧w'=w.alloc (.cells #[.int .i64 c] 3):=by
 go_enter func127,ntmps127;go_wp2;go_ret;exact⟨rfl,rfl⟩
theorem Yd(ea:Nat→Addr)(n:Nat)(hn:1≤n)(Bc n₀:Nat)(c:Int)(w:World)(hBc:Bc<w.heap.size)(hn₀:n₀≤w.heap.size)(hc:w.cell? ⟨Bc,0,none⟩=some (.int .i64 c))(hG:∀W',Below n₀ w W'→Bh W' ea [2]) :
 SeqStopsK Fence.wide n prog 170 #[.pointer (some ⟨Bc,0,none⟩)] (fun x:Int=>#[Value.int .i64 x]) (Nq n₀ Bc) (fun ys=>ys=Ao c 16) (fun pre=>pre <+: Ao c 16) 16 w:=fun l J Jx W hW _ _ hY h0=>
 U0 ea n hn l Bc n₀ c J Jx (fun pre x W h hp=>hY pre x W h (by have:=hp.length_le;have:=Ck c 16;simp at *;omega)) W ((hW.cell (p:=⟨Bc,0,none⟩) hBc).trans hc) (fun W' h=>hG W' ((hW.mono hn₀).trans h)) h0
theorem zDa(ea:Nat→Addr)(n:Nat)(hn:1≤n)(Bc n₀:Nat)(c:Int)(w:World)(hBc:Bc<w.heap.size)(hn₀:n₀≤w.heap.size)(hc:w.cell? ⟨Bc,0,none⟩=some (.int .i64 c))(hG:∀W',Below n₀ w W'→Bh W' ea [2]) :
 Ze Fence.wide n prog 170 #[.pointer (some ⟨Bc,0,none⟩)] (fun x:Int=>#[Value.int .i64 x]) (Nq n₀ Bc) (fun ys=>ys=Ao c 16) (fun pre=>pre <+: Ao c 16) none w:=fun l J Jx W hW _ _ hY h0=>
 U0 ea n hn l Bc n₀ c J Jx hY W ((hW.cell (p:=⟨Bc,0,none⟩) hBc).trans hc) (fun W' h=>hG W' ((hW.mono hn₀).trans h)) h0
end Go.Proofs.YtppfkokfnoeopaaGreatDoor
namespace Go.Proofs.YtppfkokfnoeopaaGreatDoor
open Go.RowKit Go.Shelf Go.Proofs.Tryz
attribute [local go_sem] Oper.semAt_some
theorem Ll:(prog.info? 3).map (fun i=>(i.zero,i.size,i.bytes))=some (some (.int .i64 0),1,8):=by kernel_rfl
theorem Du{W:World}{base base':Nat}{e:TypeId}{size:Nat}{v:Value}{k:Nat}{xs:List Value}(h:W.ownsRow base e size v k xs)(hb:base'≤base):W.ownsRow base' e size v k xs:=
 ⟨h.1,h.2.imp id (fun⟨g,cap,cur,e1,e2,e3⟩=>⟨g,cap,cur,e1,Nat.le_trans hb e2,e3⟩)⟩
theorem G1{W:World}{base:Nat}{e:TypeId}{size:Nat}{v:Value}{k:Nat}{xs:List Value}(h:W.ownsRow base e size v k xs){b:Nat}(hb:b<base):some b≠v.ownBlock:=fun e'=>by
 have:=(h.lt b e'.symm).1;omega
theorem zIf(ea:Nat→Addr)(c:Int)(w:World)(hg:Bh w ea [2]) :
 CallsIn Fence.wide 3 prog 138 #[.int .i64 c] w fun e W'=>∃v,e=.returned v∧W'.ownsRow w.heap.size 3 1 v (Ao c 16).length (Aa (Ao c 16))∧Below w.heap.size w W':=by
 have HG:=zh (fun(W:World) (h:Below w.heap.size w W)=>hg.below h);clear hg;obtain⟨i0,hi,hz0,hz1,hz2⟩:=info_parts Ll;refine callsIn_of_wp_marks func138 rfl trivial ?_ rfl;simp only[ntmps138,List.size_toArray,List.length_cons,List.length_nil,Nat.reduceAdd,Nat.reduceSub,Array.replicate_succ,Array.replicate_zero,List.push_toArray,List.append_toArray,List.nil_append,List.cons_append]
 gi_wp2_with (refine⟨trivial,?_⟩;gi_at_call 127;refine(callsIn_wide.2 (U1 _ _)).mono ?_;rintro e w'⟨rfl,rfl⟩)
 have hB0:Below w.heap.size w ((w.alloc (.cells #[.slice none 0 0] 72)).alloc (.cells #[.int .i64 c] 3)):=((Below.refl _ w).alloc zl _).alloc (by simp) _
 have hb:((w.alloc (.cells #[.slice none 0 0] 72)).alloc (.cells #[.int .i64 c] 3)).cell? ⟨w.heap.size+1,0,none⟩=some (.int .i64 c):=by
  have:=(Boxed.new (w.alloc (.cells #[.slice none 0 0] 72)) 3 (.int .i64 c)).cell;rw[World.size_alloc] at this;exact this
 have hbx0:Boxed ((w.alloc (.cells #[.slice none 0 0] 72)).alloc (.cells #[.int .i64 c] 3)) w.heap.size 72 (.slice none 0 0):=(Boxed.new w _ _).alloc _
 have hbx1:Boxed ((w.alloc (.cells #[.slice none 0 0] 72)).alloc (.cells #[.int .i64 c] 3)) (w.heap.size+1) 3 (.int .i64 c):=by
  have:=Boxed.new (w.alloc (.cells #[.slice none 0 0] 72)) 3 (.int .i64 c);rw[World.size_alloc] at this;exact this
 have hsz:((w.alloc (.cells #[.slice none 0 0] 72)).alloc (.cells #[.int .i64 c] 3)).heap.size=w.heap.size+2:=by simp
 have HGW:=zh (fun(W':World) (h:Below w.heap.size ((w.alloc (.cells #[.slice none 0 0] 72)).alloc (.cells #[.int .i64 c] 3)) W')=>HG.out W' (hB0.trans h))
 refine wpIn_rangeFunc_ownF rfl (by omega) (gf:=170) (lb:=#[.pointer (some ⟨w.heap.size+1,0,none⟩)]) rfl trivial (enters_of func170 (by kernel_rfl) rfl)
  (Yd ea 2 (by omega) (w.heap.size+1) w.heap.size c _ (by simp) (by simp;omega) hb HGW.out) V6 (zBx (by simp;omega) (by simp)) zb (fun _=>rfl)
  (fun pre W=>(∃v,Boxed W w.heap.size 72 v∧W.ownsRow (w.heap.size+2) 3 1 v pre.length (pre.map (Value.int .i64))∧(v=.slice none 0 0↔pre=[]))∧Boxed W (w.heap.size+1) 3 (.int .i64 c)∧Below w.heap.size w W∧w.heap.size+2≤W.heap.size)
  (fun _ _ _=>False)
  (OwnFrom.and (Own.from (holdsRow_own (w.heap.size+2) w.heap.size 72 3 1 (fun pre=>pre.length) (fun pre=>pre.map (Value.int .i64)) (fun pre v=>v=.slice none 0 0↔pre=[])) _) (OwnFrom.and (Own.from (boxed_own _ _ _) _) (OwnFrom.and (ownFrom_below (by first|omega|(simp;done)|(simp;omega)) (by first|omega|(simp;done)|(simp;omega))) (fun _ _ _ _ hs hg _=>Nat.le_trans hs hg.size))))
  (fun _ _ _ _ _ hs _ _=>hs)
  ⟨⟨_,hbx0,World.ownsRow_nil _ _ _ _,by simp⟩,hbx1,hB0,by simp⟩
  (fun x=>{ tmps:=#[.int .i64 c,undef,.slice none 0 0,.pointer (some ⟨w.heap.size,0,none⟩),.int .i64 x,.int .i64 c,.func (.func 170) #[] #[.pointer (some ⟨w.heap.size+1,0,none⟩)],.int .i64 x,undef,undef,undef,undef,undef],defers:=[] }) ?assign ?body ?done ?stop
 case assign=>
  intro l x W K hK
  gi_wp2
  exact hK
 case body=>
  rintro l pre x W⟨⟨v,hv,hrow,hnil⟩,hcb,hB,hsz2⟩hlen;have hc:=hv.cell;have hrow':=Du hrow (base':=w.heap.size) (by omega)
  gi_wp2_with (gi_at_builtin;refine wpListIn_append_own _ rfl _ _ 72 rfl (w.heap.size+2) 3 i0 (.int .i64 0) 1 8 underlying72 hi hz0 hz1 hz2 rfl (by decide) _ _ _ rfl (hrow.alloc _) ⟨W.heap.size,0,none⟩ 1 1 [.int .i64 x] rfl rfl (cell_one_new _ _ _) (by simp[Value.oneCell']) (by unfold maxLen;omega) (by omega) (by simp;omega) ?_;intro v' w1 hown' hgrow _;obtain⟨g',cap',rfl⟩:=ownsRow_succ hown';have hown2:=Du hown' (base':=w.heap.size) (by omega);obtain⟨hv1,hv2,hr2,hk2,hb2⟩:=hv.appended (by decide) hrow' hB.size zl hown2 hgrow;have hc1:=hv1.cell;have hf1:=hv1.frozen)
  have hcb2:=((hcb.alloc (.cells #[.int .i64 x] 3)).kept hgrow (G1 hrow (by omega))).kept (grownBy_setCell' w1 w.heap.size (.slice (some ⟨g',0,none⟩) (pre.length+1) cap')) (by simp);have hr3:=hown'.kept (grownBy_setCell' w1 w.heap.size (.slice (some ⟨g',0,none⟩) (pre.length+1) cap')) (.inr (hv1.not_row (by decide) hown').symm);exact⟨hk2,⟨hb2,hcb2.cell.trans hcb.cell.symm⟩,⟨_,hv2,by simpa using hr3,by simp⟩,hcb2,hB.trans hb2,Nat.le_trans hsz2 hb2.size⟩
 case done=>
  rintro D ys W hD rfl⟨⟨v,hv,hrow,_⟩,_,hB,_⟩hK;have hc:=hv.cell
  gi_wp2
  refine⟨by simp,.inl ⟨_,_,rfl,run_takeDeferred hK,?_⟩⟩;exact⟨_,results_tmp rfl _ _ _,⟨_,rfl,ownsRow_putObj (Du hrow (by omega)) _ hK rfl,hB.trans (belowK_b (w:=w) zl W D _ _ (by simp at hD;omega) hK rfl rfl)⟩⟩
 case stop=>
  rintro D c pre W _ _ h _;exact h.elim
theorem zGd(ea:Nat→Addr)(c:Int)(w:World)(hg:Bh w ea [2]) :
 Calls prog 138 #[.int .i64 c] w fun e W'=>∃v,e=.returned v∧W'.ownsRow w.heap.size 3 1 v (Ao c 16).length (Aa (Ao c 16))∧Below w.heap.size w W':=
 callsIn_wide.1 (zIf ea c w hg)
end Go.Proofs.YtppfkokfnoeopaaGreatDoor
