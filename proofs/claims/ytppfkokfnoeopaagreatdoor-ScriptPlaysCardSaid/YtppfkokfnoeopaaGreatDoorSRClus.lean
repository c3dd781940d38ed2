/- A part of a proof. -/
import Derived.ChangeAlike
import Derived.Deep.CutBlock
import Derived.Deep.DeepCutAuto
import Derived.Test.YtppfkokfnoeopaaGreatDoorSCTell
set_option maxRecDepth 400000
set_option maxHeartbeats 6400000
namespace Go.Proofs.YtppfkokfnoeopaaGreatDoor
open Go.RowKit Go.Maps Go.Proofs.Tryz
structure RN where
 n:Int
 x:NP
 la:Option Addr
 lc:Nat
def RN.cells(r:RN):List Value:=[.int .i64 r.n,.int .i64 r.x.st,.int .i64 r.x.val,.int .i64 r.x.m,.int .i64 r.x.d,.int .i64 r.x.s,.slice r.la r.x.h.length r.lc]
structure RL where
 cb:Nat
 nb:Nat
 off:Nat
 nc:Nat
 pa:Option Addr
 pc:Nat
structure An(w:World)(R:RL)(rs:List RN)(c:CP):Prop where
 blk:Af w R.cb 94 #[.slice R.pa c.plan.length R.pc,.int .i64 c.time,.int .i64 c.now,.int .i64 c.asked,.slice (some ⟨R.nb,R.off,none⟩) rs.length R.nc]
 nblk:∃cur,Af w R.nb 99 cur
 row:∀(i j:Nat) (v:Value) (h:i<rs.length),rs[i].cells[j]?=some v→w.cell? ⟨R.nb,R.off+i*7+j,none⟩=some v
 plan:Ac w R.pa (Aa c.plan)
 pfar:∀b off,R.pa=some ⟨b,off,none⟩→b≠R.cb∧b≠R.nb
 each:∀(i:Nat) (h:i<rs.length),c.f rs[i].n=some rs[i].x∧Cx w (.slice rs[i].la rs[i].x.h.length rs[i].lc) rs[i].x.h
 dom:∀i,(c.f i).isSome=true→i∈rs.map RN.n
 rise:(rs.map RN.n).Pairwise (· < ·)
 len:rs.length≤16
theorem An.ne{w:World}{R:RL}{rs:List RN}{c:CP}(h:An w R rs c):R.cb≠R.nb:=by
 obtain⟨cur,hb⟩:=h.nblk;intro e;have h1:w.heap[R.cb]?=_:=h.blk;have h2:w.heap[R.nb]?=_:=hb;rw[e,h2] at h1;injection h1 with h1;injection h1 with _ h3;revert h3;decide
def RL.own(R:RL):Nat→Prop:=fun k=>k=R.cb∨k=R.nb
theorem An.lt{w:World}{R:RL}{rs:List RN}{c:CP}(h:An w R rs c):R.cb<w.heap.size∧R.nb<w.heap.size:=by
 obtain⟨cur,hb⟩:=h.nblk;exact⟨h.blk.lt,hb.lt⟩
theorem Ac.off{S:Nat→Prop}{w w':World}{a:Option Addr}{cs:List Value}(h:Ac w a cs)(hf:Fr S w w')(hs:∀b off,a=some ⟨b,off,none⟩→b<w.heap.size→¬S b):Ac w' a cs:=by
 rcases h with h|⟨b,off,rfl,hlt,hc⟩
 ·exact Or.inl h
 ·refine Or.inr ⟨b,off,rfl,Nat.lt_of_lt_of_le hlt hf.size,fun i v hv=>?_⟩
  have h1:=hc i v hv;simp only[World.cell?,hf.block b hlt (hs b off rfl hlt)] at h1 ⊢;exact h1
theorem An.kept{S:Nat→Prop}{w w':World}{R:RL}{rs:List RN}{c:CP}(h:An w R rs c)(hf:Fr S w w')(h1:¬S R.cb)(h2:¬S R.nb)(h3:∀b off,R.pa=some ⟨b,off,none⟩→¬S b)(h4:∀k cur,w.heap[k]?=some (.cells cur 146 (0,0))→¬S k):An w' R rs c:=by
 obtain⟨cur,hb⟩:=h.nblk;have hl:=h.lt;refine⟨(hf.block _ hl.1 h1).trans h.blk,⟨cur,(hf.block _ hl.2 h2).trans hb⟩,fun i j v hi hv=>?_,h.plan.off hf (fun b off e _=>h3 b off e),h.pfar,fun i hi=>⟨(h.each i hi).1,(h.each i hi).2.fr hf h4⟩,h.dom,h.rise,h.len⟩;have:=h.row i j v hi hv;simp only[World.cell?,hf.block _ hl.2 h2] at this ⊢;exact this
theorem An.below{w w':World}{R:RL}{rs:List RN}{c:CP}(h:An w R rs c)(hb:Below w.heap.size w w'):An w' R rs c:=
 h.kept (S:=fun _=>False) (Fr.of hb) (fun h=>h) (fun h=>h) (fun _ _ _ h=>h) (fun _ _ _ h=>h)
theorem An.drewN{w:World}{R:RL}{rs:List RN}{c:CP}(h:An w R rs c)(n:Nat):An (w.drewN n) R rs c:=h.below (Ab zb n)
theorem An.cells{w:World}{R:RL}{rs:List RN}{c:CP}(h:An w R rs c):w.cell? ⟨R.cb,0,none⟩=some (.slice R.pa c.plan.length R.pc)∧w.cell? ⟨R.cb,1,none⟩=some (.int .i64 c.time)∧w.cell? ⟨R.cb,2,none⟩=some (.int .i64 c.now)∧w.cell? ⟨R.cb,3,none⟩=some (.int .i64 c.asked)∧w.cell? ⟨R.cb,4,none⟩=some (.slice (some ⟨R.nb,R.off,none⟩) rs.length R.nc):=
 ⟨h.blk.cell 0 rfl,h.blk.cell 1 rfl,h.blk.cell 2 rfl,h.blk.cell 3 rfl,h.blk.cell 4 rfl⟩
theorem An.frozen{w:World}{R:RL}{rs:List RN}{c:CP}(h:An w R rs c)(o:Nat):w.frozen? ⟨R.nb,o,none⟩=false:=by
 obtain⟨cur,hb⟩:=h.nblk;exact hb.frozen o
theorem An.at{w:World}{R:RL}{rs:List RN}{c:CP}(h:An w R rs c)(k:Nat)(hk:k<rs.length) :
 w.cell? ⟨R.nb,R.off+k*7,none⟩=some (.int .i64 rs[k].n)∧w.cell? ⟨R.nb,R.off+k*7+1,none⟩=some (.int .i64 rs[k].x.st)∧w.cell? ⟨R.nb,R.off+k*7+2,none⟩=some (.int .i64 rs[k].x.val)∧w.cell? ⟨R.nb,R.off+k*7+3,none⟩=some (.int .i64 rs[k].x.m)∧w.cell? ⟨R.nb,R.off+k*7+4,none⟩=some (.int .i64 rs[k].x.d)∧w.cell? ⟨R.nb,R.off+k*7+5,none⟩=some (.int .i64 rs[k].x.s)∧w.cell? ⟨R.nb,R.off+k*7+6,none⟩=some (.slice rs[k].la rs[k].x.h.length rs[k].lc):=
 ⟨h.row k 0 _ hk rfl,h.row k 1 _ hk rfl,h.row k 2 _ hk rfl,h.row k 3 _ hk rfl,h.row k 4 _ hk rfl,h.row k 5 _ hk rfl,h.row k 6 _ hk rfl⟩
theorem An.put{S:Nat→Prop}{w w':World}{R:RL}{rs:List RN}{c:CP}(h:An w R rs c)(hf:Fr S w w')(hS:∀k,k<w.heap.size→S k→k=R.nb){k:Nat}(hk:k<rs.length)(r':RN)(hn:r'.n=rs[k].n)(hb:∃cur,Af w' R.nb 99 cur)
 (hc:∀j v,r'.cells[j]?=some v→w'.cell? ⟨R.nb,R.off+k*7+j,none⟩=some v) (ho:∀o,o<R.off+k*7∨R.off+k*7+7≤o→w'.cell? ⟨R.nb,o,none⟩=w.cell? ⟨R.nb,o,none⟩) (hh:Cx w' (.slice r'.la r'.x.h.length r'.lc) r'.x.h) :
 An w' R (rs.set k r') ⟨c.plan,c.time,c.now,c.asked,fun i=>if i=r'.n then some r'.x else c.f i⟩:=by
 have hl:=h.lt;obtain⟨cur0,hb0⟩:=h.nblk
 have hE:∀k cur,w.heap[k]?=some (.cells cur 146 (0,0))→¬S k:=fun j cur hj hs=>by
  have hjl:=(Array.getElem?_eq_some_iff.1 hj).1;obtain rfl:=hS j hjl hs;rw[show w.heap[R.nb]?=_ from hb0] at hj;injection hj with hj;injection hj with _ e;revert e;decide
 have hnames:(rs.set k r').map RN.n=rs.map RN.n:=by
  rw[List.map_set,hn]
  exact List.ext_getElem (by simp) (fun i h1 h2=>by
   rw[List.getElem_set]
   split
   ·rename_i e;subst e;simp
   ·rfl)
 refine⟨?_,hb,fun i j v hi hv=>?_,h.plan.off hf (fun b off e hlt hs=>(h.pfar b off e).2 (hS b hlt hs)),h.pfar,fun i hi=>?_,fun i hi=>?_,by rw[hnames];exact h.rise,by rw[List.length_set];exact h.len⟩
 ·rw[List.length_set];exact(hf.block _ hl.1 (fun hs=>h.ne (hS _ hl.1 hs))).trans h.blk
 ·rw[List.length_set] at hi
  by_cases e:i=k
  ·subst e;rw[List.getElem_set_self] at hv;exact hc j v hv
  ·rw[List.getElem_set_ne (Ne.symm e)] at hv
   have hj:j<7:=by have:=(List.getElem?_eq_some_iff.1 hv).1;simpa[RN.cells] using this
   rw[ho _ (by
    rcases Nat.lt_or_gt_of_ne e with q|q
    ·left;have:=Nat.mul_le_mul_right 7 (show i+1≤k by omega);omega
    ·right;have:=Nat.mul_le_mul_right 7 (show k+1≤i by omega);omega)]
   exact h.row i j v hi hv
 ·rw[List.length_set] at hi
  by_cases e:i=k
  ·subst e;rw[List.getElem_set_self];exact⟨by simp,hh⟩
  ·rw[List.getElem_set_ne (Ne.symm e)]
   have hne:rs[i].n≠r'.n:=by
    rw[hn];intro e2;have hp:=List.pairwise_iff_getElem.1 h.rise
    rcases Nat.lt_or_gt_of_ne e with q|q
    ·have:=hp i k (by simpa using hi) (by simpa using hk) q
     simp only[List.getElem_map] at this;omega
    ·have:=hp k i (by simpa using hk) (by simpa using hi) q
     simp only[List.getElem_map] at this;omega
   exact⟨by dsimp only;rw[if_neg hne];exact(h.each i hi).1,(h.each i hi).2.fr hf hE⟩
 ·rw[hnames]
  dsimp only at hi
  by_cases e:i=r'.n
  ·rw[e,hn];exact List.mem_map.2 ⟨rs[k],List.getElem_mem hk,rfl⟩
  ·rw[if_neg e] at hi;exact h.dom i hi
def Oa:List RN→Int→Int→Int
 | [],_,_=>-1
 | r::t,k,n=>if n=r.n then k else Oa t (k+1) n
theorem Ur:∀(rs:List RN) (k n:Int),n∉rs.map RN.n→Oa rs k n=-1
 | [],_,_,_=>rfl
 | r::t,k,n,h=>by
  rw[List.map_cons,List.mem_cons,not_or] at h;rw[Oa,if_neg h.1];exact Ur t _ n h.2
theorem zBr:∀(rs:List RN) (k n:Int),n∈rs.map RN.n→∃j:Nat,∃h:j<rs.length,Oa rs k n=k+j∧rs[j].n=n
 | [],_,_,h=>by simp at h
 | r::t,k,n,h=>by
  rw[Oa]
  by_cases e:n=r.n
  ·exact⟨0,by simp,by rw[if_pos e];simp,by simp[e]⟩
  ·rw[if_neg e]
   obtain⟨j,hj,h1,h2⟩:=zBr t (k+1) n (by rw[List.map_cons,List.mem_cons] at h;exact h.resolve_left e);exact⟨j+1,by simpa using hj,by rw[h1];omega,by simpa using h2⟩
theorem zCw(rs:List RN)(n:Int)(k:Nat)(hk:k<rs.length):Oa (rs.drop k) k n=if n=rs[k].n then(k:Int) else Oa (rs.drop (k+1)) ((k+1:Nat):Int) n:=by
 rw[List.drop_eq_getElem_cons hk,Oa];rfl
theorem Hv(R:RL)(rs:List RN)(c:CP)(n:Int)(w:World)(h:An w R rs c) :
 Calls prog 105 #[.pointer (some ⟨R.cb,0,none⟩),.int .i64 n] w fun e w'=>e=.returned (.int .i64 (Oa rs 0 n))∧w=w':=by
 obtain⟨_,_,_,_,c4⟩:=h.cells;have hl16:=h.len;have H:=zh h;clear h;go_enter func105,ntmps105;go_wp2;go_loop [5] (fun i=>∃k:Nat,k≤rs.length∧i=.int .i64 k∧Hid (Oa rs 0 n=Oa (rs.drop k) k n)) (fun i=>rs.length-(intOf i).toNat)
 case atStart=>exact⟨0,Nat.zero_le _,rfl,rfl⟩
 case round=>
  obtain⟨k,hk,rfl,hx⟩:=hrel
  by_cases hlt:k<rs.length
  ·obtain⟨n0,_⟩:=H.out.at k hlt
   have HD:=zh (zCw rs n k hlt);have hi0:(0:Int)≤(k:Int):=by omega
   have hi1:(k:Int)<(rs.length:Int):=by omega
   generalize rs[k]=r at *
   by_cases he:n=r.n
   ·have hb:(n==r.n)=true:=by simpa using he
    go_wp2;go_ret;exact⟨Hn (by first|rw[hx.out,HD.out,if_pos he]|rw[←he,hx.out,HD.out,if_pos he]),rfl⟩
   ·have hb:(n==r.n)=false:=by simpa using he
    go_wp2;go_round
    case rel=>exact⟨k+1,by omega,by go_num,by rw[hx.out,HD.out,if_neg he];rfl⟩
    case measure=>simp[intOf];omega
  ·obtain rfl:k=rs.length:=by omega
   go_wp2;go_ret;exact⟨Hn (by rw[hx.out,List.drop_length];rfl),rfl⟩
theorem An.look{w:World}{R:RL}{rs:List RN}{c:CP}(h:An w R rs c)(n:Int):(c.f n=none∧Oa rs 0 n=-1)∨∃(k:Nat) (hk:k<rs.length),Oa rs 0 n=k∧rs[k].n=n∧c.f n=some rs[k].x:=by
 by_cases hm:n∈rs.map RN.n
 ·obtain⟨k,hk,h1,h2⟩:=zBr rs 0 n hm
  refine Or.inr ⟨k,hk,by rw[h1];omega,h2,?_⟩;have:=(h.each k hk).1;rw[h2] at this;exact this
 ·refine Or.inl ⟨?_,Ur rs 0 n hm⟩
  cases hf:c.f n with
  | none=>rfl
  | some x=>exact absurd (h.dom n (by rw[hf];rfl)) hm
theorem An.put1{w:World}{R:RL}{rs:List RN}{c:CP}(h:An w R rs c){k:Nat}(hk:k<rs.length)(v:Int):An (w.setCell ⟨R.nb,R.off+k*7+2,none⟩ (.int .i64 v)) R (rs.set k ⟨rs[k].n,⟨rs[k].x.st,v,rs[k].x.m,rs[k].x.d,rs[k].x.s,rs[k].x.h⟩,rs[k].la,rs[k].lc⟩) ⟨c.plan,c.time,c.now,c.asked,fun i=>if i=rs[k].n then some ⟨rs[k].x.st,v,rs[k].x.m,rs[k].x.d,rs[k].x.s,rs[k].x.h⟩ else c.f i⟩∧Fr (fun j=>j=R.nb) w (w.setCell ⟨R.nb,R.off+k*7+2,none⟩ (.int .i64 v)):=by
 have hf:Fr (fun j=>j=R.nb) w (w.setCell ⟨R.nb,R.off+k*7+2,none⟩ (.int .i64 v)):=(Fr.refl (fun j=>j=R.nb) w).setCell (p:=⟨R.nb,R.off+k*7+2,none⟩) (Or.inl rfl) _;obtain⟨c0,c1,c2,c3,c4,c5,c6⟩:=h.at k hk;obtain⟨cur,hb⟩:=h.nblk;refine⟨h.put hf (fun j _ e=>e) hk ⟨rs[k].n,⟨rs[k].x.st,v,rs[k].x.m,rs[k].x.d,rs[k].x.s,rs[k].x.h⟩,rs[k].la,rs[k].lc⟩ rfl ⟨_,hb.set _ _⟩ ?_ ?_ ?_,hf⟩
 ·intro j u hj
  match j,hj with
  | 0,hj=>obtain rfl:=Option.some.inj hj;go_simp
  | 1,hj=>obtain rfl:=Option.some.inj hj;go_simp
  | 2,hj=>obtain rfl:=Option.some.inj hj;go_simp
  | 3,hj=>obtain rfl:=Option.some.inj hj;go_simp
  | 4,hj=>obtain rfl:=Option.some.inj hj;go_simp
  | 5,hj=>obtain rfl:=Option.some.inj hj;go_simp
  | 6,hj=>obtain rfl:=Option.some.inj hj;go_simp
  | (i+7),hj=>exact absurd hj (by simp[RN.cells])
 ·intro o hoo
  exact World.cell?_setCell_other _ _ _ _ (fun e=>by injection e with _ e;omega)
 ·exact(h.each k hk).2.fr hf (fun j cur2 hj e=>by
   subst e;rw[show w.heap[R.nb]?=_ from hb] at hj
   injection hj with hj;injection hj with _ e;revert e;decide)
theorem zG2(R:RL)(rs:List RN)(c:CP)(n v:Int)(w:World)(h:An w R rs c) :
 Calls prog 99 #[.pointer (some ⟨R.cb,0,none⟩),.int .i64 n,.int .i64 v] w fun e w'=>e=.returned (.int .i64 (c.set n v).2)∧(∃rs',An w' R rs' (c.set n v).1)∧Fr (fun j=>j=R.nb) w w':=by
 obtain⟨_,_,_,_,c4⟩:=h.cells;have K:=zh (Hv R rs c n w h);have hl16:=h.len
 rcases h.look n with⟨hf,hi⟩|⟨k,hk,hi,hn,hf⟩
 ·rw[hi] at K
  have HS:Hid (c.set n v=(c,4)):=by unfold Hid CP.set;rw[hf]
  have H:=zh h;clear h hf hi;go_enter func99,ntmps99;go_wp2_with fail;refine K.out.mono ?_;rintro e w1⟨rfl,rfl⟩;go_wp2;go_ret;rw[HS.out];exact⟨rfl,⟨rs,H.out⟩,Fr.refl _ _⟩
 ·rw[hi] at K
  have HP:=zh (h.put1 hk v);obtain⟨_,_,n2,_⟩:=h.at k hk;have nf:=h.frozen (R.off+k*7+2);have hi0:(0:Int)≤(k:Int):=by omega
  have hi1:(k:Int)<(rs.length:Int):=by omega
  have H:=zh h;have HN:=zh hn;generalize hr:rs[k]=r at *
  cases hv:Cr v
  ·have HS:Hid (c.set n v=(c,2)):=by unfold Hid CP.set;rw[hf];dsimp only;rw[hv];rfl
   simp only[Cr,decide_eq_false_iff_not] at hv;clear h hf hi hn hr HP
   by_cases h1:v < -1048576
   ·have hv':decide (v < -1048576)=true:=by simpa using h1
    clear hv;go_enter func99,ntmps99;go_wp2_with fail;refine K.out.mono ?_;rintro e w1⟨rfl,rfl⟩;go_wp2;go_ret;rw[HS.out];exact⟨rfl,⟨rs,H.out⟩,Fr.refl _ _⟩
   ·have hv':decide (v < -1048576)=false:=by simpa using h1
    have hv2:decide (1048576<v)=true:=by simp;omega
    clear hv h1;go_enter func99,ntmps99;go_wp2_with fail;refine K.out.mono ?_;rintro e w1⟨rfl,rfl⟩;go_wp2;go_ret;rw[HS.out];exact⟨rfl,⟨rs,H.out⟩,Fr.refl _ _⟩
  ·have HS:Hid (c.set n v=(⟨c.plan,c.time,c.now,c.asked,fun i=>if i=n then some ⟨r.x.st,v,r.x.m,r.x.d,r.x.s,r.x.h⟩ else c.f i⟩,0)):=by unfold Hid CP.set;rw[hf];dsimp only;rw[hv];rfl
   simp only[Cr,decide_eq_true_eq] at hv;have hv1:decide (v < -1048576)=false:=by simp;omega
   have hv2:decide (1048576<v)=false:=by simp;omega
   clear h hf hi hn hr hv;go_enter func99,ntmps99;go_wp2_with fail;refine K.out.mono ?_;rintro e w1⟨rfl,rfl⟩;go_wp2;go_ret;obtain⟨p1,p2⟩:=HP.out;rw[HN.out] at p1;rw[HS.out];exact⟨rfl,⟨_,p1⟩,p2⟩
def RN.store(w:World)(b o:Nat)(r:RN):World:=((((((w.setCell ⟨b,o,none⟩ (.int .i64 r.n)).setCell ⟨b,o+1,none⟩ (.int .i64 r.x.st)).setCell ⟨b,o+2,none⟩ (.int .i64 r.x.val)).setCell ⟨b,o+3,none⟩ (.int .i64 r.x.m)).setCell ⟨b,o+4,none⟩ (.int .i64 r.x.d)).setCell ⟨b,o+5,none⟩ (.int .i64 r.x.s)).setCell ⟨b,o+6,none⟩ (.slice r.la r.x.h.length r.lc)
theorem An.put7{w:World}{R:RL}{rs:List RN}{c:CP}(h:An w R rs c){k:Nat}(hk:k<rs.length)(r':RN)(hn:r'.n=rs[k].n)(hh:Cx w (.slice r'.la r'.x.h.length r'.lc) r'.x.h):An (r'.store w R.nb (R.off+k*7)) R (rs.set k r') ⟨c.plan,c.time,c.now,c.asked,fun i=>if i=r'.n then some r'.x else c.f i⟩∧Fr (fun j=>j=R.nb) w (r'.store w R.nb (R.off+k*7)):=by
 have hf:Fr (fun j=>j=R.nb) w (r'.store w R.nb (R.off+k*7)):=(((((((Fr.refl (fun j=>j=R.nb) w).setCell (p:=⟨R.nb,R.off+k*7,none⟩) (Or.inl rfl) _).setCell (p:=⟨R.nb,R.off+k*7+1,none⟩) (Or.inl rfl) _).setCell (p:=⟨R.nb,R.off+k*7+2,none⟩) (Or.inl rfl) _).setCell (p:=⟨R.nb,R.off+k*7+3,none⟩) (Or.inl rfl) _).setCell (p:=⟨R.nb,R.off+k*7+4,none⟩) (Or.inl rfl) _).setCell (p:=⟨R.nb,R.off+k*7+5,none⟩) (Or.inl rfl) _).setCell (p:=⟨R.nb,R.off+k*7+6,none⟩) (Or.inl rfl) _;obtain⟨c0,c1,c2,c3,c4,c5,c6⟩:=h.at k hk;obtain⟨cur,hb⟩:=h.nblk;refine⟨h.put hf (fun j _ e=>e) hk r' hn ⟨_,((((((hb.set _ _).set _ _).set _ _).set _ _).set _ _).set _ _).set _ _⟩ ?_ ?_ ?_,hf⟩
 ·intro j u hj
  unfold RN.store
  match j,hj with
  | 0,hj=>obtain rfl:=Option.some.inj hj;go_simp
  | 1,hj=>obtain rfl:=Option.some.inj hj;go_simp
  | 2,hj=>obtain rfl:=Option.some.inj hj;go_simp
  | 3,hj=>obtain rfl:=Option.some.inj hj;go_simp
  | 4,hj=>obtain rfl:=Option.some.inj hj;go_simp
  | 5,hj=>obtain rfl:=Option.some.inj hj;go_simp
  | 6,hj=>obtain rfl:=Option.some.inj hj;go_simp
  | (i+7),hj=>exact absurd hj (by simp[RN.cells])
 ·intro o hoo
  unfold RN.store
  iterate 7 rw[World.cell?_setCell_other _ _ _ _ (fun e=>by injection e with _ e;omega)]
 ·exact hh.fr hf (fun j cur2 hj e=>by
   subst e;rw[show w.heap[R.nb]?=_ from hb] at hj
   injection hj with hj;injection hj with _ e;revert e;decide)
theorem zG0(R:RL)(rs:List RN)(c:CP)(n:Int)(w:World)(h:An w R rs c) :
 Calls prog 96 #[.pointer (some ⟨R.cb,0,none⟩),.int .i64 n] w fun e w'=>e=.returned (.int .i64 (c.turn n 0).2)∧(∃rs',An w' R rs' (c.turn n 0).1)∧Fr (fun j=>j=R.nb) w w':=by
 obtain⟨_,_,_,_,c4⟩:=h.cells;have K:=zh (Hv R rs c n w h);have hl16:=h.len
 rcases h.look n with⟨hf,hi⟩|⟨k,hk,hi,hn,hf⟩
 ·rw[hi] at K
  have HS:Hid (c.turn n 0=(c,4)):=by unfold Hid CP.turn;rw[hf]
  have H:=zh h;clear h hf hi;go_enter func96,ntmps96;go_wp2_with fail;refine K.out.mono ?_;rintro e w1⟨rfl,rfl⟩;go_wp2;go_ret;rw[HS.out];exact⟨rfl,⟨rs,H.out⟩,Fr.refl _ _⟩
 ·rw[hi] at K
  have HP:=zh (h.put7 hk ⟨n,⟨0,rs[k].x.val,0,0,0,[]⟩,none,0⟩ hn.symm (Cx.nil _));obtain⟨n0,n1,n2,n3,n4,n5,n6⟩:=h.at k hk;have nf:=h.frozen;have hi0:(0:Int)≤(k:Int):=by omega
  have hi1:(k:Int)<(rs.length:Int):=by omega
  have H:=zh h;have HN:=zh hn;generalize hr:rs[k]=r at *
  by_cases h0:r.x.st=0
  ·have HS:Hid (c.turn n 0=(c,6)):=by unfold Hid CP.turn;rw[hf];dsimp only;rw[if_pos (by simp[h0])]
   have hb:(r.x.st==0)=true:=by simpa using h0
   clear h hf hi hn hr HP h0;go_enter func96,ntmps96;go_wp2_with fail;refine K.out.mono ?_;rintro e w1⟨rfl,rfl⟩;go_wp2;go_ret;rw[HS.out];exact⟨rfl,⟨rs,H.out⟩,Fr.refl _ _⟩
  ·have HS:Hid (c.turn n 0=(⟨c.plan,c.time,c.now,c.asked,fun i=>if i=n then some ⟨0,r.x.val,0,0,0,[]⟩ else c.f i⟩,0)):=by unfold Hid CP.turn;rw[hf];dsimp only;rw[if_neg (by simp[h0])]
   have hb:(r.x.st==0)=false:=by simpa using h0
   clear h hf hi hn hr h0;go_enter func96,ntmps96;go_wp2_with fail;refine K.out.mono ?_;rintro e w1⟨rfl,rfl⟩;go_wp2;go_region;go_wp2;go_ret;obtain⟨p1,p2⟩:=HP.out;rw[HS.out];exact⟨rfl,⟨_,p1.drewN 1⟩,p2.drewN 1⟩
theorem zIz(R:RL)(rs:List RN)(c:CP)(n:Int)(w:World)(h:An w R rs c)(hst:∀i x,c.f i=some x→x.st=0∨x.st=1∨x.st=2) :
 Calls prog 97 #[.pointer (some ⟨R.cb,0,none⟩),.int .i64 n] w fun e w'=>e=.returned (.int .i64 (c.turn n 1).2)∧(∃rs',An w' R rs' (c.turn n 1).1)∧Fr (fun j=>j=R.nb) w w':=by
 obtain⟨_,_,_,_,c4⟩:=h.cells;have K:=zh (Hv R rs c n w h);have hl16:=h.len
 rcases h.look n with⟨hf,hi⟩|⟨k,hk,hi,hn,hf⟩
 ·rw[hi] at K
  have HS:Hid (c.turn n 1=(c,4)):=by unfold Hid CP.turn;rw[hf]
  have H:=zh h;clear h hf hi hst;go_enter func97,ntmps97;go_wp2_with fail;refine K.out.mono ?_;rintro e w1⟨rfl,rfl⟩;go_wp2;go_ret;rw[HS.out];exact⟨rfl,⟨rs,H.out⟩,Fr.refl _ _⟩
 ·rw[hi] at K
  have HP:=zh (h.put7 hk ⟨n,⟨1,rs[k].x.val,0,0,0,[]⟩,none,0⟩ hn.symm (Cx.nil _));obtain⟨n0,n1,n2,n3,n4,n5,n6⟩:=h.at k hk;have nf:=h.frozen;have hi0:(0:Int)≤(k:Int):=by omega
  have hi1:(k:Int)<(rs.length:Int):=by omega
  have H:=zh h;have HN:=zh hn;generalize hr:rs[k]=r at *;have hs3:=hst n _ hf;clear hst
  by_cases h0:r.x.st≠0
  ·have HS:Hid (c.turn n 1=(c,6)):=by unfold Hid CP.turn;rw[hf];dsimp only;rw[if_pos (by simp[h0])]
   have hb:decide (0<r.x.st)=true:=by simp;omega
   clear hs3;clear h hf hi hn hr HP h0;go_enter func97,ntmps97;go_wp2_with fail;refine K.out.mono ?_;rintro e w1⟨rfl,rfl⟩;go_wp2;go_ret;rw[HS.out];exact⟨rfl,⟨rs,H.out⟩,Fr.refl _ _⟩
  ·have HS:Hid (c.turn n 1=(⟨c.plan,c.time,c.now,c.asked,fun i=>if i=n then some ⟨1,r.x.val,0,0,0,[]⟩ else c.f i⟩,0)):=by unfold Hid CP.turn;rw[hf];dsimp only;rw[if_neg (by simp at h0;simp[h0])]
   have hb:decide (0<r.x.st)=false:=by simp;omega
   clear hs3;clear h hf hi hn hr h0;go_enter func97,ntmps97;go_wp2_with fail;refine K.out.mono ?_;rintro e w1⟨rfl,rfl⟩;go_wp2;go_region;go_wp2;go_ret;obtain⟨p1,p2⟩:=HP.out;rw[HS.out];exact⟨rfl,⟨_,p1.drewN 1⟩,p2.drewN 1⟩
theorem zGx(R:RL)(rs:List RN)(c:CP)(n:Int)(w:World)(h:An w R rs c) :
 Calls prog 98 #[.pointer (some ⟨R.cb,0,none⟩),.int .i64 n] w fun e w'=>e=.returned (.int .i64 (c.ask n).2)∧An w' R rs (c.ask n).1∧Fr (fun j=>j=R.cb) w w':=by
 obtain⟨c0,c1,c2,c3,c4⟩:=h.cells;have nf:∀o,w.frozen? ⟨R.cb,o,none⟩=false:=fun o=>h.blk.frozen o
 have hfr:Fr (fun j=>j=R.cb) w (w.setCell ⟨R.cb,3,none⟩ (.int .i64 n)):=(Fr.refl (fun j=>j=R.cb) w).setCell (p:=⟨R.cb,3,none⟩) (Or.inl rfl) _
 have HP:Hid (An (w.setCell ⟨R.cb,3,none⟩ (.int .i64 n)) R rs ⟨c.plan,c.time,c.now,n,c.f⟩∧Fr (fun j=>j=R.cb) w (w.setCell ⟨R.cb,3,none⟩ (.int .i64 n))):=by
  refine⟨?_,hfr⟩;obtain⟨cur,hb⟩:=h.nblk;have hl:=h.lt
  refine⟨h.blk.set 3 (.int .i64 n),⟨cur,hb.setOther _ _ h.ne.symm⟩,fun i j v hi hv=>?_,h.plan.off hfr (fun b off e _ hs=>(h.pfar b off e).1 hs),h.pfar,fun i hi=>⟨(h.each i hi).1,(h.each i hi).2.fr hfr (fun k cur hk e=>by
   subst e;rw[show w.heap[R.cb]?=_ from h.blk] at hk
   injection hk with hk;injection hk with _ e;revert e;decide)⟩,h.dom,h.rise,h.len⟩
  exact(World.cell?_setCell_other _ _ _ _ (fun e=>h.ne (congrArg Addr.block e))).trans (h.row i j v hi hv)
 have H:=zh h
 by_cases h1:n<0∨3<n
 ·have HS:Hid (c.ask n=(c,2)):=by unfold Hid CP.ask;rw[if_pos h1]
  by_cases h2:n<0
  ·have hb:decide (n<0)=true:=by simpa using h2
   clear h h1 h2 HP hfr;go_enter func98,ntmps98;go_wp2;go_ret;rw[HS.out];exact⟨rfl,H.out,Fr.refl _ _⟩
  ·have hb:decide (n<0)=false:=by simpa using h2
   have hb2:decide (3<n)=true:=by simp;omega
   clear h h1 h2 HP hfr;go_enter func98,ntmps98;go_wp2;go_ret;rw[HS.out];exact⟨rfl,H.out,Fr.refl _ _⟩
 ·have hb:decide (n<0)=false:=by simp;omega
  have hb2:decide (3<n)=false:=by simp;omega
  by_cases h2:0≤c.asked
  ·have HS:Hid (c.ask n=(c,6)):=by unfold Hid CP.ask;rw[if_neg h1,if_pos h2]
   have hb3:decide (0≤c.asked)=true:=by simpa using h2
   clear h h1 h2 HP hfr;go_enter func98,ntmps98;go_wp2;go_ret;rw[HS.out];exact⟨rfl,H.out,Fr.refl _ _⟩
  ·have HS:Hid (c.ask n=(⟨c.plan,c.time,c.now,n,c.f⟩,0)):=by unfold Hid CP.ask;rw[if_neg h1,if_neg h2]
   have hb3:decide (0≤c.asked)=false:=by simpa using h2
   clear h h1 h2 hfr;go_enter func98,ntmps98;go_wp2;go_ret;rw[HS.out];exact⟨rfl,HP.out.1,HP.out.2⟩
theorem An.putj{w:World}{R:RL}{rs:List RN}{c:CP}(h:An w R rs c){k:Nat}(hk:k<rs.length)(j:Nat)(v:Value)(r':RN)(hn:r'.n=rs[k].n)(hc:r'.cells=rs[k].cells.set j v)(hj:j<7)(hh:Cx w (.slice r'.la r'.x.h.length r'.lc) r'.x.h) :
 An (w.setCell ⟨R.nb,R.off+k*7+j,none⟩ v) R (rs.set k r') ⟨c.plan,c.time,c.now,c.asked,fun i=>if i=r'.n then some r'.x else c.f i⟩∧Fr (fun j=>j=R.nb) w (w.setCell ⟨R.nb,R.off+k*7+j,none⟩ v):=by
 have hf:Fr (fun j=>j=R.nb) w (w.setCell ⟨R.nb,R.off+k*7+j,none⟩ v):=(Fr.refl (fun j=>j=R.nb) w).setCell (p:=⟨R.nb,R.off+k*7+j,none⟩) (Or.inl rfl) _;obtain⟨cur,hb⟩:=h.nblk;refine⟨h.put hf (fun j _ e=>e) hk r' hn ⟨_,hb.set _ _⟩ ?_ ?_ ?_,hf⟩
 ·intro i u hu
  rw[hc] at hu
  by_cases e:j=i
  ·subst e
   have hl:j<rs[k].cells.length:=hj;rw[List.getElem?_set_self hl] at hu;obtain rfl:=Option.some.inj hu;obtain⟨u0,hu0⟩:∃u,rs[k].cells[j]?=some u:=⟨_,List.getElem?_eq_getElem hl⟩
   have:=h.row k j u0 hk hu0;go_simp
  ·rw[List.getElem?_set_ne e] at hu
   exact(World.cell?_setCell_other _ _ _ _ (fun e2=>e (by injection e2 with _ e2;omega))).trans (h.row k i u hk hu)
 ·intro o hoo
  exact World.cell?_setCell_other _ _ _ _ (fun e=>by injection e with _ e;omega)
 ·exact hh.fr hf (fun i cur2 hi e=>by
   subst e;rw[show w.heap[R.nb]?=_ from hb] at hi
   injection hi with hi;injection hi with _ e;revert e;decide)
theorem An.blkput{w w':World}{R:RL}{rs:List RN}{c:CP}(h:An w R rs c)(hf:Fr (fun j=>j=R.cb) w w'){t:Nat}{now asked:Int}(hb:Af w' R.cb 94 #[.slice R.pa c.plan.length R.pc,.int .i64 t,.int .i64 now,.int .i64 asked,.slice (some ⟨R.nb,R.off,none⟩) rs.length R.nc]):An w' R rs ⟨c.plan,t,now,asked,c.f⟩:=by
 obtain⟨cur,hn⟩:=h.nblk;have hl:=h.lt;have hne:=h.ne
 refine⟨hb,⟨cur,(hf.block _ hl.2 (fun e=>hne e.symm)).trans hn⟩,fun i j v hi hv=>?_,h.plan.off hf (fun b off e _ hs=>(h.pfar b off e).1 hs),h.pfar,fun i hi=>⟨(h.each i hi).1,(h.each i hi).2.fr hf (fun k cur hk e=>by
  subst e;rw[show w.heap[R.cb]?=_ from h.blk] at hk
  injection hk with hk;injection hk with _ e;revert e;decide)⟩,h.dom,h.rise,h.len⟩
 have:=h.row i j v hi hv;simp only[World.cell?,hf.block _ hl.2 (fun e=>hne e.symm)] at this ⊢;exact this
theorem zHl{l:List Int}(h:l.Pairwise (· < ·)){k:Nat}(hk:k<l.length):l[k]∉l.take k:=by
 intro hm;obtain⟨j,hj,e⟩:=List.getElem_of_mem hm;rw[List.length_take] at hj;rw[List.getElem_take] at e;have:=List.pairwise_iff_getElem.1 h j k (by omega) hk (by omega);omega
theorem An.mid{w:World}{R:RL}{rs:List RN}{ns:List Int}{p:List Int}{t:Nat}{now asked:Int}{f:Int→Option NP}{g:Int→NP→NP}{k:Nat}(h:An w R rs ⟨p,t,now,asked,D9 (ns.take k) f g⟩)(hn:rs.map RN.n=ns)(hr:ns.Pairwise (· < ·))(hk:k<rs.length) :
 f rs[k].n=some rs[k].x∧Cx w (.slice rs[k].la rs[k].x.h.length rs[k].lc) rs[k].x.h∧rs[k].n∉ns.take k∧ns.take (k+1)=ns.take k++[rs[k].n]:=by
 have hkn:k<ns.length:=by rw[←hn];simpa using hk
 have he:ns[k]=rs[k].n:=by subst hn;simp
 have hnt:=zHl hr hkn;rw[he] at hnt;obtain⟨h1,h2⟩:=h.each k hk;dsimp only at h1;rw[Wg hnt] at h1;exact⟨h1,h2,hnt,by rw[List.take_succ_eq_append_getElem hkn,he]⟩
theorem Mk{rs:List RN}{k:Nat}{r':RN}(hk:k<rs.length)(hn:r'.n=rs[k].n):(rs.set k r').map RN.n=rs.map RN.n:=by
 rw[List.map_set,hn]
 exact List.ext_getElem (by simp) (fun i h1 h2=>by
  rw[List.getElem_set]
  split
  ·rename_i e;subst e;simp
  ·rfl)
theorem zJf{w w1:World}(hb:Below w.drew.heap.size w.drew w1):Below w.heap.size w w1:=(Ab zb 1).trans (hb.mono (by simp))
theorem zHb{w w1:World}{x y:Value}{t:TypeId}(hb:Below (w.alloc (.cells #[x,y] t)).drew.heap.size (w.alloc (.cells #[x,y] t)).drew w1) :
 w1.cell? ⟨w.heap.size,0,none⟩=some x∧w1.cell? ⟨w.heap.size,1,none⟩=some y∧w1.frozen? ⟨w.heap.size,0,none⟩=false∧w1.frozen? ⟨w.heap.size,1,none⟩=false∧w.heap.size<w1.heap.size∧Below w.heap.size w w1:=by
 have hA:Below (w.alloc (.cells #[x,y] t)).heap.size (w.alloc (.cells #[x,y] t)) w1:=(Ab zb 1).trans (hb.mono (by simp));exact⟨(hA.cell (p:=⟨w.heap.size,0,none⟩) (by simp)).trans (by simp),(hA.cell (p:=⟨w.heap.size,1,none⟩) (by simp)).trans (by simp),(hA.frozen (p:=⟨w.heap.size,0,none⟩) (by simp)).trans (by simp),(hA.frozen (p:=⟨w.heap.size,1,none⟩) (by simp)).trans (by simp),by have:=hb.size;simp at this;omega,(zb.alloc zl _).trans (hA.mono (by simp))⟩
theorem zFy{stays:List Ent→Bool}{now:Int}{x:NP}(h:x.st≠2):NP.endR stays now x=x:=by rw[NP.endR,if_neg h]
theorem zAk(R:RL)(rs:List RN)(c:CP)(w:World)(h:An w R rs c)(hp:(Ay c.plan).1=0)(hc:∀i x,c.f i=some x→x.st=2→(chk x.h).1=0)(hst:∀i x,c.f i=some x→x.st=0∨x.st=1∨x.st=2) :
 Calls prog 147 #[.pointer (some ⟨R.cb,0,none⟩)] w fun e w'=>e=.returned (.tuple #[])∧(∃rs',An w' R rs' ⟨c.plan,c.time,c.turned,if 0≤c.asked then -1 else c.asked,fun i=>(c.f i).map (NP.endR (Da c.plan.length) c.turned)⟩)∧Fr R.own w w':=by
 obtain⟨c0,c1,c2,c3,c4⟩:=h.cells;have hlc:=h.lt.1;have hfz:∀o,w.frozen? ⟨R.cb,o,none⟩=false:=fun o=>h.blk.frozen o
 have hl16:=h.len;have hrl:1≤(c.plan.length:Int)∧(c.plan.length:Int)≤32:=by have:=Ai hp;omega
 have H:=zh h;have HC:=zh hc;have HST:=zh hst;obtain⟨asked',hask⟩:∃a,a=if 0≤c.asked then -1 else c.asked:=⟨_,rfl⟩
 have HA:=zh hask;rw[←hask];obtain⟨now,hnow⟩:∃a,a=c.turned:=⟨_,rfl⟩
 have HNW:=zh hnow;rw[←hnow];obtain⟨B,hB⟩:∃B,decide (0≤c.asked)=B:=⟨_,rfl⟩
 have HB:=zh hB;clear h hc hst hp hask hnow;go_enter func147,ntmps147;go_upto_if 10 with(fail);go_cut [10] (fun _ wx=>An wx R rs ⟨c.plan,c.time,now,asked',c.f⟩∧Fr R.own w wx)
 case first=>
  clear hB
  cases B
  rotate_left
  ·have h0:0≤c.asked:=of_decide_eq_true HB.out
   have hw:An ((w.setCell ⟨R.cb,2,none⟩ (.int .i64 c.asked)).setCell ⟨R.cb,3,none⟩ (.int .i64 (-1))) R rs ⟨c.plan,c.time,now,asked',c.f⟩∧Fr R.own w ((w.setCell ⟨R.cb,2,none⟩ (.int .i64 c.asked)).setCell ⟨R.cb,3,none⟩ (.int .i64 (-1))):=by
    have hf:Fr (fun j=>j=R.cb) w ((w.setCell ⟨R.cb,2,none⟩ (.int .i64 c.asked)).setCell ⟨R.cb,3,none⟩ (.int .i64 (-1))):=((Fr.refl (fun j=>j=R.cb) w).setCell (p:=⟨R.cb,2,none⟩) (Or.inl rfl) _).setCell (p:=⟨R.cb,3,none⟩) (Or.inl rfl) _;refine⟨H.out.blkput hf ?_,hf.mono fun k e=>Or.inl e⟩;have hb:=(H.out.blk.set 2 (.int .i64 c.asked)).set 3 (.int .i64 (-1));rw[HA.out,if_pos h0,HNW.out,CP.turned,if_pos h0];simpa using hb
   have HW:=zh hw;clear hw h0;go_wp2_with fail;go_meet
   case rel=>exact HW.out
  ·have h0:¬0≤c.asked:=of_decide_eq_false HB.out
   have hw:An w R rs ⟨c.plan,c.time,now,asked',c.f⟩:=by
    rw[HA.out,if_neg h0,HNW.out,CP.turned,if_neg h0];exact H.out
   have HW:=zh hw;clear hw h0;go_wp2_with fail;go_meet
   case rel=>exact⟨HW.out,Fr.refl _ _⟩
 case rest=>
  obtain⟨hR0,hF0⟩:=hcut;obtain⟨ns,hns⟩:∃ns,ns=rs.map RN.n:=⟨_,rfl⟩
  have hnl:ns.length=rs.length:=by rw[hns];simp
  have HRI:Hid (ns.Pairwise (· < ·)):=by unfold Hid;rw[hns];exact H.out.rise
  have HNS:=zh hns.symm;have HNL:=zh hnl;have HDM:=zh (fun i x (hf:c.f i=some x)=>(by rw[hns];exact H.out.dom i (by rw[hf];rfl):i∈ns));generalize rs.length=n at *;have hR1:An wc R rs ⟨c.plan,c.time,now,asked',D9 (ns.take 0) c.f (fun _=>NP.endR (Da c.plan.length) now)⟩:=by rw[List.take_zero,Oo];exact hR0
  have hrsl:rs.length=n:=by rw[←HNL.out,←HNS.out];simp
  clear hns hnl c0 c1 c2 c3 c4 hfz hR0 HA HNW hB;go_wp2;go_loopw [2] (fun i wr=>∃(k:Nat) (rs':List RN),k≤n∧i=.int .i64 k∧rs'.length=n∧rs'.map RN.n=ns∧An wr R rs' ⟨c.plan,c.time,now,asked',D9 (ns.take k) c.f (fun _=>NP.endR (Da c.plan.length) now)⟩∧Fr R.own w wr) (fun i _=>n-(intOf i).toNat)
  case atStart=>exact⟨0,rs,Nat.zero_le _,rfl,hrsl,HNS.out,hR1,hF0⟩
  case round=>
   clear hR1 hF0 hrsl;obtain⟨k,rs',hk,rfl,hl',hn',hR,hF⟩:=hrel;obtain⟨c0,c1,c2,c3,c4⟩:=hR.cells;rw[hl'] at c4;obtain⟨hlb,hlnb⟩:=hR.lt
   by_cases hlt:k<n
   ·obtain⟨hfk,hrow,hnt,htk⟩:=hR.mid hn' HRI.out (by omega)
    obtain⟨n0,n1,n2,n3,n4,n5,n6⟩:=hR.at k (by omega);have nf:=hR.frozen;have hi0:(0:Int)≤(k:Int):=by omega
    have hi1:(k:Int)<(n:Int):=by omega
    have hs3:=HST.out _ _ hfk;have HRR:=zh hR;have HF:=zh hF;have HROW:=zh hrow;have HTK:=zh htk;have HFK:=zh hfk;have HN':=zh hn';have HL':=zh hl';have HNT:=zh hnt;have hkl:k<rs'.length:=by omega
    generalize hr:rs'[k]=r at *;clear hR hF hrow htk hfk hn' hl' hnt
    by_cases h2:r.x.st=2
    ·have hd:decide (r.x.st<2)=false:=by simp;omega
     have hck:=HC.out _ _ HFK.out h2;have hhl:=Rk hck;have CT:=zh (fun(W:World) (hb:Below wr.heap.size wr W)=>Y8 r.la r.x.h.length r.lc r.x.h c.plan.length W rfl ((Cd HROW.out).below hb) (by omega));have H2:=zh h2;clear hck h2 hs3;obtain⟨g,hg⟩:∃g,g=tG c.plan.length r.x.h:=⟨_,rfl⟩
     obtain⟨b,hb⟩:∃b,b=tB c.plan.length r.x.h:=⟨_,rfl⟩
     have hBST:Hid (Da c.plan.length r.x.h=decide (b<g)):=by unfold Hid Da;rw[hg,hb]
     rw[←hg,←hb] at CT;clear hg hb;have hne:=HRR.out.ne;go_upto_region 7 with(fail);go_cut [3,4] from 22 to 94 (fun s3 s4 wx=>s3=.int .i64 g∧s4=.int .i64 b∧Below wr.heap.size wr wx)
     case first=>
      go_region_held3 (fun w'=>w'.cell? ⟨R.cb,0,none⟩=some (.slice R.pa c.plan.length R.pc)∧w'.cell? ⟨R.cb,4,none⟩=some (.slice (some ⟨R.nb,R.off,none⟩) n R.nc)∧w'.cell? ⟨R.nb,R.off+k*7+6,none⟩=some (.slice r.la r.x.h.length r.lc))
       (first|go_keep|(refine⟨?_,?_,?_⟩<;>(simp(disch:=(simp;omega)) only[World.cell?_setCell_far];assumption)))
       ((go_at_call 191;(with_reducible refine(CT.out _ ?_).mono ?_);exact(by first|exact Ab zb 1|exact(Ab zb 1).alloc (by simp) _);rintro e w7⟨rfl,hb7⟩;have hz7:=hb7.size;(first|(have hx7:=zHb hb7;obtain⟨ma0,ma1,fa0,fa1,mlt,hbw7⟩:=hx7)|(have hbw7:=zJf hb7));have d0:w7.cell? ⟨R.cb,0,none⟩=some (.slice R.pa c.plan.length R.pc):=(hb7.cell (p:=⟨R.cb,0,none⟩) (by simp;omega)).trans (by simp[*]);have d1:w7.cell? ⟨R.cb,4,none⟩=some (.slice (some ⟨R.nb,R.off,none⟩) n R.nc):=(hb7.cell (p:=⟨R.cb,4,none⟩) (by simp;omega)).trans (by simp[*]);have d2:w7.cell? ⟨R.nb,R.off+k*7+6,none⟩=some (.slice r.la r.x.h.length r.lc):=(hb7.cell (p:=⟨R.nb,R.off+k*7+6,none⟩) (by simp;omega)).trans (by simp[*])))
      all_goals
       go_wp2_with fail;go_meet
       case rel=>
        have hzw:=hbw7.size;refine⟨rfl,rfl,?_⟩
        repeat(with_reducible first|exact hbw7|refine Below.setCell ?_ ?_ _|refine Below.alloc ?_ ?_ _)
        all_goals(first|omega|(simp;done)|(simp;omega))
     case rest=>
      obtain⟨rfl,rfl,hbx⟩:=hcut;have hRx:=HRR.out.below hbx;have hFx:=HF.out.trans (Fr.of hbx);obtain⟨m0,m1,m2,m3,m4⟩:=hRx.cells;obtain⟨q0,q1,q2,q3,q4,q5,q6⟩:=hRx.at k hkl;have nfx:=hRx.frozen;obtain⟨hlb2,hlnb2⟩:=hRx.lt;rw[hr] at q0 q1 q2 q3 q4 q5 q6;rw[HL'.out] at m4;clear c0 c1 c2 c3 c4 n0 n1 n2 n3 n4 n5 n6 nf CT
      by_cases hbg:b<g
      ·have hd2:decide (b<g)=true:=decide_eq_true hbg
       have hE:NP.endR (Da c.plan.length) now r.x=⟨2,r.x.val,r.x.m,now,r.x.s,r.x.h⟩:=by
        rw[NP.endR,if_pos H2.out,hBST.out,if_pos hd2]
       have hP:=hRx.putj hkl 4 (.int .i64 now) ⟨r.n,⟨2,r.x.val,r.x.m,now,r.x.s,r.x.h⟩,r.la,r.lc⟩ (by rw[hr]) (by rw[hr];unfold RN.cells;dsimp only;rw[H2.out];rfl) (by omega) (HROW.out.below hbx)
       have hQ:An (wc.setCell ⟨R.nb,R.off+k*7+4,none⟩ (.int .i64 now)).drew R (rs'.set k ⟨r.n,⟨2,r.x.val,r.x.m,now,r.x.s,r.x.h⟩,r.la,r.lc⟩) ⟨c.plan,c.time,now,asked',D9 (ns.take (k+1)) c.f (fun _=>NP.endR (Da c.plan.length) now)⟩:=by
        have h1:=hP.1.drewN 1;rw[HTK.out];rw[←L4 (k:=fun _=>NP.endR (Da c.plan.length) now) HFK.out hE];exact h1
       have HQ:=zh hQ;have HFQ:=zh ((hFx.trans (hP.2.mono fun j e=>Or.inr e)).drewN 1);have HNQ:=zh ((Mk (r':=⟨r.n,⟨2,r.x.val,r.x.m,now,r.x.s,r.x.h⟩,r.la,r.lc⟩) hkl (by rw[hr])).trans HN'.out);clear hQ hP hE hRx hFx hbg hr;go_wp2;go_region;go_wp2;go_roundw
       case rel=>exact⟨k+1,_,by omega,by go_num,by rw[List.length_set];exact HL'.out,HNQ.out,HQ.out,HFQ.out⟩
       case measure=>simp[intOf];omega
      ·have hd2:decide (b<g)=false:=decide_eq_false hbg
       have hE:NP.endR (Da c.plan.length) now r.x=⟨0,r.x.val,0,0,0,[]⟩:=by
        rw[NP.endR,if_pos H2.out,hBST.out,hd2];rfl
       have hP:=hRx.put7 hkl ⟨r.n,⟨0,r.x.val,0,0,0,[]⟩,none,0⟩ (by rw[hr]) (Cx.nil _)
       have hQ:An (RN.store wc R.nb (R.off+k*7) ⟨r.n,⟨0,r.x.val,0,0,0,[]⟩,none,0⟩).drew R (rs'.set k ⟨r.n,⟨0,r.x.val,0,0,0,[]⟩,none,0⟩) ⟨c.plan,c.time,now,asked',D9 (ns.take (k+1)) c.f (fun _=>NP.endR (Da c.plan.length) now)⟩:=by
        have h1:=hP.1.drewN 1;rw[HTK.out];rw[←L4 (k:=fun _=>NP.endR (Da c.plan.length) now) HFK.out hE];exact h1
       have HQ:=zh hQ;have HFQ:=zh ((hFx.trans (hP.2.mono fun j e=>Or.inr e)).drewN 1);have HNQ:=zh ((Mk (r':=⟨r.n,⟨0,r.x.val,0,0,0,[]⟩,none,0⟩) hkl (by rw[hr])).trans HN'.out);clear hQ hP hE hRx hFx hbg hr;go_wp2;go_region;go_wp2;go_roundw
       case rel=>exact⟨k+1,_,by omega,by go_num,by rw[List.length_set];exact HL'.out,HNQ.out,HQ.out,HFQ.out⟩
       case measure=>simp[intOf];omega
    ·have hd:decide (r.x.st<2)=true:=by simp;omega
     have HE:Hid (An wr R rs' ⟨c.plan,c.time,now,asked',D9 (ns.take (k+1)) c.f (fun _=>NP.endR (Da c.plan.length) now)⟩):=by
      unfold Hid;rw[HTK.out,←Mm (k:=fun _=>NP.endR (Da c.plan.length) now) HFK.out (zFy h2)];exact HRR.out
     clear h2 hs3;go_wp2;go_roundw
     case rel=>exact⟨k+1,rs',by omega,by go_num,HL'.out,HN'.out,HE.out,HF.out⟩
     case measure=>simp[intOf];omega
   ·obtain rfl:k=n:=by omega
    have HE:Hid (An wr R rs' ⟨c.plan,c.time,now,asked',fun i=>(c.f i).map (NP.endR (Da c.plan.length) now)⟩):=by
     unfold Hid
     have e:D9 (ns.take k) c.f (fun _=>NP.endR (Da c.plan.length) now)=fun i=>(c.f i).map (NP.endR (Da c.plan.length) now):=by
      rw[List.take_of_length_le (by rw[HNL.out];omega)];exact On HDM.out
     rw[←e];exact hR
    have HF:=zh hF;clear hR hF;go_wp2;refine bodyPost_end (results_none rfl _ _ _) rfl ?_;exact⟨rfl,⟨_,HE.out⟩,HF.out⟩
theorem An.putV{w:World}{R:RL}{rs:List RN}{c:CP}(h:An w R rs c){k:Nat}(hk:k<rs.length)(r:RN)(hr:rs[k]=r)(m d s:Int) :
 An (((w.setCell ⟨R.nb,R.off+k*7+3,none⟩ (.int .i64 m)).setCell ⟨R.nb,R.off+k*7+4,none⟩ (.int .i64 d)).setCell ⟨R.nb,R.off+k*7+5,none⟩ (.int .i64 s)) R (rs.set k ⟨r.n,⟨r.x.st,r.x.val,m,d,s,r.x.h⟩,r.la,r.lc⟩) ⟨c.plan,c.time,c.now,c.asked,Ge c.f r.n ⟨r.x.st,r.x.val,m,d,s,r.x.h⟩⟩ ∧
  Fr (fun j=>j=R.nb) w (((w.setCell ⟨R.nb,R.off+k*7+3,none⟩ (.int .i64 m)).setCell ⟨R.nb,R.off+k*7+4,none⟩ (.int .i64 d)).setCell ⟨R.nb,R.off+k*7+5,none⟩ (.int .i64 s)):=by
 have hh:=(h.each k hk).2;rw[hr] at hh;have p1:=h.putj hk 3 (.int .i64 m) ⟨r.n,⟨r.x.st,r.x.val,m,r.x.d,r.x.s,r.x.h⟩,r.la,r.lc⟩ (by rw[hr]) (by rw[hr];rfl) (by omega) hh;have k1:k<(rs.set k ⟨r.n,⟨r.x.st,r.x.val,m,r.x.d,r.x.s,r.x.h⟩,r.la,r.lc⟩).length:=by rw[List.length_set];exact hk
 have hh1:=(p1.1.each k k1).2;rw[List.getElem_set_self] at hh1;have p2:=p1.1.putj k1 4 (.int .i64 d) ⟨r.n,⟨r.x.st,r.x.val,m,d,r.x.s,r.x.h⟩,r.la,r.lc⟩ (by rw[List.getElem_set_self]) (by rw[List.getElem_set_self];rfl) (by omega) hh1;rw[List.set_set] at p2;have k2:k<(rs.set k ⟨r.n,⟨r.x.st,r.x.val,m,d,r.x.s,r.x.h⟩,r.la,r.lc⟩).length:=by rw[List.length_set];exact hk
 have hh2:=(p2.1.each k k2).2;rw[List.getElem_set_self] at hh2;have p3:=p2.1.putj k2 5 (.int .i64 s) ⟨r.n,⟨r.x.st,r.x.val,m,d,s,r.x.h⟩,r.la,r.lc⟩ (by rw[List.getElem_set_self]) (by rw[List.getElem_set_self];rfl) (by omega) hh2;rw[List.set_set] at p3;refine⟨?_,(p1.2.trans p2.2).trans p3.2⟩
 have e:Ge c.f r.n ⟨r.x.st,r.x.val,m,d,s,r.x.h⟩=fun i=>if i=r.n then some ⟨r.x.st,r.x.val,m,d,s,r.x.h⟩ else if i=r.n then some ⟨r.x.st,r.x.val,m,d,r.x.s,r.x.h⟩ else if i=r.n then some ⟨r.x.st,r.x.val,m,r.x.d,r.x.s,r.x.h⟩ else c.f i:=funext fun i=>by
  unfold Ge
  split<;>simp_all
 rw[e];exact p3.1
theorem An.again{w:World}{R:RL}{rs:List RN}{p:List Int}{t:Nat}{now asked:Int}{f:Int→Option NP}{k:Nat}{r0 r1:RN}(h:An w R ((rs.set k r0).set k r1) ⟨p,t,now,asked,fun i=>if i=r1.n then some r1.x else Ge f r0.n r0.x i⟩)(hn:r1.n=r0.n):An w R (rs.set k r1) ⟨p,t,now,asked,Ge f r1.n r1.x⟩:=by
 rw[List.set_set] at h
 have e:(fun i=>if i=r1.n then some r1.x else Ge f r0.n r0.x i)=Ge f r1.n r1.x:=funext fun i=>by
  unfold Ge;rw[hn]
  split<;>simp_all
 rw[←e];exact h
theorem An.who{w:World}{R:RL}{rs:List RN}{p:List Int}{t:Nat}{now asked:Int}{ds:List Int}{f:Int→Option NP}{g:Int→NP→NP}(h:An w R rs ⟨p,t,now,asked,D9 ds f g⟩){k:Nat}(hk:k<rs.length){y:NP}(hf:f rs[k].n=some y)(hg:g rs[k].n y=y):rs[k].x=y:=by
 have h1:=(h.each k hk).1;dsimp only[D9] at h1
 split at h1
 ·rw[hf,Option.map_some,hg] at h1;exact(Option.some.inj h1).symm
 ·rw[hf] at h1;exact(Option.some.inj h1).symm
end Go.Proofs.YtppfkokfnoeopaaGreatDoor
