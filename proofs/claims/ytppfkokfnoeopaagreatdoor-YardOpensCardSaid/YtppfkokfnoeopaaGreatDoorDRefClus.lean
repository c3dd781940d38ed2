/- A part of a proof. -/
import Derived.ChangeAlike
import Derived.Test.YtppfkokfnoeopaaGreatDoorDClusMap
import Derived.Test.YtppfkokfnoeopaaGreatDoorDRefBase
namespace Go.Proofs.YtppfkokfnoeopaaGreatDoor
open Go.RowKit Go.Maps
structure RN where
 n:Int
 x:NP
 la:Option Addr
 lc:Nat
def RN.cells(r:RN):List Value:=[.int .i64 r.n,.int .i64 r.x.st,.int .i64 r.x.val,.int .i64 r.x.m,.int .i64 r.x.d,.int .i64 r.x.s,.slice r.la r.x.h.length r.lc]
structure RL where
 cb:Nat
 nb:Nat
 off:Nat
 nc:Nat
 pa:Option Addr
 pc:Nat
structure RefAt(w:World)(R:RL)(rs:List RN)(c:CP):Prop where
 blk:Blok w R.cb 94 #[.slice R.pa c.plan.length R.pc,.int .i64 c.time,.int .i64 c.now,.int .i64 c.asked,.slice (some ⟨R.nb,R.off,none⟩) rs.length R.nc]
 nblk:∃cur,Blok w R.nb 99 cur
 row:∀(i j:Nat) (v:Value) (h:i<rs.length),rs[i].cells[j]?=some v→w.cell? ⟨R.nb,R.off+i*7+j,none⟩=some v
 plan:RowAt w R.pa (encInts c.plan)
 pfar:∀b off,R.pa=some ⟨b,off,none⟩→b≠R.cb∧b≠R.nb
 each:∀(i:Nat) (h:i<rs.length),c.f rs[i].n=some rs[i].x∧HRow w (.slice rs[i].la rs[i].x.h.length rs[i].lc) rs[i].x.h
 dom:∀i,(c.f i).isSome=true→i∈rs.map RN.n
 rise:(rs.map RN.n).Pairwise (· < ·)
 len:rs.length≤16
theorem RefAt.ne{w:World}{R:RL}{rs:List RN}{c:CP}(h:RefAt w R rs c):R.cb≠R.nb:=by
 obtain⟨cur,hb⟩:=h.nblk;intro e;have h1:w.heap[R.cb]?=_:=h.blk;have h2:w.heap[R.nb]?=_:=hb;rw[e,h2] at h1;injection h1 with h1;injection h1 with _ h3;revert h3;decide
def RL.own(R:RL):Nat→Prop:=fun k=>k=R.cb∨k=R.nb
theorem RefAt.lt{w:World}{R:RL}{rs:List RN}{c:CP}(h:RefAt w R rs c):R.cb<w.heap.size∧R.nb<w.heap.size:=by
 obtain⟨cur,hb⟩:=h.nblk;exact⟨h.blk.lt,hb.lt⟩
theorem RowAt.off{S:Nat→Prop}{w w':World}{a:Option Addr}{cs:List Value}(h:RowAt w a cs)(hf:Fr S w w')(hs:∀b off,a=some ⟨b,off,none⟩→b<w.heap.size→¬S b):RowAt w' a cs:=by
 rcases h with h|⟨b,off,rfl,hlt,hc⟩
 ·exact Or.inl h
 ·refine Or.inr ⟨b,off,rfl,Nat.lt_of_lt_of_le hlt hf.size,fun i v hv=>?_⟩
  have h1:=hc i v hv;simp only[World.cell?,hf.block b hlt (hs b off rfl hlt)] at h1 ⊢;exact h1
theorem RefAt.kept{S:Nat→Prop}{w w':World}{R:RL}{rs:List RN}{c:CP}(h:RefAt w R rs c)(hf:Fr S w w')(h1:¬S R.cb)(h2:¬S R.nb)(h3:∀b off,R.pa=some ⟨b,off,none⟩→¬S b)(h4:∀k cur,w.heap[k]?=some (.cells cur 146 (0,0))→¬S k):RefAt w' R rs c:=by
 obtain⟨cur,hb⟩:=h.nblk;have hl:=h.lt;refine⟨(hf.block _ hl.1 h1).trans h.blk,⟨cur,(hf.block _ hl.2 h2).trans hb⟩,fun i j v hi hv=>?_,h.plan.off hf (fun b off e _=>h3 b off e),h.pfar,fun i hi=>⟨(h.each i hi).1,(h.each i hi).2.fr hf h4⟩,h.dom,h.rise,h.len⟩;have:=h.row i j v hi hv;simp only[World.cell?,hf.block _ hl.2 h2] at this ⊢;exact this
theorem RefAt.below{w w':World}{R:RL}{rs:List RN}{c:CP}(h:RefAt w R rs c)(hb:Below w.heap.size w w'):RefAt w' R rs c:=
 h.kept (S:=fun _=>False) (Fr.of hb) (fun h=>h) (fun h=>h) (fun _ _ _ h=>h) (fun _ _ _ h=>h)
theorem RefAt.drewN{w:World}{R:RL}{rs:List RN}{c:CP}(h:RefAt w R rs c)(n:Nat):RefAt (w.drewN n) R rs c:=h.below (below_drewN (Below.refl _ _) n)
theorem RefAt.cells{w:World}{R:RL}{rs:List RN}{c:CP}(h:RefAt w R rs c):w.cell? ⟨R.cb,0,none⟩=some (.slice R.pa c.plan.length R.pc)∧w.cell? ⟨R.cb,1,none⟩=some (.int .i64 c.time)∧w.cell? ⟨R.cb,2,none⟩=some (.int .i64 c.now)∧w.cell? ⟨R.cb,3,none⟩=some (.int .i64 c.asked)∧w.cell? ⟨R.cb,4,none⟩=some (.slice (some ⟨R.nb,R.off,none⟩) rs.length R.nc):=
 ⟨h.blk.cell 0 rfl,h.blk.cell 1 rfl,h.blk.cell 2 rfl,h.blk.cell 3 rfl,h.blk.cell 4 rfl⟩
theorem RefAt.frozen{w:World}{R:RL}{rs:List RN}{c:CP}(h:RefAt w R rs c)(o:Nat):w.frozen? ⟨R.nb,o,none⟩=false:=by
 obtain⟨cur,hb⟩:=h.nblk;exact hb.frozen o
theorem RefAt.at{w:World}{R:RL}{rs:List RN}{c:CP}(h:RefAt w R rs c)(k:Nat)(hk:k<rs.length) :
 w.cell? ⟨R.nb,R.off+k*7,none⟩=some (.int .i64 rs[k].n)∧w.cell? ⟨R.nb,R.off+k*7+1,none⟩=some (.int .i64 rs[k].x.st)∧w.cell? ⟨R.nb,R.off+k*7+2,none⟩=some (.int .i64 rs[k].x.val)∧w.cell? ⟨R.nb,R.off+k*7+3,none⟩=some (.int .i64 rs[k].x.m)∧w.cell? ⟨R.nb,R.off+k*7+4,none⟩=some (.int .i64 rs[k].x.d)∧w.cell? ⟨R.nb,R.off+k*7+5,none⟩=some (.int .i64 rs[k].x.s)∧w.cell? ⟨R.nb,R.off+k*7+6,none⟩=some (.slice rs[k].la rs[k].x.h.length rs[k].lc):=
 ⟨h.row k 0 _ hk rfl,h.row k 1 _ hk rfl,h.row k 2 _ hk rfl,h.row k 3 _ hk rfl,h.row k 4 _ hk rfl,h.row k 5 _ hk rfl,h.row k 6 _ hk rfl⟩
theorem RefAt.put{S:Nat→Prop}{w w':World}{R:RL}{rs:List RN}{c:CP}(h:RefAt w R rs c)(hf:Fr S w w')(hS:∀k,k<w.heap.size→S k→k=R.nb){k:Nat}(hk:k<rs.length)(r':RN)(hn:r'.n=rs[k].n)(hb:∃cur,Blok w' R.nb 99 cur)
 (hc:∀j v,r'.cells[j]?=some v→w'.cell? ⟨R.nb,R.off+k*7+j,none⟩=some v) (ho:∀o,o<R.off+k*7∨R.off+k*7+7≤o→w'.cell? ⟨R.nb,o,none⟩=w.cell? ⟨R.nb,o,none⟩) (hh:HRow w' (.slice r'.la r'.x.h.length r'.lc) r'.x.h) :
 RefAt w' R (rs.set k r') ⟨c.plan,c.time,c.now,c.asked,fun i=>if i=r'.n then some r'.x else c.f i⟩:=by
 have hl:=h.lt;obtain⟨cur0,hb0⟩:=h.nblk
 have hE:∀k cur,w.heap[k]?=some (.cells cur 146 (0,0))→¬S k:=fun j cur hj hs=>by
  have hjl:=(Array.getElem?_eq_some_iff.1 hj).1;obtain rfl:=hS j hjl hs;rw[show w.heap[R.nb]?=_ from hb0] at hj;injection hj with hj;injection hj with _ e;revert e;decide
 have hnames:(rs.set k r').map RN.n=rs.map RN.n:=by
  rw[List.map_set,hn]
  exact List.ext_getElem (by simp) (fun i h1 h2=>by
   rw[List.getElem_set]
   split
   ·rename_i e;subst e;simp
   ·rfl)
 refine⟨?_,hb,fun i j v hi hv=>?_,h.plan.off hf (fun b off e hlt hs=>(h.pfar b off e).2 (hS b hlt hs)),h.pfar,fun i hi=>?_,fun i hi=>?_,by rw[hnames];exact h.rise,by rw[List.length_set];exact h.len⟩
 ·rw[List.length_set];exact(hf.block _ hl.1 (fun hs=>h.ne (hS _ hl.1 hs))).trans h.blk
 ·rw[List.length_set] at hi
  by_cases e:i=k
  ·subst e;rw[List.getElem_set_self] at hv;exact hc j v hv
  ·rw[List.getElem_set_ne (Ne.symm e)] at hv
   have hj:j<7:=by have:=(List.getElem?_eq_some_iff.1 hv).1;simpa[RN.cells] using this
   rw[ho _ (by
    rcases Nat.lt_or_gt_of_ne e with q|q
    ·left;have:=Nat.mul_le_mul_right 7 (show i+1≤k by omega);omega
    ·right;have:=Nat.mul_le_mul_right 7 (show k+1≤i by omega);omega)]
   exact h.row i j v hi hv
 ·rw[List.length_set] at hi
  by_cases e:i=k
  ·subst e;rw[List.getElem_set_self];exact⟨by simp,hh⟩
  ·rw[List.getElem_set_ne (Ne.symm e)]
   have hne:rs[i].n≠r'.n:=by
    rw[hn];intro e2;have hp:=List.pairwise_iff_getElem.1 h.rise
    rcases Nat.lt_or_gt_of_ne e with q|q
    ·have:=hp i k (by simpa using hi) (by simpa using hk) q
     simp only[List.getElem_map] at this;omega
    ·have:=hp k i (by simpa using hk) (by simpa using hi) q
     simp only[List.getElem_map] at this;omega
   exact⟨by dsimp only;rw[if_neg hne];exact(h.each i hi).1,(h.each i hi).2.fr hf hE⟩
 ·rw[hnames]
  dsimp only at hi
  by_cases e:i=r'.n
  ·rw[e,hn];exact List.mem_map.2 ⟨rs[k],List.getElem_mem hk,rfl⟩
  ·rw[if_neg e] at hi;exact h.dom i hi
def idxR:List RN→Int→Int→Int
 | [],_,_=>-1
 | r::t,k,n=>if n=r.n then k else idxR t (k+1) n
theorem idxR_none:∀(rs:List RN) (k n:Int),n∉rs.map RN.n→idxR rs k n=-1
 | [],_,_,_=>rfl
 | r::t,k,n,h=>by
  rw[List.map_cons,List.mem_cons,not_or] at h;rw[idxR,if_neg h.1];exact idxR_none t _ n h.2
theorem idxR_at:∀(rs:List RN) (k n:Int),n∈rs.map RN.n→∃j:Nat,∃h:j<rs.length,idxR rs k n=k+j∧rs[j].n=n
 | [],_,_,h=>by simp at h
 | r::t,k,n,h=>by
  rw[idxR]
  by_cases e:n=r.n
  ·exact⟨0,by simp,by rw[if_pos e];simp,by simp[e]⟩
  ·rw[if_neg e]
   obtain⟨j,hj,h1,h2⟩:=idxR_at t (k+1) n (by rw[List.map_cons,List.mem_cons] at h;exact h.resolve_left e);exact⟨j+1,by simpa using hj,by rw[h1];omega,by simpa using h2⟩
theorem idxR_drop(rs:List RN)(n:Int)(k:Nat)(hk:k<rs.length):idxR (rs.drop k) k n=if n=rs[k].n then(k:Int) else idxR (rs.drop (k+1)) ((k+1:Nat):Int) n:=by
 rw[List.drop_eq_getElem_cons hk,idxR];rfl
set_option maxRecDepth 100000 in
theorem rFind_any(R:RL)(rs:List RN)(c:CP)(n:Int)(w:World)(h:RefAt w R rs c) :
 Calls Tryz.prog 105 #[.pointer (some ⟨R.cb,0,none⟩),.int .i64 n] w fun e w'=>e=.returned (.int .i64 (idxR rs 0 n))∧w=w':=by
 obtain⟨_,_,_,_,c4⟩:=h.cells;have hl16:=h.len;have H:=Lib.hid h;clear h;go_enter Tryz.func105,Tryz.ntmps105;go_wp2;go_loop [5] (fun i=>∃k:Nat,k≤rs.length∧i=.int .i64 k∧Hid (idxR rs 0 n=idxR (rs.drop k) k n)) (fun i=>rs.length-(intOf i).toNat)
 case atStart=>exact⟨0,Nat.zero_le _,rfl,rfl⟩
 case round=>
  obtain⟨k,hk,rfl,hx⟩:=hrel
  by_cases hlt:k<rs.length
  ·obtain⟨n0,_⟩:=H.out.at k hlt
   have HD:=Lib.hid (idxR_drop rs n k hlt);have hi0:(0:Int)≤(k:Int):=by omega
   have hi1:(k:Int)<(rs.length:Int):=by omega
   generalize rs[k]=r at *
   by_cases he:n=r.n
   ·have hb:(n==r.n)=true:=by simpa using he
    go_wp2;go_ret;exact⟨ret_int (by first|rw[hx.out,HD.out,if_pos he]|rw[←he,hx.out,HD.out,if_pos he]),rfl⟩
   ·have hb:(n==r.n)=false:=by simpa using he
    go_wp2;go_round
    case rel=>exact⟨k+1,by omega,by go_num,by rw[hx.out,HD.out,if_neg he];rfl⟩
    case measure=>simp[intOf];omega
  ·obtain rfl:k=rs.length:=by omega
   go_wp2;go_ret;exact⟨ret_int (by rw[hx.out,List.drop_length];rfl),rfl⟩
theorem RefAt.look{w:World}{R:RL}{rs:List RN}{c:CP}(h:RefAt w R rs c)(n:Int):(c.f n=none∧idxR rs 0 n=-1)∨∃(k:Nat) (hk:k<rs.length),idxR rs 0 n=k∧rs[k].n=n∧c.f n=some rs[k].x:=by
 by_cases hm:n∈rs.map RN.n
 ·obtain⟨k,hk,h1,h2⟩:=idxR_at rs 0 n hm
  refine Or.inr ⟨k,hk,by rw[h1];omega,h2,?_⟩;have:=(h.each k hk).1;rw[h2] at this;exact this
 ·refine Or.inl ⟨?_,idxR_none rs 0 n hm⟩
  cases hf:c.f n with
  | none=>rfl
  | some x=>exact absurd (h.dom n (by rw[hf];rfl)) hm
theorem RefAt.put1{w:World}{R:RL}{rs:List RN}{c:CP}(h:RefAt w R rs c){k:Nat}(hk:k<rs.length)(v:Int):RefAt (w.setCell ⟨R.nb,R.off+k*7+2,none⟩ (.int .i64 v)) R (rs.set k ⟨rs[k].n,⟨rs[k].x.st,v,rs[k].x.m,rs[k].x.d,rs[k].x.s,rs[k].x.h⟩,rs[k].la,rs[k].lc⟩) ⟨c.plan,c.time,c.now,c.asked,fun i=>if i=rs[k].n then some ⟨rs[k].x.st,v,rs[k].x.m,rs[k].x.d,rs[k].x.s,rs[k].x.h⟩ else c.f i⟩∧Fr (fun j=>j=R.nb) w (w.setCell ⟨R.nb,R.off+k*7+2,none⟩ (.int .i64 v)):=by
 have hf:Fr (fun j=>j=R.nb) w (w.setCell ⟨R.nb,R.off+k*7+2,none⟩ (.int .i64 v)):=(Fr.refl (fun j=>j=R.nb) w).setCell (p:=⟨R.nb,R.off+k*7+2,none⟩) (Or.inl rfl) _;obtain⟨c0,c1,c2,c3,c4,c5,c6⟩:=h.at k hk;obtain⟨cur,hb⟩:=h.nblk;refine⟨h.put hf (fun j _ e=>e) hk ⟨rs[k].n,⟨rs[k].x.st,v,rs[k].x.m,rs[k].x.d,rs[k].x.s,rs[k].x.h⟩,rs[k].la,rs[k].lc⟩ rfl ⟨_,hb.set _ _⟩ ?_ ?_ ?_,hf⟩
 ·intro j u hj
  match j,hj with
  | 0,hj=>obtain rfl:=Option.some.inj hj;go_simp
  | 1,hj=>obtain rfl:=Option.some.inj hj;go_simp
  | 2,hj=>obtain rfl:=Option.some.inj hj;go_simp
  | 3,hj=>obtain rfl:=Option.some.inj hj;go_simp
  | 4,hj=>obtain rfl:=Option.some.inj hj;go_simp
  | 5,hj=>obtain rfl:=Option.some.inj hj;go_simp
  | 6,hj=>obtain rfl:=Option.some.inj hj;go_simp
  | (i+7),hj=>exact absurd hj (by simp[RN.cells])
 ·intro o hoo
  exact World.cell?_setCell_other _ _ _ _ (fun e=>by injection e with _ e;omega)
 ·exact(h.each k hk).2.fr hf (fun j cur2 hj e=>by
   subst e;rw[show w.heap[R.nb]?=_ from hb] at hj
   injection hj with hj;injection hj with _ e;revert e;decide)
set_option maxRecDepth 100000 in
theorem rSet_any(R:RL)(rs:List RN)(c:CP)(n v:Int)(w:World)(h:RefAt w R rs c) :
 Calls Tryz.prog 99 #[.pointer (some ⟨R.cb,0,none⟩),.int .i64 n,.int .i64 v] w fun e w'=>e=.returned (.int .i64 (c.set n v).2)∧(∃rs',RefAt w' R rs' (c.set n v).1)∧Fr (fun j=>j=R.nb) w w':=by
 obtain⟨_,_,_,_,c4⟩:=h.cells;have K:=Lib.hid (rFind_any R rs c n w h);have hl16:=h.len
 rcases h.look n with⟨hf,hi⟩|⟨k,hk,hi,hn,hf⟩
 ·rw[hi] at K
  have HS:Hid (c.set n v=(c,4)):=by unfold Hid CP.set;rw[hf]
  have H:=Lib.hid h;clear h hf hi;go_enter Tryz.func99,Tryz.ntmps99;go_wp2_with fail;refine K.out.mono ?_;rintro e w1⟨rfl,rfl⟩;go_wp2;go_ret;rw[HS.out];exact⟨rfl,⟨rs,H.out⟩,Fr.refl _ _⟩
 ·rw[hi] at K
  have HP:=Lib.hid (h.put1 hk v);obtain⟨_,_,n2,_⟩:=h.at k hk;have nf:=h.frozen (R.off+k*7+2);have hi0:(0:Int)≤(k:Int):=by omega
  have hi1:(k:Int)<(rs.length:Int):=by omega
  have H:=Lib.hid h;have HN:=Lib.hid hn;generalize hr:rs[k]=r at *
  cases hv:numB v
  ·have HS:Hid (c.set n v=(c,2)):=by unfold Hid CP.set;rw[hf];dsimp only;rw[hv];rfl
   simp only[numB,decide_eq_false_iff_not] at hv;clear h hf hi hn hr HP
   by_cases h1:v < -1048576
   ·have hv':decide (v < -1048576)=true:=by simpa using h1
    clear hv;go_enter Tryz.func99,Tryz.ntmps99;go_wp2_with fail;refine K.out.mono ?_;rintro e w1⟨rfl,rfl⟩;go_wp2;go_ret;rw[HS.out];exact⟨rfl,⟨rs,H.out⟩,Fr.refl _ _⟩
   ·have hv':decide (v < -1048576)=false:=by simpa using h1
    have hv2:decide (1048576<v)=true:=by simp;omega
    clear hv h1;go_enter Tryz.func99,Tryz.ntmps99;go_wp2_with fail;refine K.out.mono ?_;rintro e w1⟨rfl,rfl⟩;go_wp2;go_ret;rw[HS.out];exact⟨rfl,⟨rs,H.out⟩,Fr.refl _ _⟩
  ·have HS:Hid (c.set n v=(⟨c.plan,c.time,c.now,c.asked,fun i=>if i=n then some ⟨r.x.st,v,r.x.m,r.x.d,r.x.s,r.x.h⟩ else c.f i⟩,0)):=by unfold Hid CP.set;rw[hf];dsimp only;rw[hv];rfl
   simp only[numB,decide_eq_true_eq] at hv;have hv1:decide (v < -1048576)=false:=by simp;omega
   have hv2:decide (1048576<v)=false:=by simp;omega
   clear h hf hi hn hr hv;go_enter Tryz.func99,Tryz.ntmps99;go_wp2_with fail;refine K.out.mono ?_;rintro e w1⟨rfl,rfl⟩;go_wp2;go_ret;obtain⟨p1,p2⟩:=HP.out;rw[HN.out] at p1;rw[HS.out];exact⟨rfl,⟨_,p1⟩,p2⟩
def RN.store(w:World)(b o:Nat)(r:RN):World:=((((((w.setCell ⟨b,o,none⟩ (.int .i64 r.n)).setCell ⟨b,o+1,none⟩ (.int .i64 r.x.st)).setCell ⟨b,o+2,none⟩ (.int .i64 r.x.val)).setCell ⟨b,o+3,none⟩ (.int .i64 r.x.m)).setCell ⟨b,o+4,none⟩ (.int .i64 r.x.d)).setCell ⟨b,o+5,none⟩ (.int .i64 r.x.s)).setCell ⟨b,o+6,none⟩ (.slice r.la r.x.h.length r.lc)
theorem RefAt.put7{w:World}{R:RL}{rs:List RN}{c:CP}(h:RefAt w R rs c){k:Nat}(hk:k<rs.length)(r':RN)(hn:r'.n=rs[k].n)(hh:HRow w (.slice r'.la r'.x.h.length r'.lc) r'.x.h):RefAt (r'.store w R.nb (R.off+k*7)) R (rs.set k r') ⟨c.plan,c.time,c.now,c.asked,fun i=>if i=r'.n then some r'.x else c.f i⟩∧Fr (fun j=>j=R.nb) w (r'.store w R.nb (R.off+k*7)):=by
 have hf:Fr (fun j=>j=R.nb) w (r'.store w R.nb (R.off+k*7)):=(((((((Fr.refl (fun j=>j=R.nb) w).setCell (p:=⟨R.nb,R.off+k*7,none⟩) (Or.inl rfl) _).setCell (p:=⟨R.nb,R.off+k*7+1,none⟩) (Or.inl rfl) _).setCell (p:=⟨R.nb,R.off+k*7+2,none⟩) (Or.inl rfl) _).setCell (p:=⟨R.nb,R.off+k*7+3,none⟩) (Or.inl rfl) _).setCell (p:=⟨R.nb,R.off+k*7+4,none⟩) (Or.inl rfl) _).setCell (p:=⟨R.nb,R.off+k*7+5,none⟩) (Or.inl rfl) _).setCell (p:=⟨R.nb,R.off+k*7+6,none⟩) (Or.inl rfl) _;obtain⟨c0,c1,c2,c3,c4,c5,c6⟩:=h.at k hk;obtain⟨cur,hb⟩:=h.nblk;refine⟨h.put hf (fun j _ e=>e) hk r' hn ⟨_,((((((hb.set _ _).set _ _).set _ _).set _ _).set _ _).set _ _).set _ _⟩ ?_ ?_ ?_,hf⟩
 ·intro j u hj
  unfold RN.store
  match j,hj with
  | 0,hj=>obtain rfl:=Option.some.inj hj;go_simp
  | 1,hj=>obtain rfl:=Option.some.inj hj;go_simp
  | 2,hj=>obtain rfl:=Option.some.inj hj;go_simp
  | 3,hj=>obtain rfl:=Option.some.inj hj;go_simp
  | 4,hj=>obtain rfl:=Option.some.inj hj;go_simp
  | 5,hj=>obtain rfl:=Option.some.inj hj;go_simp
  | 6,hj=>obtain rfl:=Option.some.inj hj;go_simp
  | (i+7),hj=>exact absurd hj (by simp[RN.cells])
 ·intro o hoo
  unfold RN.store
  iterate 7 rw[World.cell?_setCell_other _ _ _ _ (fun e=>by injection e with _ e;omega)]
 ·exact hh.fr hf (fun j cur2 hj e=>by
   subst e;rw[show w.heap[R.nb]?=_ from hb] at hj
   injection hj with hj;injection hj with _ e;revert e;decide)
set_option maxRecDepth 100000 in
theorem rOff_any(R:RL)(rs:List RN)(c:CP)(n:Int)(w:World)(h:RefAt w R rs c) :
 Calls Tryz.prog 96 #[.pointer (some ⟨R.cb,0,none⟩),.int .i64 n] w fun e w'=>e=.returned (.int .i64 (c.turn n 0).2)∧(∃rs',RefAt w' R rs' (c.turn n 0).1)∧Fr (fun j=>j=R.nb) w w':=by
 obtain⟨_,_,_,_,c4⟩:=h.cells;have K:=Lib.hid (rFind_any R rs c n w h);have hl16:=h.len
 rcases h.look n with⟨hf,hi⟩|⟨k,hk,hi,hn,hf⟩
 ·rw[hi] at K
  have HS:Hid (c.turn n 0=(c,4)):=by unfold Hid CP.turn;rw[hf]
  have H:=Lib.hid h;clear h hf hi;go_enter Tryz.func96,Tryz.ntmps96;go_wp2_with fail;refine K.out.mono ?_;rintro e w1⟨rfl,rfl⟩;go_wp2;go_ret;rw[HS.out];exact⟨rfl,⟨rs,H.out⟩,Fr.refl _ _⟩
 ·rw[hi] at K
  have HP:=Lib.hid (h.put7 hk ⟨n,⟨0,rs[k].x.val,0,0,0,[]⟩,none,0⟩ hn.symm (HRow.nil _));obtain⟨n0,n1,n2,n3,n4,n5,n6⟩:=h.at k hk;have nf:=h.frozen;have hi0:(0:Int)≤(k:Int):=by omega
  have hi1:(k:Int)<(rs.length:Int):=by omega
  have H:=Lib.hid h;have HN:=Lib.hid hn;generalize hr:rs[k]=r at *
  by_cases h0:r.x.st=0
  ·have HS:Hid (c.turn n 0=(c,6)):=by unfold Hid CP.turn;rw[hf];dsimp only;rw[if_pos (by simp[h0])]
   have hb:(r.x.st==0)=true:=by simpa using h0
   clear h hf hi hn hr HP h0;go_enter Tryz.func96,Tryz.ntmps96;go_wp2_with fail;refine K.out.mono ?_;rintro e w1⟨rfl,rfl⟩;go_wp2;go_ret;rw[HS.out];exact⟨rfl,⟨rs,H.out⟩,Fr.refl _ _⟩
  ·have HS:Hid (c.turn n 0=(⟨c.plan,c.time,c.now,c.asked,fun i=>if i=n then some ⟨0,r.x.val,0,0,0,[]⟩ else c.f i⟩,0)):=by unfold Hid CP.turn;rw[hf];dsimp only;rw[if_neg (by simp[h0])]
   have hb:(r.x.st==0)=false:=by simpa using h0
   clear h hf hi hn hr h0;go_enter Tryz.func96,Tryz.ntmps96;go_wp2_with fail;refine K.out.mono ?_;rintro e w1⟨rfl,rfl⟩;go_wp2;go_region;go_wp2;go_ret;obtain⟨p1,p2⟩:=HP.out;rw[HS.out];exact⟨rfl,⟨_,p1.drewN 1⟩,p2.drewN 1⟩
set_option maxRecDepth 100000 in
theorem rOn_any(R:RL)(rs:List RN)(c:CP)(n:Int)(w:World)(h:RefAt w R rs c)(hst:∀i x,c.f i=some x→x.st=0∨x.st=1∨x.st=2) :
 Calls Tryz.prog 97 #[.pointer (some ⟨R.cb,0,none⟩),.int .i64 n] w fun e w'=>e=.returned (.int .i64 (c.turn n 1).2)∧(∃rs',RefAt w' R rs' (c.turn n 1).1)∧Fr (fun j=>j=R.nb) w w':=by
 obtain⟨_,_,_,_,c4⟩:=h.cells;have K:=Lib.hid (rFind_any R rs c n w h);have hl16:=h.len
 rcases h.look n with⟨hf,hi⟩|⟨k,hk,hi,hn,hf⟩
 ·rw[hi] at K
  have HS:Hid (c.turn n 1=(c,4)):=by unfold Hid CP.turn;rw[hf]
  have H:=Lib.hid h;clear h hf hi hst;go_enter Tryz.func97,Tryz.ntmps97;go_wp2_with fail;refine K.out.mono ?_;rintro e w1⟨rfl,rfl⟩;go_wp2;go_ret;rw[HS.out];exact⟨rfl,⟨rs,H.out⟩,Fr.refl _ _⟩
 ·rw[hi] at K
  have HP:=Lib.hid (h.put7 hk ⟨n,⟨1,rs[k].x.val,0,0,0,[]⟩,none,0⟩ hn.symm (HRow.nil _));obtain⟨n0,n1,n2,n3,n4,n5,n6⟩:=h.at k hk;have nf:=h.frozen;have hi0:(0:Int)≤(k:Int):=by omega
  have hi1:(k:Int)<(rs.length:Int):=by omega
  have H:=Lib.hid h;have HN:=Lib.hid hn;generalize hr:rs[k]=r at *;have hs3:=hst n _ hf;clear hst
  by_cases h0:r.x.st≠0
  ·have HS:Hid (c.turn n 1=(c,6)):=by unfold Hid CP.turn;rw[hf];dsimp only;rw[if_pos (by simp[h0])]
   have hb:decide (0<r.x.st)=true:=by simp;omega
   clear hs3;clear h hf hi hn hr HP h0;go_enter Tryz.func97,Tryz.ntmps97;go_wp2_with fail;refine K.out.mono ?_;rintro e w1⟨rfl,rfl⟩;go_wp2;go_ret;rw[HS.out];exact⟨rfl,⟨rs,H.out⟩,Fr.refl _ _⟩
  ·have HS:Hid (c.turn n 1=(⟨c.plan,c.time,c.now,c.asked,fun i=>if i=n then some ⟨1,r.x.val,0,0,0,[]⟩ else c.f i⟩,0)):=by unfold Hid CP.turn;rw[hf];dsimp only;rw[if_neg (by simp at h0;simp[h0])]
   have hb:decide (0<r.x.st)=false:=by simp;omega
   clear hs3;clear h hf hi hn hr h0;go_enter Tryz.func97,Tryz.ntmps97;go_wp2_with fail;refine K.out.mono ?_;rintro e w1⟨rfl,rfl⟩;go_wp2;go_region;go_wp2;go_ret;obtain⟨p1,p2⟩:=HP.out;rw[HS.out];exact⟨rfl,⟨_,p1.drewN 1⟩,p2.drewN 1⟩
set_option maxRecDepth 100000 in
theorem rAsk_any(R:RL)(rs:List RN)(c:CP)(n:Int)(w:World)(h:RefAt w R rs c) :
 Calls Tryz.prog 98 #[.pointer (some ⟨R.cb,0,none⟩),.int .i64 n] w fun e w'=>e=.returned (.int .i64 (c.ask n).2)∧RefAt w' R rs (c.ask n).1∧Fr (fun j=>j=R.cb) w w':=by
 obtain⟨c0,c1,c2,c3,c4⟩:=h.cells;have nf:∀o,w.frozen? ⟨R.cb,o,none⟩=false:=fun o=>h.blk.frozen o
 have hfr:Fr (fun j=>j=R.cb) w (w.setCell ⟨R.cb,3,none⟩ (.int .i64 n)):=(Fr.refl (fun j=>j=R.cb) w).setCell (p:=⟨R.cb,3,none⟩) (Or.inl rfl) _
 have HP:Hid (RefAt (w.setCell ⟨R.cb,3,none⟩ (.int .i64 n)) R rs ⟨c.plan,c.time,c.now,n,c.f⟩∧Fr (fun j=>j=R.cb) w (w.setCell ⟨R.cb,3,none⟩ (.int .i64 n))):=by
  refine⟨?_,hfr⟩;obtain⟨cur,hb⟩:=h.nblk;have hl:=h.lt
  refine⟨h.blk.set 3 (.int .i64 n),⟨cur,hb.setOther _ _ h.ne.symm⟩,fun i j v hi hv=>?_,h.plan.off hfr (fun b off e _ hs=>(h.pfar b off e).1 hs),h.pfar,fun i hi=>⟨(h.each i hi).1,(h.each i hi).2.fr hfr (fun k cur hk e=>by
   subst e;rw[show w.heap[R.cb]?=_ from h.blk] at hk
   injection hk with hk;injection hk with _ e;revert e;decide)⟩,h.dom,h.rise,h.len⟩
  exact(World.cell?_setCell_other _ _ _ _ (fun e=>h.ne (congrArg Addr.block e))).trans (h.row i j v hi hv)
 have H:=Lib.hid h
 by_cases h1:n<0∨3<n
 ·have HS:Hid (c.ask n=(c,2)):=by unfold Hid CP.ask;rw[if_pos h1]
  by_cases h2:n<0
  ·have hb:decide (n<0)=true:=by simpa using h2
   clear h h1 h2 HP hfr;go_enter Tryz.func98,Tryz.ntmps98;go_wp2;go_ret;rw[HS.out];exact⟨rfl,H.out,Fr.refl _ _⟩
  ·have hb:decide (n<0)=false:=by simpa using h2
   have hb2:decide (3<n)=true:=by simp;omega
   clear h h1 h2 HP hfr;go_enter Tryz.func98,Tryz.ntmps98;go_wp2;go_ret;rw[HS.out];exact⟨rfl,H.out,Fr.refl _ _⟩
 ·have hb:decide (n<0)=false:=by simp;omega
  have hb2:decide (3<n)=false:=by simp;omega
  by_cases h2:0≤c.asked
  ·have HS:Hid (c.ask n=(c,6)):=by unfold Hid CP.ask;rw[if_neg h1,if_pos h2]
   have hb3:decide (0≤c.asked)=true:=by simpa using h2
   clear h h1 h2 HP hfr;go_enter Tryz.func98,Tryz.ntmps98;go_wp2;go_ret;rw[HS.out];exact⟨rfl,H.out,Fr.refl _ _⟩
  ·have HS:Hid (c.ask n=(⟨c.plan,c.time,c.now,n,c.f⟩,0)):=by unfold Hid CP.ask;rw[if_neg h1,if_neg h2]
   have hb3:decide (0≤c.asked)=false:=by simpa using h2
   clear h h1 h2 hfr;go_enter Tryz.func98,Tryz.ntmps98;go_wp2;go_ret;rw[HS.out];exact⟨rfl,HP.out.1,HP.out.2⟩
end Go.Proofs.YtppfkokfnoeopaaGreatDoor
