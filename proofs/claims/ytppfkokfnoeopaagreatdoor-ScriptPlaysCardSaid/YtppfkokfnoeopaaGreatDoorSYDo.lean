/- A part of a proof. -/
import Derived.Lib.Replace
import Derived.Lib.ReplaceLaws
import Derived.StringKeys
import Derived.Test.YtppfkokfnoeopaaGreatDoorSTapeAct
import Derived.Test.YtppfkokfnoeopaaGreatDoorSCSlot
import Derived.Test.YtppfkokfnoeopaaGreatDoorSSameTexts
set_option maxRecDepth 400000
set_option maxHeartbeats 6400000
namespace Go.Proofs.YtppfkokfnoeopaaGreatDoor
open Go.RowKit Go.Proofs.Tryz
def Oh:List UInt8:=[110,111,116,104,105,110,103]
def okB:List UInt8:=[111,107]
def Bv(st:Option (List Int))(x:List UInt8):Option (List Int):=st.bind fun xs=>(Cl x).map fun n=>xs++[n]
def Bi(l:List (List UInt8)):Option (List Int):=l.foldl Bv (some [])
def J5(s:List UInt8):Option (List Int):=Bi (Az 44 s)
theorem Fi(l:List (List UInt8))(x:List UInt8):Bi (l++[x])=Bv (Bi l) x:=by simp[Bi]
theorem Hi:∀(r:List (List UInt8)) {l:List (List UInt8)},Bi l=none→Bi (l++r)=none
 | [],l,h=>by simpa using h
 | x::r,l,h=>by
  have h1:Bi (l++[x])=none:=by rw[Fi,h];rfl
  have:=Hi r h1
  rwa [List.append_assoc] at this
theorem Jq:∀l:List (List UInt8),l.foldl Bv none=none
 | []=>rfl
 | _::r=>Jq r
theorem Oi:∀(l:List (List UInt8)) (acc xs:List Int),l.foldl Bv (some acc)=some xs→xs.length=acc.length+l.length
 | [],acc,xs,h=>by simp at h;subst h;simp
 | x::r,acc,xs,h=>by
  rw[List.foldl_cons] at h
  cases hx:Cl x with
  | none=>
   have e:Bv (some acc) x=none:=by simp[Bv,hx]
   rw[e,Jq] at h;cases h
  | some n=>
   have e:Bv (some acc) x=some (acc++[n]):=by simp[Bv,hx]
   rw[e] at h;have:=Oi r _ _ h;rw[this,List.length_append,List.length_singleton,List.length_cons];omega
theorem En{l:List (List UInt8)}{xs:List Int}(h:Bi l=some xs):xs.length=l.length:=by
 have:=Oi l [] xs h;simpa using this
def Bz(w:List UInt8):Int:=
 if w=[112,108,97,110]∨w=[111,102,102]∨w=[111,110]∨w=[109,111,100,101]∨w=[115,108,111,116] then 1 else if w=[115,101,116] then 2 else -1
def CP.slotW(c:CP)(word:List UInt8):CP×List UInt8×Nat:=match Cq word with
 | none=>(c,[],1)
 | some k=>((c.slotF (Ao (k:Nat) 16)).1,Lib.replaceAll (if c.slotT=[] then Oh else c.slotT) [32] [95],(c.slotF (Ao (k:Nat) 16)).2)
def CP.setW(c:CP)(w1 w2:List UInt8):CP×Nat:=match Cl w1,Cl w2 with
 | some n,some v=>c.set n v
 | _,_=>(c,1)
def CP.planW(c:CP)(w1:List UInt8):CP×Nat:=match J5 w1 with
 | none=>(c,1)
 | some l=>(CP.new l,(Ay l).1)
def CP.oneW(c:CP)(w0 w1:List UInt8):CP×Nat:=match Cl w1 with
 | none=>(c,1)
 | some n=>if w0=[111,102,102] then c.turn n 0 else if w0=[111,110] then c.turn n 1 else c.ask n
def CP.change(c:CP)(w:List (List UInt8)):CP×List UInt8×Nat:=
 if w.getD 0 []=[112,108,97,110] then((c.planW (w.getD 1 [])).1,okB,(c.planW (w.getD 1 [])).2)
 else if w.getD 0 []=[115,108,111,116] then c.slotW (w.getD 1 [])
 else if w.getD 0 []=[115,101,116] then((c.setW (w.getD 1 []) (w.getD 2 [])).1,okB,(c.setW (w.getD 1 []) (w.getD 2 [])).2)
 else((c.oneW (w.getD 0 []) (w.getD 1 [])).1,okB,(c.oneW (w.getD 0 []) (w.getD 1 [])).2)
def NP.viewT(x:NP):List UInt8:=Db x.m++32::(Lib.itoa x.d++32::Lib.itoa x.s)
def CP.tellN(c:CP)(w0:List UInt8)(n:Int):List UInt8×Nat:=
 if w0=[118,105,101,119] then((c.on n).1.viewT,(c.on n).2)
 else if w0=[104,105,115,116,111,114,121] then(Fb (c.on n).1.h,(c.on n).2)
 else if w0=[116,111,116,97,108] then(Lib.itoa (Dr (c.on n).1.h).sum,(c.on n).2)
 else(if c.stT n=[] then Oh else c.stT n,0)
def Tm(w0:List UInt8):Bool:=decide (w0=[115,116,97,116,101]∨w0=[118,105,101,119]∨w0=[104,105,115,116,111,114,121]∨w0=[116,111,116,97,108])
def CP.tell(c:CP)(w:List (List UInt8)):List UInt8×Nat:=
 if w.length=1∧w.getD 0 []=[99,114,101,119] then(Db (c.crewN:Nat),0)
 else if w.length=1∧w.getD 0 []=[116,105,109,101] then(Lib.itoa (c.time:Nat),0)
 else if w.length=2∧Tm (w.getD 0 [])=true then(match Cl (w.getD 1 []) with
  | none=>([],1)
  | some n=>c.tellN (w.getD 0 []) n)
 else([],1)
structure YP where
 c:CP
 d:Dk
def YP.doF(y:YP)(line:List UInt8):YP×List UInt8×Nat:=
 if Bz ((Az 32 line).getD 0 [])≠((Az 32 line).length:Int)-1 then(y,if (y.c.tell (Az 32 line)).2=0 then(y.c.tell (Az 32 line)).1 else[],(y.c.tell (Az 32 line)).2)
 else if (y.c.change (Az 32 line)).2.2≠0 then(y,[],(y.c.change (Az 32 line)).2.2)
 else if (apF y.d line).2≠0 then(⟨y.c,(apF y.d line).1⟩,[],(apF y.d line).2)
 else(⟨(y.c.change (Az 32 line)).1,(apF y.d line).1⟩,(y.c.change (Az 32 line)).2.1,0)
def Bp:CP:=CP.new [1,2,3]
def YP.new:YP:=⟨Bp,⟨[],false,-1⟩⟩
def CP.lineF(c:CP)(line:List UInt8):CP×Nat:=if Bz ((Az 32 line).getD 0 [])≠((Az 32 line).length:Int)-1 then(c,1) else((c.change (Az 32 line)).1,(c.change (Az 32 line)).2.2)
def CP.linesF(c:CP):Nat→List (List UInt8)→CP×Nat×Int
 | _,[]=>(c,0,-1)
 | i,x::r=>if (c.lineF x).2=0 then(c.lineF x).1.linesF (i+1) r else(c,(c.lineF x).2,i)
def CP.nodeT(c:CP)(n:Int):List UInt8:=Lib.itoa n++32::(c.stT n++((if (c.on n).2=0 then 32::((c.on n).1.viewT++32::Fb (c.on n).1.h) else[])++[10]))
def CP.textY(c:CP):List UInt8:=[116,105,109,101,32]++(Lib.itoa (c.time:Nat)++10::(Bq c.plan).flatMap c.nodeT)
theorem Sn(l:List Int):(Ay l).1≤11:=by unfold Ay;repeat(first|omega|split)
theorem Ce.change{c:CP}(h:Ce c)(w:List (List UInt8))(h0:(c.change w).2.2=0):Ce (c.change w).1:=by
 unfold CP.change at h0 ⊢
 split
 ·rename_i h1
  rw[if_pos h1] at h0;dsimp only at h0 ⊢;unfold CP.planW at h0 ⊢
  cases hn:J5 (w.getD 1 []) with
  | none=>rw[hn] at h0;simp at h0
  | some l=>rw[hn] at h0;exact Ce.new h0
 ·rename_i h1
  split
  ·unfold CP.slotW
   split
   ·exact h
   ·exact h.slotF _
  ·split
   ·dsimp only
    unfold CP.setW
    split
    ·exact h.set _ _
    ·exact h
   ·dsimp only
    unfold CP.oneW
    split
    ·exact h
    ·split
     ·exact h.turn _ _ (Or.inl rfl)
     ·split
      ·exact h.turn _ _ (Or.inr rfl)
      ·exact h.ask _
theorem O7:Ce Bp:=Ce.new (by decide +kernel)
theorem Ce.doF{y:YP}(h:Ce y.c)(line:List UInt8):Ce (y.doF line).1.c:=by
 unfold YP.doF
 split
 ·exact h
 ·split
  ·exact h
  ·split
   ·exact h
   ·rename_i h1 _
    exact h.change _ (by omega)
theorem Ce.lineF{c:CP}(h:Ce c)(line:List UInt8)(h0:(c.lineF line).2=0):Ce (c.lineF line).1:=by
 unfold CP.lineF at h0 ⊢
 split
 ·exact h
 ·rename_i h1
  rw[if_neg h1] at h0;exact h.change _ h0
theorem Lu:∀(l:List (List UInt8)) (c:CP) (i:Nat) (x:List UInt8),(c.linesF i l).2.1=0→c.linesF i (l++[x])=if ((c.linesF i l).1.lineF x).2=0 then(((c.linesF i l).1.lineF x).1,0,-1) else((c.linesF i l).1,((c.linesF i l).1.lineF x).2,((i+l.length:Nat):Int))
 | [],c,i,x,h=>by
  simp only[List.nil_append,CP.linesF,List.length_nil,Nat.add_zero]
  rfl
 | y::r,c,i,x,h=>by
  rw[List.cons_append,CP.linesF,CP.linesF];rw[CP.linesF] at h
  split at h
  ·rename_i h1
   simp only[if_pos h1];rw[Lu r _ (i+1) x h,List.length_cons];rw[show i+1+r.length=i+(r.length+1) by omega]
  ·rename_i h1;exact absurd h h1
theorem Lv:∀(l:List (List UInt8)) (c:CP) (i k:Nat) (hk:k<l.length),(c.linesF i (l.take k)).2.1=0→((c.linesF i (l.take k)).1.lineF l[k]).2≠0→c.linesF i l=((c.linesF i (l.take k)).1,((c.linesF i (l.take k)).1.lineF l[k]).2,((i+k:Nat):Int))
 | [],c,i,k,hk,_,_=>by simp at hk
 | y::r,c,i,0,hk,_,h2=>by
  simp only[List.take_zero,CP.linesF,List.getElem_cons_zero,Nat.add_zero] at h2 ⊢;rw[if_neg h2]
 | y::r,c,i,k+1,hk,h1,h2=>by
  rw[List.take_succ_cons,CP.linesF] at h1 h2 ⊢;rw[CP.linesF]
  split at h1
  ·rename_i h3
   simp only[if_pos h3] at h2 ⊢;have hk':k<r.length:=by simpa using hk
   have ih:=Lv r (c.lineF y).1 (i+1) k hk' h1 (by simpa using h2);rw[ih];simp only[List.getElem_cons_succ];rw[show i+1+k=i+(k+1) by omega]
  ·rename_i h3;exact absurd h1 h3
theorem Qe(l:List (List UInt8))(c:CP)(k:Nat)(hk:k<l.length)(h1:(c.linesF 0 (l.take k)).2.1=0)(h2:((c.linesF 0 (l.take k)).1.lineF l[k]).2=0):c.linesF 0 (l.take (k+1))=(((c.linesF 0 (l.take k)).1.lineF l[k]).1,0,-1):=by
 rw[List.take_succ_eq_append_getElem hk,Lu _ _ _ _ h1,if_pos h2]
end Go.Proofs.YtppfkokfnoeopaaGreatDoor
namespace Go.Proofs.YtppfkokfnoeopaaGreatDoor
open Go.RowKit Go.Maps Go.Proofs.Tryz
theorem Pq.weak{b b':Nat}{L:CL}(h:Pq b L)(hb:b'≤b):Pq b' L:=⟨Nat.le_trans hb h.cb,Nat.le_trans hb h.bb,Nat.le_trans hb h.mb⟩
theorem zH9{n:Int}(h : -9223372036854775808≤n∧n≤9223372036854775807):(Lit.int .i64 n).wf=true:=by
 have h1:IntKind.i64.min=-9223372036854775808:=by decide +kernel
 have h2:IntKind.i64.max=9223372036854775807:=by decide +kernel
 simp only[Lit.wf,Bool.and_eq_true,decide_eq_true_eq,h1,h2];exact h
structure YL where
 yb:Nat
 L:CL
 D:Nat
structure B8(w:World)(base:Nat)(Y:YL)(y:YP):Prop where
 blk:Af w Y.yb 69 #[.pointer (some ⟨Y.L.cb,0,none⟩),.pointer (some ⟨Y.D,0,none⟩)]
 clus:Ap w Y.L y.c
 disk:Bo w base Y.D y.d
 inv:Ce y.c
 low:base≤Y.yb
 lowc:Pq base Y.L
 cut : -9223372036854775808≤y.d.cut∧y.d.cut≤9223372036854775807
theorem Bo.owns{w:World}{base D k:Nat}{s:Dk}(h:Bo w base D s)(hk:F4 w D k):base≤k∧k<w.heap.size∧∃cur fz t,w.heap[k]?=some (.cells cur t fz)∧(t=5∨t=104):=by
 obtain⟨hB,hl,v,hK,hv⟩:=h
 rcases hk with rfl|⟨v',x',y',h1,h2⟩
 ·exact⟨hB,hK.lt,_,_,_,hK,Or.inr rfl⟩
 ·rw[show w.heap[D]?=_ from hK] at h1
  injection h1 with h1;injection h1 with h1;have h3:v=v':=by simpa using congrArg (fun a:Array Value=>a.toList.headD undef) h1
  subst h3;obtain⟨h4,cur,fz,h5⟩:=hv.bytes k h2;exact⟨h4,(Array.getElem?_eq_some_iff.1 h5).1,cur,fz,_,h5,Or.inl rfl⟩
theorem Bo.fr{S:Nat→Prop}{w w':World}{base D:Nat}{s:Dk}(h:Bo w base D s)(hf:Fr S w w')(hs:∀k,F4 w D k→¬S k):Bo w' base D s:=by
 obtain⟨hB,hl,v,hK,hv⟩:=h;exact⟨hB,hl,v,(hf.block D hK.lt (hs D (Or.inl rfl))).trans hK,hv.kept fun g hg=>hf.block g (hv.lt g hg) (hs g (Or.inr ⟨v,_,_,hK,hg⟩))⟩
theorem F4.fr{S:Nat→Prop}{w w':World}{base D k:Nat}{s:Dk}(h:Bo w base D s)(hf:Fr S w w')(hs:∀k,F4 w D k→¬S k)(hk:F4 w' D k):F4 w D k:=
 hk.same (hf.block D h.lt (hs D (Or.inl rfl)))
def Ju(w:World)(Y:YL):Nat→Prop:=fun k=>k=Y.yb∨F4 w Y.D k
theorem B8.owns{w:World}{base:Nat}{Y:YL}{y:YP}(h:B8 w base Y y){k:Nat}(hk:Ju w Y k):base≤k∧k<w.heap.size∧∃cur fz t,w.heap[k]?=some (.cells cur t fz)∧(t=5∨t=104∨t=69):=by
 rcases hk with rfl|hk
 ·exact⟨h.low,h.blk.lt,_,_,_,h.blk,Or.inr (Or.inr rfl)⟩
 ·obtain⟨h1,h2,cur,fz,t,h3,h4⟩:=h.disk.owns hk
  exact⟨h1,h2,cur,fz,t,h3,h4.elim Or.inl (fun e=>Or.inr (Or.inl e))⟩
theorem Ap.turned{S:Nat→Prop}{w w':World}{L:CL}{c:CP}(h:Ap w L c)(hf:Fr S w w')(hs:∀k,k<w.heap.size→S k→∃cur fz t,w.heap[k]?=some (.cells cur t fz)∧(t=5∨t=104∨t=69)):Ap w' L c:=by
 obtain⟨l1,l2,l3,l4⟩:=h.lt;obtain⟨a1,a2,a3,⟨q,hq,a4⟩,a6⟩:=h
 have no:∀k cur t,w.heap[k]?=some (.cells cur t (0,0))→t≠5→t≠104→t≠69→¬S k:=fun k cur t hk n1 n2 n3 hS=>by
  obtain⟨cur',fz,t',h1,h2⟩:=hs k (Array.getElem?_eq_some_iff.1 hk).1 hS;rw[h1] at hk;injection hk with hk;injection hk with _ e;subst e
  rcases h2 with h2|h2|h2
  ·exact n1 h2
  ·exact n2 h2
  ·exact n3 h2
 have nom:∀k es clock,w.heap[k]?=some (.map es clock)→¬S k:=fun k es clock hk hS=>by
  obtain⟨cur',fz,t',h1,h2⟩:=hs k (Array.getElem?_eq_some_iff.1 hk).1 hS;rw[h1] at hk;cases hk
 obtain⟨es,clock,hm⟩:=a4.map;obtain⟨es2,clock2,hm2⟩:=a3.2.2.map;refine Ap.kept ⟨a1,a2,a3,⟨q,hq,a4⟩,a6⟩ hf (fun k hk=>?_) (nom _ _ _ hm2) (fun k cur t hk ht=>?_)
 ·rcases hk with rfl|rfl|rfl
  ·exact no _ _ _ a1 (by decide) (by decide) (by decide)
  ·exact no _ _ _ a3.1 (by decide) (by decide) (by decide)
  ·exact nom _ _ _ hm
 ·rcases ht with rfl|rfl
  ·exact no _ _ _ hk (by decide) (by decide) (by decide)
  ·exact no _ _ _ hk (by decide) (by decide) (by decide)
theorem B8.kept{S:Nat→Prop}{w w':World}{base:Nat}{Y:YL}{y:YP}(h:B8 w base Y y)(hf:Fr S w w')(hs:∀k,Ju w Y k→¬S k)(hc:Ap w' Y.L y.c):B8 w' base Y y:=
 ⟨(hf.block Y.yb h.blk.lt (hs _ (Or.inl rfl))).trans h.blk,hc,h.disk.fr hf (fun k hk=>hs k (Or.inr hk)),h.inv,h.low,h.lowc,h.cut⟩
theorem B8.below{w w':World}{base:Nat}{Y:YL}{y:YP}(h:B8 w base Y y)(hb:Below w.heap.size w w'):B8 w' base Y y:=
 h.kept (S:=fun _=>False) (Fr.of hb) (fun _ _ h=>h) (h.clus.below hb)
theorem B8.weak{w:World}{base base':Nat}{Y:YL}{y:YP}(h:B8 w base Y y)(hb:base'≤base):B8 w base' Y y:=
 ⟨h.blk,h.clus,h.disk.weak hb,h.inv,Nat.le_trans hb h.low,h.lowc.weak hb,h.cut⟩
structure Fm(w w':World)(Y Y':YL):Prop where
 fr:Fr (Ju w Y) w w'
 yb:Y'.yb=Y.yb
 D:Y'.D=Y.D
 mv:∀k,k<w.heap.size→F4 w' Y.D k→F4 w Y.D k
 new:∀k,Y'.L.own k→Y.L.own k∨w.heap.size≤k
theorem Fm.refl(w:World)(Y:YL):Fm w w Y Y:=⟨Fr.refl _ _,rfl,rfl,fun _ _ h=>h,fun _ h=>Or.inl h⟩
theorem Fm.of{w w':World}{base:Nat}{Y:YL}{y:YP}(h:B8 w base Y y)(hb:Below w.heap.size w w'):Fm w w' Y Y:=
 ⟨Fr.of hb,rfl,rfl,fun _ _ hk=>hk.same (hb.block _ h.disk.lt),fun _ h=>Or.inl h⟩
theorem Fm.trans{a b c:World}{Y Y' Y'':YL}(h:Fm a b Y Y')(k:Fm b c Y' Y''):Fm a c Y Y'':=
 ⟨h.fr.then k.fr (fun i hi=>by
  by_cases hl:i<a.heap.size
  ·rcases hi with e|hi
   ·exact Or.inl (Or.inl (e.trans h.yb))
   ·rw[h.D] at hi;exact Or.inl (Or.inr (h.mv i hl hi))
  ·exact Or.inr (by omega)),k.yb.trans h.yb,k.D.trans h.D,fun i hi hx=>h.mv i hi (by have:=k.mv i (Nat.lt_of_lt_of_le hi h.fr.size);rw[h.D] at this;exact this hx),
  fun i hi=>by
   rcases k.new i hi with h1|h1
   ·exact h.new i h1
   ·exact Or.inr (Nat.le_trans h.fr.size h1)⟩
theorem Fm.below{w w':World}{base:Nat}{Y Y':YL}{y:YP}(h:Fm w w' Y Y')(hY:B8 w base Y y):Below base w w':=
 h.fr.below (Nat.le_trans hY.low (Nat.le_of_lt hY.blk.lt)) (fun _ hk=>(hY.owns hk).1)
theorem B8.size{w:World}{base:Nat}{Y:YL}{y:YP}(h:B8 w base Y y):base≤w.heap.size:=Nat.le_trans h.low (Nat.le_of_lt h.blk.lt)
theorem B8.other{w w':World}{base base':Nat}{Y Z Z':YL}{y z:YP}(h:B8 w base Y y)(hz:B8 w base' Z z)(hs:Fm w w' Z Z')(ha:∀k,Ju w Y k→¬Ju w Z k):B8 w' base Y y:=
 h.kept hs.fr ha (h.clus.turned hs.fr fun _ _ hk=>(hz.owns hk).2.2)
theorem Fm.apart{w w':World}{base base':Nat}{Y Z Z':YL}{y z:YP}(h:B8 w base Y y)(_hz:B8 w base' Z z)(hs:Fm w w' Z Z')(ha:∀k,Ju w Y k→¬Ju w Z k):∀k,Ju w' Y k→¬Ju w' Z' k:=by
 intro k hk hx
 have hk0:Ju w Y k:=by
  rcases hk with e|hk
  ·exact Or.inl e
  ·exact Or.inr (hk.same (hs.fr.block _ h.disk.lt (ha _ (Or.inr (Or.inl rfl)))))
 have hlt:=(h.owns hk0).2.1
 rcases hx with e|hx
 ·exact ha k hk0 (Or.inl (e.trans hs.yb))
 ·rw[hs.D] at hx
  exact ha k hk0 (Or.inr (hs.mv k hlt hx))
def G7(l:List UInt8):Nat:=if Aw l then 0 else 1
theorem G4(ea:Nat→Addr)(l:List UInt8)(w:World)(hg:Bh w ea [1])(hT:Bf w)(hl:l.length≤4294967280) :
 Calls prog 75 #[.string ⟨l.toArray⟩] w fun e w'=>e=.returned (.tuple #[.int .i64 (Ah l),Bm ea (G7 l)])∧Below w.heap.size w w':=by
 have KN:=zh (Ih l w hT hl);have HG:=zh hg;clear hg hT
 cases hn:Aw l
 ·have HE:Hid (G7 l=1):=by unfold Hid G7;rw[hn];rfl
  rw[zBz hn,hn] at KN;rw[zBz hn];clear hn;go_enter func75,ntmps75;go_wp2_with fail;refine KN.out.mono ?_;rintro e w1⟨rfl,hb1⟩;have g1:=(HG.out.below hb1).cell 1 (by simp);simp only[gOf] at g1;go_wp2;go_quiet (fail);go_wp2;go_ret2;rw[HE.out];exact⟨rfl,hb1.trans (Ab zb _)⟩
 ·have HE:Hid (G7 l=0):=by unfold Hid G7;rw[hn];rfl
  rw[hn] at KN;clear hn;go_enter func75,ntmps75;go_wp2_with fail;refine KN.out.mono ?_;rintro e w1⟨rfl,hb1⟩;go_wp2;go_ret2;rw[HE.out,Al];exact⟨rfl,hb1⟩
theorem Tk(l:List UInt8)(w:World) :
 Calls prog 33 #[.string ⟨l.toArray⟩] w fun e w'=>e=.returned (.int .i64 (Bz l))∧w=w':=by
 by_cases q1:l=[112,108,97,110]
 ·subst q1
  go_enter func33,ntmps33;go_wp2;go_ret;exact⟨rfl,rfl⟩
 by_cases q2:l=[111,102,102]
 ·subst q2
  go_enter func33,ntmps33;go_wp2;go_ret;exact⟨rfl,rfl⟩
 by_cases q3:l=[111,110]
 ·subst q3
  go_enter func33,ntmps33;go_wp2;go_ret;exact⟨rfl,rfl⟩
 by_cases q4:l=[109,111,100,101]
 ·subst q4
  go_enter func33,ntmps33;go_wp2;go_ret;exact⟨rfl,rfl⟩
 by_cases q5:l=[115,108,111,116]
 ·subst q5
  go_enter func33,ntmps33;go_wp2;go_ret;exact⟨rfl,rfl⟩
 by_cases q6:l=[115,101,116]
 ·subst q6
  go_enter func33,ntmps33;go_wp2;go_ret;exact⟨rfl,rfl⟩
 have HW:Hid (Bz l=-1):=by unfold Hid Bz;rw[if_neg (by simp[q1,q2,q3,q4,q5]),if_neg q6]
 have g1:(l==[112,108,97,110])=false:=by simpa using q1
 have g2:(l==[111,102,102])=false:=by simpa using q2
 have g3:(l==[111,110])=false:=by simpa using q3
 have g4:(l==[109,111,100,101])=false:=by simpa using q4
 have g5:(l==[115,108,111,116])=false:=by simpa using q5
 have g6:(l==[115,101,116])=false:=by simpa using q6
 clear q1 q2 q3 q4 q5 q6;go_enter func33,ntmps33;go_wp2;go_ret;rw[HW.out];exact⟨rfl,rfl⟩
theorem Kc(ea:Nat→Addr)(v:Value)(code:Nat)(pl:Int)(w:World)(hE:Fs w)(hv:Bg ea w v code pl)(h0:code≠0) :
 Calls prog 35 #[v] w fun e w'=>e=.returned (Bm ea code)∧Below w.heap.size w w':=by
 have HET:=zh hE;clear hE
 rcases hv with⟨_,rfl⟩|⟨hp,_,b,rfl,hlt,hc0,hc1⟩
 ·rw[Ae ea h0]
  go_enter func35,ntmps35;go_wp2_with fail;refine(Vr (ea code) ⟨w.heap.size,0,none⟩ _ (HET.out.below (zb.alloc zl _))).mono ?_;rintro e w2⟨rfl,hw2⟩
  have hb2:Below w.heap.size w w2:=by
   rw[hw2];exact(((zb.alloc zl _).alloc (by simp) _).alloc (by simp;omega) _).alloc (by simp;omega) _
  clear hw2;go_wp2;go_ret;exact⟨rfl,hb2⟩
 ·have HC1:=zh hc1
  clear hc0 hc1;rw[Zx];go_enter func35,ntmps35;go_wp2_with fail;refine(Zi ⟨b,0,none⟩ ⟨w.heap.size,0,none⟩ (.pointer none) _ (HET.out.below (zb.alloc zl _)) (by simp) (by simp)).mono ?_;rintro e w2⟨rfl,hw2⟩
  have hb2:Below w.heap.size w w2:=by
   rw[hw2];exact(((((zb.alloc zl _).alloc (by simp) _).alloc (by simp;omega) _).alloc (by simp;omega) _).alloc (by simp;omega) _).setCell (by simp) _
  have ct:w2.cell? ⟨w.heap.size,0,none⟩=some (.pointer (some ⟨b,0,none⟩)):=by
   rw[hw2];refine World.cell?_setCell_same' _ _ _ ?_;rw[World.cell?_alloc_lt _ _ ⟨w.heap.size,0,none⟩ (by simp;omega),World.cell?_alloc_lt _ _ ⟨w.heap.size,0,none⟩ (by simp;omega),World.cell?_alloc_lt _ _ ⟨w.heap.size,0,none⟩ (by simp;omega),World.cell?_alloc_lt _ _ ⟨w.heap.size,0,none⟩ (by simp)];simp
  clear hw2;have c1:=(hb2.cell (p:=⟨b,1,none⟩) hlt).trans HC1.out;go_wp2;go_ret;exact⟨rfl,hb2⟩
theorem Ik(s:List UInt8)(a b:UInt8)(w:World)(hT:Bf w)(hs:s.length≤1000000) :
 Calls prog 139 #[.string ⟨s.toArray⟩,.string ⟨#[a]⟩,.string ⟨#[b]⟩] w fun e w'=>e=.returned (.string ⟨(Lib.replaceAll s [a] [b]).toArray⟩)∧Below w.heap.size w w':=by
 obtain⟨m,_,hm⟩:=hT.mx;have h1:=Lib.countB_mul_le ⟨#[a]⟩ (by simp[ByteArray.size]) s.length ⟨s.toArray⟩ (by simp[ByteArray.size]);simp[ByteArray.size] at h1;exact Tryz.strings_ReplaceAll ⟨s.toArray⟩ ⟨#[a]⟩ ⟨#[b]⟩ m w (by simp[ByteArray.size];omega) hm (by simp[ByteArray.size]) (by simp[ByteArray.size];omega)
theorem Ce.on{c:CP}(h:Ce c)(i:Int):Bn (c.on i).1.m=true∧(0≤(c.on i).1.d∧(c.on i).1.d≤3)∧(0≤(c.on i).1.s∧(c.on i).1.s≤200)∧(chk (c.on i).1.h).1=0∧(c.on i).1.h.length≤200:=by
 have hz:Bn NP0.m=true∧(0≤NP0.d∧NP0.d≤3)∧(0≤NP0.s∧NP0.s≤200)∧(chk NP0.h).1=0∧NP0.h.length≤200:=by decide
 unfold CP.on
 cases hf:c.f i with
 | none=>exact hz
 | some x=>
  dsimp only
  split
  ·rename_i ha
   obtain⟨h1,h2,h3,h4,h5,h6⟩:=(h.node i x hf).on ha;have ht:=h.time
   show Bn x.m=true∧(0≤x.d∧x.d≤3)∧(0≤x.s∧x.s≤200)∧(chk x.h).1=0∧x.h.length≤200
   exact⟨h1,⟨h2,h3⟩,⟨by omega,by omega⟩,h6,by omega⟩
  ·exact hz
theorem zGr(c:CP)(i:Int):(c.on i).2=0∨(c.on i).2=4∨(c.on i).2=11:=by
 unfold CP.on
 cases c.f i with
 | none=>simp
 | some x=>dsimp only;split<;>simp
theorem Vp(ea:Nat→Addr)(L:CL)(c:CP)(i:Int)(w:World)(hg:Bh w ea [2,4,11])(hT:Bf w)(h:Ap w L c)(hI:Ce c)(hi:(Lit.int .i64 i).wf=true) :
 Calls prog 50 #[.pointer (some ⟨L.cb,0,none⟩),.int .i64 i] w fun e w'=>e=.returned (.tuple #[.string ⟨((c.on i).1.viewT).toArray⟩,Bm ea (c.on i).2])∧Below w.heap.size w w':=by
 have KV:=zh (zCf ea L c i w (hg.sub (by simp)) h hi);obtain⟨h1,h2,h3,_,_⟩:=hI.on i;have HV:Hid ((c.on i).1.viewT=Db (c.on i).1.m++32::(Lib.itoa (c.on i).1.d++32::Lib.itoa (c.on i).1.s)):=rfl;have HG:=zh hg;have HT:=zh hT;clear h hI hg hT hi;generalize c.on i=r at *;obtain⟨x,k⟩:=r;dsimp only at *;go_enter func50,ntmps50;go_wp2_with fail;refine KV.out.mono ?_;rintro e w1⟨rfl,hb1⟩;go_upto_region 2 with(fail);obtain⟨W1,hW1⟩:∃W,W=w1.alloc (.cells #[.int .i64 x.m,.int .i64 x.d,.int .i64 x.s] 96):=⟨_,rfl⟩
 rw[←hW1];have hB1:Af W1 w1.heap.size 96 #[.int .i64 x.m,.int .i64 x.d,.int .i64 x.s]:=by rw[hW1];exact Af.new w1 _ _
 have hA1:Below w1.heap.size w1 W1:=by rw[hW1];exact zb.alloc zl _
 have hv1:=Ar hb1 hA1;clear hW1 hA1 hb1;generalize w1.heap.size=b1 at *;have HB1:=zh hB1;have x0:=hB1.cell 0 rfl;have x1:=hB1.cell 1 rfl;have x2:=hB1.cell 2 rfl;have hbl:=hB1.lt;have KT:=zh (fun(W:World) (hb:Below w.heap.size w W)=>Te ea x.m W ((HG.out.below hb).sub (by simp)));have KD:=zh (fun(W:World) (hb:Below w.heap.size w W)=>Df x.d W (HT.out.below hb) (by omega));have KS:=zh (fun(W:World) (hb:Below w.heap.size w W)=>Df x.s W (HT.out.below hb) (by omega));have hv2:Below w.heap.size w W1.drew:=hv1.drew;have lm:=Ji x.m;have ld:(Lib.itoa x.d).length≤9:=E4 (by omega) (by omega);have ls:(Lib.itoa x.s).length≤9:=E4 (by omega) (by omega);clear h1 h2 h3 KV hB1 hv1;generalize Db x.m=tm at *;generalize Lib.itoa x.d=td at *;generalize Lib.itoa x.s=ts at *;have s1:(9223372036854775807<tm.length+1)=False:=eq_false (by omega);have s2:(9223372036854775807<tm.length+1+td.length)=False:=eq_false (by omega);have s3:(9223372036854775807<tm.length+1+td.length+1)=False:=eq_false (by omega);have s4:(9223372036854775807<tm.length+1+td.length+1+ts.length)=False:=eq_false (by omega)
 go_region_held3 (fun w'=>w'.cell? ⟨b1,0,none⟩=some (.int .i64 x.m)∧w'.cell? ⟨b1,1,none⟩=some (.int .i64 x.d)∧w'.cell? ⟨b1,2,none⟩=some (.int .i64 x.s)) (go_keep)
  (first
   | ((go_at_call 74;(with_reducible refine(KT.out _ hv2).mono ?_);rintro e w3⟨rfl,hb3⟩;have hv3:=Ar hv2 hb3;have hl3:b1<w3.heap.size:=Nat.lt_of_lt_of_le hbl hb3.size;have d0:=(hb3.cell (p:=⟨b1,0,none⟩) hbl).trans x0;have d1:=(hb3.cell (p:=⟨b1,1,none⟩) hbl).trans x1;have d2:=(hb3.cell (p:=⟨b1,2,none⟩) hbl).trans x2))
   | ((go_at_call 46;(with_reducible refine(KD.out _ hv3).mono ?_);rintro e w4⟨rfl,hb4⟩;have hv4:=Ar hv3 hb4;have hl4:b1<w4.heap.size:=Nat.lt_of_lt_of_le hl3 hb4.size;have q0:=(hb4.cell (p:=⟨b1,0,none⟩) hl3).trans d0;have q1:=(hb4.cell (p:=⟨b1,1,none⟩) hl3).trans d1;have q2:=(hb4.cell (p:=⟨b1,2,none⟩) hl3).trans d2))
   | ((go_at_call 46;(with_reducible refine(KS.out _ hv4).mono ?_);rintro e w5⟨rfl,hb5⟩;have hv5:=Ar hv4 hb5;have p0:=(hb5.cell (p:=⟨b1,0,none⟩) hl4).trans q0;have p1:=(hb5.cell (p:=⟨b1,1,none⟩) hl4).trans q1;have p2:=(hb5.cell (p:=⟨b1,2,none⟩) hl4).trans q2)))
 go_wp2;go_ret2
 have ht:(⟨tm.toArray⟩++⟨[32].toArray⟩++⟨td.toArray⟩++⟨[32].toArray⟩++⟨ts.toArray⟩:ByteArray)=⟨x.viewT.toArray⟩:=by
  rw[Ba,Ba,Ba,Ba,HV.out];simp
 refine⟨?_,hv5⟩
 show Ending.returned (.tuple #[.string (⟨tm.toArray⟩++⟨[32].toArray⟩++⟨td.toArray⟩++⟨[32].toArray⟩++⟨ts.toArray⟩),Bm ea k])=_
 rw[ht]
theorem O2(ea:Nat→Addr)(L:CL)(c:CP)(i:Int)(w:World)(hg:Bh w ea [7,10,4,2,3,11])(hT:Bf w)(h:Ap w L c)(hI:Ce c)(hi:(Lit.int .i64 i).wf=true) :
 Calls prog 51 #[.pointer (some ⟨L.cb,0,none⟩),.int .i64 i] w fun e w'=>e=.returned (.tuple #[.string ⟨(if (c.on i).2=0 then Fb (c.on i).1.h else[]).toArray⟩,Bm ea (c.on i).2])∧Below w.heap.size w w':=by
 obtain⟨_,_,_,h4,h5⟩:=hI.on i;have KH:=zh (Uj ea L c i w (hg.sub (by simp)) h hi (by omega));have HG:=zh hg;have HT:=zh hT;clear h hI hg hT hi;generalize c.on i=r at *;obtain⟨x,k⟩:=r;dsimp only at *;have KX:=zh (fun(W:World) (a:Option Addr) (cap:Nat) (hb:Below w.heap.size w W) (hr:Ac W a (Av x.h))=>V2 ea a x.h.length cap x.h W ((HG.out.below hb).sub (by simp)) (HT.out.below hb) rfl hr (by omega) h4);clear h4
 by_cases hk:k=0
 ·subst hk
  rw[Al] at KH ⊢;rw[if_pos rfl];generalize Fb x.h=t at *;go_enter func51,ntmps51;go_wp2_with fail;refine KH.out.mono ?_;rintro e w1⟨a,cap,rfl,hr,hc,hb1⟩;have K2:=zh (KX.out w1 a cap hb1 hr);go_wp2_with fail;refine K2.out.mono ?_;rintro e w2⟨rfl,hb2⟩;go_wp2;go_ret2;exact⟨rfl,Ar hb1 hb2⟩
 ·rw[if_neg hk]
  rw[Ae ea hk] at KH ⊢;clear hk;go_enter func51,ntmps51;go_wp2_with fail;refine KH.out.mono ?_;rintro e w1⟨a,cap,rfl,hr,hc,hb1⟩;go_wp2;go_ret2;exact⟨rfl,hb1⟩
theorem zBa(ea:Nat→Addr)(L:CL)(c:CP)(i:Int)(w:World)(hg:Bh w ea [7,10,4,2,3,11])(hT:Bf w)(h:Ap w L c)(hI:Ce c)(hi:(Lit.int .i64 i).wf=true) :
 Calls prog 76 #[.pointer (some ⟨L.cb,0,none⟩),.int .i64 i] w fun e w'=>e=.returned (.tuple #[.string ⟨(if (c.on i).2=0 then Lib.itoa (Dr (c.on i).1.h).sum else[]).toArray⟩,Bm ea (c.on i).2])∧Below w.heap.size w w':=by
 obtain⟨_,_,_,h4,h5⟩:=hI.on i;have KH:=zh (Uj ea L c i w (hg.sub (by simp)) h hi (by omega));have HG:=zh hg;have HT:=zh hT;clear h hI hg hT hi;generalize c.on i=r at *;obtain⟨x,k⟩:=r;dsimp only at *;have KX:=zh (fun(W:World) (a:Option Addr) (cap:Nat) (hb:Below w.heap.size w W) (hr:Ac W a (Av x.h))=>zEf ea a x.h.length cap x.h W ((HG.out.below hb).sub (by simp)) rfl hr (by omega) h4)
 have hs : -16777216≤(Dr x.h).sum∧(Dr x.h).sum≤16777216:=by
  have:=Io h4 (Dr x.h).length
  rwa [List.take_length] at this
 clear h4
 by_cases hk:k=0
 ·subst hk
  rw[Al] at KH ⊢;rw[if_pos rfl];generalize (Dr x.h).sum=t at *;go_enter func76,ntmps76;go_wp2_with fail;refine KH.out.mono ?_;rintro e w1⟨a,cap,rfl,hr,hc,hb1⟩;have K2:=zh (KX.out w1 a cap hb1 hr);go_wp2_with fail;refine K2.out.mono ?_;rintro e w2⟨rfl,hb2⟩;have hb3:=Ar hb1 hb2;have K3:=zh (Df t w2 (HT.out.below hb3) (by omega));go_wp2_with fail;refine K3.out.mono ?_;rintro e w3⟨rfl,hb4⟩;go_wp2;go_ret2;exact⟨rfl,Ar hb3 hb4⟩
 ·rw[if_neg hk]
  rw[Ae ea hk] at KH ⊢;clear hk;go_enter func76,ntmps76;go_wp2_with fail;refine KH.out.mono ?_;rintro e w1⟨a,cap,rfl,hr,hc,hb1⟩;go_wp2;go_ret2;exact⟨rfl,hb1⟩
end Go.Proofs.YtppfkokfnoeopaaGreatDoor
namespace Go.Proofs.YtppfkokfnoeopaaGreatDoor
open Go.RowKit Go.Shelf Go.Proofs.Tryz
attribute [local go_sem] Oper.semAt_some
def zHu(B:Nat)(w:World)(pre:List (List UInt8))(W:World):Prop:=
 (∃(xs:List Int) (v:Value),Hid (Bi pre=some xs)∧Boxed W (B+2) 72 v∧W.ownsRow (B+6) 3 1 v xs.length (xs.map (Value.int .i64))) ∧
  Boxed W B 72 (.slice none 0 0)∧Boxed W (B+1) 33 .nilIface∧Below B w W∧B+6≤W.heap.size
def zJh(ea:Nat→Addr)(B:Nat)(w:World)(c:Code)(pre:List (List UInt8))(W:World):Prop:=
 c=.ret∧Bi pre=none∧Boxed W B 72 (.slice none 0 0)∧Boxed W (B+1) 33 (Bm ea 1)∧Below B w W
theorem Sg{B:Nat}{w:World}{pre:List (List UInt8)}{W W':World}{row:Option Nat}(h:zHu B w pre W)(hg:W.grownBy W' row)(hr:∀r,row=some r→B+3≤r∧(r<B+6∨∃o,W.heap[r]?=some o∧o.isCells=false)):zHu B w pre W':=by
 obtain⟨⟨xs,v,h1,h2,h3⟩,h5,h6,h7,h8⟩:=h;have hne:∀k,k<B+3→some k≠row:=fun k hk e=>by have:=(hr k e.symm).1;omega
 refine⟨⟨xs,v,h1,h2.kept hg (hne _ (by omega)),h3.kept hg ?_⟩,h5.kept hg (hne _ (by omega)),h6.kept hg (hne _ (by omega)),h7.grown hg (by omega) (fun k e=>by have:=(hr k e).1;omega),Nat.le_trans h8 hg.size⟩
 rcases h3.2 with⟨rfl,_⟩|⟨g,cap,cur,rfl,hgb,hgc,_⟩
 ·exact .inl rfl
 ·refine .inr fun e'=>?_
  have e2:row=some g:=by simpa[Value.ownBlock] using e'.symm
  obtain⟨_,h|⟨o,ho,hc⟩⟩:=hr g e2
  ·omega
  ·rw[hgc] at ho;cases ho;cases hc
theorem Sh{ea:Nat→Addr}{B:Nat}{w:World}{c:Code}{pre:List (List UInt8)}{W W':World}{row:Option Nat}(h:zJh ea B w c pre W)(hg:W.grownBy W' row)(hr:∀r,row=some r→B+3≤r):zJh ea B w c pre W':=by
 obtain⟨h0,h1,h5,h6,h7⟩:=h;have hne:∀k,k<B+3→some k≠row:=fun k hk e=>by have:=hr k e.symm;omega
 exact⟨h0,h1,h5.kept hg (hne _ (by omega)),h6.kept hg (hne _ (by omega)),h7.grown hg (by have:=h5.lt;omega) (fun k e=>by have:=hr k e;omega)⟩
def W8(ea:Nat→Addr)(s:List UInt8)(B:Nat)(w:World)(e:Ending)(W':World):Prop:=
 (∃xs v,J5 s=some xs∧e=.returned (.tuple #[v,.nilIface])∧W'.ownsRow B 3 1 v xs.length (Aa xs)∧Below B w W')∨(J5 s=none∧e=.returned (.tuple #[.slice none 0 0,Bm ea 1])∧Below B w W')
theorem zIp(ea:Nat→Addr)(s:List UInt8)(w:World)(hs:s.length≤1000000)(hg:Bh w ea [1])(hT:Bf w) :
 CallsIn Fence.wide 3 prog 78 #[.string ⟨s.toArray⟩] w (W8 ea s w.heap.size w):=by
 have HG:=zh (fun(W:World) (h:Below w.heap.size w W)=>hg.below h);have HT:=zh (fun(W:World) (h:Below w.heap.size w W)=>hT.below h);clear hg hT;obtain⟨i0,hi,hz0,hz1,hz2⟩:=info_parts Ll;refine callsIn_of_wp_marks func78 rfl trivial ?_ rfl;simp only[ntmps78,List.size_toArray,List.length_cons,List.length_nil,Nat.reduceAdd,Nat.reduceSub,Array.replicate_succ,Array.replicate_zero,List.push_toArray,List.append_toArray,List.nil_append,List.cons_append]
 gi_wp2_with (refine⟨trivial,?_⟩;gi_at_call 135;refine(callsIn_wide.2 (Ov s 44 _)).mono ?_;rintro e w'⟨rfl,rfl⟩)
 obtain⟨W0,hW0⟩:∃W0,W0=((w.alloc (.cells #[.slice none 0 0] 72)).alloc (.cells #[.nilIface] 33)).alloc (.cells #[.slice none 0 0] 72):=⟨_,rfl⟩
 have hz0':W0.heap.size=w.heap.size+3:=by rw[hW0];simp
 have hb0:Below w.heap.size w W0:=by rw[hW0];exact(((Below.refl _ w).alloc zl _).alloc (by simp) _).alloc (by simp;omega) _
 have hx0:Boxed W0 w.heap.size 72 (.slice none 0 0):=by rw[hW0];exact((Boxed.new w _ _).alloc _).alloc _
 have hx1:Boxed W0 (w.heap.size+1) 33 .nilIface:=by
  rw[hW0];have:=(Boxed.new (w.alloc (.cells #[.slice none 0 0] 72)) 33 .nilIface).alloc (.cells #[.slice none 0 0] 72);rw[World.size_alloc] at this;exact this
 have hx2:Boxed W0 (w.heap.size+2) 72 (.slice none 0 0):=by
  rw[hW0];have:=Boxed.new ((w.alloc (.cells #[.slice none 0 0] 72)).alloc (.cells #[.nilIface] 33)) 72 (.slice none 0 0);rw[World.size_alloc,World.size_alloc] at this;exact this
 rw[←hW0];clear hW0;have hz1':=Le W0 s 44;have hb1:=J8 W0 s 44;have hsp:=M4 W0 s 44;generalize Fe W0 s 44=W1 at *;rw[hz0'] at hsp;simp only[Nat.add_assoc,Nat.reduceAdd];have hI0:zHu w.heap.size w [] W1:=⟨⟨[],_,rfl,As hx2 hb1,World.ownsRow_nil _ _ _ _⟩,As hx0 hb1,As hx1 hb1,hb0.trans (hb1.mono (by omega)),by omega⟩;clear hb1 hx0 hx1 hx2 hb0;have hz:W1.heap.size=w.heap.size+6:=by omega
 generalize hB:w.heap.size=B at *
 refine Fw rfl (by omega) (gf:=216) (lb:=#[.pointer (some ⟨B+4,0,none⟩),.pointer (some ⟨B+3,0,none⟩),.pointer (some ⟨B+5,0,none⟩)]) rfl trivial (enters_of func216 (by kernel_rfl) rfl)
  (L8 2 (by omega) (B+3) B 44 s (by omega) W1 (by omega) hsp) (fun b e=>by cases e;omega) zBw (zBv (by omega) (by omega)) (fun _=>rfl)
  (zHu B w) (zJh ea B w)
  (fun _ _ _ _ h hg hr=>Sg h hg (fun r e=>⟨by have:=(hr r e).1;omega,.inr (hr r e).2⟩)) (fun _ _ _ _ _ h hg hr=>Sh h hg (fun r e=>by have:=(hr r e).1;omega))
  (fun _ _ _ _ h hg hr=>Sg h hg (fun r e=>by have:=Option.some.inj (hr r e);exact⟨by omega,.inl (by omega)⟩)) (fun _ _ _ _ _ h hg hr=>Sh h hg (fun r e=>by have:=Option.some.inj (hr r e);omega)) hI0
  (fun x a' _=>a' = { tmps:=#[.string ⟨s.toArray⟩,undef,.pointer (some ⟨B,0,none⟩),.pointer (some ⟨B+1,0,none⟩),.pointer (some ⟨B+2,0,none⟩),.string ⟨x.toArray⟩,undef,undef,.string ⟨s.toArray⟩,.func (.func 216) #[] #[.pointer (some ⟨B+4,0,none⟩),.pointer (some ⟨B+3,0,none⟩),.pointer (some ⟨B+5,0,none⟩)],.string ⟨x.toArray⟩,undef,undef,undef,undef,undef,undef,undef,undef,undef,undef,undef,undef,undef],defers:=[] })
  (fun _ _ _ _ _ _ hs _ _=>hs) ?assign ?body ?done ?stop
 case assign=>
  intro l pre x W K hi hK
  gi_wp2
  exact hK _ _ (KeepsFrom.refl _ _) ⟨Below.refl _ _,fun _ _=>rfl⟩ hi rfl
 case body=>
  rintro l pre x a' W hi rfl hpre;obtain⟨⟨xs,v,hacc,bx2,hrow⟩,bx0,bx1,hbw,hsz⟩:=hi;have hxl:x.length≤1000000:=Nat.le_trans (Cz 44 s x (hpre.subset (by simp))) hs
  have hpl:xs.length≤1000001:=by
   have h1:=hpre.length_le;rw[List.length_append,List.length_singleton] at h1;have h2:=Ch 44 s;rw[En hacc.out];omega
  have KN:=zh (G4 ea x W (HG.out W hbw) (HT.out W hbw) (by omega));clear hpre
  cases hn:Cl x with
  | some n=>
   have HA:Hid (Bi (pre++[x])=some (xs++[n])):=by unfold Hid;rw[Fi,hacc.out,Bv,Option.bind_some,hn];rfl
   have e1:Ah x=n:=by unfold Ah;rw[hn];rfl
   have e2:G7 x=0:=by unfold G7 Aw;rw[hn];rfl
   rw[e1,e2,Al] at KN;clear hn e1 e2
   gi_wp2_with (first
    | (refine⟨trivial,?_⟩;gi_at_call 75;refine(CallsIn.inRound l (callsIn_wide.2 KN.out)).mono ?_;rintro e w1⟨rfl,hb1⟩;have hr1:=Rd.call (n₀:=B) (b0:=B+3) hb1 (by omega) (by omega);have bx0:=As bx0 hb1;have bx1:=As bx1 hb1;have bx2:=As bx2 hb1;have hrow:=Cb hrow hb1;have c2:=bx2.cell;have hz1w:=hb1.size;have hrow':=Du hrow (base':=B) (by omega))
    | (gi_at_builtin;refine wpListIn_append_own _ rfl _ _ 72 rfl (B+6) 3 i0 (.int .i64 0) 1 8 underlying72 hi hz0 hz1 hz2 rfl (by decide) _ _ _ rfl (hrow.alloc _) ⟨w1.heap.size,0,none⟩ 1 1 [.int .i64 n] rfl rfl (cell_one_new _ _ _) (by simp[Value.oneCell']) (by unfold maxLen;omega) (by omega) (by simp;omega) ?_;intro v' w2 hown' hgrow _;obtain⟨g',cap',rfl⟩:=ownsRow_succ hown';have hown2:=Du hown' (base':=B) (by omega);obtain⟨hv1,hv2,hr2,hk2,hb2⟩:=bx2.appended (by decide) hrow' (by omega) (by omega) hown2 hgrow;have hc1:=hv1.cell;have hf1:=hv1.frozen))
   have hne:∀k,k<B+6→some k≠v.ownBlock:=fun k hk=>G1 hrow hk
   have by0:=(((bx0.alloc (.cells #[.int .i64 n] 3)).kept hgrow (hne _ (by omega))).kept (grownBy_setCell' w2 (B+2) (.slice (some ⟨g',0,none⟩) (xs.length+1) cap')) (fun e=>by injection e with e;omega));have by1:=(((bx1.alloc (.cells #[.int .i64 n] 3)).kept hgrow (hne _ (by omega))).kept (grownBy_setCell' w2 (B+2) (.slice (some ⟨g',0,none⟩) (xs.length+1) cap')) (fun e=>by injection e with e;omega));have hr3:=hown'.kept (grownBy_setCell' w2 (B+2) (.slice (some ⟨g',0,none⟩) (xs.length+1) cap')) (.inr (hv1.not_row (by decide) hown').symm)
   have hbox:∀j,j<3→(w2.setCell ⟨B+2,0,none⟩ (.slice (some ⟨g',0,none⟩) (xs.length+1) cap')).heap[B+3+j]?=W.heap[B+3+j]?:=fun j hj=>by
    have e1:(w2.setCell ⟨B+2,0,none⟩ (.slice (some ⟨g',0,none⟩) (xs.length+1) cap')).heap[B+3+j]?=w2.heap[B+3+j]?:=Below.heap_setCell _ _ _ _ (by simp;omega);have e2:=hgrow.block (B+3+j) (by simp;omega) (hne _ (by omega));have e3:(w1.alloc (.cells #[.int .i64 n] 3)).heap[B+3+j]?=w1.heap[B+3+j]?:=Below.heap_alloc _ _ _ (by omega);exact((e1.trans e2).trans e3).trans (hr1.boxes j hj)
   exact⟨(hr1.others.trans hk2).from _,⟨hr1.below.trans hb2,hbox⟩,⟨⟨xs++[n],_,HA.out,hv2,by simpa using hr3⟩,by0,by1,hbw.trans (hr1.below.trans hb2),Nat.le_trans hsz (hr1.below.trans hb2).size⟩⟩
  | none=>
   have HA:Hid (Bi (pre++[x])=none):=by unfold Hid;rw[Fi,hacc.out,Bv,Option.bind_some,hn];rfl
   have e1:Ah x=0:=by unfold Ah;rw[hn];rfl
   have e2:G7 x=1:=by unfold G7 Aw;rw[hn];rfl
   rw[e1,e2,Ae ea (by decide)] at KN;clear hn e1 e2
   gi_wp2_with (refine⟨trivial,?_⟩;gi_at_call 75;refine(CallsIn.inRound l (callsIn_wide.2 KN.out)).mono ?_;rintro e w1⟨rfl,hb1⟩;have hr1:=Rd.call (n₀:=B) (b0:=B+3) hb1 (by omega) (by omega);have bx0:=As bx0 hb1;have bx1:=As bx1 hb1;have c0:=bx0.cell;have f0:=bx0.frozen;have c1:=bx1.cell;have f1:=bx1.frozen)
   have hR:=hr1.trans ((Rd.set w1 B (.slice none 0 0) (by omega) (by omega)).trans (Rd.set _ (B+1) (.iface 346 (.pointer (some (ea 1)))) (by omega) (by omega)));exact⟨hR.others.from _,rfl,HA.out,(bx0.set _).other (by omega) _,by rw[Ae ea (by decide)];exact(bx1.other (by omega) _).set _,hbw.trans hR.below⟩
 case done=>
  rintro D ys W hD rfl hi hK;obtain⟨⟨xs,v,hacc,bx2,hrow⟩,bx0,bx1,hbw,hsz⟩:=hi;have HR:Hid (J5 s=some xs):=hacc;obtain⟨va,vc,rfl⟩:=Aj hrow;have c2:=bx2.cell;have c0:=bx0.cell;have f0:=bx0.frozen;have c1:=bx1.cell;have f1:=bx1.frozen
  gi_wp2
  have hK':=((KeepsOthers.setCell W ⟨B,0,none⟩ (.slice va xs.length vc)).trans (KeepsOthers.setCell _ ⟨B+1,0,none⟩ .nilIface)).same D _ hK rfl;obtain⟨V,hV⟩:∃V,V=(W.setCell ⟨B,0,none⟩ (.slice va xs.length vc)).setCell ⟨B+1,0,none⟩ .nilIface:=⟨_,rfl⟩
  rw[←hV] at hK' ⊢;have b0:Boxed V B 72 (.slice va xs.length vc):=by rw[hV];exact(bx0.set _).other (by omega) _
  have b1:Boxed V (B+1) 33 .nilIface:=by rw[hV];exact(bx1.other (by omega) _).set _
  have hbV:Below B w V:=by rw[hV];exact(hbw.setCell (p:=⟨B,0,none⟩) zl _).setCell (p:=⟨B+1,0,none⟩) (by simp) _
  have hrV:V.ownsRow (B+6) 3 1 (.slice va xs.length vc) xs.length (xs.map (Value.int .i64)):=by
   rw[hV];have r1:=hrow.kept (grownBy_setCell' W B (.slice va xs.length vc)) (.inr (G1 hrow (by omega)).symm);exact r1.kept (grownBy_setCell' _ (B+1) .nilIface) (.inr (G1 r1 (by omega)).symm)
  have p0:=b0.kept (grownBy_putObj' V D (.deferred none)) (fun e=>by injection e with e;omega);have p1:=b1.kept (grownBy_putObj' V D (.deferred none)) (fun e=>by injection e with e;omega);have hbF:=hbV.trans (belowK_b (n₀:=B) (w:=w) (by omega) V D _ (.deferred none) (by omega) hK' rfl rfl);refine⟨by simp,.inl ⟨_,_,rfl,run_takeDeferred hK',?_⟩⟩;refine⟨.tuple #[.slice va xs.length vc,.nilIface],?_,.inl ⟨xs,_,HR.out,rfl,ownsRow_putObj (Du hrV (by omega)) _ hK' rfl,hbF⟩⟩;simp[results,results78,go_sem,p0.cell,p1.cell]
 case stop=>
  rintro D c pre W hD hpre⟨rfl,hacc,bx0,bx1,hbw⟩hK
  have HR:Hid (J5 s=none):=by
   obtain⟨r,hr⟩:=hpre;unfold Hid;rw[J5,←hr,Hi r hacc]
  gi_wp2
  have p0:=bx0.kept (grownBy_putObj' W D (.deferred none)) (fun e=>by injection e with e;omega);have p1:=bx1.kept (grownBy_putObj' W D (.deferred none)) (fun e=>by injection e with e;omega);have hbF:=hbw.trans (belowK_b (n₀:=B) (w:=w) (by omega) W D _ (.deferred none) (by omega) hK rfl rfl);refine⟨by simp,.inl ⟨_,_,rfl,run_takeDeferred hK,?_⟩⟩;refine⟨.tuple #[.slice none 0 0,Bm ea 1],?_,.inr ⟨HR.out,rfl,hbF⟩⟩;simp[results,results78,go_sem,p0.cell,p1.cell]
theorem Ye(ea:Nat→Addr)(s:List UInt8)(w:World)(hs:s.length≤1000000)(hg:Bh w ea [1])(hT:Bf w) :
 Calls prog 78 #[.string ⟨s.toArray⟩] w (W8 ea s w.heap.size w):=callsIn_wide.1 (zIp ea s w hs hg hT)
end Go.Proofs.YtppfkokfnoeopaaGreatDoor
namespace Go.Proofs.YtppfkokfnoeopaaGreatDoor
open Go.RowKit Go.Maps Go.WideMaps Go.Proofs.Tryz
noncomputable def Yg:List Value→Nat→Value→Option (DataW Unit×List MemPlace)
 | [],_,_=>none
 | x::r,i,v=>by classical exact if v=x then some (.lit (.int .i64 (i:Nat)),[]) else Yg r (i+1) v
theorem Si:∀(vs:List Value) (i:Nat) (v:Value) (y:DataW Unit×List MemPlace),Yg vs i v=some y→∃j,∃hj:j<vs.length,v=vs[j]∧y=(.lit (.int .i64 ((i+j:Nat):Int)),[])
 | [],i,v,y,h=>by simp[Yg] at h
 | x::r,i,v,y,h=>by
  rw[Yg] at h
  split at h
  ·rename_i e
   exact⟨0,by simp,e,(Option.some.inj h).symm⟩
  ·obtain⟨j,hj,e1,e2⟩:=Si r (i+1) v y h
   exact⟨j+1,by simpa using hj,by simpa using e1,by rw[e2];congr 4;omega⟩
theorem Ol:∀(vs:List Value) (i j:Nat) (hj:j<vs.length),vs.Pairwise (·≠·)→Yg vs i vs[j]=some (.lit (.int .i64 ((i+j:Nat):Int)),[])
 | [],i,j,hj,_=>by simp at hj
 | x::r,i,0,hj,h=>by
  rw[Yg];simp
 | x::r,i,j+1,hj,h=>by
  rw[List.pairwise_cons] at h;have hj':j<r.length:=by simpa using hj
  rw[Yg,if_neg (by simpa using(h.1 r[j] (List.getElem_mem hj')).symm)];have:=Ol r (i+1) j hj' h.2;simp only[List.getElem_cons_succ];rw[this]
  congr 4;omega
section
variable {P:Program} {k t e:TypeId} {vs:List Value}
def Hb(P:Program)(k:TypeId)(vs:List Value)(w:World)(mb:Nat)(f:List UInt8→Option Nat)(q:Nat):Prop:=
 ∃D:DataW Unit,w.ownsMap P k (Yg vs 0) mb q D∧(∀s j,f s=some j→Maps.has D (.string s)=true∧∀z,D.atKey (.string s) z=.lit (.int .i64 (j:Int)))∧(∀s,f s=none→Maps.has D (.string s)=false)
theorem Hb.lt{w:World}{mb q:Nat}{f:List UInt8→Option Nat}(h:Hb P k vs w mb f q):mb<w.heap.size:=by
 obtain⟨D,h,_⟩:=h;exact h.lt
theorem Hb.kept{w w':World}{mb q:Nat}{f:List UInt8→Option Nat}{row:Option Nat}(h:Hb P k vs w mb f q)(hg:w.grownBy w' row)(hne:some mb≠row):Hb P k vs w' mb f q:=by
 obtain⟨D,h,h1⟩:=h;exact⟨D,h.kept hg hne,h1⟩
theorem Hb.below{w w':World}{mb q:Nat}{f:List UInt8→Option Nat}(h:Hb P k vs w mb f q)(hb:Below w.heap.size w w'):Hb P k vs w' mb f q:=by
 obtain⟨D,⟨es,clock,hb1,h1⟩,h2⟩:=h;exact⟨D,⟨es,clock,(hb.block mb (Array.getElem?_eq_some_iff.1 hb1).1).trans hb1,h1⟩,h2⟩
theorem Xs(P:Program)(k:TypeId)(vs:List Value)(w:World):Hb P k vs (w.alloc (.map #[] 0)) w.heap.size (fun _=>none) 0:=
 ⟨.map [],World.ownsMap_made w P k _,fun s j h=>by simp at h,fun s _=>rfl⟩
theorem Xr{w:World}{mb q:Nat}{f:List UInt8→Option Nat}(h:Hb P k vs w mb f q)(hk:P.underlying k=some .string)(ht:P.underlying t=some (.map k e))(hp:vs.Pairwise (·≠·)){z:Value}{jz:Nat}(hjz:jz<vs.length)(hzv:vs[jz]=z)(hz:(zeroValue e).run P w=.ok z w)(s:List UInt8)(hs:s.length≤maxLen) :
 (Instr.lookup t (.map (some mb)) (.string ⟨s.toArray⟩) true).run P w=.ok (.tuple #[(match f s with|some j=>vs.getD j z|none=>z),.bool (f s).isSome]) w:=by
 obtain⟨D,h,h1,h2⟩:=h;have hR:=Ol vs 0 jz hjz hp;rw[hzv] at hR;obtain⟨v,ps,hrun,hv⟩:=h.look_ok (string_keyed hk) ht hz hR (keyOf_string_mk hk (s:=⟨s.toArray⟩) (by simpa[ByteArray.size] using hs));obtain⟨j,hj,rfl,hx⟩:=Si vs 0 v _ hv;rw[hrun];have hx:=congrArg Prod.fst hx;dsimp only at hx;simp only[Nat.zero_add] at hx
 cases hf:f s with
 | some i=>
  rw[(h1 s i hf).2] at hx;have e:i=j:=by injection hx with hx;injection hx with _ hx;omega
  subst e;rw[(h1 s i hf).1];simp[List.getD_eq_getElem?_getD,hj]
 | none=>
  rw[atKey_of_not_has (h2 s hf)] at hx;have e:jz=j:=by injection hx with hx;injection hx with _ hx;omega
  subst e;rw[h2 s hf,hzv];rfl
theorem zF1{w:World}{mb q:Nat}{f:List UInt8→Option Nat}(h:Hb P k vs w mb f q)(hk:P.underlying k=some .string)(ht:P.underlying t=some (.map k e))(hp:vs.Pairwise (·≠·)){z:Value}{jz:Nat}(hjz:jz<vs.length)(hzv:vs[jz]=z)(hz:(zeroValue e).run P w=.ok z w)(s:List UInt8)(hs:s.length≤maxLen) :
 (Instr.lookup t (.map (some mb)) (.string ⟨s.toArray⟩) false).run P w=.ok (match f s with|some j=>vs.getD j z|none=>z) w:=by
 obtain⟨D,h,h1,h2⟩:=h;have hR:=Ol vs 0 jz hjz hp;rw[hzv] at hR;obtain⟨v,ps,hrun,hv⟩:=h.lookup (string_keyed hk) ht hz hR (keyOf_string_mk hk (s:=⟨s.toArray⟩) (by simpa[ByteArray.size] using hs));obtain⟨j,hj,rfl,hx⟩:=Si vs 0 v _ hv;rw[hrun];have hx:=congrArg Prod.fst hx;dsimp only at hx;simp only[Nat.zero_add] at hx
 cases hf:f s with
 | some i=>
  rw[(h1 s i hf).2] at hx;have e:i=j:=by injection hx with hx;injection hx with _ hx;omega
  subst e;simp[List.getD_eq_getElem?_getD,hj]
 | none=>
  rw[atKey_of_not_has (h2 s hf)] at hx;have e:jz=j:=by injection hx with hx;injection hx with _ hx;omega
  subst e;rw[hzv]
theorem I5{w:World}{mb q:Nat}{f:List UInt8→Option Nat}(h:Hb P k vs w mb f q)(hk:P.underlying k=some .string)(ht:P.underlying t=some (.map k e))(hp:vs.Pairwise (·≠·))(hq:q<1000000)(s:List UInt8)(hs:s.length≤maxLen){j:Nat}(hj:j<vs.length){v:Value}(hv:vs[j]=v) :
 ∃w',(Instr.mapUpdate t (.map (some mb)) (.string ⟨s.toArray⟩) v).run P w=.ok () w'∧Hb P k vs w' mb (fun s'=>if s'=s then some j else f s') (q+1)∧w.grownBy w' (some mb):=by
 obtain⟨D,h,h1,h2⟩:=h;have hT:=Kw h (string_keyed hk);have hR:=Ol vs 0 j hj hp;rw[hv,Nat.zero_add] at hR;obtain⟨w',hrun,ho,hg⟩:=h.update (string_keyed hk) ht (by unfold maxLen;omega) (keyOf_string_mk hk (s:=⟨s.toArray⟩) (by simpa[ByteArray.size] using hs)) hR;refine⟨w',hrun,⟨_,ho,fun s' i hi=>?_,fun s' hi=>?_⟩,hg⟩
 ·dsimp only at hi
  split at hi
  ·rename_i e;subst e
   obtain rfl:=Option.some.inj hi;have hkl:WideAt.IsKeyLit (.string s'):=trivial;exact⟨has_put_same hT.isMap hkl _,fun z=>atKey_put_same hT.isMap hkl _ _⟩
  ·rename_i hne
   have hne':(Lit.string s')≠.string s:=fun e=>hne (by injection e)
   exact⟨by rw[has_put_other hne'];exact(h1 s' i hi).1,fun z=>by rw[atKey_put_other hne'];exact(h1 s' i hi).2 z⟩
 ·dsimp only at hi
  split at hi
  ·cases hi
  ·rename_i hne
   have hne':(Lit.string s')≠.string s:=fun e=>hne (by injection e)
   rw[has_put_other hne'];exact h2 s' hi
end
end Go.Proofs.YtppfkokfnoeopaaGreatDoor
namespace Go.Proofs.YtppfkokfnoeopaaGreatDoor
open Go.RowKit Go.Maps Go.Proofs.Tryz
theorem zBs(l:List UInt8):(Lit.int .i64 (Ah l)).wf=true:=by
 have h1:IntKind.i64.min=-9223372036854775808:=by decide +kernel
 have h2:IntKind.i64.max=9223372036854775807:=by decide +kernel
 have h3:=Qj l;simp only[Lit.wf,Bool.and_eq_true,decide_eq_true_eq,h1,h2];omega
theorem Vg{c:CP}(h:Ce c):c.slotT.length≤95:=by
 unfold CP.slotT
 split
 ·exact h.sent_len
 ·simp
theorem Mt.at{ea:Nat→Addr}{L:CL}{w:World}(h:Mt ea L w):Bh w ea [1,2,3,4,5,6,7,8,9,10,11]∧Bf w:=h w (Fr.refl _ _)
theorem zEm(ea:Nat→Addr)(L:CL)(c:CP)(word:List UInt8)(w:World)(hE:Mt ea L w)(h:Ap w L c)(hI:Ce c)(hl:word.length≤100000) :
 Calls prog 79 #[.pointer (some ⟨L.cb,0,none⟩),.string ⟨word.toArray⟩] w fun e w'=>e=.returned (.tuple #[.string ⟨(c.slotW word).2.1.toArray⟩,Bm ea (c.slotW word).2.2])∧Ap w' L (c.slotW word).1∧Fr L.own w w':=by
 have KR:=zh (Sw ea word w (by omega) (hE.at.1.sub (by simp)) hE.at.2);have HE:=zh hE;have H:=zh h;have HI:=zh hI;clear hE h hI
 cases hf:Cq word with
 | none=>
  have HS:Hid (c.slotW word=(c,[],1)):=by unfold Hid CP.slotW;rw[hf]
  rw[hf] at KR;rw[L6,Ae ea (by decide)] at KR;clear hf;go_enter func79,ntmps79;go_wp2_with fail;refine KR.out.mono ?_;rintro e w1⟨rfl,hb1⟩;go_wp2;go_ret2;rw[HS.out];dsimp only;rw[Ae ea (by decide)];exact⟨rfl,H.out.below hb1,Fr.of hb1⟩
 | some k=>
  have HS:Hid (c.slotW word=((c.slotF (Ao (k:Nat) 16)).1,Lib.replaceAll (if c.slotT=[] then Oh else c.slotT) [32] [95],(c.slotF (Ao (k:Nat) 16)).2)):=by unfold Hid CP.slotW;rw[hf]
  rw[hf] at KR;rw[L6] at KR;clear hf;have hst:=Vg HI.out;obtain⟨kk,hkk⟩:∃kk:Int,kk=(k:Nat):=⟨_,rfl⟩
  rw[←hkk] at HS KR;clear hkk;have KL:=zh (fun(W:World) (hb:Below w.heap.size w W)=>zGd ea kk W ((HE.out.fr (Fr.of hb)).at.1.sub (by simp)));have hlen:=Ck kk 16;generalize Ao kk 16=ls at *;have K3:=zh (fun(W:World) (va:Option Addr) (vc:Nat) (hb:Below w.heap.size w W) (hr:Ac W va (Aa ls))=>zCe ea L c va ls.length vc ls W (HE.out.fr (Fr.of hb)) (H.out.below hb) HI.out rfl hr (by omega));have HT:=zh (fun(W W':World) (hb:Below w.heap.size w W) (hf:Fr L.own W W')=>((HE.out.fr (Fr.of hb)).fr hf).at.2);generalize c.slotT=tx at *;generalize c.slotF ls=sf at *
  by_cases hx:tx=[]
  ·subst hx
   rw[if_pos rfl] at HS;clear hst;go_enter func79,ntmps79;go_wp2_with fail;refine KR.out.mono ?_;rintro e w1⟨rfl,hb1⟩;have K2:=zh (KL.out w1 hb1);go_wp2_with fail;refine K2.out.mono ?_;rintro e w2⟨v,rfl,hown,hb2⟩;obtain⟨va,vc,rfl⟩:=Aj hown;have hv2:=Ar hb1 hb2;have K4:=zh (K3.out w2 va vc hv2 (Cd hown));clear hown;go_wp2_with fail;refine K4.out.mono ?_;rintro e w3⟨rfl,hC3,hF3⟩;have KX:=zh (Ik Oh 32 95 w3 (HT.out w2 w3 hv2 hF3) (by decide));go_wp2_with fail;refine KX.out.mono ?_;rintro e w4⟨rfl,hb4⟩;go_wp2;go_ret2;rw[HS.out];exact⟨rfl,hC3.below hb4,(Fr.of hv2).trans (hF3.off hb4)⟩
  ·rw[if_neg hx] at HS
   have q2:(tx==[])=false:=by simpa using hx
   have q3:tx.isEmpty=false:=by simpa using hx
   clear hx;go_enter func79,ntmps79;go_wp2_with fail;refine KR.out.mono ?_;rintro e w1⟨rfl,hb1⟩;have K2:=zh (KL.out w1 hb1);go_wp2_with fail;refine K2.out.mono ?_;rintro e w2⟨v,rfl,hown,hb2⟩;obtain⟨va,vc,rfl⟩:=Aj hown;have hv2:=Ar hb1 hb2;have K4:=zh (K3.out w2 va vc hv2 (Cd hown));clear hown;go_wp2_with fail;refine K4.out.mono ?_;rintro e w3⟨rfl,hC3,hF3⟩;have KX:=zh (Ik tx 32 95 w3 (HT.out w2 w3 hv2 hF3) (by omega));go_wp2_with fail;refine KX.out.mono ?_;rintro e w4⟨rfl,hb4⟩;go_wp2;go_ret2;rw[HS.out];exact⟨rfl,hC3.below hb4,(Fr.of hv2).trans (hF3.off hb4)⟩
theorem zHr(ea:Nat→Addr)(L:CL)(c:CP)(wa:Option Addr)(wc:Nat)(w0 w1 w2:List UInt8)(w:World)(hE:Mt ea L w)(h:Ap w L c)(hr:Ac w wa (Ad [w0,w1,w2]))(h1:w1.length≤100000)(h2:w2.length≤100000) :
 Calls prog 80 #[.pointer (some ⟨L.cb,0,none⟩),.slice wa 3 wc] w fun e w'=>e=.returned (Bm ea (c.setW w1 w2).2)∧Ap w' L (c.setW w1 w2).1∧Fr L.own w w':=by
 obtain⟨b,off,rfl,hbl,hc⟩:=hr.at (by simp[Ad]);have c1:w.cell? ⟨b,off+1,none⟩=some (.string ⟨w1.toArray⟩):=hc 1 _ rfl;have c2:w.cell? ⟨b,off+2,none⟩=some (.string ⟨w2.toArray⟩):=hc 2 _ rfl;have K1:=zh (G4 ea w1 w (hE.at.1.sub (by simp)) hE.at.2 (by omega));have K2:=zh (fun(W:World) (hb:Below w.heap.size w W)=>G4 ea w2 W ((hE.fr (Fr.of hb)).at.1.sub (by simp)) (hE.fr (Fr.of hb)).at.2 (by omega));have KS:=zh (fun(W:World) (hb:Below w.heap.size w W)=>zE8 ea L c (Ah w1) (Ah w2) W ((hE.fr (Fr.of hb)).at.1.sub (by simp)) (h.below hb) (zBs w1));have H:=zh h;clear hr hc hE h
 cases hn1:Cl w1 with
 | none=>
  have HS:Hid (c.setW w1 w2=(c,1)):=by unfold Hid CP.setW;rw[hn1]
  have e2:G7 w1=1:=by unfold G7 Aw;rw[hn1];rfl
  rw[e2,Ae ea (by decide)] at K1;clear hn1 e2;go_enter func80,ntmps80;go_wp2_with fail;refine K1.out.mono ?_;rintro e W1⟨rfl,hb1⟩;go_wp2;go_ret;rw[HS.out];dsimp only;rw[Ae ea (by decide)];exact⟨rfl,H.out.below hb1,Fr.of hb1⟩
 | some n=>
  have e2:G7 w1=0:=by unfold G7 Aw;rw[hn1];rfl
  rw[e2,Al] at K1;clear e2
  cases hn2:Cl w2 with
  | none=>
   have HS:Hid (c.setW w1 w2=(c,1)):=by unfold Hid CP.setW;rw[hn1,hn2]
   have e2:G7 w2=1:=by unfold G7 Aw;rw[hn2];rfl
   rw[e2,Ae ea (by decide)] at K2;clear hn1 hn2 e2;go_enter func80,ntmps80;go_wp2_with fail;refine K1.out.mono ?_;rintro e W1⟨rfl,hb1⟩;have d2:=(hb1.cell (p:=⟨b,off+2,none⟩) hbl).trans c2;have K2':=zh (K2.out W1 hb1);go_wp2_with fail;refine K2'.out.mono ?_;rintro e W2⟨rfl,hb2⟩;go_wp2;go_ret;rw[HS.out];dsimp only;rw[Ae ea (by decide)];exact⟨rfl,H.out.below (Ar hb1 hb2),Fr.of (Ar hb1 hb2)⟩
  | some v=>
   have e3:Ah w1=n:=by unfold Ah;rw[hn1];rfl
   have e4:Ah w2=v:=by unfold Ah;rw[hn2];rfl
   have HS:Hid (c.setW w1 w2=c.set (Ah w1) (Ah w2)):=by unfold Hid CP.setW;rw[hn1,hn2,e3,e4]
   have e2:G7 w2=0:=by unfold G7 Aw;rw[hn2];rfl
   rw[e2,Al] at K2;clear hn1 hn2 e2 e3 e4;generalize Ah w1=n1 at *;generalize Ah w2=n2 at *;go_enter func80,ntmps80;go_wp2_with fail;refine K1.out.mono ?_;rintro e W1⟨rfl,hb1⟩;have d2:=(hb1.cell (p:=⟨b,off+2,none⟩) hbl).trans c2;have K2':=zh (K2.out W1 hb1);go_wp2_with fail;refine K2'.out.mono ?_;rintro e W2⟨rfl,hb2⟩;have hb12:=Ar hb1 hb2;have KS':=zh (KS.out W2 hb12);go_wp2_with fail;refine KS'.out.mono ?_;rintro e W3⟨rfl,hC3,hF3⟩;go_wp2;go_ret;rw[HS.out];exact⟨rfl,hC3,(Fr.of hb12).trans hF3⟩
def Dp(ea:Nat→Addr)(L:CL)(c:CP)(ws:List (List UInt8))(w:World)(e:Ending)(w':World):Prop:=
 ∃(v ev:Value) (t:List UInt8) (pl:Int),e=.returned (.tuple #[v,.string ⟨t.toArray⟩,ev])∧Bg ea w' ev (c.change ws).2.2 pl∧Fr L.own w w' ∧
  ((c.change ws).2.2=0→∃L':CL,v=.pointer (some ⟨L'.cb,0,none⟩)∧t=(c.change ws).2.1∧Ap w' L' (c.change ws).1∧∀j,L'.own j→L.own j∨w.heap.size≤j)
theorem Li(c:CP)(w1:List UInt8):c.change [[112,108,97,110],w1]=((c.planW w1).1,okB,(c.planW w1).2):=rfl
theorem Lj(c:CP)(w1:List UInt8):c.change [[115,108,111,116],w1]=c.slotW w1:=rfl
theorem Rj(c:CP)(w1 w2:List UInt8):c.change [[115,101,116],w1,w2]=((c.setW w1 w2).1,okB,(c.setW w1 w2).2):=rfl
theorem Ri(c:CP)(w0 w1:List UInt8)(h1:w0≠[112,108,97,110])(h2:w0≠[115,108,111,116])(h3:w0≠[115,101,116]):c.change [w0,w1]=((c.oneW w0 w1).1,okB,(c.oneW w0 w1).2):=by
 unfold CP.change;simp[h1,h2,h3]
theorem Qr{w0:List UInt8}{k:Int}(h:Bz w0=k)(hk:0≤k):(k=1∧(w0=[112,108,97,110]∨w0=[111,102,102]∨w0=[111,110]∨w0=[109,111,100,101]∨w0=[115,108,111,116]))∨(k=2∧w0=[115,101,116]):=by
 unfold Bz at h
 split at h
 ·rename_i h1;exact Or.inl ⟨h.symm,h1⟩
 ·split at h
  ·rename_i h2;exact Or.inr ⟨h.symm,h2⟩
  ·omega
theorem zEk(ea:Nat→Addr)(L:CL)(c:CP)(wa:Option Addr)(wc:Nat)(w1:List UInt8)(w:World)(hE:Mt ea L w)(hr:Ac w wa (Ad [[112,108,97,110],w1]))(h1:w1.length≤100000) :
 Calls prog 36 #[.pointer (some ⟨L.cb,0,none⟩),.slice wa 2 wc] w (Dp ea L c [[112,108,97,110],w1] w):=by
 obtain⟨b,off,rfl,hbl,hc⟩:=hr.at (by simp[Ad]);have c0:w.cell? ⟨b,off,none⟩=some (.string ⟨#[112,108,97,110]⟩):=hc 0 _ rfl;have c1:w.cell? ⟨b,off+1,none⟩=some (.string ⟨w1.toArray⟩):=hc 1 _ rfl;have KU:=zh (Ye ea w1 w (by omega) (hE.at.1.sub (by simp)) hE.at.2);have HG:=zh (fun(W:World) (hb:Below w.heap.size w W)=>(hE.fr (Fr.of hb)).at.1);clear hr hc hE;go_enter func36,ntmps36;go_wp2_with fail;refine KU.out.mono ?_;rintro e W1 (⟨xs,v,hf,rfl,hown,hb1⟩|⟨hf,rfl,hb1⟩)
 ·obtain⟨av,cv,rfl⟩:=Aj hown
  have HS:Hid (c.change [[112,108,97,110],w1]=(CP.new xs,okB,(Ay xs).1)):=by unfold Hid;rw[Li,CP.planW,hf]
  have hxl:xs.length≤100001:=by
   have e1:=En hf;have e2:=Ch 44 w1;omega
  clear hf
  by_cases hp:(Ay xs).1=0
  ·have K2:=zh (zBk ea av xs.length cv xs W1 ((HG.out W1 hb1).sub (by simp)) rfl (Cd hown) hp)
   rw[hp] at HS;clear hp hown;go_wp2_with fail;refine K2.out.mono ?_;rintro e W2⟨L',rfl,hC2,hL2,hb2⟩;go_wp2;go_ret3;unfold Dp;rw[HS.out]
   exact⟨_,_,okB,-1,rfl,Or.inl ⟨rfl,(Al ea).symm⟩,Fr.of (Ar hb1 hb2),fun _=>⟨L',rfl,rfl,hC2,fun j hj=>Or.inr (by
    have:=hb1.size
    rcases hj with rfl|rfl|rfl
    ·exact Nat.le_trans this hL2.cb
    ·exact Nat.le_trans this hL2.bb
    ·exact Nat.le_trans this hL2.mb)⟩⟩
  ·have K2:=zh (zE6 ea av xs.length cv xs W1 ((HG.out W1 hb1).sub (by simp)) rfl (Cd hown) (by omega) hp)
   have HP:=zh hp;clear hp hown;go_wp2_with fail;refine K2.out.mono ?_;rintro e W2⟨v,rfl,hE2,hb2⟩;have HE2:=zh hE2;obtain⟨t,x,rfl⟩:=hE2.held HP.out;clear hE2;go_wp2;go_ret3;unfold Dp;rw[HS.out];exact⟨_,_,okB,_,rfl,HE2.out,Fr.of (Ar hb1 hb2),fun h0=>absurd h0 HP.out⟩
 ·have HS:Hid (c.change [[112,108,97,110],w1]=(c,okB,1)):=by unfold Hid;rw[Li,CP.planW,hf]
  clear hf;rw[Ae ea (by decide)];go_wp2;go_ret3;unfold Dp;rw[HS.out];exact⟨_,_,[],-1,rfl,Or.inl ⟨rfl,(Ae ea (by decide)).symm⟩,Fr.of hb1,fun h0=>absurd (show(1:Nat)=0 from h0) (by decide)⟩
theorem zA9(ea:Nat→Addr)(L:CL)(c:CP)(wa:Option Addr)(wc:Nat)(w1:List UInt8)(w:World)(hE:Mt ea L w)(h:Ap w L c)(hI:Ce c)(hr:Ac w wa (Ad [[115,108,111,116],w1]))(h1:w1.length≤100000) :
 Calls prog 36 #[.pointer (some ⟨L.cb,0,none⟩),.slice wa 2 wc] w (Dp ea L c [[115,108,111,116],w1] w):=by
 obtain⟨b,off,rfl,hbl,hc⟩:=hr.at (by simp[Ad]);have c0:w.cell? ⟨b,off,none⟩=some (.string ⟨#[115,108,111,116]⟩):=hc 0 _ rfl;have c1:w.cell? ⟨b,off+1,none⟩=some (.string ⟨w1.toArray⟩):=hc 1 _ rfl;have KU:=zh (zEm ea L c w1 w hE h hI h1);have HS:Hid (c.change [[115,108,111,116],w1]=c.slotW w1):=Lj c w1;clear hr hc hE h hI;generalize c.slotW w1=r at *;obtain⟨r1,r2,r3⟩:=r;dsimp only at KU;go_enter func36,ntmps36;go_wp2_with fail;refine KU.out.mono ?_;rintro e W1⟨rfl,hC1,hF1⟩;go_wp2;go_ret3;unfold Dp;rw[HS.out];exact⟨_,_,r2,-1,rfl,Bg.bare ea W1 r3,hF1,fun _=>⟨L,rfl,rfl,hC1,fun j hj=>Or.inl hj⟩⟩
theorem zEl(ea:Nat→Addr)(L:CL)(c:CP)(wa:Option Addr)(wc:Nat)(w1 w2:List UInt8)(w:World)(hE:Mt ea L w)(h:Ap w L c)(hr:Ac w wa (Ad [[115,101,116],w1,w2]))(h1:w1.length≤100000)(h2:w2.length≤100000) :
 Calls prog 36 #[.pointer (some ⟨L.cb,0,none⟩),.slice wa 3 wc] w (Dp ea L c [[115,101,116],w1,w2] w):=by
 have KU:=zh (zHr ea L c wa wc [115,101,116] w1 w2 w hE h hr h1 h2);obtain⟨b,off,rfl,hbl,hc⟩:=hr.at (by simp[Ad]);have c0:w.cell? ⟨b,off,none⟩=some (.string ⟨#[115,101,116]⟩):=hc 0 _ rfl;have HS:Hid (c.change [[115,101,116],w1,w2]=((c.setW w1 w2).1,okB,(c.setW w1 w2).2)):=Rj c w1 w2;clear hr hc hE h;generalize c.setW w1 w2=r at *;obtain⟨r1,r3⟩:=r;dsimp only at KU HS;go_enter func36,ntmps36;go_wp2_with fail;refine KU.out.mono ?_;rintro e W1⟨rfl,hC1,hF1⟩;go_wp2;go_ret3;unfold Dp;rw[HS.out];exact⟨_,_,okB,-1,rfl,Bg.bare ea W1 r3,hF1,fun _=>⟨L,rfl,rfl,hC1,fun j hj=>Or.inl hj⟩⟩
def Zr(cb:Nat):List Value:=[.func (.func 81) #[.pointer (some ⟨cb,0,none⟩)] #[],.func (.func 82) #[.pointer (some ⟨cb,0,none⟩)] #[],.func (.func 83) #[.pointer (some ⟨cb,0,none⟩)] #[],.nilFunc]
theorem Q4(cb:Nat):(Zr cb).Pairwise (·≠·):=by simp[Zr]
theorem zJb(w:World):(zeroValue 136).run prog w=.ok .nilFunc w:=by kernel_rfl
theorem zKa(cb:Nat)(w:World):∃w1 w2 w3:World,
 (Instr.mapUpdate 137 (.map (some w.heap.size)) (.string ⟨#[111,102,102]⟩) (.func (.func 81) #[.pointer (some ⟨cb,0,none⟩)] #[])).run prog (w.alloc (.map #[] 0))=.ok () w1 ∧
 (Instr.mapUpdate 137 (.map (some w.heap.size)) (.string ⟨#[111,110]⟩) (.func (.func 82) #[.pointer (some ⟨cb,0,none⟩)] #[])).run prog w1=.ok () w2 ∧
 (Instr.mapUpdate 137 (.map (some w.heap.size)) (.string ⟨#[109,111,100,101]⟩) (.func (.func 83) #[.pointer (some ⟨cb,0,none⟩)] #[])).run prog w2=.ok () w3∧Below w.heap.size w w3 ∧
 (Instr.lookup 137 (.map (some w.heap.size)) (.string ⟨#[111,102,102]⟩) false).run prog w3=.ok (.func (.func 81) #[.pointer (some ⟨cb,0,none⟩)] #[]) w3 ∧
 (Instr.lookup 137 (.map (some w.heap.size)) (.string ⟨#[111,110]⟩) false).run prog w3=.ok (.func (.func 82) #[.pointer (some ⟨cb,0,none⟩)] #[]) w3 ∧
 (Instr.lookup 137 (.map (some w.heap.size)) (.string ⟨#[109,111,100,101]⟩) false).run prog w3=.ok (.func (.func 83) #[.pointer (some ⟨cb,0,none⟩)] #[]) w3:=by
 have h0:=Xs prog 9 (Zr cb) w;obtain⟨w1,r1,h1,g1⟩:=I5 h0 underlying9 underlying137 (Q4 cb) (by omega) [111,102,102] (by decide) (j:=0) (by simp[Zr]) rfl;obtain⟨w2,r2,h2,g2⟩:=I5 h1 underlying9 underlying137 (Q4 cb) (by omega) [111,110] (by decide) (j:=1) (by simp[Zr]) rfl;obtain⟨w3,r3,h3,g3⟩:=I5 h2 underlying9 underlying137 (Q4 cb) (by omega) [109,111,100,101] (by decide) (j:=2) (by simp[Zr]) rfl;have hb0:Below w.heap.size w (w.alloc (.map #[] 0)):=zb.alloc zl _;have hb1:=hb0.grown g1 hb0.size (fun j e=>by injection e with e;omega);have hb2:=hb1.grown g2 hb1.size (fun j e=>by injection e with e;omega);have hb3:=hb2.grown g3 hb2.size (fun j e=>by injection e with e;omega);have look:=fun(s:List UInt8) (hs:s.length≤maxLen)=>zF1 h3 underlying9 underlying137 (Q4 cb) (z:=.nilFunc) (jz:=3) (by simp[Zr]) rfl (zJb w3) s hs
 exact⟨w1,w2,w3,r1,r2,r3,hb3,look [111,102,102] (by decide),look [111,110] (by decide),look [109,111,100,101] (by decide)⟩
theorem Pp(ea:Nat→Addr)(L:CL)(c:CP)(wa:Option Addr)(wcp:Nat)(w0 w1:List UInt8)(w:World)(hw:w0=[111,102,102]∨w0=[111,110]∨w0=[109,111,100,101])(hE:Mt ea L w)(h:Ap w L c)(hI:Ce c)(hr:Ac w wa (Ad [w0,w1]))(h1:w1.length≤100000) :
 Calls prog 36 #[.pointer (some ⟨L.cb,0,none⟩),.slice wa 2 wcp] w (Dp ea L c [w0,w1] w):=by
 obtain⟨b,off,rfl,hbl,hc⟩:=hr.at (by simp[Ad]);have c0:w.cell? ⟨b,off,none⟩=some (.string ⟨w0.toArray⟩):=hc 0 _ rfl;have c1:w.cell? ⟨b,off+1,none⟩=some (.string ⟨w1.toArray⟩):=hc 1 _ rfl;have KN:=zh (G4 ea w1 w (hE.at.1.sub (by simp)) hE.at.2 (by omega));have hmm:=@run_makeMap prog;have HS0:Hid (c.change [w0,w1]=((c.oneW w0 w1).1,okB,(c.oneW w0 w1).2)):=Ri c _ w1 (by rcases hw with rfl|rfl|rfl<;>decide) (by rcases hw with rfl|rfl|rfl<;>decide) (by rcases hw with rfl|rfl|rfl<;>decide);have hwf:=zBs w1;have hin:=hI.now;have hia:=hI.asked
 cases hn1:Cl w1 with
 | none=>
  have HS:Hid (c.change [w0,w1]=(c,okB,1)):=by unfold Hid;rw[HS0.out,CP.oneW,hn1]
  have e2:G7 w1=1:=by unfold G7 Aw;rw[hn1];rfl
  rw[e2,Ae ea (by decide)] at KN;clear e2 hn1 hr hc hE h hI hin hia
  rcases hw with rfl|rfl|rfl
  all_goals
   go_enter func36,ntmps36;go_wp2_with fail;refine KN.out.mono ?_;rintro e w2⟨rfl,hb2⟩;go_wp2;go_ret3;unfold Dp;rw[HS.out];exact⟨_,_,[],-1,rfl,Or.inl ⟨rfl,(Ae ea (by decide)).symm⟩,Fr.of hb2,fun h0=>absurd (show(1:Nat)=0 from h0) (by decide)⟩
 | some nn=>
  have e3:Ah w1=nn:=by unfold Ah;rw[hn1];rfl
  have e2:G7 w1=0:=by unfold G7 Aw;rw[hn1];rfl
  have HS1:Hid (c.oneW w0 w1=if w0=[111,102,102] then c.turn nn 0 else if w0=[111,110] then c.turn nn 1 else c.ask nn):=by unfold Hid;rw[CP.oneW,hn1]
  rw[e2,Al,e3] at KN;rw[e3] at hwf;have K0:=zh (fun(W:World) (hb:Below w.heap.size w W)=>zE7 ea L c nn W ((hE.fr (Fr.of hb)).at.1.sub (by simp)) (h.below hb) hwf);have K1:=zh (fun(W:World) (hb:Below w.heap.size w W)=>zH2 ea L c nn W ((hE.fr (Fr.of hb)).at.1.sub (by simp)) (h.below hb) hwf);have K2:=zh (fun(W:World) (hb:Below w.heap.size w W)=>zE5 ea L c nn W ((hE.fr (Fr.of hb)).at.1.sub (by simp)) (h.below hb) hin hia);clear e2 hn1 hr hc hE h hI e3 hin hia;generalize c.turn nn 0=r0 at *;generalize c.turn nn 1=r1 at *;generalize c.ask nn=r2 at *
  rcases hw with rfl|rfl|rfl
  all_goals
   simp only[reduceIte,List.cons.injEq] at HS1;go_enter func36,ntmps36;go_wp2_with fail;refine KN.out.mono ?_;rintro e w2⟨rfl,hb2⟩;have d0:=(hb2.cell (p:=⟨b,off,none⟩) hbl).trans c0;obtain⟨W1,W2,W3,m1,m2,m3,hb3,k1,k2,k3⟩:=zKa L.cb w2;have d3:=(hb3.cell (p:=⟨b,off,none⟩) (Nat.lt_of_lt_of_le hbl hb2.size)).trans d0;have hv3:=Ar hb2 hb3;go_wp2_with fail
   with_reducible first
    | refine(K0.out W3 hv3).mono ?_
    | refine(K1.out W3 hv3).mono ?_
    | refine(K2.out W3 hv3).mono ?_
   rintro e w4⟨rfl,hC4,hF4⟩;go_wp2;go_ret3;unfold Dp;rw[HS0.out,HS1.out];exact⟨_,_,okB,-1,rfl,Bg.bare ea w4 _,(Fr.of hv3).trans hF4,fun _=>⟨L,rfl,rfl,hC4,fun j hj=>Or.inl hj⟩⟩
theorem Qs(ea:Nat→Addr)(L:CL)(c:CP)(wa:Option Addr)(wcp n:Nat)(ws:List (List UInt8))(w:World)(hE:Mt ea L w)(h:Ap w L c)(hI:Ce c)(hr:Ac w wa (Ad ws))(hn:ws.length=n)(hl:∀x∈ws,x.length≤100000)(hk:Bz (ws.getD 0 [])=(n:Int)-1)(h0:0<n) :
 Calls prog 36 #[.pointer (some ⟨L.cb,0,none⟩),.slice wa n wcp] w (Dp ea L c ws w):=by
 rcases Qr hk (by omega) with⟨h1,hw⟩|⟨h1,hw⟩
 ·obtain rfl:n=2:=by omega
  match ws,hn with
  | [w0,w1],_=>
   have hl1:=hl w1 (by simp);have hw':w0=[112,108,97,110]∨w0=[111,102,102]∨w0=[111,110]∨w0=[109,111,100,101]∨w0=[115,108,111,116]:=hw
   rcases hw' with rfl|rfl|rfl|rfl|rfl
   ·exact zEk ea L c wa wcp w1 w hE hr hl1
   ·exact Pp ea L c wa wcp _ w1 w (Or.inl rfl) hE h hI hr hl1
   ·exact Pp ea L c wa wcp _ w1 w (Or.inr (Or.inl rfl)) hE h hI hr hl1
   ·exact Pp ea L c wa wcp _ w1 w (Or.inr (Or.inr rfl)) hE h hI hr hl1
   ·exact zA9 ea L c wa wcp w1 w hE h hI hr hl1
 ·obtain rfl:n=3:=by omega
  match ws,hn with
  | [w0,w1,w2],_=>
   have hw':w0=[115,101,116]:=hw;subst hw';exact zEl ea L c wa wcp w1 w2 w hE h hr (hl w1 (by simp)) (hl w2 (by simp))
theorem zH8(l:List UInt8):(Lit.int .i64 (Ah l)).wf=true:=by
 have h1:IntKind.i64.min=-9223372036854775808:=by decide +kernel
 have h2:IntKind.i64.max=9223372036854775807:=by decide +kernel
 have h3:=Qj l;simp only[Lit.wf,Bool.and_eq_true,decide_eq_true_eq,h1,h2];omega
theorem zB7{c:UInt8}:∀{a b r s:List UInt8},c∉a→c∉b→a++c::r=b++c::s→a=b∧r=s
 | [],[],r,s,_,_,h=>by simpa using h
 | [],y::b,r,s,_,hb,h=>by
  simp at h;exact absurd h.1 (fun e=>hb (by simp[e]))
 | x::a,[],r,s,ha,_,h=>by
  simp at h;exact absurd h.1.symm (fun e=>ha (by simp[e]))
 | x::a,y::b,r,s,ha,hb,h=>by
  simp only[List.mem_cons,not_or] at ha hb;simp only[List.cons_append,List.cons.injEq] at h;obtain⟨h1,h2⟩:=zB7 ha.2 hb.2 h.2;exact⟨by rw[h.1,h1],h2⟩
theorem zCz{a b:Int}(ha : -9223372036854775808≤a∧a≤9223372036854775807)(hb : -9223372036854775808≤b∧b≤9223372036854775807)(h:Lib.itoa a=Lib.itoa b):a=b:=by
 have h1:=F6 a ha.1 ha.2;have h2:=F6 b hb.1 hb.2;rw[h,h2] at h1;injection h1 with h1;exact h1.symm
theorem zJq{x y:List UInt8}{n d:Int}(hx:(32:UInt8)∉x)(hy:(32:UInt8)∉y)(hn:0≤n∧n≤1000000)(hd:0≤d∧d≤9):(x++[32]++Lib.itoa n=y++32::Lib.itoa d)↔(x=y∧n=d):=by
 constructor
 ·intro h
  rw[List.append_assoc] at h;obtain⟨h1,h2⟩:=zB7 hx hy h;exact⟨h1,zCz (by omega) (by omega) h2⟩
 ·rintro⟨rfl,rfl⟩;simp
def Eh(ea:Nat→Addr)(r:List UInt8×Nat)(w:World)(e:Ending)(w':World):Prop:=
 ∃t:List UInt8,e=.returned (.tuple #[.string ⟨t.toArray⟩,Bm ea r.2])∧(r.2=0→t=r.1)∧Below w.heap.size w w'
theorem zEn(ea:Nat→Addr)(L:CL)(c:CP)(wa:Option Addr)(wcp n:Nat)(ws:List (List UInt8))(w:World)(hg:Bh w ea [1,2,3,4,7,10,11])(hT:Bf w)(h:Ap w L c)(hI:Ce c)(hr:Ac w wa (Ad ws))(hn:ws.length=n)(hn0:0<n)(hn1:n≤200000)(hl:∀x∈ws,x.length≤100000)(hsp:∀x∈ws,(32:UInt8)∉x) :
 Calls prog 34 #[.pointer (some ⟨L.cb,0,none⟩),.slice wa n wcp] w (Eh ea (c.tell ws) w):=by
 obtain⟨w0,r,rfl⟩:∃w0 r,ws=w0::r:=by
  cases ws with
  | nil=>simp at hn;omega
  | cons x r=>exact⟨x,r,rfl⟩
 obtain⟨b,off,rfl,hbl,hc⟩:=hr.at (by simp[Ad]);have c0:w.cell? ⟨b,off,none⟩=some (.string ⟨w0.toArray⟩):=hc 0 _ rfl;have hl0:w0.length≤100000:=hl w0 (by simp);have hs0:(32:UInt8)∉w0:=hsp w0 (by simp);have hwr:IntKind.i64.wrap ((n:Int)-1)=(n:Int)-1:=IntWalk.i64_in _ (by omega);have hi0:(0:Int)<(n:Int):=by omega
 have hi1:(1:Int)≤(n:Int):=by omega
 have KI:=zh (fun(W:World) (hb:Below w.heap.size w W)=>Df ((n:Int)-1) W (hT.below hb) (by omega));have hli:(Lib.itoa ((n:Int)-1)).length≤9:=E4 (by omega) (by omega);have HT:=zh hT;have HG:=zh hg;have H:=zh h;have HI:=zh hI;have HN:=zh hn;have HC:=zh hc;have HL:=zh hl;obtain⟨key,hkey⟩:∃key,key=w0++[32]++Lib.itoa ((n:Int)-1):=⟨_,rfl⟩
 have e1:∀y d,(32:UInt8)∉y→(0≤d∧d≤9)→((key=y++32::Lib.itoa d)↔(w0=y∧(n:Int)-1=d)):=fun y d hy hd=>by rw[hkey];exact zJq hs0 hy (by omega) hd
 have E1:=zh e1;have HKEY:=zh hkey.symm;have s1:(9223372036854775807<w0.length+1)=False:=eq_false (by omega);have s2:(9223372036854775807<w0.length+1+(Lib.itoa ((n:Int)-1)).length)=False:=eq_false (by omega);clear hkey e1 hT hg h hI hn hc hl hsp hr;go_enter func34,ntmps34;go_upto_region 1 with(fail);have hb0:Below w.heap.size w w.drew:=zb.drew;go_cut [17] (fun s17 wx=>s17=.string ⟨key.toArray⟩∧Below w.heap.size w wx)
 case first=>
  go_region_held3 (fun w'=>w'.cell? ⟨b,off,none⟩=some (.string ⟨w0.toArray⟩)) (go_keep)
   ((go_at_call 46;(with_reducible refine(KI.out _ hb0).mono ?_);rintro e w3⟨rfl,hb3⟩;have hv3:=Ar hb0 hb3;have d0:=(hb3.cell (p:=⟨b,off,none⟩) hbl).trans c0))
  go_wp2_with fail;go_meet
  case rel=>exact⟨by rw[←HKEY.out,←Ba,←Ba],hv3⟩
 case rest=>
  obtain⟨rfl,hbx⟩:=hcut;have HGX:=zh (HG.out.below hbx);have HTX:=zh (HT.out.below hbx);have HX:=zh (H.out.below hbx);have c0x:=(hbx.cell (p:=⟨b,off,none⟩) hbl).trans c0;have HBX:=zh hbx;have hbl2:b<wc.heap.size:=Nat.lt_of_lt_of_le hbl hbx.size;have HCX:=zh (fun(i:Nat) (v:Value) (h:(Ad (w0::r))[i]?=some v)=>(hbx.cell (p:=⟨b,off+i,none⟩) hbl).trans (HC.out i v h));clear hbx c0 HC s1 s2 hli KI hb0
  by_cases hA:w0=[99,114,101,119]∧(n:Int)-1=0
  ·obtain⟨rfl,hn⟩:=hA
   obtain rfl:n=1:=by omega
   obtain rfl:key=[99,114,101,119,32,48]:=by
    rw[(E1.out [99,114,101,119] 0 (by decide) (by omega)).2 ⟨rfl,hn⟩];decide +kernel
   have HS:Hid (c.tell ([99,114,101,119]::r)=(Db (c.crewN:Nat),0)):=by unfold Hid CP.tell;rw[if_pos ⟨HN.out,rfl⟩]
   have KC:=zh (zCd ea L c wc (HGX.out.sub (by simp)) HX.out HI.out.dom (Ai HI.out.plan).2.2.2);clear hn E1 HKEY hs0 hwr;generalize ((c.crewN:Nat):Int)=cr at *;go_wp2_with fail;refine KC.out.mono ?_;rintro e w2⟨rfl,hb2⟩;have KT:=zh (Te ea cr w2 ((HGX.out.below hb2).sub (by simp)));go_wp2_with fail;refine KT.out.mono ?_;rintro e w3⟨rfl,hb3⟩;go_wp2;go_ret2;unfold Eh;rw[HS.out];exact⟨_,by rw[Al];rfl,fun _=>rfl,Ar (Ar HBX.out hb2) hb3⟩
  by_cases hB:w0=[116,105,109,101]∧(n:Int)-1=0
  ·obtain⟨rfl,hn⟩:=hB
   obtain rfl:n=1:=by omega
   obtain rfl:key=[116,105,109,101,32,48]:=by
    rw[(E1.out [116,105,109,101] 0 (by decide) (by omega)).2 ⟨rfl,hn⟩];decide +kernel
   have HS:Hid (c.tell ([116,105,109,101]::r)=(Lib.itoa (c.time:Nat),0)):=by unfold Hid CP.tell;rw[if_neg (by simp),if_pos ⟨HN.out,rfl⟩]
   have ht:=HI.out.time;have KC:=zh (Uk L c wc HX.out);have KT:=zh (Df (c.time:Int) wc HTX.out (by omega));clear hn E1 HKEY hs0 hwr hA;go_wp2_with fail;refine KC.out.mono ?_;rintro e w2⟨rfl,rfl⟩;go_wp2_with fail;refine KT.out.mono ?_;rintro e w3⟨rfl,hb3⟩;go_wp2;go_ret2;unfold Eh;rw[HS.out];exact⟨_,by rw[Al];rfl,fun _=>rfl,Ar HBX.out hb3⟩
  by_cases hC:Tm w0=true∧(n:Int)-1=1
  ·obtain⟨ha,hn⟩:=hC
   obtain rfl:n=2:=by omega
   obtain⟨w1,rfl⟩:∃w1,r=[w1]:=by
    have h2:=HN.out
    match r,h2 with
    | [x],_=>exact⟨x,rfl⟩
   have c1x:wc.cell? ⟨b,off+1,none⟩=some (.string ⟨w1.toArray⟩):=HCX.out 1 _ rfl
   have HS0:Hid (c.tell [w0,w1]=(match Cl w1 with|none=>([],1)|some n=>c.tellN w0 n)):=by
    unfold Hid CP.tell;rw[if_neg (by simp),if_neg (by simp),if_pos ⟨rfl,ha⟩];rfl
   have hl1:w1.length≤100000:=HL.out w1 (by simp);have KN:=zh (G4 ea w1 wc (HGX.out.sub (by simp)) HTX.out (by omega));have hask:w0=[115,116,97,116,101]∨w0=[118,105,101,119]∨w0=[104,105,115,116,111,114,121]∨w0=[116,111,116,97,108]:=by simpa[Tm] using ha
   cases hn1:Cl w1 with
   | none=>
    have HS:Hid (c.tell [w0,w1]=([],1)):=by unfold Hid;rw[HS0.out,hn1]
    have e2:G7 w1=1:=by unfold G7 Aw;rw[hn1];rfl
    rw[e2,Ae ea (by decide)] at KN;clear e2 hn1 hA hB ha
    rcases hask with rfl|rfl|rfl|rfl
    ·obtain rfl:key=[115,116,97,116,101,32,49]:=by
      rw[(E1.out [115,116,97,116,101] 1 (by decide) (by omega)).2 ⟨rfl,hn⟩];decide +kernel
     clear hn E1 HKEY hs0 hwr;go_wp2_with fail;refine KN.out.mono ?_;rintro e w2⟨rfl,hb2⟩;go_wp2;go_ret2;unfold Eh;rw[HS.out];exact⟨[],by rw[Ae ea (by decide)];rfl,fun h=>absurd h (by decide),Ar HBX.out hb2⟩
    ·obtain rfl:key=[118,105,101,119,32,49]:=by
      rw[(E1.out [118,105,101,119] 1 (by decide) (by omega)).2 ⟨rfl,hn⟩];decide +kernel
     clear hn E1 HKEY hs0 hwr;go_wp2_with fail;refine KN.out.mono ?_;rintro e w2⟨rfl,hb2⟩;go_wp2;go_ret2;unfold Eh;rw[HS.out];exact⟨[],by rw[Ae ea (by decide)];rfl,fun h=>absurd h (by decide),Ar HBX.out hb2⟩
    ·obtain rfl:key=[104,105,115,116,111,114,121,32,49]:=by
      rw[(E1.out [104,105,115,116,111,114,121] 1 (by decide) (by omega)).2 ⟨rfl,hn⟩];decide +kernel
     clear hn E1 HKEY hs0 hwr;go_wp2_with fail;refine KN.out.mono ?_;rintro e w2⟨rfl,hb2⟩;go_wp2;go_ret2;unfold Eh;rw[HS.out];exact⟨[],by rw[Ae ea (by decide)];rfl,fun h=>absurd h (by decide),Ar HBX.out hb2⟩
    ·obtain rfl:key=[116,111,116,97,108,32,49]:=by
      rw[(E1.out [116,111,116,97,108] 1 (by decide) (by omega)).2 ⟨rfl,hn⟩];decide +kernel
     clear hn E1 HKEY hs0 hwr;go_wp2_with fail;refine KN.out.mono ?_;rintro e w2⟨rfl,hb2⟩;go_wp2;go_ret2;unfold Eh;rw[HS.out];exact⟨[],by rw[Ae ea (by decide)];rfl,fun h=>absurd h (by decide),Ar HBX.out hb2⟩
   | some nd=>
    have e3:Ah w1=nd:=by unfold Ah;rw[hn1];rfl
    have HS:Hid (c.tell [w0,w1]=c.tellN w0 (Ah w1)):=by unfold Hid;rw[HS0.out,hn1,e3]
    have e2:G7 w1=0:=by unfold G7 Aw;rw[hn1];rfl
    have hwf:=zH8 w1;rw[e2,Al] at KN;clear e2 hn1 hA hB ha e3;generalize Ah w1=nn at *
    rcases hask with rfl|rfl|rfl|rfl
    ·obtain rfl:key=[115,116,97,116,101,32,49]:=by
      rw[(E1.out [115,116,97,116,101] 1 (by decide) (by omega)).2 ⟨rfl,hn⟩];decide +kernel
     clear hn E1 HKEY hs0 hwr;go_wp2_with fail;refine KN.out.mono ?_;rintro e w2⟨rfl,hb2⟩;have d0:=(hb2.cell (p:=⟨b,off,none⟩) hbl2).trans c0x;have hb02:=Ar HBX.out hb2;have HS2:Hid (c.tell [[115,116,97,116,101],w1]=(if c.stT nn=[] then Oh else c.stT nn,0)):=HS.out;have KX:=zh (Rh L c nn w2 (HX.out.below hb2) hwf (fun x hf=>(HI.out.node nn x hf).st));generalize c.stT nn=tx at *;clear HS
     by_cases hx:tx=[]
     ·subst hx
      go_wp2_with fail;refine KX.out.mono ?_;rintro e w3⟨rfl,hb3⟩;go_wp2;go_ret2;unfold Eh;rw[HS2.out];exact⟨Oh,by rw[Al];rfl,fun _=>rfl,Ar hb02 hb3⟩
     ·rw[if_neg hx] at HS2
      have q1:(tx != [])=true:=by simpa using hx
      have q2:(tx==[])=false:=by simpa using hx
      have q3:tx.isEmpty=false:=by simpa using hx
      clear hx;go_wp2_with fail;refine KX.out.mono ?_;rintro e w3⟨rfl,hb3⟩;go_wp2;go_ret2;unfold Eh;rw[HS2.out];exact⟨tx,by rw[Al];rfl,fun _=>rfl,Ar hb02 hb3⟩
    ·obtain rfl:key=[118,105,101,119,32,49]:=by
      rw[(E1.out [118,105,101,119] 1 (by decide) (by omega)).2 ⟨rfl,hn⟩];decide +kernel
     clear hn E1 HKEY hs0 hwr;go_wp2_with fail;refine KN.out.mono ?_;rintro e w2⟨rfl,hb2⟩;have d0:=(hb2.cell (p:=⟨b,off,none⟩) hbl2).trans c0x;have hb02:=Ar HBX.out hb2;have HS2:Hid (c.tell [[118,105,101,119],w1]=((c.on nn).1.viewT,(c.on nn).2)):=HS.out;have KX:=zh (Vp ea L c nn w2 ((HGX.out.below hb2).sub (by simp)) (HTX.out.below hb2) (HX.out.below hb2) HI.out hwf);clear HS;go_wp2_with fail;refine KX.out.mono ?_;rintro e w3⟨rfl,hb3⟩;go_wp2;go_ret2;unfold Eh;rw[HS2.out];exact⟨_,rfl,fun h=>rfl,Ar hb02 hb3⟩
    ·obtain rfl:key=[104,105,115,116,111,114,121,32,49]:=by
      rw[(E1.out [104,105,115,116,111,114,121] 1 (by decide) (by omega)).2 ⟨rfl,hn⟩];decide +kernel
     clear hn E1 HKEY hs0 hwr;go_wp2_with fail;refine KN.out.mono ?_;rintro e w2⟨rfl,hb2⟩;have d0:=(hb2.cell (p:=⟨b,off,none⟩) hbl2).trans c0x;have hb02:=Ar HBX.out hb2;have HS2:Hid (c.tell [[104,105,115,116,111,114,121],w1]=(Fb (c.on nn).1.h,(c.on nn).2)):=HS.out;have KX:=zh (O2 ea L c nn w2 ((HGX.out.below hb2).sub (by simp)) (HTX.out.below hb2) (HX.out.below hb2) HI.out hwf);have hif:Hid ((c.on nn).2=0→(if (c.on nn).2=0 then Fb (c.on nn).1.h else[])=Fb (c.on nn).1.h):=fun h=>if_pos h
     generalize (if (c.on nn).2=0 then Fb (c.on nn).1.h else[])=tx at KX hif;clear HS;go_wp2_with fail;refine KX.out.mono ?_;rintro e w3⟨rfl,hb3⟩;go_wp2;go_ret2;unfold Eh;rw[HS2.out];exact⟨tx,rfl,fun h=>hif.out h,Ar hb02 hb3⟩
    ·obtain rfl:key=[116,111,116,97,108,32,49]:=by
      rw[(E1.out [116,111,116,97,108] 1 (by decide) (by omega)).2 ⟨rfl,hn⟩];decide +kernel
     clear hn E1 HKEY hs0 hwr;go_wp2_with fail;refine KN.out.mono ?_;rintro e w2⟨rfl,hb2⟩;have d0:=(hb2.cell (p:=⟨b,off,none⟩) hbl2).trans c0x;have hb02:=Ar HBX.out hb2;have HS2:Hid (c.tell [[116,111,116,97,108],w1]=(Lib.itoa (Dr (c.on nn).1.h).sum,(c.on nn).2)):=HS.out;have KX:=zh (zBa ea L c nn w2 ((HGX.out.below hb2).sub (by simp)) (HTX.out.below hb2) (HX.out.below hb2) HI.out hwf);have hif:Hid ((c.on nn).2=0→(if (c.on nn).2=0 then Lib.itoa (Dr (c.on nn).1.h).sum else[])=Lib.itoa (Dr (c.on nn).1.h).sum):=fun h=>if_pos h
     generalize (if (c.on nn).2=0 then Lib.itoa (Dr (c.on nn).1.h).sum else[])=tx at KX hif;clear HS;go_wp2_with fail;refine KX.out.mono ?_;rintro e w3⟨rfl,hb3⟩;go_wp2;go_ret2;unfold Eh;rw[HS2.out];exact⟨tx,rfl,fun h=>hif.out h,Ar hb02 hb3⟩
  ·have HS:Hid (c.tell (w0::r)=([],1)):=by
    unfold Hid CP.tell;rw[if_neg (fun h=>hA ⟨h.2,by have:=HN.out;rw[h.1] at this;omega⟩),if_neg (fun h=>hB ⟨h.2,by have:=HN.out;rw[h.1] at this;omega⟩),if_neg (fun h=>hC ⟨h.2,by have:=HN.out;rw[h.1] at this;omega⟩)]
   have kf:∀(K y:List UInt8) (d:Int),K=y++32::Lib.itoa d→(32:UInt8)∉y→(0≤d∧d≤9)→¬(w0=y∧(n:Int)-1=d)→(key==K)=false:=fun K y d hK h1 h2 h3=>beq_eq_false_iff_ne.2 (fun e=>h3 ((E1.out y d h1 h2).1 (e.trans hK)))
   have k1:=kf [99,114,101,119,32,48] [99,114,101,119] 0 (by decide +kernel) (by decide) (by omega) hA;have k2:=kf [116,105,109,101,32,48] [116,105,109,101] 0 (by decide +kernel) (by decide) (by omega) hB;have k3:=kf [115,116,97,116,101,32,49] [115,116,97,116,101] 1 (by decide +kernel) (by decide) (by omega) (fun h=>hC ⟨by simp[Tm,h.1],h.2⟩);have k4:=kf [118,105,101,119,32,49] [118,105,101,119] 1 (by decide +kernel) (by decide) (by omega) (fun h=>hC ⟨by simp[Tm,h.1],h.2⟩);have k5:=kf [104,105,115,116,111,114,121,32,49] [104,105,115,116,111,114,121] 1 (by decide +kernel) (by decide) (by omega) (fun h=>hC ⟨by simp[Tm,h.1],h.2⟩);have k6:=kf [116,111,116,97,108,32,49] [116,111,116,97,108] 1 (by decide +kernel) (by decide) (by omega) (fun h=>hC ⟨by simp[Tm,h.1],h.2⟩);have g1:=HGX.out.cell 1 (by simp);simp only[gOf] at g1;clear kf hA hB hC E1 HKEY hs0 hwr;go_wp2;go_quiet (fail);go_wp2;go_ret2;unfold Eh;rw[HS.out];exact⟨[],rfl,fun h=>absurd h (by decide),HBX.out.trans (Ab zb _)⟩
theorem Tj(ea:Nat→Addr)(w:World)(hg:Bh w ea [2,5,7,4]) :
 Calls prog 30 #[] w fun e w'=>∃L:CL,e=.returned (.tuple #[.pointer (some ⟨L.cb,0,none⟩),.nilIface])∧Ap w' L Bp∧Pq w.heap.size L∧Below w.heap.size w w':=by
 have hb0:Below w.heap.size w (w.alloc (.cells #[.int .i64 1,.int .i64 2,.int .i64 3] 3)):=zb.alloc zl _;have KN:=zh (zBk ea (some ⟨w.heap.size,0,none⟩) 3 3 [1,2,3] _ (hg.below hb0) rfl (Ac.new_at w (Aa [1,2,3]) 3 _ rfl) (by decide +kernel));clear hg;go_enter func30,ntmps30;go_wp2_with fail;refine KN.out.mono ?_;rintro e w1⟨L,rfl,hC1,hL,hb1⟩;go_wp2;go_ret2;exact⟨L,rfl,hC1,hL.weak hb0.size,Ar hb0 hb1⟩
theorem zHq(ea:Nat→Addr)(w:World)(hg:Bh w ea [2,5,7,4]) :
 Calls prog 8 #[] w fun e w'=>∃Y:YL,e=.returned (.pointer (some ⟨Y.yb,0,none⟩))∧B8 w' w.heap.size Y YP.new∧Below w.heap.size w w':=by
 have KD:=zh (Yc [] w (by simp));have KF:=zh (fun(W:World) (hb:Below w.heap.size w W)=>Tj ea W (hg.below hb));clear hg;go_enter func8,ntmps8;go_wp2_with fail;refine KD.out.mono ?_;rintro e w1⟨D,rfl,hD1,hb1⟩;have K2:=zh (KF.out w1 hb1);go_wp2_with fail;refine K2.out.mono ?_;rintro e w2⟨L,rfl,hC2,hL2,hb2⟩;have HC2:=zh hC2;have HD2:=zh (hD1.below hb2);have hv2:=Ar hb1 hb2;clear hC2 hD1;go_wp2;go_ret;have hal:Below w2.heap.size w2 (w2.alloc (.cells #[.pointer (some ⟨L.cb,0,none⟩),.pointer (some ⟨D,0,none⟩)] 69)):=zb.alloc zl _;exact⟨⟨w2.heap.size,L,D⟩,rfl,⟨Af.new w2 _ _,HC2.out.below hal,HD2.out.below hal,O7,hv2.size,hL2.weak hb1.size,by decide⟩,Ar hv2 hal⟩
theorem Vo(base:Nat)(Y:YL)(y:YP)(w:World)(h:B8 w base Y y) :
 Calls prog 15 #[.pointer (some ⟨Y.yb,0,none⟩)] w fun e w'=>e=.returned (.pointer (some ⟨Y.D,0,none⟩))∧w=w':=by
 have c1:=h.blk.cell 1 rfl;clear h;go_enter func15,ntmps15;go_wp2;go_ret;exact⟨rfl,rfl⟩
theorem Ce.hist{c:CP}(h:Ce c):∀i x,c.f i=some x→x.h.length≤1000:=fun i x hx=>by
 have hN:=h.node i x hx
 by_cases ha:x.st=2
 ·have:=(hN.on ha).2.2.2.2.1;have:=h.time;omega
 ·rw[(hN.off ha).2.2.2];simp
def O3(ea:Nat→Addr)(base:Nat)(Y:YL)(r:YP×List UInt8×Nat)(w:World)(e:Ending)(w':World):Prop:=
 ∃Y':YL,e=.returned (.tuple #[.string ⟨r.2.1.toArray⟩,Bm ea r.2.2])∧B8 w' base Y' r.1∧Fm w w' Y Y'
theorem zHy{s:Dk}{t:List UInt8}(h : -9223372036854775808≤s.cut∧s.cut≤9223372036854775807) : -9223372036854775808≤(apF s t).1.cut∧(apF s t).1.cut≤9223372036854775807:=by
 unfold apF
 split
 ·exact h
 ·split
  ·exact h
  ·unfold wrF
   split
   ·exact h
   ·split
    ·exact h
    ·rename_i h1 _ _ h2
     dsimp only
     split
     ·omega
     ·exact h
theorem zF0{ea:Nat→Addr}{w0 w:World}{L:CL}(hG:E6 w0 ea)(hT:Bf w0)(hb:Below w0.heap.size w0 w)(hL:Pq w0.heap.size L):Mt ea L w:=fun W hW=>by
 have h:=hW.base hb (fun k hk=>by
  rcases hk with rfl|rfl|rfl
  ·exact hL.cb
  ·exact hL.bb
  ·exact hL.mb)
 exact⟨(hG.sub (fun _ hk=>hk)).below h,hT.below h⟩
theorem B8.moved{w w3 w4:World}{base:Nat}{Y:YL}{y:YP}(h:B8 w base Y y)(hb3:Below w.heap.size w w3){s':Dk}(hD:Bo w4 base Y.D s')(hS:Ec base Y.D w3 w4)(hc : -9223372036854775808≤s'.cut∧s'.cut≤9223372036854775807) :
 B8 w4 base Y ⟨y.c,s'⟩∧Fm w w4 Y Y:=by
 have h3:=h.below hb3;have hF:Fr (F4 w3 Y.D) w3 w4:=⟨hS.below.os,hS.below.tape,hS.below.output,hS.below.size,hS.own⟩;have hdo:∀k,k<w.heap.size→F4 w3 Y.D k→F4 w Y.D k:=fun k _ hk=>hk.same (hb3.block _ h.disk.lt)
 have hyb:¬F4 w3 Y.D Y.yb:=fun hk=>by
  obtain⟨_,_,cur,fz,t,h1,h2⟩:=h3.disk.owns hk;rw[show w3.heap[Y.yb]?=_ from h3.blk] at h1;injection h1 with h1;injection h1 with _ e;subst e
  rcases h2 with h2|h2
  ·revert h2;decide
  ·revert h2;decide
 refine⟨⟨(hF.block _ h3.blk.lt hyb).trans h3.blk,h3.clus.turned hF (fun k _ hk=>?_),hD,h.inv,h.low,h.lowc,hc⟩,⟨?_,rfl,rfl,fun k hk hx=>hdo k hk (hS.mv k (Nat.lt_of_lt_of_le hk hb3.size) hx),fun _ hk=>Or.inl hk⟩⟩
 ·obtain⟨_,_,cur,fz,t,h1,h2⟩:=h3.disk.owns hk
  exact⟨cur,fz,t,h1,h2.elim Or.inl (fun e=>Or.inr (Or.inl e))⟩
 ·refine(Fr.of hb3).then hF (fun i hi=>?_)
  by_cases hl:i<w.heap.size
  ·exact Or.inl (Or.inr (hdo i hl hi))
  ·exact Or.inr (by omega)
theorem B8.take{w w3 w4:World}{base:Nat}{Y:YL}{y:YP}{L':CL}{c':CP}(h:B8 w base Y y)(hb3:Below w.heap.size w w3){s':Dk}(hD:Bo w4 base Y.D s')(hS:Ec base Y.D w3 w4)(hc : -9223372036854775808≤s'.cut∧s'.cut≤9223372036854775807)
 (hC:Ap w3 L' c') (hI:Ce c') (hn:∀j,L'.own j→w.heap.size≤j) :
 B8 (w4.setCell ⟨Y.yb,0,none⟩ (.pointer (some ⟨L'.cb,0,none⟩))) base ⟨Y.yb,L',Y.D⟩ ⟨c',s'⟩∧Fm w (w4.setCell ⟨Y.yb,0,none⟩ (.pointer (some ⟨L'.cb,0,none⟩))) Y ⟨Y.yb,L',Y.D⟩:=by
 obtain⟨h4,st4⟩:=h.moved hb3 hD hS hc;have h3:=h.below hb3;have hF:Fr (F4 w3 Y.D) w3 w4:=⟨hS.below.os,hS.below.tape,hS.below.output,hS.below.size,hS.own⟩
 have hC4:Ap w4 L' c':=hC.turned hF (fun k _ hk=>by
  obtain⟨_,_,cur,fz,t,h1,h2⟩:=h3.disk.owns hk
  exact⟨cur,fz,t,h1,h2.elim Or.inl (fun e=>Or.inr (Or.inl e))⟩)
 have hF5:Fr (fun k=>k=Y.yb) w4 (w4.setCell ⟨Y.yb,0,none⟩ (.pointer (some ⟨L'.cb,0,none⟩))):=(Fr.refl (fun k=>k=Y.yb) w4).setCell (p:=⟨Y.yb,0,none⟩) (Or.inl rfl) _
 have hno:∀k,F4 w4 Y.D k→¬(k=Y.yb):=fun k hk e=>by
  subst e;obtain⟨_,_,cur,fz,t,h1,h2⟩:=hD.owns hk;rw[show w4.heap[Y.yb]?=_ from h4.blk] at h1;injection h1 with h1;injection h1 with _ e;subst e
  rcases h2 with h2|h2
  ·revert h2;decide
  ·revert h2;decide
 have hbl:=h4.blk.set 0 (.pointer (some ⟨L'.cb,0,none⟩));have hsz:base≤w.heap.size:=h.size;refine⟨⟨by simpa using hbl,hC4.turned hF5 (fun k _ e=>by subst e;exact⟨_,_,_,h4.blk,Or.inr (Or.inr rfl)⟩),hD.fr hF5 hno,hI,h.low,⟨Nat.le_trans hsz (hn _ (Or.inl rfl)),Nat.le_trans hsz (hn _ (Or.inr (Or.inl rfl))),Nat.le_trans hsz (hn _ (Or.inr (Or.inr rfl)))⟩,hc⟩,⟨?_,rfl,rfl,fun k hk hx=>st4.mv k hk (F4.fr hD hF5 hno hx),fun j hj=>Or.inr (hn j hj)⟩⟩;exact st4.fr.then hF5 (fun i e=>Or.inl (Or.inl e))
def Lg(ea:Nat→Addr)(base:Nat)(w:World):Prop:=gOf 11<base∧∀W,Below base w W→E6 W ea∧Bf W
theorem Lg.of{ea:Nat→Addr}{base:Nat}{w0 w:World}(hG:E6 w0 ea)(hT:Bf w0)(hb:Below w0.heap.size w0 w)(hB:w0.heap.size≤base):Lg ea base w:=
 ⟨Nat.lt_of_lt_of_le (hG.glob.lt 11 (by simp)) hB,fun _ hW=>⟨hG.below (hb.trans (hW.mono hB)),hT.below (hb.trans (hW.mono hB))⟩⟩
theorem Lg.later{ea:Nat→Addr}{base:Nat}{w w':World}(h:Lg ea base w)(hb:Below base w w'):Lg ea base w':=⟨h.1,fun W hW=>h.2 W (hb.trans hW)⟩
theorem Lg.now{ea:Nat→Addr}{base:Nat}{w:World}(h:Lg ea base w):E6 w ea∧Bf w:=h.2 w zb
theorem zI9(ea:Nat→Addr)(base:Nat)(Y:YL)(y:YP)(line:List UInt8)(w:World)(hE:Lg ea base w)(hY:B8 w base Y y)(hl:line.length≤100000) :
 Calls prog 10 #[.pointer (some ⟨Y.yb,0,none⟩),.string ⟨line.toArray⟩] w (O3 ea base Y (y.doF line) w):=by
 obtain⟨hG,hT⟩:=hE.now;have hgb:=hE.1;have HE:=zh hE;have KS:=zh (Hy 32 line w hT (by omega));obtain⟨ws,hws⟩:∃ws,ws=Az 32 line:=⟨_,rfl⟩
 have hne:ws≠[]:=by rw[hws];exact F7 32 line
 have hfree:∀x∈ws,(32:UInt8)∉x:=by rw[hws];exact Jy 32 line
 have hpc:∀x∈ws,x.length≤100000:=fun x hx=>by rw[hws] at hx;exact Nat.le_trans (Cz 32 line x hx) hl
 have hlen:ws.length≤100001:=by rw[hws];exact Nat.le_trans (Ch 32 line) (by omega)
 obtain⟨W1,hW1⟩:∃W,W=w.alloc (.cells (Ad ws).toArray 9):=⟨_,rfl⟩
 have hb1:Below w.heap.size w W1:=by rw[hW1];exact zb.alloc zl _
 have hr1:Ac W1 (some ⟨w.heap.size,0,none⟩) (Ad ws):=by rw[hW1];exact Ac.new_at w _ _ _ rfl
 rw[←hws,←hW1] at KS;obtain⟨n,hn⟩:∃n,n=ws.length:=⟨_,rfl⟩
 have hn0:0<n:=by rw[hn];exact List.length_pos_iff.2 hne
 have hD:y.doF line=if Bz (ws.getD 0 [])≠(n:Int)-1 then(y,if (y.c.tell ws).2=0 then(y.c.tell ws).1 else[],(y.c.tell ws).2)
  else if (y.c.change ws).2.2≠0 then(y,[],(y.c.change ws).2.2)
  else if (apF y.d line).2≠0 then(⟨y.c,(apF y.d line).1⟩,[],(apF y.d line).2)
  else(⟨(y.c.change ws).1,(apF y.d line).1⟩,(y.c.change ws).2.1,0):=by rw[YP.doF,←hws,hn]
 have HD:=zh hD;rw[←hn] at KS hlen
 have q0:W1.cell? ⟨w.heap.size,0,none⟩=some (.string ⟨(ws.getD 0 []).toArray⟩):=by
  have:=hr1.cell (i:=0) (v:=.string ⟨(ws.getD 0 []).toArray⟩) (by
   obtain⟨x,r,e⟩:=List.exists_cons_of_ne_nil hne
   rw[e];rfl)
  simpa using this
 have HN:=zh hn.symm;obtain⟨w0,hw0⟩:∃w0,w0=ws.getD 0 []:=⟨_,rfl⟩
 have HW0:=zh hw0.symm;rw[←hw0] at q0 HD;have KW:=zh (fun W:World=>Tk w0 W);have HG:=zh hG;have HT:=zh hT;have HY:=zh hY;have HR1:=zh hr1;have HFR:=zh hfree;have HPC:=zh hpc;have HNE:=zh hne;have hlt:w.heap.size<W1.heap.size:=by rw[hW1];simp
 have y0:=((hY.below hb1).blk).cell 0 rfl;clear hW1 hws hD hn hG hT hE hY hr1 hfree hpc hne hw0;have hn1:(1:Int)≤(n:Int):=by omega
 by_cases hd:Bz w0=(n:Int)-1
 ·have HD2:Hid (y.doF line=if (y.c.change ws).2.2≠0 then(y,[],(y.c.change ws).2.2)
   else if (apF y.d line).2≠0 then(⟨y.c,(apF y.d line).1⟩,[],(apF y.d line).2)
   else(⟨(y.c.change ws).1,(apF y.d line).1⟩,(y.c.change ws).2.1,0)):=by unfold Hid;rw[HD.out,if_neg (fun h=>h hd)]
  have hdb:(Bz w0==(n:Int)-1)=true:=beq_iff_eq.2 hd;have HDW:=zh hd;clear hd HD;generalize hk:Bz w0=k at *;have HKW:=zh hk;clear hk;have KC:=zh (zCc Y.L y.c W1 (HY.out.clus.below hb1) HY.out.inv.hist);go_enter func10,ntmps10;go_wp2_with fail;refine KS.out.mono ?_;rintro e wx⟨rfl,rfl⟩;go_wp2_with fail;refine(KW.out _).mono ?_;rintro e wx⟨rfl,rfl⟩;go_wp2_with fail;refine KC.out.mono ?_;rintro e w2⟨L',rfl,hC2,hL2,hb2⟩;have hv2:=Ar hb1 hb2;have KCH:=zh (Qs ea L' y.c (some ⟨w.heap.size,0,none⟩) n n ws w2 (zF0 HG.out HT.out hv2 (hL2.weak hb1.size)) hC2 HY.out.inv (HR1.out.below hb2) HN.out HPC.out (by rw[HW0.out];exact HKW.out.trans HDW.out) hn0);have y1:=((HY.out.below hv2).blk).cell 1 rfl;have y0':=((HY.out.below hv2).blk).cell 0 rfl;have HL2:=zh (hL2.weak hb1.size);clear KC KS KW hC2 hL2 q0 y0;go_wp2_with fail;refine KCH.out.mono ?_;rintro e w3⟨v,ev,t,pl,rfl,hE3,hF3,hok⟩
  have hv3:Below w.heap.size w w3:=hF3.base hv2 (fun k hk=>by
   rcases hk with rfl|rfl|rfl
   ·exact HL2.out.cb
   ·exact HL2.out.bb
   ·exact HL2.out.mb)
  by_cases hz:(y.c.change ws).2.2=0
  ·rw[hz] at hE3
   obtain rfl:=hE3.nil;obtain⟨L3,rfl,rfl,hC3,hown3⟩:=hok hz;have HC3:=zh hC3
   have HO3:=zh (fun j (hj:L3.own j)=>(hown3 j hj).elim (fun h=>(by
    rcases h with rfl|rfl|rfl
    ·exact HL2.out.cb
    ·exact HL2.out.bb
    ·exact HL2.out.mb:w.heap.size≤j)) (fun h=>Nat.le_trans hv2.size h))
   have HI3:=zh (HY.out.inv.change ws hz);have hcut:=HY.out.cut;have hY3:=HY.out.below hv3;have KA:=zh (Td ea base Y.D y.d line w3 ((HG.out.below hv3).sub (by simp)) (HT.out.below hv3) hY3.disk hY3.size (by omega) hgb hcut);have z1:=hY3.blk.cell 1 rfl;have HCT:=zh (zHy (t:=line) hcut);have HD3:Hid (y.doF line=if (apF y.d line).2≠0 then(⟨y.c,(apF y.d line).1⟩,[],(apF y.d line).2) else(⟨(y.c.change ws).1,(apF y.d line).1⟩,(y.c.change ws).2.1,0)):=by unfold Hid;rw[HD2.out,if_neg (fun h=>h hz)]
   clear hz hok hC3 hown3 hE3 hcut hY3 HD2;generalize apF y.d line=q at *;obtain⟨q1,q2⟩:=q;dsimp only at KA HCT HD3;go_wp2_with fail;refine KA.out.mono ?_;rintro e w4⟨rfl,hD4,hS4⟩
   by_cases ha:q2=0
   ·subst ha
    obtain⟨t1,t2⟩:=HY.out.take hv3 hD4 hS4 HCT.out HC3.out HI3.out HO3.out;have hm:=(HY.out.moved hv3 hD4 hS4 HCT.out).1.blk;have m0:=hm.cell 0 rfl;have mf:=hm.frozen 0;have HT1:=zh t1;have HT2:=zh t2;rw[Al];clear t1 t2 hm hD4 hS4;go_wp2;go_ret2;unfold O3;rw[HD3.out,if_neg (fun h=>h rfl)];exact⟨_,by rw[Al];rfl,HT1.out,HT2.out⟩
   ·obtain⟨t1,t2⟩:=HY.out.moved hv3 hD4 hS4 HCT.out
    have HT1:=zh t1;have HT2:=zh t2;have HZ:=zh ha;have hv4:Below base w w4:=t2.below HY.out;have hE4:Fs w4:=(HE.out.2 w4 hv4).1.typ;have KB:=zh (Kc ea (Bm ea q2) q2 (-1) w4 hE4 (Bg.bare ea w4 q2) ha);have HEV:=zh (Ae ea ha);rw[HEV.out] at KB ⊢;clear t1 t2 ha hD4 hS4 hE4;go_wp2_with fail;refine KB.out.mono ?_;rintro e w5⟨rfl,hb5⟩;go_wp2;go_ret2;unfold O3;rw[HD3.out];rw[if_pos HZ.out];refine⟨Y,?_,HT1.out.below hb5,HT2.out.trans (Fm.of HT1.out hb5)⟩;dsimp only;rw[HEV.out]
    rfl
  ·have HE3:=zh hE3
   have HZ:=zh hz;obtain⟨et,ex,rfl⟩:=hE3.held hz;have KB:=zh (Kc ea _ _ pl w3 (HG.out.below hv3).typ HE3.out hz);have HD3:Hid (y.doF line=(y,[],(y.c.change ws).2.2)):=by unfold Hid;rw[HD2.out,if_pos hz]
   clear hz hE3 hok;go_wp2_with fail;refine KB.out.mono ?_;rintro e w4⟨rfl,hb4⟩;go_wp2;go_ret2;have hv4:=Ar hv3 hb4;unfold O3;rw[HD3.out];exact⟨Y,rfl,HY.out.below hv4,Fm.of HY.out hv4⟩
 ·have HD2:Hid (y.doF line=(y,if (y.c.tell ws).2=0 then(y.c.tell ws).1 else[],(y.c.tell ws).2)):=by unfold Hid;rw[HD.out,if_pos hd]
  have hdb:(Bz w0==(n:Int)-1)=false:=beq_eq_false_iff_ne.2 hd;clear hd HD;generalize hk:Bz w0=k at *;clear hk;go_enter func10,ntmps10;go_wp2_with fail;refine KS.out.mono ?_;rintro e wx⟨rfl,rfl⟩;go_wp2_with fail;refine(KW.out _).mono ?_;rintro e wx⟨rfl,rfl⟩;have KT:=zh (zEn ea Y.L y.c (some ⟨w.heap.size,0,none⟩) n n ws wx (((HG.out.below hb1).sub (fun _ hk=>hk)).sub (by simp)) (HT.out.below hb1) (HY.out.clus.below hb1) HY.out.inv HR1.out HN.out hn0 (by omega) HPC.out HFR.out);clear KW KS q0;go_wp2_with fail;refine KT.out.mono ?_;rintro e w2⟨t,rfl,ht,hb2⟩;have hv2:=Ar hb1 hb2;generalize y.c.tell ws=r at *;obtain⟨r1,r2⟩:=r;dsimp only at ht HD2 ⊢
  by_cases hz:r2=0
  ·subst hz
   obtain rfl:=ht rfl;rw[Al];clear ht;go_wp2;go_ret2;unfold O3;rw[HD2.out];exact⟨Y,by rw[Al];rfl,HY.out.below hv2,Fm.of HY.out hv2⟩
  ·have HZ:=zh hz
   have KB:=zh (Kc ea (Bm ea r2) r2 (-1) w2 (HG.out.below hv2).typ (Bg.bare ea w2 r2) hz);have HEV:=zh (Ae ea hz);rw[HEV.out] at KB ⊢;clear hz ht;go_wp2_with fail;refine KB.out.mono ?_;rintro e w4⟨rfl,hb4⟩;go_wp2;go_ret2;have hv4:=Ar hv2 hb4;unfold O3;rw[HD2.out];refine⟨Y,?_,HY.out.below hv4,Fm.of HY.out hv4⟩;dsimp only;rw[if_neg HZ.out,HEV.out]
   rfl
def zEq(ea:Nat→Addr)(base D:Nat)(s:Dk)(l:List (List UInt8))(w:World)(e:Ending)(w':World):Prop:=
 ((Bp.linesF 0 l).2.1=0∧∃Y:YL,Y.D=D∧e=.returned (.tuple #[.pointer (some ⟨Y.yb,0,none⟩),.nilIface])∧B8 w' base Y ⟨(Bp.linesF 0 l).1,⟨s.b.take (l.flatMap A7).length,false,-1⟩⟩∧Fr (F4 w D) w w'∧(∀k,k<w.heap.size→F4 w' D k→F4 w D k)∧w.heap.size≤Y.yb∧∀j,Y.L.own j→w.heap.size≤j) ∨
 ((Bp.linesF 0 l).2.1≠0∧∃v,e=.returned (.tuple #[.pointer none,v])∧Bg ea w' v (Bp.linesF 0 l).2.1 (Bp.linesF 0 l).2.2∧Fr (F4 w D) w w')
theorem Vn{w:World}{a:Option Addr}{l:List (List UInt8)}(h:Ac w a (Ad l))(k:Nat)(hk:k<l.length) :
 ∃b off,a=some ⟨b,off,none⟩∧b<w.heap.size∧w.cell? ⟨b,off+k,none⟩=some (.string ⟨l[k].toArray⟩):=by
 obtain⟨b,off,rfl,hb,hc⟩:=h.at (fun e=>by have h1:=congrArg List.length e;simp[Ad] at h1;subst h1;simp at hk);exact⟨b,off,rfl,hb,hc k _ (by simp[Ad,hk])⟩
theorem zEj(ea:Nat→Addr)(base D:Nat)(s:Dk)(l:List (List UInt8))(w:World)(hE:Lg ea base w)(hbz:base≤w.heap.size)(hD:Bo w base D s)(hP:H5 s.b l)(hm:l.length≤300000) :
 Calls prog 21 #[.pointer (some ⟨D,0,none⟩)] w (zEq ea base D s l w):=by
 have KR:=zh (Yn base D s l hP w hD hbz (fun W hs=>(hE.2 W hs.below).2));have hl4:∀x∈l,x.length≤4000:=hP.1
 have HE:=zh hE;have HD:=zh hD;have HL4:=zh hl4;have HDW:=zh (fun k (hk:F4 w D k)=>(hD.owns hk).1);clear hE hD hP hl4;go_enter func21,ntmps21;go_wp2_with fail;refine KR.out.mono ?_;rintro e w1⟨v,rfl,hown,hD1,hS1⟩;obtain⟨ra,rc,rfl⟩:=Aj hown;have hb1:Below base w w1:=hS1.below;have KF:=zh (Tj ea w1 (((HE.out.2 w1 hb1).1.sub (fun _ hk=>hk)).sub (by simp)));have hF1:Fr (F4 w D) w w1:=⟨hS1.below.os,hS1.below.tape,hS1.below.output,hS1.below.size,hS1.own⟩;have HM1:=zh hS1.mv;have HF1:=zh hF1;have HB1:=zh hb1;go_wp2_with fail;refine KF.out.mono ?_;rintro e w2⟨L,rfl,hC2,hL2,hb2⟩;have HRW:=zh ((Ac.owned hown).1);have HD1:=zh hD1;have hs1:=hS1.size;have hl0:(Bp.linesF 0 (l.take 0)).2.1=0:=rfl;have HLEN:=zh (show l.length≤300000 from hm);obtain⟨nl,hnl⟩:∃nl,nl=l.length:=⟨_,rfl⟩
 have HNL:=zh hnl;rw[←hnl];rw[←hnl] at hm;have HI0:Hid (Ce (Bp.linesF 0 (l.take 0)).1):=O7;have hC2':Ap w2 L (Bp.linesF 0 (l.take 0)).1:=by rw[List.take_zero];exact hC2
 have hL2':∀j,L.own j→w1.heap.size≤j:=fun j hj=>by
  rcases hj with rfl|rfl|rfl
  ·exact hL2.cb
  ·exact hL2.bb
  ·exact hL2.mb
 have HHL0:=zh hl0;clear hnl hown hD1 hS1 hF1 hb1 KF KR hC2 hL2 hl0;go_wp2;go_loopw [6,27] (fun c6 i wr=>∃(k:Nat) (L:CL),k≤nl∧i=.int .i64 k∧c6=.pointer (some ⟨L.cb,0,none⟩)∧Hid ((Bp.linesF 0 (l.take k)).2.1=0)∧Ap wr L (Bp.linesF 0 (l.take k)).1∧Hid (Ce (Bp.linesF 0 (l.take k)).1)∧(∀j,L.own j→w1.heap.size≤j)∧Below w1.heap.size w1 wr) (fun _ i _=>nl-(intOf i).toNat)
 case atStart=>exact⟨0,L,Nat.zero_le _,rfl,rfl,HHL0,hC2',HI0,hL2',hb2⟩
 case round=>
  clear hC2' HI0 hL2' hb2 HHL0;obtain⟨k,L,hk,rfl,rfl,hok,hC,hI,hL,hb⟩:=hrel
  by_cases hlt:k<nl
  ·have hkl:k<l.length:=by rw[←HNL.out];exact hlt
   obtain⟨tb,tof,rfl,htb,ct⟩:=Vn (HRW.out.below hb) k hkl;have hl4:l[k].length≤4000:=HL4.out _ (List.getElem_mem hkl);have HNX:=zh (fun h2=>Qe l Bp k hkl hok.out h2);have HSP:=zh (fun h2=>Lv l Bp 0 k hkl hok.out h2);have hi0:(0:Int)≤(k:Int):=by omega
   have hi1:(k:Int)<(nl:Int):=by omega
   have hbw:Below base w wr:=HB1.out.trans (hb.mono (Nat.le_trans hbz hs1));have HOK:=zh hok;clear hok;generalize (Bp.linesF 0 (l.take k)).1=c at *;generalize l[k]=line at *;have KS:=zh (Hy 32 line wr (HE.out.2 wr hbw).2 (by omega));obtain⟨ws,hws⟩:∃ws,ws=Az 32 line:=⟨_,rfl⟩
   have hne:ws≠[]:=by rw[hws];exact F7 32 line
   have hpc:∀x∈ws,x.length≤100000:=fun x hx=>by rw[hws] at hx;exact Nat.le_trans (Cz 32 line x hx) (by omega)
   have hlen:ws.length≤100001:=by rw[hws];exact Nat.le_trans (Ch 32 line) (by omega)
   obtain⟨W1,hW1⟩:∃W,W=wr.alloc (.cells (Ad ws).toArray 9):=⟨_,rfl⟩
   have hb1:Below wr.heap.size wr W1:=by rw[hW1];exact zb.alloc zl _
   have hr1:Ac W1 (some ⟨wr.heap.size,0,none⟩) (Ad ws):=by rw[hW1];exact Ac.new_at wr _ _ _ rfl
   rw[←hws,←hW1] at KS;obtain⟨n,hn⟩:∃n,n=ws.length:=⟨_,rfl⟩
   have hn0:0<n:=by rw[hn];exact List.length_pos_iff.2 hne
   have hD:c.lineF line=if Bz (ws.getD 0 [])≠(n:Int)-1 then(c,1) else((c.change ws).1,(c.change ws).2.2):=by rw[CP.lineF,←hws,hn]
   have HDF:=zh hD;rw[←hn] at KS hlen
   have q0:W1.cell? ⟨wr.heap.size,0,none⟩=some (.string ⟨(ws.getD 0 []).toArray⟩):=by
    have:=hr1.cell (i:=0) (v:=.string ⟨(ws.getD 0 []).toArray⟩) (by
     obtain⟨x,r,e⟩:=List.exists_cons_of_ne_nil hne
     rw[e];rfl)
    simpa using this
   have HN:=zh hn.symm;obtain⟨w0,hw0⟩:∃w0,w0=ws.getD 0 []:=⟨_,rfl⟩
   have HW0:=zh hw0.symm;rw[←hw0] at q0 HDF;have KW:=zh (fun W:World=>Tk w0 W);have HR1:=zh hr1;have HPC:=zh hpc;have hlt1:wr.heap.size<W1.heap.size:=by rw[hW1];simp
   have hb2:Below w1.heap.size w1 W1:=Ar hb hb1;have hbw1:Below base w W1:=HB1.out.trans (hb2.mono (Nat.le_trans hbz hs1));have HC:=zh (hC.below hb1);have HLO:=zh hL;have HIC:=zh hI.out;have HB2:=zh hb2;have HBW1:=zh hbw1;clear hW1 hws hD hn hr1 hpc hne hw0 hC hL hI hb hbw hb2 hbw1 hb1;have hn1:(1:Int)≤(n:Int):=by omega
   by_cases hd:Bz w0=(n:Int)-1
   ·have HL3:Hid (c.lineF line=((c.change ws).1,(c.change ws).2.2)):=by unfold Hid;rw[HDF.out,if_neg (fun h=>h hd)]
    have hdb:(Bz w0==(n:Int)-1)=true:=beq_iff_eq.2 hd;have HDW:=zh hd
    have hE2:Mt ea L W1:=fun W hW=>by
     have h:=HE.out.2 W (HBW1.out.trans (hW.below (Nat.le_trans (Nat.le_trans hbz hs1) HB2.out.size) (fun j hj=>Nat.le_trans (Nat.le_trans hbz hs1) (HLO.out j hj))));exact⟨h.1.sub (fun _ hk=>hk),h.2⟩
    have KCH:=zh (Qs ea L c (some ⟨wr.heap.size,0,none⟩) n n ws W1 hE2 HC.out HIC.out HR1.out HN.out HPC.out (by rw[HW0.out];exact HDW.out) hn0);clear hd hE2 HDF;generalize hk2:Bz w0=kk at *;clear hk2;go_wp2_with fail;refine KS.out.mono ?_;rintro e wx⟨rfl,rfl⟩;go_wp2_with fail;refine(KW.out _).mono ?_;rintro e wx⟨rfl,rfl⟩;go_wp2_with fail;refine KCH.out.mono ?_;rintro e w3⟨v,ev,t,pl,rfl,hE3,hF3,hok3⟩;have hv3:Below w1.heap.size w1 w3:=HB2.out.trans (hF3.below HB2.out.size (fun j hj=>HLO.out j hj))
    by_cases hz:(c.change ws).2.2=0
    ·rw[hz] at hE3
     obtain rfl:=hE3.nil;obtain⟨L3,rfl,rfl,hC3,hown3⟩:=hok3 hz;have HN2:=zh (HNX.out (by rw[HL3.out];exact hz));have HC3:Hid (Ap w3 L3 (Bp.linesF 0 (l.take (k+1))).1):=by unfold Hid;rw[HN2.out,HL3.out];exact hC3
     have HI3:Hid (Ce (Bp.linesF 0 (l.take (k+1))).1):=by unfold Hid;rw[HN2.out,HL3.out];exact HIC.out.change ws hz
     have HO3:Hid ((Bp.linesF 0 (l.take (k+1))).2.1=0):=by unfold Hid;rw[HN2.out]
     have HL4':Hid (∀j,L3.own j→w1.heap.size≤j):=fun j hj=>(hown3 j hj).elim (fun h=>HLO.out j h) (fun h=>Nat.le_trans HB2.out.size h)
     have HV3:=zh hv3;clear hz hok3 hC3 hown3 hE3 hF3 hv3 KCH KS KW q0 ct;go_wp2;go_roundw
     case rel=>exact⟨k+1,L3,by omega,by go_num,rfl,HO3,HC3.out,HI3,HL4'.out,HV3.out⟩
     case measure=>simp[intOf];omega
    ·have HZ:=zh hz
     have HE3:=zh hE3;obtain⟨et,ex,rfl⟩:=hE3.held hz;have HS3:=zh (HSP.out (by rw[HL3.out];exact hz));rw[HL3.out] at HS3;have hb3w:Below base w w3:=HB1.out.trans (hv3.mono (Nat.le_trans hbz hs1));have KB:=zh (Kc ea _ _ pl w3 (HE.out.2 w3 hb3w).1.typ HE3.out hz);have HEV:=zh (Ae ea hz);rw[HEV.out] at KB;have HV3:=zh hv3;clear hz hok3 hE3 hF3 hv3 KCH KS KW q0 ct HNX HSP;go_wp2_with fail;refine KB.out.mono ?_;rintro e w4⟨rfl,hb4⟩;go_wp2;go_ret2;have hal:Below w4.heap.size w4 (w4.alloc (.cells #[.int .i64 k,.iface 346 (.pointer (some (ea (c.change ws).2.2)))] 115)):=zb.alloc zl _;refine Or.inr ⟨by rw[HS3.out];exact HZ.out,Zx w4.heap.size,rfl,?_,HF1.out.off (Ar (Ar HV3.out hb4) hal)⟩;rw[HS3.out];exact Or.inr ⟨by dsimp only;omega,HZ.out,w4.heap.size,rfl,by simp,by simp,by rw[HEV.out];simp⟩
   ·have HL3:Hid (c.lineF line=(c,1)):=by unfold Hid;rw[HDF.out,if_pos hd]
    have hdb:(Bz w0==(n:Int)-1)=false:=beq_eq_false_iff_ne.2 hd;have g1:=(HE.out.2 W1 HBW1.out).1.glob.cell 1 (by simp);simp only[gOf] at g1;rw[Ae ea (by decide)] at g1;have KB:=zh (Kc ea (Bm ea 1) 1 (-1) W1 (HE.out.2 W1 HBW1.out).1.typ (Bg.bare ea W1 1) (by decide));rw[Ae ea (by decide)] at KB;have HS3:=zh (HSP.out (by rw[HL3.out];show(1:Nat)≠0;decide));rw[HL3.out] at HS3;clear hd HDF HNX HSP;generalize hk2:Bz w0=kk at *;clear hk2;go_wp2_with fail;refine KS.out.mono ?_;rintro e wx⟨rfl,rfl⟩;go_wp2_with fail;refine(KW.out _).mono ?_;rintro e wx⟨rfl,rfl⟩;go_wp2_with fail;refine KB.out.mono ?_;rintro e w4⟨rfl,hb4⟩;go_wp2;go_ret2;have hal:Below w4.heap.size w4 (w4.alloc (.cells #[.int .i64 k,.iface 346 (.pointer (some (ea 1)))] 115)):=zb.alloc zl _;refine Or.inr ⟨by rw[HS3.out];show(1:Nat)≠0;decide,Zx w4.heap.size,rfl,?_,HF1.out.off (Ar (Ar HB2.out hb4) hal)⟩;rw[HS3.out];exact Or.inr ⟨by dsimp only;omega,by show(1:Nat)≠0;decide,w4.heap.size,rfl,by simp,by simp,by simp[Ae ea (k:=1) (by decide)]⟩
  ·obtain rfl:k=nl:=by omega
   have HH:Hid (Bp.linesF 0 (l.take k)=Bp.linesF 0 l):=by unfold Hid;rw[HNL.out,List.take_length]
   have HC:=zh hC;have HL:=zh hL;have HB:=zh hb;clear hC hL hb;go_wp2;go_ret2;have hal:Below wr.heap.size wr (wr.alloc (.cells #[.pointer (some ⟨L.cb,0,none⟩),.pointer (some ⟨D,0,none⟩)] 69)):=zb.alloc zl _;have hb3:=Ar HB.out hal;refine Or.inl ⟨by rw[←HH.out];exact hok.out,⟨wr.heap.size,L,D⟩,rfl,rfl,?_,HF1.out.off hb3,fun j hj hx=>HM1.out j hj (hx.same (hb3.block _ HD1.out.lt)),Nat.le_trans hs1 HB.out.size,fun j hj=>Nat.le_trans hs1 (HL.out j hj)⟩;rw[←HH.out];exact⟨Af.new wr _ _,HC.out.below hal,HD1.out.below hb3,hI.out,Nat.le_trans hbz (Nat.le_trans hs1 HB.out.size),⟨Nat.le_trans hbz (Nat.le_trans hs1 (HL.out _ (Or.inl rfl))),Nat.le_trans hbz (Nat.le_trans hs1 (HL.out _ (Or.inr (Or.inl rfl)))),Nat.le_trans hbz (Nat.le_trans hs1 (HL.out _ (Or.inr (Or.inr rfl))))⟩,⟨by show(-9223372036854775808:Int)≤-1;decide,by show(-1:Int)≤9223372036854775807;decide⟩⟩
theorem Wt(c:CP)(i:Int):(c.stT i).length≤7:=by
 unfold CP.stT
 cases c.f i with
 | none=>simp
 | some x=>
  dsimp only;unfold Go.Proofs.YtppfkokfnoeopaaGreatDoor.stT
  split
  ·simp
  ·split<;>simp
theorem Pn{c:CP}(h:Ce c)(i:Int):((c.on i).1.viewT).length≤70:=by
 obtain⟨h1,h2,h3,h4,h5⟩:=h.on i;have e1:=Ji (c.on i).1.m;have e2:(Lib.itoa (c.on i).1.d).length≤9:=E4 (by omega) (by omega);have e3:(Lib.itoa (c.on i).1.s).length≤9:=E4 (by omega) (by omega);unfold NP.viewT;simp only[List.length_append,List.length_cons];omega
theorem zC9{c:CP}(h:Ce c)(i:Int)(hi : -10000000<i∧i<10000000):(c.nodeT i).length≤2700:=by
 have e1:=Pn h i;have e2:=Wt c i;have e3:=Mh (h.on i).2.2.2.1;have e4:(Lib.itoa i).length≤9:=E4 hi.1 hi.2;unfold CP.nodeT;simp only[List.length_append,List.length_cons,List.length_nil]
 split
 ·simp only[List.length_cons,List.length_append];omega
 ·simp;omega
def CP.textK(c:CP)(k:Nat):List UInt8:=[116,105,109,101,32]++(Lib.itoa (c.time:Nat)++10::((Bq c.plan).take k).flatMap c.nodeT)
theorem Nm(c:CP)(k:Nat)(hk:k<(Bq c.plan).length):c.textK (k+1)=c.textK k++c.nodeT (Bq c.plan)[k]:=by
 unfold CP.textK;rw[List.take_succ_eq_append_getElem hk,List.flatMap_append];simp
theorem Ka{c:CP}(h:Ce c):∀k,k≤(Bq c.plan).length→(c.textK k).length≤20+2700*k
 | 0,_=>by
  have:=h.time;have e:(Lib.itoa (c.time:Nat)).length≤9:=E4 (by omega) (by omega);unfold CP.textK;simp only[List.take_zero,List.flatMap_nil,List.length_append,List.length_cons,List.length_nil];omega
 | k+1,hk=>by
  have ih:=Ka h k (by omega);rw[Nm c k (by omega),List.length_append];have hm:=Hs (Ai h.plan).2.2.2 (Bq c.plan)[k];have hn:=(Ai h.plan).2.2.2 _ (hm.1 (List.getElem_mem (by omega)));simp only[Aq,decide_eq_true_eq] at hn;have:=zC9 h (Bq c.plan)[k] (by omega);omega
theorem Xe(L:CL)(c:CP)(w:World)(h:Ap w L c)(hd:∀i,(c.f i).isSome=decide (i∈c.plan))(hp:∀i∈c.plan,Aq i=true) :
 Calls prog 48 #[.pointer (some ⟨L.cb,0,none⟩)] w fun e w'=>∃(a:Option Addr) (cap:Nat),e=.returned (.slice a (Bq c.plan).length cap)∧Ac w' a (Aa (Bq c.plan))∧Below w.heap.size w w':=by
 have K:=zh (Rg L c w h hd hp);clear h hd hp;go_enter func48,ntmps48;go_wp2_with fail;refine K.out.mono ?_;rintro e w1⟨a,cap,rfl,hr,hb⟩;go_wp2;go_ret;exact⟨a,cap,rfl,Cd hr,hb⟩
theorem zEo(ea:Nat→Addr)(base:Nat)(Y:YL)(y:YP)(w:World)(hE:Lg ea base w)(hY:B8 w base Y y) :
 Calls prog 13 #[.pointer (some ⟨Y.yb,0,none⟩)] w fun e w'=>e=.returned (.string ⟨(y.c.textY).toArray⟩)∧Below w.heap.size w w':=by
 obtain⟨hG,hT⟩:=hE.now;have c0:=hY.blk.cell 0 rfl;have hyl:=hY.blk.lt;have hI:=hY.inv;have ht:=hI.time;have KT:=zh (Uk Y.L y.c w hY.clus);have KI:=zh (Df (y.c.time:Int) w hT (by omega));have hit:(Lib.itoa (y.c.time:Int)).length≤9:=E4 (by omega) (by omega);have HC:=zh (fun(W:World) (hb:Below w.heap.size w W)=>hY.clus.below hb);have HG:=zh (fun(W:World) (hb:Below w.heap.size w W)=>hG.below hb);have HT:=zh (fun(W:World) (hb:Below w.heap.size w W)=>hT.below hb);have HB:=zh (fun(W:World) (hb:Below w.heap.size w W)=>(hY.blk.kept hb).cell 0 rfl);have HI:=zh hI;clear hG hT hE hY hI;generalize y.c=c at *;have HTX:Hid (c.textK 0=[116,105,109,101,32]++(Lib.itoa (c.time:Int)++[10])):=by unfold Hid CP.textK;simp
 have HTY:Hid (c.textY=c.textK (Bq c.plan).length):=by unfold Hid CP.textK CP.textY;rw[List.take_length]
 have HNM:=zh (fun k (hk:k<(Bq c.plan).length)=>Nm c k hk);have HLN:=zh (fun k (hk:k≤(Bq c.plan).length)=>Ka HI.out k hk);have KN:=zh (fun(W:World) (hb:Below w.heap.size w W)=>Xe Y.L c W (HC.out W hb) HI.out.dom (Ai HI.out.plan).2.2.2);have HMM:=zh (fun x (hx:x∈Bq c.plan)=>(Ai HI.out.plan).2.2.2 x ((Hs (Ai HI.out.plan).2.2.2 x).1 hx));have hn16:=J3 c.plan;generalize Bq c.plan=ns at *;obtain⟨nn,hnn⟩:∃nn,nn=ns.length:=⟨_,rfl⟩
 have HNN:=zh hnn;rw[←hnn] at KN hn16 HTY;obtain⟨t0,ht0⟩:∃t0,t0=Lib.itoa (c.time:Int):=⟨_,rfl⟩
 rw[←ht0] at KI hit HTX;have s1:(9223372036854775807<5+t0.length)=False:=eq_false (by omega);have s2:(9223372036854775807<5+t0.length+1)=False:=eq_false (by omega);clear ht0 hnn;go_enter func13,ntmps13;go_wp2_with fail;refine KT.out.mono ?_;rintro e w'⟨rfl,rfl⟩;go_wp2_with fail;refine KI.out.mono ?_;rintro e w1⟨rfl,hb1⟩;have c1:=HB.out w1 hb1;have KN1:=zh (KN.out w1 hb1);go_wp2_with fail;refine KN1.out.mono ?_;rintro e w2⟨na,nc,rfl,hrow,hb2⟩;have hb12:=Ar hb1 hb2;have HRW:=zh hrow;have HTX0:Hid ((⟨([116,105,109,101,32]++(t0++[10])).toArray⟩:ByteArray)=⟨(c.textK 0).toArray⟩):=by unfold Hid;rw[HTX.out]
 clear hrow KN1 KN KT KI c0 c1;go_wp2;go_loopw [3,25] (fun s3 i wr=>∃k:Nat,k≤nn∧i=.int .i64 k∧s3=.string ⟨(c.textK k).toArray⟩∧Below w2.heap.size w2 wr) (fun _ i _=>nn-(intOf i).toNat)
 case atStart=>exact⟨0,Nat.zero_le _,rfl,congrArg Value.string (by rw[HTX.out];apply ByteArray.ext;apply Array.ext';simp),Below.refl _ _⟩
 case round=>
  obtain⟨k,hk,rfl,rfl,hb⟩:=hrel
  by_cases hlt:k<nn
  ·have hkl:k<ns.length:=by rw[←HNN.out];exact hlt
   obtain⟨lb,lo,rfl,hlbl,ck⟩:=(HRW.out.below hb).int k hkl;have HNX:=zh (HNM.out k hkl);have hlk:=HLN.out k (by omega);have hnb:=HMM.out _ (List.getElem_mem hkl);generalize ns[k]=nd at *;simp only[Aq,decide_eq_true_eq] at hnb;have hwf:=zH9 (n:=nd) (by omega);have hb12':=Ar hb12 hb;have hi0:(0:Int)≤(k:Int):=by omega
   have hi1:(k:Int)<(nn:Int):=by omega
   have KS:=zh (Rh Y.L c nd wr (HC.out wr hb12') hwf (fun x hx=>(HI.out.node nd x hx).st));have ls:=Wt c nd;have li:(Lib.itoa nd).length≤9:=E4 (by omega) (by omega);have lv:=Pn HI.out nd;have lh:=Mh (HI.out.on nd).2.2.2.1;have h0:=HB.out wr hb12';have HBW:=zh hb12';have HBB:=zh hb;have KI:=zh (fun(W:World) (h:Below w.heap.size w W)=>Df nd W (HT.out W h) (by omega));have KV:=zh (fun(W:World) (h:Below w.heap.size w W)=>Vp ea Y.L c nd W ((HG.out W h).glob.sub (by simp)) (HT.out W h) (HC.out W h) HI.out hwf);have KH:=zh (fun(W:World) (h:Below w.heap.size w W)=>O2 ea Y.L c nd W ((HG.out W h).glob.sub (by simp)) (HT.out W h) (HC.out W h) HI.out hwf);have HND:Hid (c.nodeT nd=Lib.itoa nd++32::(c.stT nd++((if (c.on nd).2=0 then 32::((c.on nd).1.viewT++32::Fb (c.on nd).1.h) else[])++[10]))):=rfl;clear hb hb12' hkl hnb hwf;obtain⟨tk,htk⟩:∃tk,tk=c.textK k:=⟨_,rfl⟩
   rw[←htk] at hlk HNX;rw[←htk];have HTK:=zh htk;clear htk;generalize hek:c.textK (k+1)=tk1 at *;generalize c.nodeT nd=tn at *;generalize c.stT nd=tst at *;generalize Lib.itoa nd=ti at *;generalize c.on nd=r at *;obtain⟨x,er⟩:=r;dsimp only at *;generalize x.viewT=tv at *;obtain⟨th,hth⟩:∃th,th=Fb x.h:=⟨_,rfl⟩
   rw[←hth] at lh HND;have s3:(9223372036854775807<ti.length+1)=False:=eq_false (by omega);have s4:(9223372036854775807<ti.length+1+tst.length)=False:=eq_false (by omega);have s5:(9223372036854775807<tk.length+(ti.length+1+tst.length))=False:=eq_false (by omega);have s6:(9223372036854775807<1+tv.length)=False:=eq_false (by omega);have s7:(9223372036854775807<1+tv.length+1)=False:=eq_false (by omega);have s8:(9223372036854775807<1+tv.length+1+th.length)=False:=eq_false (by omega);have s9:(9223372036854775807<tk.length+(ti.length+1+tst.length)+(1+tv.length+1+th.length))=False:=eq_false (by omega);have s10:(9223372036854775807<tk.length+(ti.length+1+tst.length)+(1+tv.length+1+th.length)+1)=False:=eq_false (by omega);have s11:(9223372036854775807<tk.length+(ti.length+1+tst.length)+1)=False:=eq_false (by omega);go_wp2_with fail;refine KS.out.mono ?_;rintro e w3⟨rfl,hb3⟩;have hv3:=Ar HBW.out hb3;have hx3:=Ar HBB.out hb3;have K3:=zh (KI.out _ hv3);have h3:=HB.out _ hv3;go_wp2_with fail;refine K3.out.mono ?_;rintro e w4⟨rfl,hb4⟩;have hv4:=Ar hv3 hb4;have hx4:=Ar hx3 hb4;have K4:=zh (KV.out _ hv4);have h4:=HB.out _ hv4;clear K3 KS hv3 hx3 h3;go_wp2_with fail;refine K4.out.mono ?_;rintro e w5⟨rfl,hb5⟩;have hv5:=Ar hv4 hb5;have hx5:=Ar hx4 hb5;have h5:=HB.out _ hv5;have K5:=zh (KH.out _ hv5);clear K4 hv4 hx4 h4
   by_cases hz:er=0
   ·subst hz
    rw[if_pos rfl] at HND;rw[if_pos rfl,←hth] at K5;have HX5:=zh hx5;clear hth;have e0:Bm ea 0=.nilIface:=by simp[Bm]
    rw[e0] at K5;rw[e0];go_wp2_with fail;refine K5.out.mono ?_;rintro e w6⟨rfl,hb6⟩;go_wp2;go_roundw
    case rel=>exact⟨k+1,by omega,by go_num,congrArg Value.string (by rw[hek,HNX.out,HND.out];apply ByteArray.ext;apply Array.ext';simp),Ar HX5.out hb6⟩
    case measure=>simp[intOf];omega
   ·rw[if_neg hz] at HND
    have hev:=Ae ea hz;rw[hev];clear K5;go_wp2;go_roundw
    case rel=>exact⟨k+1,by omega,by go_num,congrArg Value.string (by rw[hek,HNX.out,HND.out];apply ByteArray.ext;apply Array.ext';simp),hx5⟩
    case measure=>simp[intOf];omega
  ·obtain rfl:k=nn:=by omega
   have hb':=Ar hb12 hb;rw[←HTY.out];clear hb;go_wp2;go_ret;exact⟨rfl,hb'⟩
end Go.Proofs.YtppfkokfnoeopaaGreatDoor
namespace Go.Proofs.YtppfkokfnoeopaaGreatDoor
open Go.RowKit Go.Proofs.Tryz
theorem zCn(l:List (List UInt8)):Ad l=I4 (l.map fun x=>(⟨x.toArray⟩:ByteArray)):=by simp[Ad,I4]
theorem Vf(a a2:Option Addr)(cap cap2:Nat)(l:List (List UInt8))(w:World)(hr:Ac w a (Ad l))(hr2:Ac w a2 (Ad l))(hc:l.length≤4611686018427387904) :
 Calls prog 29 #[.slice a l.length cap,.slice a2 l.length cap2] w fun e w'=>e=.returned (.bool true)∧Below w.heap.size w w':=by
 rw[zCn] at hr hr2;refine(Uc a a2 l.length cap l.length cap2 _ _ w (by simp) hr (by simp) hr2 hc).mono ?_;rintro e w'⟨rfl,hb⟩;exact⟨by simp,hb⟩
theorem Sm{l:List (List UInt8)}(h:∀s∈l,s.length≤4000):H5 (l.flatMap A7) l:=⟨h,[],by simp,rfl⟩
theorem U4{l:List (List UInt8)}(h:∀s∈l,s.length≤4000){t p:List UInt8}(ht:t.length≤4000)(hp:p <+: A7 t)(hl:p.length<(A7 t).length):H5 (l.flatMap A7++p) l:=⟨h,p,rfl,zGs ht hp hl⟩
def zI3(st:Dk×List (List UInt8))(t:List UInt8):Dk×List (List UInt8):=((apF st.1 t).1,if (apF st.1 t).2=0 then st.2++[t] else st.2)
structure Zd(k:Nat)(st:Dk×List (List UInt8)):Prop where
 lens:∀s∈st.2,s.length≤200
 many:st.2.length≤k
 size:st.1.b.length≤250*k
 cut : -1≤st.1.cut∧st.1.cut≤9223372036854775807
 bytes:(st.1.off=false∧st.1.b=st.2.flatMap A7∧0≤st.1.cut)∨(st.1.off=true∧∃t p,t.length≤4000∧p <+: A7 t∧p.length<(A7 t).length∧st.1.b=st.2.flatMap A7++p)
theorem Zd.parse{k:Nat}{st:Dk×List (List UInt8)}(h:Zd k st):H5 st.1.b st.2:=by
 have hl:∀s∈st.2,s.length≤4000:=fun s hs=>by have:=h.lens s hs;omega
 rcases h.bytes with⟨_,e,_⟩|⟨_,t,p,h1,h2,h3,e⟩
 ·rw[e];exact Sm hl
 ·rw[e];exact U4 hl h1 h2 h3
theorem Zd.step{k:Nat}{st:Dk×List (List UInt8)}(h:Zd k st)(hk:k≤40){t:List UInt8}(ht:t.length≤200):Zd (k+1) (zI3 st t):=by
 obtain⟨⟨b,o,c⟩,l⟩:=st;obtain⟨h1,h2,h3,h4,h5⟩:=h;dsimp only at h1 h2 h3 h4 h5;have hrl:=Mp t (by omega);have hlow:=L7 t;have hA:apF ⟨b,o,c⟩ t=wrF ⟨b,o,c⟩ (A7 t):=by rw[apF,if_neg (by omega),if_neg (by dsimp only;omega)]
 rcases h5 with⟨rfl,rfl,hc0⟩|⟨rfl,t',p,q1,q2,q3,rfl⟩
 ·by_cases hlt:c<(A7 t).length
  ·have hW:wrF ⟨l.flatMap A7,false,c⟩ (A7 t)=(⟨l.flatMap A7++(A7 t).take c.toNat,true,c⟩,11):=by rw[wrF];simp[hc0,hlt]
   rw[zI3,hA,hW];refine⟨h1,by dsimp only;simp;omega,?_,h4,Or.inr ⟨rfl,t,(A7 t).take c.toNat,by omega,List.take_prefix _ _,by rw[List.length_take];omega,by simp⟩⟩;dsimp only;rw[List.length_append,List.length_take];omega
  ·have hW:wrF ⟨l.flatMap A7,false,c⟩ (A7 t)=(⟨l.flatMap A7++A7 t,false,c-(A7 t).length⟩,0):=by rw[wrF];simp[hc0,hlt]
   rw[zI3,hA,hW];refine⟨fun s hs=>?_,?_,?_,by dsimp only;omega,Or.inl ⟨rfl,by simp,by dsimp only;omega⟩⟩
   ·dsimp only at hs
    rw[if_pos rfl] at hs
    rcases List.mem_append.1 hs with hs|hs
    ·exact h1 s hs
    ·rw[List.mem_singleton.1 hs];exact ht
   ·dsimp only;rw[if_pos rfl,List.length_append,List.length_singleton];omega
   ·dsimp only;rw[List.length_append];omega
 ·have hW:wrF ⟨l.flatMap A7++p,true,c⟩ (A7 t)=(⟨l.flatMap A7++p,true,c⟩,11):=by rw[wrF];rfl
  rw[zI3,hA,hW];exact⟨h1,by dsimp only;simp;omega,by dsimp only at h3 ⊢;omega,h4,Or.inr ⟨rfl,t',p,q1,q2,q3,by simp⟩⟩
theorem Ms{w:World}{a:Option Addr}{l:List (List UInt8)}(h:Ac w a (Ad l))(k:Nat)(hk:k<l.length) :
 ∃b off,a=some ⟨b,off,none⟩∧b<w.heap.size∧w.cell? ⟨b,off+k,none⟩=some (.string ⟨l[k].toArray⟩):=by
 obtain⟨b,off,rfl,hb,hc⟩:=h.at (fun e=>by have h1:=congrArg List.length e;simp[Ad] at h1;subst h1;simp at hk);exact⟨b,off,rfl,hb,hc k _ (by simp[Ad,hk])⟩
theorem Bo.grown{w w':World}{base D:Nat}{s:Dk}{v:Value}{n size:Nat}{xs:List Value}(h:Bo w base D s)(hv:w.ownsRow base 9 size v n xs)(hg:w.grownBy w' v.ownBlock):Bo w' base D s:=by
 obtain⟨hB,hl,u,hK,hu⟩:=h
 have hno:∀(k:Nat) (c:Array Value) (t:TypeId) (fz:Nat×Nat),w.heap[k]?=some (Obj.cells c t fz)→t≠9→w'.heap[k]?=w.heap[k]?:=fun k c t fz hk ht=>by
  refine hg.block k (Array.getElem?_eq_some_iff.1 hk).1 (fun e=>?_)
  rcases hv.2 with⟨rfl,_⟩|⟨g,cap,cur,rfl,h2,h3,h4⟩
  ·simp[Value.ownBlock] at e
  ·simp[Value.ownBlock] at e
   subst e;rw[h3] at hk;simp at hk;exact ht hk.2.1.symm
 refine⟨hB,hl,u,(hno D _ _ _ hK (by decide)).trans hK,hu.kept fun g hg2=>?_⟩;obtain⟨_,cur,fz,hc⟩:=hu.bytes g hg2;exact hno g _ _ _ hc (by decide)
theorem Zd.take{k:Nat}{st:Dk×List (List UInt8)}(h:Zd k st):st.1.b.take (st.2.flatMap A7).length=st.2.flatMap A7:=by
 rcases h.bytes with⟨_,e,_⟩|⟨_,t,p,h1,h2,h3,e⟩
 ·rw[e,List.take_length]
 ·rw[e,List.take_left]
end Go.Proofs.YtppfkokfnoeopaaGreatDoor
namespace Go.Proofs.YtppfkokfnoeopaaGreatDoor
open Go.RowKit Go.Maps Go.Proofs.Tryz
structure Fg(k:Nat)(y:YP)(dn:List (List UInt8)):Prop where
 lens:∀s∈dn,s.length≤150
 many:dn.length≤k
 size:y.d.b.length≤200*k
 cut : -1≤y.d.cut∧y.d.cut≤9223372036854775807
 bytes:(y.d.off=false∧y.d.b=dn.flatMap A7)∨(y.d.off=true∧∃t p,t.length≤4000∧p <+: A7 t∧p.length<(A7 t).length∧y.d.b=dn.flatMap A7++p)
 run:Bp.linesF 0 dn=(y.c,0,-1)
theorem Fg.parse{k:Nat}{y:YP}{dn:List (List UInt8)}(h:Fg k y dn):H5 y.d.b dn:=by
 have hl:∀s∈dn,s.length≤4000:=fun s hs=>by have:=h.lens s hs;omega
 rcases h.bytes with⟨_,e⟩|⟨_,t,p,h1,h2,h3,e⟩
 ·rw[e];exact Sm hl
 ·rw[e];exact U4 hl h1 h2 h3
theorem Fg.take{k:Nat}{y:YP}{dn:List (List UInt8)}(h:Fg k y dn):y.d.b.take (dn.flatMap A7).length=dn.flatMap A7:=by
 rcases h.bytes with⟨_,e⟩|⟨_,t,p,h1,h2,h3,e⟩
 ·rw[e,List.take_length]
 ·rw[e,List.take_left]
theorem Fg.more{k:Nat}{y:YP}{dn:List (List UInt8)}(h:Fg k y dn):Fg (k+1) y dn:=
 ⟨h.lens,by have:=h.many;omega,by have:=h.size;omega,h.cut,h.bytes,h.run⟩
theorem zF8(cut:Int)(h : -1≤cut∧cut≤9223372036854775807):Fg 0 ⟨Bp,⟨[],false,cut⟩⟩ []:=⟨by simp,Nat.le_refl _,by simp,h,Or.inl ⟨rfl,rfl⟩,rfl⟩
def zHn(y:YP)(t:List UInt8)(dn:List (List UInt8)):List (List UInt8):=
 if Bz ((Az 32 t).getD 0 [])≠((Az 32 t).length:Int)-1 then dn else if (y.c.change (Az 32 t)).2.2≠0 then dn else if (apF y.d t).2≠0 then dn else dn++[t]
theorem zJi{s:Dk}{t:List UInt8}(ht:t.length≤150)(hb:s.b.length≤100000):apF s t=wrF s (A7 t):=by
 have:=Mp t (by omega);rw[apF,if_neg (by omega),if_neg (by omega)]
theorem Fg.step{k:Nat}{y:YP}{dn:List (List UInt8)}(h:Fg k y dn)(hk:k≤100){t:List UInt8}(ht:t.length≤150):Fg (k+1) (y.doF t).1 (zHn y t dn):=by
 unfold YP.doF zHn
 split
 ·exact h.more
 ·rename_i hw
  split
  ·exact h.more
  ·rename_i hc'
   have hc:(y.c.change (Az 32 t)).2.2=0:=Decidable.not_not.1 hc';clear hc';have hsz:=h.size;have hA:=zJi (s:=y.d) ht (by omega);have hrl:=Mp t (by omega);have hlow:=L7 t;obtain⟨c,⟨b,o,cu⟩⟩:=y;obtain⟨h1,h2,h3,h4,h5,h6⟩:=h;dsimp only at h1 h2 h3 h4 h5 h6 hA hsz hc ⊢;rw[hA]
   rcases h5 with⟨rfl,rfl⟩|⟨rfl,t',p,q1,q2,q3,rfl⟩
   ·by_cases hlt:0≤cu∧cu<(A7 t).length
    ·have hW:wrF ⟨dn.flatMap A7,false,cu⟩ (A7 t)=(⟨dn.flatMap A7++(A7 t).take cu.toNat,true,cu⟩,11):=by rw[wrF];simp[hlt]
     rw[hW,if_pos (by simp)];refine⟨h1,by rw[if_pos (by simp)];omega,?_,h4,Or.inr ⟨rfl,t,(A7 t).take cu.toNat,by omega,List.take_prefix _ _,by rw[List.length_take];omega,rfl⟩,h6⟩;dsimp only;rw[List.length_append,List.length_take];omega
    ·have hW:wrF ⟨dn.flatMap A7,false,cu⟩ (A7 t)=(⟨dn.flatMap A7++A7 t,false,if 0≤cu then cu-(A7 t).length else cu⟩,0):=by rw[wrF];simp[hlt]
     rw[hW,if_neg (by simp)];refine⟨fun s hs=>?_,?_,?_,?_,Or.inl ⟨rfl,by simp⟩,?_⟩
     ·dsimp only at hs
      rw[if_neg (by simp)] at hs
      rcases List.mem_append.1 hs with hs|hs
      ·exact h1 s hs
      ·rw[List.mem_singleton.1 hs];exact ht
     ·dsimp only;rw[if_neg (by simp),List.length_append,List.length_singleton];omega
     ·dsimp only;rw[List.length_append];omega
     ·dsimp only;split<;>omega
     ·dsimp only
      rw[if_neg (by simp),Lu _ _ _ _ (by rw[h6]),h6];dsimp only;have hL:c.lineF t=((c.change (Az 32 t)).1,(c.change (Az 32 t)).2.2):=by rw[CP.lineF,if_neg hw]
      rw[hL,hc,if_pos rfl]
   ·have hW:wrF ⟨dn.flatMap A7++p,true,cu⟩ (A7 t)=(⟨dn.flatMap A7++p,true,cu⟩,11):=by rw[wrF];rfl
    rw[hW,if_pos (by simp)];exact⟨h1,by rw[if_pos (by simp)];omega,by dsimp only at h3 ⊢;omega,h4,Or.inr ⟨rfl,t',p,q1,q2,q3,rfl⟩,h6⟩
def Dk.up(s:Dk):Prop:=s.off=false∧s.cut=-1
theorem Fg.flat{k:Nat}{y:YP}{dn:List (List UInt8)}(h:Fg k y dn)(hu:y.d.up):y.d=⟨dn.flatMap A7,false,-1⟩:=by
 obtain⟨c,⟨b,o,cu⟩⟩:=y;obtain⟨h1,h2⟩:=hu;dsimp only at h1 h2;subst h1 h2
 rcases h.bytes with⟨_,e⟩|⟨e,_⟩
 ·dsimp only at e;rw[e]
 ·cases e
def J2(l:List (List UInt8))(most:Int):Bool:=decide (most<(l.length:Int))||l.any (fun s=>decide (150<s.length))
theorem zC1{l:List (List UInt8)}{most:Int}(h:J2 l most=false):(l.length:Int)≤most∧∀a∈l,a.length≤150:=by
 simp only[J2,Bool.or_eq_false_iff,decide_eq_false_iff_not,List.any_eq_false,decide_eq_true_eq] at h;exact⟨by omega,fun a ha=>by have:=h.2 a ha;omega⟩
theorem Bo.not_yard{w:World}{base D yb:Nat}{s:Dk}{cs:Array Value}(h:Bo w base D s)(hb:Af w yb 69 cs):¬F4 w D yb:=fun hk=>by
 obtain⟨_,_,cur,fz,t,h1,h2⟩:=h.owns hk;rw[show w.heap[yb]?=_ from hb] at h1;injection h1 with h1;injection h1 with _ e;subst e
 rcases h2 with h2|h2
 ·revert h2;decide
 ·revert h2;decide
theorem Ju.back{w w':World}{base:Nat}{Y:YL}{y:YP}(h:B8 w base Y y)(hb:Below w.heap.size w w'){k:Nat}(hk:Ju w' Y k):Ju w Y k:=
 hk.elim Or.inl (fun h1=>Or.inr (h1.same (hb.block _ h.disk.lt)))
theorem Fr.cell{S:Nat→Prop}{w w':World}(h:Fr S w w'){p:Addr}(hp:p.block<w.heap.size)(hn:¬S p.block):w'.cell? p=w.cell? p:=by
 unfold World.cell?;rw[h.block p.block hp hn]
theorem Rr:∀{l:List (List UInt8)},(∀s∈l,s.length≤150)→(l.flatMap A7).length≤200*l.length
 | [],_=>by simp
 | s::r,h=>by
  have h1:=Mp s (by have:=h s (by simp);omega);have h2:=h s (by simp);have h3:=Rr (l:=r) (fun t ht=>h t (List.mem_cons_of_mem _ ht));rw[List.flatMap_cons,List.length_append,List.length_cons];omega
end Go.Proofs.YtppfkokfnoeopaaGreatDoor
