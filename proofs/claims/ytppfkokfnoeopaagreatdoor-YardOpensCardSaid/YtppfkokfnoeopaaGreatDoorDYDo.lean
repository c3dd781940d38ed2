/- A part of a proof. -/
import Derived.Lib.Replace
import Derived.Lib.ReplaceLaws
import Derived.StringKeys
import Derived.Test.YtppfkokfnoeopaaGreatDoorDTapeAct
import Derived.Test.YtppfkokfnoeopaaGreatDoorDClusRun
namespace Go.Proofs.YtppfkokfnoeopaaGreatDoor
open Go.RowKit
def nothB:List UInt8:=[110,111,116,104,105,110,103]
def okB:List UInt8:=[111,107]
def numsStep(st:Option (List Int))(x:List UInt8):Option (List Int):=st.bind fun xs=>(numF x).map fun n=>xs++[n]
def numsAcc(l:List (List UInt8)):Option (List Int):=l.foldl numsStep (some [])
def numsF(s:List UInt8):Option (List Int):=numsAcc (cutL 44 s)
theorem numsAcc_snoc(l:List (List UInt8))(x:List UInt8):numsAcc (l++[x])=numsStep (numsAcc l) x:=by simp[numsAcc]
theorem numsAcc_none:∀(r:List (List UInt8)) {l:List (List UInt8)},numsAcc l=none→numsAcc (l++r)=none
 | [],l,h=>by simpa using h
 | x::r,l,h=>by
  have h1:numsAcc (l++[x])=none:=by rw[numsAcc_snoc,h];rfl
  have:=numsAcc_none r h1
  rwa [List.append_assoc] at this
theorem numsFold_none:∀l:List (List UInt8),l.foldl numsStep none=none
 | []=>rfl
 | _::r=>numsFold_none r
theorem numsFold_len:∀(l:List (List UInt8)) (acc xs:List Int),l.foldl numsStep (some acc)=some xs→xs.length=acc.length+l.length
 | [],acc,xs,h=>by simp at h;subst h;simp
 | x::r,acc,xs,h=>by
  rw[List.foldl_cons] at h
  cases hx:numF x with
  | none=>
   have e:numsStep (some acc) x=none:=by simp[numsStep,hx]
   rw[e,numsFold_none] at h;cases h
  | some n=>
   have e:numsStep (some acc) x=some (acc++[n]):=by simp[numsStep,hx]
   rw[e] at h;have:=numsFold_len r _ _ h;rw[this,List.length_append,List.length_singleton,List.length_cons];omega
theorem numsAcc_len{l:List (List UInt8)}{xs:List Int}(h:numsAcc l=some xs):xs.length=l.length:=by
 have:=numsFold_len l [] xs h;simpa using this
def wordsN(w:List UInt8):Int:=
 if w=[112,108,97,110]∨w=[111,102,102]∨w=[111,110]∨w=[109,111,100,101]∨w=[115,108,111,116] then 1 else if w=[115,101,116] then 2 else -1
def CP.slotW(c:CP)(word:List UInt8):CP×List UInt8×Nat:=match readF word with
 | none=>(c,[],1)
 | some k=>((c.slotF (listTo (k:Nat) 16)).1,Lib.replaceAll (if c.slotT=[] then nothB else c.slotT) [32] [95],(c.slotF (listTo (k:Nat) 16)).2)
def CP.setW(c:CP)(w1 w2:List UInt8):CP×Nat:=match numF w1,numF w2 with
 | some n,some v=>c.set n v
 | _,_=>(c,1)
def CP.planW(c:CP)(w1:List UInt8):CP×Nat:=match numsF w1 with
 | none=>(c,1)
 | some l=>(CP.new l,(planF l).1)
def CP.oneW(c:CP)(w0 w1:List UInt8):CP×Nat:=match numF w1 with
 | none=>(c,1)
 | some n=>if w0=[111,102,102] then c.turn n 0 else if w0=[111,110] then c.turn n 1 else c.ask n
def CP.change(c:CP)(w:List (List UInt8)):CP×List UInt8×Nat:=
 if w.getD 0 []=[112,108,97,110] then((c.planW (w.getD 1 [])).1,okB,(c.planW (w.getD 1 [])).2)
 else if w.getD 0 []=[115,108,111,116] then c.slotW (w.getD 1 [])
 else if w.getD 0 []=[115,101,116] then((c.setW (w.getD 1 []) (w.getD 2 [])).1,okB,(c.setW (w.getD 1 []) (w.getD 2 [])).2)
 else((c.oneW (w.getD 0 []) (w.getD 1 [])).1,okB,(c.oneW (w.getD 0 []) (w.getD 1 [])).2)
def NP.viewT(x:NP):List UInt8:=textF x.m++32::(Lib.itoa x.d++32::Lib.itoa x.s)
def CP.tellN(c:CP)(w0:List UInt8)(n:Int):List UInt8×Nat:=
 if w0=[118,105,101,119] then((c.on n).1.viewT,(c.on n).2)
 else if w0=[104,105,115,116,111,114,121] then(histT (c.on n).1.h,(c.on n).2)
 else if w0=[116,111,116,97,108] then(Lib.itoa (lastF (c.on n).1.h).sum,(c.on n).2)
 else(if c.stT n=[] then nothB else c.stT n,0)
def askB(w0:List UInt8):Bool:=decide (w0=[115,116,97,116,101]∨w0=[118,105,101,119]∨w0=[104,105,115,116,111,114,121]∨w0=[116,111,116,97,108])
def CP.tell(c:CP)(w:List (List UInt8)):List UInt8×Nat:=
 if w.length=1∧w.getD 0 []=[99,114,101,119] then(textF (c.crewN:Nat),0)
 else if w.length=1∧w.getD 0 []=[116,105,109,101] then(Lib.itoa (c.time:Nat),0)
 else if w.length=2∧askB (w.getD 0 [])=true then(match numF (w.getD 1 []) with
  | none=>([],1)
  | some n=>c.tellN (w.getD 0 []) n)
 else([],1)
structure YP where
 c:CP
 d:Dk
def YP.doF(y:YP)(line:List UInt8):YP×List UInt8×Nat:=
 if wordsN ((cutL 32 line).getD 0 [])≠((cutL 32 line).length:Int)-1 then(y,if (y.c.tell (cutL 32 line)).2=0 then(y.c.tell (cutL 32 line)).1 else[],(y.c.tell (cutL 32 line)).2)
 else if (y.c.change (cutL 32 line)).2.2≠0 then(y,[],(y.c.change (cutL 32 line)).2.2)
 else if (apF y.d line).2≠0 then(⟨y.c,(apF y.d line).1⟩,[],(apF y.d line).2)
 else(⟨(y.c.change (cutL 32 line)).1,(apF y.d line).1⟩,(y.c.change (cutL 32 line)).2.1,0)
def freshC:CP:=CP.new [1,2,3]
def YP.new:YP:=⟨freshC,⟨[],false,-1⟩⟩
def CP.lineF(c:CP)(line:List UInt8):CP×Nat:=if wordsN ((cutL 32 line).getD 0 [])≠((cutL 32 line).length:Int)-1 then(c,1) else((c.change (cutL 32 line)).1,(c.change (cutL 32 line)).2.2)
def CP.linesF(c:CP):Nat→List (List UInt8)→CP×Nat×Int
 | _,[]=>(c,0,-1)
 | i,x::r=>if (c.lineF x).2=0 then(c.lineF x).1.linesF (i+1) r else(c,(c.lineF x).2,i)
def CP.nodeT(c:CP)(n:Int):List UInt8:=Lib.itoa n++32::(c.stT n++((if (c.on n).2=0 then 32::((c.on n).1.viewT++32::histT (c.on n).1.h) else[])++[10]))
def CP.textY(c:CP):List UInt8:=[116,105,109,101,32]++(Lib.itoa (c.time:Nat)++10::(namesOf c.plan).flatMap c.nodeT)
theorem planF_le11(l:List Int):(planF l).1≤11:=by unfold planF;repeat(first|omega|split)
theorem InvP.change{c:CP}(h:InvP c)(w:List (List UInt8))(h0:(c.change w).2.2=0):InvP (c.change w).1:=by
 unfold CP.change at h0 ⊢
 split
 ·rename_i h1
  rw[if_pos h1] at h0;dsimp only at h0 ⊢;unfold CP.planW at h0 ⊢
  cases hn:numsF (w.getD 1 []) with
  | none=>rw[hn] at h0;simp at h0
  | some l=>rw[hn] at h0;exact InvP.new h0
 ·rename_i h1
  split
  ·unfold CP.slotW
   split
   ·exact h
   ·exact h.slotF _
  ·split
   ·dsimp only
    unfold CP.setW
    split
    ·exact h.set _ _
    ·exact h
   ·dsimp only
    unfold CP.oneW
    split
    ·exact h
    ·split
     ·exact h.turn _ _ (Or.inl rfl)
     ·split
      ·exact h.turn _ _ (Or.inr rfl)
      ·exact h.ask _
theorem fresh_inv:InvP freshC:=InvP.new (by decide +kernel)
theorem InvP.doF{y:YP}(h:InvP y.c)(line:List UInt8):InvP (y.doF line).1.c:=by
 unfold YP.doF
 split
 ·exact h
 ·split
  ·exact h
  ·split
   ·exact h
   ·rename_i h1 _
    exact h.change _ (by omega)
theorem InvP.lineF{c:CP}(h:InvP c)(line:List UInt8)(h0:(c.lineF line).2=0):InvP (c.lineF line).1:=by
 unfold CP.lineF at h0 ⊢
 split
 ·exact h
 ·rename_i h1
  rw[if_neg h1] at h0;exact h.change _ h0
theorem linesF_snoc:∀(l:List (List UInt8)) (c:CP) (i:Nat) (x:List UInt8),(c.linesF i l).2.1=0→c.linesF i (l++[x])=if ((c.linesF i l).1.lineF x).2=0 then(((c.linesF i l).1.lineF x).1,0,-1) else((c.linesF i l).1,((c.linesF i l).1.lineF x).2,((i+l.length:Nat):Int))
 | [],c,i,x,h=>by
  simp only[List.nil_append,CP.linesF,List.length_nil,Nat.add_zero]
  rfl
 | y::r,c,i,x,h=>by
  rw[List.cons_append,CP.linesF,CP.linesF];rw[CP.linesF] at h
  split at h
  ·rename_i h1
   simp only[if_pos h1];rw[linesF_snoc r _ (i+1) x h,List.length_cons];rw[show i+1+r.length=i+(r.length+1) by omega]
  ·rename_i h1;exact absurd h h1
theorem linesF_stop:∀(l:List (List UInt8)) (c:CP) (i k:Nat) (hk:k<l.length),(c.linesF i (l.take k)).2.1=0→((c.linesF i (l.take k)).1.lineF l[k]).2≠0→c.linesF i l=((c.linesF i (l.take k)).1,((c.linesF i (l.take k)).1.lineF l[k]).2,((i+k:Nat):Int))
 | [],c,i,k,hk,_,_=>by simp at hk
 | y::r,c,i,0,hk,_,h2=>by
  simp only[List.take_zero,CP.linesF,List.getElem_cons_zero,Nat.add_zero] at h2 ⊢;rw[if_neg h2]
 | y::r,c,i,k+1,hk,h1,h2=>by
  rw[List.take_succ_cons,CP.linesF] at h1 h2 ⊢;rw[CP.linesF]
  split at h1
  ·rename_i h3
   simp only[if_pos h3] at h2 ⊢;have hk':k<r.length:=by simpa using hk
   have ih:=linesF_stop r (c.lineF y).1 (i+1) k hk' h1 (by simpa using h2);rw[ih];simp only[List.getElem_cons_succ];rw[show i+1+k=i+(k+1) by omega]
  ·rename_i h3;exact absurd h1 h3
theorem linesF_next(l:List (List UInt8))(c:CP)(k:Nat)(hk:k<l.length)(h1:(c.linesF 0 (l.take k)).2.1=0)(h2:((c.linesF 0 (l.take k)).1.lineF l[k]).2=0):c.linesF 0 (l.take (k+1))=(((c.linesF 0 (l.take k)).1.lineF l[k]).1,0,-1):=by
 rw[List.take_succ_eq_append_getElem hk,linesF_snoc _ _ _ _ h1,if_pos h2]
end Go.Proofs.YtppfkokfnoeopaaGreatDoor
namespace Go.Proofs.YtppfkokfnoeopaaGreatDoor
open Go.RowKit Go.Maps
theorem Fresh.weak{b b':Nat}{L:CL}(h:Fresh b L)(hb:b'≤b):Fresh b' L:=⟨Nat.le_trans hb h.cb,Nat.le_trans hb h.bb,Nat.le_trans hb h.mb⟩
theorem int_wfY{n:Int}(h : -9223372036854775808≤n∧n≤9223372036854775807):(Lit.int .i64 n).wf=true:=by
 have h1:IntKind.i64.min=-9223372036854775808:=by decide +kernel
 have h2:IntKind.i64.max=9223372036854775807:=by decide +kernel
 simp only[Lit.wf,Bool.and_eq_true,decide_eq_true_eq,h1,h2];exact h
structure YL where
 yb:Nat
 L:CL
 D:Nat
structure YardAt(w:World)(base:Nat)(Y:YL)(y:YP):Prop where
 blk:Blok w Y.yb 69 #[.pointer (some ⟨Y.L.cb,0,none⟩),.pointer (some ⟨Y.D,0,none⟩)]
 clus:ClusAt w Y.L y.c
 disk:DiskAt w base Y.D y.d
 inv:InvP y.c
 low:base≤Y.yb
 lowc:Fresh base Y.L
 cut : -9223372036854775808≤y.d.cut∧y.d.cut≤9223372036854775807
theorem DiskAt.owns{w:World}{base D k:Nat}{s:Dk}(h:DiskAt w base D s)(hk:DOwn w D k):base≤k∧k<w.heap.size∧∃cur fz t,w.heap[k]?=some (.cells cur t fz)∧(t=5∨t=104):=by
 obtain⟨hB,hl,v,hK,hv⟩:=h
 rcases hk with rfl|⟨v',x',y',h1,h2⟩
 ·exact⟨hB,hK.lt,_,_,_,hK,Or.inr rfl⟩
 ·rw[show w.heap[D]?=_ from hK] at h1
  injection h1 with h1;injection h1 with h1;have h3:v=v':=by simpa using congrArg (fun a:Array Value=>a.toList.headD undef) h1
  subst h3;obtain⟨h4,cur,fz,h5⟩:=hv.bytes k h2;exact⟨h4,(Array.getElem?_eq_some_iff.1 h5).1,cur,fz,_,h5,Or.inl rfl⟩
theorem DiskAt.fr{S:Nat→Prop}{w w':World}{base D:Nat}{s:Dk}(h:DiskAt w base D s)(hf:Fr S w w')(hs:∀k,DOwn w D k→¬S k):DiskAt w' base D s:=by
 obtain⟨hB,hl,v,hK,hv⟩:=h;exact⟨hB,hl,v,(hf.block D hK.lt (hs D (Or.inl rfl))).trans hK,hv.kept fun g hg=>hf.block g (hv.lt g hg) (hs g (Or.inr ⟨v,_,_,hK,hg⟩))⟩
theorem DOwn.fr{S:Nat→Prop}{w w':World}{base D k:Nat}{s:Dk}(h:DiskAt w base D s)(hf:Fr S w w')(hs:∀k,DOwn w D k→¬S k)(hk:DOwn w' D k):DOwn w D k:=
 hk.same (hf.block D h.lt (hs D (Or.inl rfl)))
def YOwn(w:World)(Y:YL):Nat→Prop:=fun k=>k=Y.yb∨DOwn w Y.D k
theorem YardAt.owns{w:World}{base:Nat}{Y:YL}{y:YP}(h:YardAt w base Y y){k:Nat}(hk:YOwn w Y k):base≤k∧k<w.heap.size∧∃cur fz t,w.heap[k]?=some (.cells cur t fz)∧(t=5∨t=104∨t=69):=by
 rcases hk with rfl|hk
 ·exact⟨h.low,h.blk.lt,_,_,_,h.blk,Or.inr (Or.inr rfl)⟩
 ·obtain⟨h1,h2,cur,fz,t,h3,h4⟩:=h.disk.owns hk
  exact⟨h1,h2,cur,fz,t,h3,h4.elim Or.inl (fun e=>Or.inr (Or.inl e))⟩
theorem ClusAt.turned{S:Nat→Prop}{w w':World}{L:CL}{c:CP}(h:ClusAt w L c)(hf:Fr S w w')(hs:∀k,k<w.heap.size→S k→∃cur fz t,w.heap[k]?=some (.cells cur t fz)∧(t=5∨t=104∨t=69)):ClusAt w' L c:=by
 obtain⟨l1,l2,l3,l4⟩:=h.lt;obtain⟨a1,a2,a3,⟨q,hq,a4⟩,a6⟩:=h
 have no:∀k cur t,w.heap[k]?=some (.cells cur t (0,0))→t≠5→t≠104→t≠69→¬S k:=fun k cur t hk n1 n2 n3 hS=>by
  obtain⟨cur',fz,t',h1,h2⟩:=hs k (Array.getElem?_eq_some_iff.1 hk).1 hS;rw[h1] at hk;injection hk with hk;injection hk with _ e;subst e
  rcases h2 with h2|h2|h2
  ·exact n1 h2
  ·exact n2 h2
  ·exact n3 h2
 have nom:∀k es clock,w.heap[k]?=some (.map es clock)→¬S k:=fun k es clock hk hS=>by
  obtain⟨cur',fz,t',h1,h2⟩:=hs k (Array.getElem?_eq_some_iff.1 hk).1 hS;rw[h1] at hk;cases hk
 obtain⟨es,clock,hm⟩:=a4.map;obtain⟨es2,clock2,hm2⟩:=a3.2.2.map;refine ClusAt.kept ⟨a1,a2,a3,⟨q,hq,a4⟩,a6⟩ hf (fun k hk=>?_) (nom _ _ _ hm2) (fun k cur t hk ht=>?_)
 ·rcases hk with rfl|rfl|rfl
  ·exact no _ _ _ a1 (by decide) (by decide) (by decide)
  ·exact no _ _ _ a3.1 (by decide) (by decide) (by decide)
  ·exact nom _ _ _ hm
 ·rcases ht with rfl|rfl
  ·exact no _ _ _ hk (by decide) (by decide) (by decide)
  ·exact no _ _ _ hk (by decide) (by decide) (by decide)
theorem YardAt.kept{S:Nat→Prop}{w w':World}{base:Nat}{Y:YL}{y:YP}(h:YardAt w base Y y)(hf:Fr S w w')(hs:∀k,YOwn w Y k→¬S k)(hc:ClusAt w' Y.L y.c):YardAt w' base Y y:=
 ⟨(hf.block Y.yb h.blk.lt (hs _ (Or.inl rfl))).trans h.blk,hc,h.disk.fr hf (fun k hk=>hs k (Or.inr hk)),h.inv,h.low,h.lowc,h.cut⟩
theorem YardAt.below{w w':World}{base:Nat}{Y:YL}{y:YP}(h:YardAt w base Y y)(hb:Below w.heap.size w w'):YardAt w' base Y y:=
 h.kept (S:=fun _=>False) (Fr.of hb) (fun _ _ h=>h) (h.clus.below hb)
theorem YardAt.weak{w:World}{base base':Nat}{Y:YL}{y:YP}(h:YardAt w base Y y)(hb:base'≤base):YardAt w base' Y y:=
 ⟨h.blk,h.clus,h.disk.weak hb,h.inv,Nat.le_trans hb h.low,h.lowc.weak hb,h.cut⟩
structure YStep(w w':World)(Y Y':YL):Prop where
 fr:Fr (YOwn w Y) w w'
 yb:Y'.yb=Y.yb
 D:Y'.D=Y.D
 mv:∀k,k<w.heap.size→DOwn w' Y.D k→DOwn w Y.D k
 new:∀k,Y'.L.own k→Y.L.own k∨w.heap.size≤k
theorem YStep.refl(w:World)(Y:YL):YStep w w Y Y:=⟨Fr.refl _ _,rfl,rfl,fun _ _ h=>h,fun _ h=>Or.inl h⟩
theorem YStep.of{w w':World}{base:Nat}{Y:YL}{y:YP}(h:YardAt w base Y y)(hb:Below w.heap.size w w'):YStep w w' Y Y:=
 ⟨Fr.of hb,rfl,rfl,fun _ _ hk=>hk.same (hb.block _ h.disk.lt),fun _ h=>Or.inl h⟩
theorem YStep.trans{a b c:World}{Y Y' Y'':YL}(h:YStep a b Y Y')(k:YStep b c Y' Y''):YStep a c Y Y'':=
 ⟨h.fr.then k.fr (fun i hi=>by
  by_cases hl:i<a.heap.size
  ·rcases hi with e|hi
   ·exact Or.inl (Or.inl (e.trans h.yb))
   ·rw[h.D] at hi;exact Or.inl (Or.inr (h.mv i hl hi))
  ·exact Or.inr (by omega)),k.yb.trans h.yb,k.D.trans h.D,fun i hi hx=>h.mv i hi (by have:=k.mv i (Nat.lt_of_lt_of_le hi h.fr.size);rw[h.D] at this;exact this hx),
  fun i hi=>by
   rcases k.new i hi with h1|h1
   ·exact h.new i h1
   ·exact Or.inr (Nat.le_trans h.fr.size h1)⟩
theorem YStep.below{w w':World}{base:Nat}{Y Y':YL}{y:YP}(h:YStep w w' Y Y')(hY:YardAt w base Y y):Below base w w':=
 h.fr.below (Nat.le_trans hY.low (Nat.le_of_lt hY.blk.lt)) (fun _ hk=>(hY.owns hk).1)
theorem YardAt.size{w:World}{base:Nat}{Y:YL}{y:YP}(h:YardAt w base Y y):base≤w.heap.size:=Nat.le_trans h.low (Nat.le_of_lt h.blk.lt)
theorem YardAt.other{w w':World}{base base':Nat}{Y Z Z':YL}{y z:YP}(h:YardAt w base Y y)(hz:YardAt w base' Z z)(hs:YStep w w' Z Z')(ha:∀k,YOwn w Y k→¬YOwn w Z k):YardAt w' base Y y:=
 h.kept hs.fr ha (h.clus.turned hs.fr fun _ _ hk=>(hz.owns hk).2.2)
theorem YStep.apart{w w':World}{base base':Nat}{Y Z Z':YL}{y z:YP}(h:YardAt w base Y y)(_hz:YardAt w base' Z z)(hs:YStep w w' Z Z')(ha:∀k,YOwn w Y k→¬YOwn w Z k):∀k,YOwn w' Y k→¬YOwn w' Z' k:=by
 intro k hk hx
 have hk0:YOwn w Y k:=by
  rcases hk with e|hk
  ·exact Or.inl e
  ·exact Or.inr (hk.same (hs.fr.block _ h.disk.lt (ha _ (Or.inr (Or.inl rfl)))))
 have hlt:=(h.owns hk0).2.1
 rcases hx with e|hx
 ·exact ha k hk0 (Or.inl (e.trans hs.yb))
 ·rw[hs.D] at hx
  exact ha k hk0 (Or.inr (hs.mv k hlt hx))
def numE(l:List UInt8):Nat:=if numIs l then 0 else 1
set_option maxRecDepth 100000 in
theorem yNumber_any(ea:Nat→Addr)(l:List UInt8)(w:World)(hg:Glob w ea [1])(hT:TxtEnv w)(hl:l.length≤4294967280) :
 Calls Tryz.prog 75 #[.string ⟨l.toArray⟩] w fun e w'=>e=.returned (.tuple #[.int .i64 (numN l),errV ea (numE l)])∧Below w.heap.size w w':=by
 have KN:=Lib.hid (number_any l w hT hl);have HG:=Lib.hid hg;clear hg hT
 cases hn:numIs l
 ·have HE:Hid (numE l=1):=by unfold Hid numE;rw[hn];rfl
  rw[numN_no hn,hn] at KN;rw[numN_no hn];clear hn;go_enter Tryz.func75,Tryz.ntmps75;go_wp2_with fail;refine KN.out.mono ?_;rintro e w1⟨rfl,hb1⟩;have g1:=(HG.out.below hb1).cell 1 (by simp);simp only[gOf] at g1;go_wp2;go_quiet (fail);go_wp2;go_ret2;rw[HE.out];exact⟨rfl,hb1.trans (below_drewN (Below.refl _ _) _)⟩
 ·have HE:Hid (numE l=0):=by unfold Hid numE;rw[hn];rfl
  rw[hn] at KN;clear hn;go_enter Tryz.func75,Tryz.ntmps75;go_wp2_with fail;refine KN.out.mono ?_;rintro e w1⟨rfl,hb1⟩;go_wp2;go_ret2;rw[HE.out,errV_zero];exact⟨rfl,hb1⟩
set_option maxRecDepth 100000 in
theorem yWords_any(l:List UInt8)(w:World) :
 Calls Tryz.prog 33 #[.string ⟨l.toArray⟩] w fun e w'=>e=.returned (.int .i64 (wordsN l))∧w=w':=by
 by_cases q1:l=[112,108,97,110]
 ·subst q1
  go_enter Tryz.func33,Tryz.ntmps33;go_wp2;go_ret;exact⟨rfl,rfl⟩
 by_cases q2:l=[111,102,102]
 ·subst q2
  go_enter Tryz.func33,Tryz.ntmps33;go_wp2;go_ret;exact⟨rfl,rfl⟩
 by_cases q3:l=[111,110]
 ·subst q3
  go_enter Tryz.func33,Tryz.ntmps33;go_wp2;go_ret;exact⟨rfl,rfl⟩
 by_cases q4:l=[109,111,100,101]
 ·subst q4
  go_enter Tryz.func33,Tryz.ntmps33;go_wp2;go_ret;exact⟨rfl,rfl⟩
 by_cases q5:l=[115,108,111,116]
 ·subst q5
  go_enter Tryz.func33,Tryz.ntmps33;go_wp2;go_ret;exact⟨rfl,rfl⟩
 by_cases q6:l=[115,101,116]
 ·subst q6
  go_enter Tryz.func33,Tryz.ntmps33;go_wp2;go_ret;exact⟨rfl,rfl⟩
 have HW:Hid (wordsN l=-1):=by unfold Hid wordsN;rw[if_neg (by simp[q1,q2,q3,q4,q5]),if_neg q6]
 have g1:(l==[112,108,97,110])=false:=by simpa using q1
 have g2:(l==[111,102,102])=false:=by simpa using q2
 have g3:(l==[111,110])=false:=by simpa using q3
 have g4:(l==[109,111,100,101])=false:=by simpa using q4
 have g5:(l==[115,108,111,116])=false:=by simpa using q5
 have g6:(l==[115,101,116])=false:=by simpa using q6
 clear q1 q2 q3 q4 q5 q6;go_enter Tryz.func33,Tryz.ntmps33;go_wp2;go_ret;rw[HW.out];exact⟨rfl,rfl⟩
set_option maxRecDepth 100000 in
set_option maxHeartbeats 800000 in
theorem yBare_any(ea:Nat→Addr)(v:Value)(code:Nat)(pl:Int)(w:World)(hE:ErrType w)(hv:ErrIs ea w v code pl)(h0:code≠0) :
 Calls Tryz.prog 35 #[v] w fun e w'=>e=.returned (errV ea code)∧Below w.heap.size w w':=by
 have HET:=Lib.hid hE;clear hE
 rcases hv with⟨_,rfl⟩|⟨hp,_,b,rfl,hlt,hc0,hc1⟩
 ·rw[errV_pos ea h0]
  go_enter Tryz.func35,Tryz.ntmps35;go_wp2_with fail;refine(as_miss (ea code) ⟨w.heap.size,0,none⟩ _ (HET.out.below ((Below.refl _ _).alloc (Nat.le_refl _) _))).mono ?_;rintro e w2⟨rfl,hw2⟩
  have hb2:Below w.heap.size w w2:=by
   rw[hw2];exact((((Below.refl _ _).alloc (Nat.le_refl _) _).alloc (by simp) _).alloc (by simp;omega) _).alloc (by simp;omega) _
  clear hw2;go_wp2;go_ret;exact⟨rfl,hb2⟩
 ·have HC1:=Lib.hid hc1
  clear hc0 hc1;rw[fltV];go_enter Tryz.func35,Tryz.ntmps35;go_wp2_with fail;refine(as_hit ⟨b,0,none⟩ ⟨w.heap.size,0,none⟩ (.pointer none) _ (HET.out.below ((Below.refl _ _).alloc (Nat.le_refl _) _)) (by simp) (by simp)).mono ?_;rintro e w2⟨rfl,hw2⟩
  have hb2:Below w.heap.size w w2:=by
   rw[hw2];exact((((((Below.refl _ _).alloc (Nat.le_refl _) _).alloc (by simp) _).alloc (by simp;omega) _).alloc (by simp;omega) _).alloc (by simp;omega) _).setCell (by simp) _
  have ct:w2.cell? ⟨w.heap.size,0,none⟩=some (.pointer (some ⟨b,0,none⟩)):=by
   rw[hw2];refine World.cell?_setCell_same' _ _ _ ?_;rw[World.cell?_alloc_lt _ _ ⟨w.heap.size,0,none⟩ (by simp;omega),World.cell?_alloc_lt _ _ ⟨w.heap.size,0,none⟩ (by simp;omega),World.cell?_alloc_lt _ _ ⟨w.heap.size,0,none⟩ (by simp;omega),World.cell?_alloc_lt _ _ ⟨w.heap.size,0,none⟩ (by simp)];simp
  clear hw2;have c1:=(hb2.cell (p:=⟨b,1,none⟩) hlt).trans HC1.out;go_wp2;go_ret;exact⟨rfl,hb2⟩
theorem replaceOne_any(s:List UInt8)(a b:UInt8)(w:World)(hT:TxtEnv w)(hs:s.length≤1000000) :
 Calls Tryz.prog 139 #[.string ⟨s.toArray⟩,.string ⟨#[a]⟩,.string ⟨#[b]⟩] w fun e w'=>e=.returned (.string ⟨(Lib.replaceAll s [a] [b]).toArray⟩)∧Below w.heap.size w w':=by
 obtain⟨m,_,hm⟩:=hT.mx;have h1:=Lib.countB_mul_le ⟨#[a]⟩ (by simp[ByteArray.size]) s.length ⟨s.toArray⟩ (by simp[ByteArray.size]);simp[ByteArray.size] at h1;exact Tryz.strings_ReplaceAll ⟨s.toArray⟩ ⟨#[a]⟩ ⟨#[b]⟩ m w (by simp[ByteArray.size];omega) hm (by simp[ByteArray.size]) (by simp[ByteArray.size];omega)
theorem InvP.on{c:CP}(h:InvP c)(i:Int):crewB (c.on i).1.m=true∧(0≤(c.on i).1.d∧(c.on i).1.d≤3)∧(0≤(c.on i).1.s∧(c.on i).1.s≤200)∧(chk (c.on i).1.h).1=0∧(c.on i).1.h.length≤200:=by
 have hz:crewB NP0.m=true∧(0≤NP0.d∧NP0.d≤3)∧(0≤NP0.s∧NP0.s≤200)∧(chk NP0.h).1=0∧NP0.h.length≤200:=by decide
 unfold CP.on
 cases hf:c.f i with
 | none=>exact hz
 | some x=>
  dsimp only
  split
  ·rename_i ha
   obtain⟨h1,h2,h3,h4,h5,h6⟩:=(h.node i x hf).on ha;have ht:=h.time
   show crewB x.m=true∧(0≤x.d∧x.d≤3)∧(0≤x.s∧x.s≤200)∧(chk x.h).1=0∧x.h.length≤200
   exact⟨h1,⟨h2,h3⟩,⟨by omega,by omega⟩,h6,by omega⟩
  ·exact hz
theorem on_le(c:CP)(i:Int):(c.on i).2=0∨(c.on i).2=4∨(c.on i).2=11:=by
 unfold CP.on
 cases c.f i with
 | none=>simp
 | some x=>dsimp only;split<;>simp
set_option maxRecDepth 100000 in
set_option maxHeartbeats 1600000 in
theorem yView_any(ea:Nat→Addr)(L:CL)(c:CP)(i:Int)(w:World)(hg:Glob w ea [2,4,11])(hT:TxtEnv w)(h:ClusAt w L c)(hI:InvP c)(hi:(Lit.int .i64 i).wf=true) :
 Calls Tryz.prog 50 #[.pointer (some ⟨L.cb,0,none⟩),.int .i64 i] w fun e w'=>e=.returned (.tuple #[.string ⟨((c.on i).1.viewT).toArray⟩,errV ea (c.on i).2])∧Below w.heap.size w w':=by
 have KV:=Lib.hid (cView_any ea L c i w (hg.sub (by simp)) h hi);obtain⟨h1,h2,h3,_,_⟩:=hI.on i;have HV:Hid ((c.on i).1.viewT=textF (c.on i).1.m++32::(Lib.itoa (c.on i).1.d++32::Lib.itoa (c.on i).1.s)):=rfl;have HG:=Lib.hid hg;have HT:=Lib.hid hT;clear h hI hg hT hi;generalize c.on i=r at *;obtain⟨x,k⟩:=r;dsimp only at *;go_enter Tryz.func50,Tryz.ntmps50;go_wp2_with fail;refine KV.out.mono ?_;rintro e w1⟨rfl,hb1⟩;go_upto_region 2 with(fail);obtain⟨W1,hW1⟩:∃W,W=w1.alloc (.cells #[.int .i64 x.m,.int .i64 x.d,.int .i64 x.s] 96):=⟨_,rfl⟩
 rw[←hW1];have hB1:Blok W1 w1.heap.size 96 #[.int .i64 x.m,.int .i64 x.d,.int .i64 x.s]:=by rw[hW1];exact Blok.new w1 _ _
 have hA1:Below w1.heap.size w1 W1:=by rw[hW1];exact(Below.refl _ _).alloc (Nat.le_refl _) _
 have hv1:=onto hb1 hA1;clear hW1 hA1 hb1;generalize w1.heap.size=b1 at *;have HB1:=Lib.hid hB1;have x0:=hB1.cell 0 rfl;have x1:=hB1.cell 1 rfl;have x2:=hB1.cell 2 rfl;have hbl:=hB1.lt;have KT:=Lib.hid (fun(W:World) (hb:Below w.heap.size w W)=>text_any ea x.m W ((HG.out.below hb).sub (by simp)));have KD:=Lib.hid (fun(W:World) (hb:Below w.heap.size w W)=>itoa_any x.d W (HT.out.below hb) (by omega));have KS:=Lib.hid (fun(W:World) (hb:Below w.heap.size w W)=>itoa_any x.s W (HT.out.below hb) (by omega));have hv2:Below w.heap.size w W1.drew:=hv1.drew;have lm:=textF_len48 x.m;have ld:(Lib.itoa x.d).length≤9:=itoa_le (by omega) (by omega);have ls:(Lib.itoa x.s).length≤9:=itoa_le (by omega) (by omega);clear h1 h2 h3 KV hB1 hv1;generalize textF x.m=tm at *;generalize Lib.itoa x.d=td at *;generalize Lib.itoa x.s=ts at *;have s1:(9223372036854775807<tm.length+1)=False:=eq_false (by omega);have s2:(9223372036854775807<tm.length+1+td.length)=False:=eq_false (by omega);have s3:(9223372036854775807<tm.length+1+td.length+1)=False:=eq_false (by omega);have s4:(9223372036854775807<tm.length+1+td.length+1+ts.length)=False:=eq_false (by omega)
 go_region_held3 (fun w'=>w'.cell? ⟨b1,0,none⟩=some (.int .i64 x.m)∧w'.cell? ⟨b1,1,none⟩=some (.int .i64 x.d)∧w'.cell? ⟨b1,2,none⟩=some (.int .i64 x.s)) (go_keep)
  (first
   | ((go_at_call 74;(with_reducible refine(KT.out _ hv2).mono ?_);rintro e w3⟨rfl,hb3⟩;have hv3:=onto hv2 hb3;have hl3:b1<w3.heap.size:=Nat.lt_of_lt_of_le hbl hb3.size;have d0:=(hb3.cell (p:=⟨b1,0,none⟩) hbl).trans x0;have d1:=(hb3.cell (p:=⟨b1,1,none⟩) hbl).trans x1;have d2:=(hb3.cell (p:=⟨b1,2,none⟩) hbl).trans x2))
   | ((go_at_call 46;(with_reducible refine(KD.out _ hv3).mono ?_);rintro e w4⟨rfl,hb4⟩;have hv4:=onto hv3 hb4;have hl4:b1<w4.heap.size:=Nat.lt_of_lt_of_le hl3 hb4.size;have q0:=(hb4.cell (p:=⟨b1,0,none⟩) hl3).trans d0;have q1:=(hb4.cell (p:=⟨b1,1,none⟩) hl3).trans d1;have q2:=(hb4.cell (p:=⟨b1,2,none⟩) hl3).trans d2))
   | ((go_at_call 46;(with_reducible refine(KS.out _ hv4).mono ?_);rintro e w5⟨rfl,hb5⟩;have hv5:=onto hv4 hb5;have p0:=(hb5.cell (p:=⟨b1,0,none⟩) hl4).trans q0;have p1:=(hb5.cell (p:=⟨b1,1,none⟩) hl4).trans q1;have p2:=(hb5.cell (p:=⟨b1,2,none⟩) hl4).trans q2)))
 go_wp2;go_ret2
 have ht:(⟨tm.toArray⟩++⟨[32].toArray⟩++⟨td.toArray⟩++⟨[32].toArray⟩++⟨ts.toArray⟩:ByteArray)=⟨x.viewT.toArray⟩:=by
  rw[ba_append,ba_append,ba_append,ba_append,HV.out];simp
 refine⟨?_,hv5⟩
 show Ending.returned (.tuple #[.string (⟨tm.toArray⟩++⟨[32].toArray⟩++⟨td.toArray⟩++⟨[32].toArray⟩++⟨ts.toArray⟩),errV ea k])=_
 rw[ht]
set_option maxRecDepth 100000 in
theorem yHistory_any(ea:Nat→Addr)(L:CL)(c:CP)(i:Int)(w:World)(hg:Glob w ea [7,10,4,2,3,11])(hT:TxtEnv w)(h:ClusAt w L c)(hI:InvP c)(hi:(Lit.int .i64 i).wf=true) :
 Calls Tryz.prog 51 #[.pointer (some ⟨L.cb,0,none⟩),.int .i64 i] w fun e w'=>e=.returned (.tuple #[.string ⟨(if (c.on i).2=0 then histT (c.on i).1.h else[]).toArray⟩,errV ea (c.on i).2])∧Below w.heap.size w w':=by
 obtain⟨_,_,_,h4,h5⟩:=hI.on i;have KH:=Lib.hid (cHist_any ea L c i w (hg.sub (by simp)) h hi (by omega));have HG:=Lib.hid hg;have HT:=Lib.hid hT;clear h hI hg hT hi;generalize c.on i=r at *;obtain⟨x,k⟩:=r;dsimp only at *;have KX:=Lib.hid (fun(W:World) (a:Option Addr) (cap:Nat) (hb:Below w.heap.size w W) (hr:RowAt W a (encEnts x.h))=>histText_any ea a x.h.length cap x.h W ((HG.out.below hb).sub (by simp)) (HT.out.below hb) rfl hr (by omega) h4);clear h4
 by_cases hk:k=0
 ·subst hk
  rw[errV_zero] at KH ⊢;rw[if_pos rfl];generalize histT x.h=t at *;go_enter Tryz.func51,Tryz.ntmps51;go_wp2_with fail;refine KH.out.mono ?_;rintro e w1⟨a,cap,rfl,hr,hc,hb1⟩;have K2:=Lib.hid (KX.out w1 a cap hb1 hr);go_wp2_with fail;refine K2.out.mono ?_;rintro e w2⟨rfl,hb2⟩;go_wp2;go_ret2;exact⟨rfl,onto hb1 hb2⟩
 ·rw[if_neg hk]
  rw[errV_pos ea hk] at KH ⊢;clear hk;go_enter Tryz.func51,Tryz.ntmps51;go_wp2_with fail;refine KH.out.mono ?_;rintro e w1⟨a,cap,rfl,hr,hc,hb1⟩;go_wp2;go_ret2;exact⟨rfl,hb1⟩
set_option maxRecDepth 100000 in
theorem yTotal_any(ea:Nat→Addr)(L:CL)(c:CP)(i:Int)(w:World)(hg:Glob w ea [7,10,4,2,3,11])(hT:TxtEnv w)(h:ClusAt w L c)(hI:InvP c)(hi:(Lit.int .i64 i).wf=true) :
 Calls Tryz.prog 76 #[.pointer (some ⟨L.cb,0,none⟩),.int .i64 i] w fun e w'=>e=.returned (.tuple #[.string ⟨(if (c.on i).2=0 then Lib.itoa (lastF (c.on i).1.h).sum else[]).toArray⟩,errV ea (c.on i).2])∧Below w.heap.size w w':=by
 obtain⟨_,_,_,h4,h5⟩:=hI.on i;have KH:=Lib.hid (cHist_any ea L c i w (hg.sub (by simp)) h hi (by omega));have HG:=Lib.hid hg;have HT:=Lib.hid hT;clear h hI hg hT hi;generalize c.on i=r at *;obtain⟨x,k⟩:=r;dsimp only at *;have KX:=Lib.hid (fun(W:World) (a:Option Addr) (cap:Nat) (hb:Below w.heap.size w W) (hr:RowAt W a (encEnts x.h))=>total_any ea a x.h.length cap x.h W ((HG.out.below hb).sub (by simp)) rfl hr (by omega) h4)
 have hs : -16777216≤(lastF x.h).sum∧(lastF x.h).sum≤16777216:=by
  have:=sum_take_bound h4 (lastF x.h).length
  rwa [List.take_length] at this
 clear h4
 by_cases hk:k=0
 ·subst hk
  rw[errV_zero] at KH ⊢;rw[if_pos rfl];generalize (lastF x.h).sum=t at *;go_enter Tryz.func76,Tryz.ntmps76;go_wp2_with fail;refine KH.out.mono ?_;rintro e w1⟨a,cap,rfl,hr,hc,hb1⟩;have K2:=Lib.hid (KX.out w1 a cap hb1 hr);go_wp2_with fail;refine K2.out.mono ?_;rintro e w2⟨rfl,hb2⟩;have hb3:=onto hb1 hb2;have K3:=Lib.hid (itoa_any t w2 (HT.out.below hb3) (by omega));go_wp2_with fail;refine K3.out.mono ?_;rintro e w3⟨rfl,hb4⟩;go_wp2;go_ret2;exact⟨rfl,onto hb3 hb4⟩
 ·rw[if_neg hk]
  rw[errV_pos ea hk] at KH ⊢;clear hk;go_enter Tryz.func76,Tryz.ntmps76;go_wp2_with fail;refine KH.out.mono ?_;rintro e w1⟨a,cap,rfl,hr,hc,hb1⟩;go_wp2;go_ret2;exact⟨rfl,hb1⟩
end Go.Proofs.YtppfkokfnoeopaaGreatDoor
namespace Go.Proofs.YtppfkokfnoeopaaGreatDoor
open Go.RowKit Go.Shelf
attribute [local go_sem] Oper.semAt_some
def NumI(B:Nat)(w:World)(pre:List (List UInt8))(W:World):Prop:=
 (∃(xs:List Int) (v:Value),Hid (numsAcc pre=some xs)∧Boxed W (B+2) 72 v∧W.ownsRow (B+6) 3 1 v xs.length (xs.map (Value.int .i64))) ∧
  Boxed W B 72 (.slice none 0 0)∧Boxed W (B+1) 33 .nilIface∧Below B w W∧B+6≤W.heap.size
def NumX(ea:Nat→Addr)(B:Nat)(w:World)(c:Code)(pre:List (List UInt8))(W:World):Prop:=
 c=.ret∧numsAcc pre=none∧Boxed W B 72 (.slice none 0 0)∧Boxed W (B+1) 33 (errV ea 1)∧Below B w W
theorem numI_later{B:Nat}{w:World}{pre:List (List UInt8)}{W W':World}{row:Option Nat}(h:NumI B w pre W)(hg:W.grownBy W' row)(hr:∀r,row=some r→B+3≤r∧(r<B+6∨∃o,W.heap[r]?=some o∧o.isCells=false)):NumI B w pre W':=by
 obtain⟨⟨xs,v,h1,h2,h3⟩,h5,h6,h7,h8⟩:=h;have hne:∀k,k<B+3→some k≠row:=fun k hk e=>by have:=(hr k e.symm).1;omega
 refine⟨⟨xs,v,h1,h2.kept hg (hne _ (by omega)),h3.kept hg ?_⟩,h5.kept hg (hne _ (by omega)),h6.kept hg (hne _ (by omega)),h7.grown hg (by omega) (fun k e=>by have:=(hr k e).1;omega),Nat.le_trans h8 hg.size⟩
 rcases h3.2 with⟨rfl,_⟩|⟨g,cap,cur,rfl,hgb,hgc,_⟩
 ·exact .inl rfl
 ·refine .inr fun e'=>?_
  have e2:row=some g:=by simpa[Value.ownBlock] using e'.symm
  obtain⟨_,h|⟨o,ho,hc⟩⟩:=hr g e2
  ·omega
  ·rw[hgc] at ho;cases ho;cases hc
theorem numX_later{ea:Nat→Addr}{B:Nat}{w:World}{c:Code}{pre:List (List UInt8)}{W W':World}{row:Option Nat}(h:NumX ea B w c pre W)(hg:W.grownBy W' row)(hr:∀r,row=some r→B+3≤r):NumX ea B w c pre W':=by
 obtain⟨h0,h1,h5,h6,h7⟩:=h;have hne:∀k,k<B+3→some k≠row:=fun k hk e=>by have:=hr k e.symm;omega
 exact⟨h0,h1,h5.kept hg (hne _ (by omega)),h6.kept hg (hne _ (by omega)),h7.grown hg (by have:=h5.lt;omega) (fun k e=>by have:=hr k e;omega)⟩
def NumsPost(ea:Nat→Addr)(s:List UInt8)(B:Nat)(w:World)(e:Ending)(W':World):Prop:=
 (∃xs v,numsF s=some xs∧e=.returned (.tuple #[v,.nilIface])∧W'.ownsRow B 3 1 v xs.length (encInts xs)∧Below B w W')∨(numsF s=none∧e=.returned (.tuple #[.slice none 0 0,errV ea 1])∧Below B w W')
set_option maxRecDepth 100000 in
set_option maxHeartbeats 4000000 in
theorem nums_in(ea:Nat→Addr)(s:List UInt8)(w:World)(hs:s.length≤1000000)(hg:Glob w ea [1])(hT:TxtEnv w) :
 CallsIn Fence.wide 3 Tryz.prog 78 #[.string ⟨s.toArray⟩] w (NumsPost ea s w.heap.size w):=by
 have HG:=Lib.hid (fun(W:World) (h:Below w.heap.size w W)=>hg.below h);have HT:=Lib.hid (fun(W:World) (h:Below w.heap.size w W)=>hT.below h);clear hg hT;obtain⟨i0,hi,hz0,hz1,hz2⟩:=info_parts cl_info_int;refine callsIn_of_wp_marks Tryz.func78 rfl trivial ?_ rfl;simp only[Tryz.ntmps78,List.size_toArray,List.length_cons,List.length_nil,Nat.reduceAdd,Nat.reduceSub,Array.replicate_succ,Array.replicate_zero,List.push_toArray,List.append_toArray,List.nil_append,List.cons_append]
 gi_wp2_with (refine⟨trivial,?_⟩;gi_at_call 135;refine(callsIn_wide.2 (splitSeq_any s 44 _)).mono ?_;rintro e w'⟨rfl,rfl⟩)
 obtain⟨W0,hW0⟩:∃W0,W0=((w.alloc (.cells #[.slice none 0 0] 72)).alloc (.cells #[.nilIface] 33)).alloc (.cells #[.slice none 0 0] 72):=⟨_,rfl⟩
 have hz0':W0.heap.size=w.heap.size+3:=by rw[hW0];simp
 have hb0:Below w.heap.size w W0:=by rw[hW0];exact(((Below.refl _ w).alloc (Nat.le_refl _) _).alloc (by simp) _).alloc (by simp;omega) _
 have hx0:Boxed W0 w.heap.size 72 (.slice none 0 0):=by rw[hW0];exact((Boxed.new w _ _).alloc _).alloc _
 have hx1:Boxed W0 (w.heap.size+1) 33 .nilIface:=by
  rw[hW0];have:=(Boxed.new (w.alloc (.cells #[.slice none 0 0] 72)) 33 .nilIface).alloc (.cells #[.slice none 0 0] 72);rw[World.size_alloc] at this;exact this
 have hx2:Boxed W0 (w.heap.size+2) 72 (.slice none 0 0):=by
  rw[hW0];have:=Boxed.new ((w.alloc (.cells #[.slice none 0 0] 72)).alloc (.cells #[.nilIface] 33)) 72 (.slice none 0 0);rw[World.size_alloc,World.size_alloc] at this;exact this
 rw[←hW0];clear hW0;have hz1':=splitWorld_size W0 s 44;have hb1:=splitWorld_below W0 s 44;have hsp:=splitWorld_at W0 s 44;generalize splitWorld W0 s 44=W1 at *;rw[hz0'] at hsp;simp only[Nat.add_assoc,Nat.reduceAdd];have hI0:NumI w.heap.size w [] W1:=⟨⟨[],_,rfl,boxed_call hx2 hb1,World.ownsRow_nil _ _ _ _⟩,boxed_call hx0 hb1,boxed_call hx1 hb1,hb0.trans (hb1.mono (by omega)),by omega⟩;clear hb1 hx0 hx1 hx2 hb0;have hz:W1.heap.size=w.heap.size+6:=by omega
 generalize hB:w.heap.size=B at *
 refine wpIn_rangeFunc_box rfl (by omega) (gf:=216) (lb:=#[.pointer (some ⟨B+4,0,none⟩),.pointer (some ⟨B+3,0,none⟩),.pointer (some ⟨B+5,0,none⟩)]) rfl trivial (enters_of Tryz.func216 (by kernel_rfl) rfl)
  (splitSeq_stops 2 (by omega) (B+3) B 44 s (by omega) W1 (by omega) hsp) (fun b e=>by cases e;omega) keepB_t (keepB_b (by omega) (by omega)) (fun _=>rfl)
  (NumI B w) (NumX ea B w)
  (fun _ _ _ _ h hg hr=>numI_later h hg (fun r e=>⟨by have:=(hr r e).1;omega,.inr (hr r e).2⟩)) (fun _ _ _ _ _ h hg hr=>numX_later h hg (fun r e=>by have:=(hr r e).1;omega))
  (fun _ _ _ _ h hg hr=>numI_later h hg (fun r e=>by have:=Option.some.inj (hr r e);exact⟨by omega,.inl (by omega)⟩)) (fun _ _ _ _ _ h hg hr=>numX_later h hg (fun r e=>by have:=Option.some.inj (hr r e);omega)) hI0
  (fun x a' _=>a' = { tmps:=#[.string ⟨s.toArray⟩,undef,.pointer (some ⟨B,0,none⟩),.pointer (some ⟨B+1,0,none⟩),.pointer (some ⟨B+2,0,none⟩),.string ⟨x.toArray⟩,undef,undef,.string ⟨s.toArray⟩,.func (.func 216) #[] #[.pointer (some ⟨B+4,0,none⟩),.pointer (some ⟨B+3,0,none⟩),.pointer (some ⟨B+5,0,none⟩)],.string ⟨x.toArray⟩,undef,undef,undef,undef,undef,undef,undef,undef,undef,undef,undef,undef,undef],defers:=[] })
  (fun _ _ _ _ _ _ hs _ _=>hs) ?assign ?body ?done ?stop
 case assign=>
  intro l pre x W K hi hK
  gi_wp2
  exact hK _ _ (KeepsFrom.refl _ _) ⟨Below.refl _ _,fun _ _=>rfl⟩ hi rfl
 case body=>
  rintro l pre x a' W hi rfl hpre;obtain⟨⟨xs,v,hacc,bx2,hrow⟩,bx0,bx1,hbw,hsz⟩:=hi;have hxl:x.length≤1000000:=Nat.le_trans (cutL_piece 44 s x (hpre.subset (by simp))) hs
  have hpl:xs.length≤1000001:=by
   have h1:=hpre.length_le;rw[List.length_append,List.length_singleton] at h1;have h2:=cutL_length 44 s;rw[numsAcc_len hacc.out];omega
  have KN:=Lib.hid (yNumber_any ea x W (HG.out W hbw) (HT.out W hbw) (by omega));clear hpre
  cases hn:numF x with
  | some n=>
   have HA:Hid (numsAcc (pre++[x])=some (xs++[n])):=by unfold Hid;rw[numsAcc_snoc,hacc.out,numsStep,Option.bind_some,hn];rfl
   have e1:numN x=n:=by unfold numN;rw[hn];rfl
   have e2:numE x=0:=by unfold numE numIs;rw[hn];rfl
   rw[e1,e2,errV_zero] at KN;clear hn e1 e2
   gi_wp2_with (first
    | (refine⟨trivial,?_⟩;gi_at_call 75;refine(CallsIn.inRound l (callsIn_wide.2 KN.out)).mono ?_;rintro e w1⟨rfl,hb1⟩;have hr1:=Rd.call (n₀:=B) (b0:=B+3) hb1 (by omega) (by omega);have bx0:=boxed_call bx0 hb1;have bx1:=boxed_call bx1 hb1;have bx2:=boxed_call bx2 hb1;have hrow:=ownsRow_below hrow hb1;have c2:=bx2.cell;have hz1w:=hb1.size;have hrow':=ownsRow_lower hrow (base':=B) (by omega))
    | (gi_at_builtin;refine wpListIn_append_own _ rfl _ _ 72 rfl (B+6) 3 i0 (.int .i64 0) 1 8 Tryz.underlying72 hi hz0 hz1 hz2 rfl (by decide) _ _ _ rfl (hrow.alloc _) ⟨w1.heap.size,0,none⟩ 1 1 [.int .i64 n] rfl rfl (cell_one_new _ _ _) (by simp[Value.oneCell']) (by unfold maxLen;omega) (by omega) (by simp;omega) ?_;intro v' w2 hown' hgrow _;obtain⟨g',cap',rfl⟩:=ownsRow_succ hown';have hown2:=ownsRow_lower hown' (base':=B) (by omega);obtain⟨hv1,hv2,hr2,hk2,hb2⟩:=bx2.appended (by decide) hrow' (by omega) (by omega) hown2 hgrow;have hc1:=hv1.cell;have hf1:=hv1.frozen))
   have hne:∀k,k<B+6→some k≠v.ownBlock:=fun k hk=>ownBlock_ge hrow hk
   have by0:=(((bx0.alloc (.cells #[.int .i64 n] 3)).kept hgrow (hne _ (by omega))).kept (grownBy_setCell' w2 (B+2) (.slice (some ⟨g',0,none⟩) (xs.length+1) cap')) (fun e=>by injection e with e;omega));have by1:=(((bx1.alloc (.cells #[.int .i64 n] 3)).kept hgrow (hne _ (by omega))).kept (grownBy_setCell' w2 (B+2) (.slice (some ⟨g',0,none⟩) (xs.length+1) cap')) (fun e=>by injection e with e;omega));have hr3:=hown'.kept (grownBy_setCell' w2 (B+2) (.slice (some ⟨g',0,none⟩) (xs.length+1) cap')) (.inr (hv1.not_row (by decide) hown').symm)
   have hbox:∀j,j<3→(w2.setCell ⟨B+2,0,none⟩ (.slice (some ⟨g',0,none⟩) (xs.length+1) cap')).heap[B+3+j]?=W.heap[B+3+j]?:=fun j hj=>by
    have e1:(w2.setCell ⟨B+2,0,none⟩ (.slice (some ⟨g',0,none⟩) (xs.length+1) cap')).heap[B+3+j]?=w2.heap[B+3+j]?:=Below.heap_setCell _ _ _ _ (by simp;omega);have e2:=hgrow.block (B+3+j) (by simp;omega) (hne _ (by omega));have e3:(w1.alloc (.cells #[.int .i64 n] 3)).heap[B+3+j]?=w1.heap[B+3+j]?:=Below.heap_alloc _ _ _ (by omega);exact((e1.trans e2).trans e3).trans (hr1.boxes j hj)
   exact⟨(hr1.others.trans hk2).from _,⟨hr1.below.trans hb2,hbox⟩,⟨⟨xs++[n],_,HA.out,hv2,by simpa using hr3⟩,by0,by1,hbw.trans (hr1.below.trans hb2),Nat.le_trans hsz (hr1.below.trans hb2).size⟩⟩
  | none=>
   have HA:Hid (numsAcc (pre++[x])=none):=by unfold Hid;rw[numsAcc_snoc,hacc.out,numsStep,Option.bind_some,hn];rfl
   have e1:numN x=0:=by unfold numN;rw[hn];rfl
   have e2:numE x=1:=by unfold numE numIs;rw[hn];rfl
   rw[e1,e2,errV_pos ea (by decide)] at KN;clear hn e1 e2
   gi_wp2_with (refine⟨trivial,?_⟩;gi_at_call 75;refine(CallsIn.inRound l (callsIn_wide.2 KN.out)).mono ?_;rintro e w1⟨rfl,hb1⟩;have hr1:=Rd.call (n₀:=B) (b0:=B+3) hb1 (by omega) (by omega);have bx0:=boxed_call bx0 hb1;have bx1:=boxed_call bx1 hb1;have c0:=bx0.cell;have f0:=bx0.frozen;have c1:=bx1.cell;have f1:=bx1.frozen)
   have hR:=hr1.trans ((Rd.set w1 B (.slice none 0 0) (by omega) (by omega)).trans (Rd.set _ (B+1) (.iface 346 (.pointer (some (ea 1)))) (by omega) (by omega)));exact⟨hR.others.from _,rfl,HA.out,(bx0.set _).other (by omega) _,by rw[errV_pos ea (by decide)];exact(bx1.other (by omega) _).set _,hbw.trans hR.below⟩
 case done=>
  rintro D ys W hD rfl hi hK;obtain⟨⟨xs,v,hacc,bx2,hrow⟩,bx0,bx1,hbw,hsz⟩:=hi;have HR:Hid (numsF s=some xs):=hacc;obtain⟨va,vc,rfl⟩:=owned_shape hrow;have c2:=bx2.cell;have c0:=bx0.cell;have f0:=bx0.frozen;have c1:=bx1.cell;have f1:=bx1.frozen
  gi_wp2
  have hK':=((KeepsOthers.setCell W ⟨B,0,none⟩ (.slice va xs.length vc)).trans (KeepsOthers.setCell _ ⟨B+1,0,none⟩ .nilIface)).same D _ hK rfl;obtain⟨V,hV⟩:∃V,V=(W.setCell ⟨B,0,none⟩ (.slice va xs.length vc)).setCell ⟨B+1,0,none⟩ .nilIface:=⟨_,rfl⟩
  rw[←hV] at hK' ⊢;have b0:Boxed V B 72 (.slice va xs.length vc):=by rw[hV];exact(bx0.set _).other (by omega) _
  have b1:Boxed V (B+1) 33 .nilIface:=by rw[hV];exact(bx1.other (by omega) _).set _
  have hbV:Below B w V:=by rw[hV];exact(hbw.setCell (p:=⟨B,0,none⟩) (Nat.le_refl _) _).setCell (p:=⟨B+1,0,none⟩) (by simp) _
  have hrV:V.ownsRow (B+6) 3 1 (.slice va xs.length vc) xs.length (xs.map (Value.int .i64)):=by
   rw[hV];have r1:=hrow.kept (grownBy_setCell' W B (.slice va xs.length vc)) (.inr (ownBlock_ge hrow (by omega)).symm);exact r1.kept (grownBy_setCell' _ (B+1) .nilIface) (.inr (ownBlock_ge r1 (by omega)).symm)
  have p0:=b0.kept (grownBy_putObj' V D (.deferred none)) (fun e=>by injection e with e;omega);have p1:=b1.kept (grownBy_putObj' V D (.deferred none)) (fun e=>by injection e with e;omega);have hbF:=hbV.trans (belowK_b (n₀:=B) (w:=w) (by omega) V D _ (.deferred none) (by omega) hK' rfl rfl);refine⟨by simp,.inl ⟨_,_,rfl,run_takeDeferred hK',?_⟩⟩;refine⟨.tuple #[.slice va xs.length vc,.nilIface],?_,.inl ⟨xs,_,HR.out,rfl,ownsRow_putObj (ownsRow_lower hrV (by omega)) _ hK' rfl,hbF⟩⟩;simp[results,Tryz.results78,go_sem,p0.cell,p1.cell]
 case stop=>
  rintro D c pre W hD hpre⟨rfl,hacc,bx0,bx1,hbw⟩hK
  have HR:Hid (numsF s=none):=by
   obtain⟨r,hr⟩:=hpre;unfold Hid;rw[numsF,←hr,numsAcc_none r hacc]
  gi_wp2
  have p0:=bx0.kept (grownBy_putObj' W D (.deferred none)) (fun e=>by injection e with e;omega);have p1:=bx1.kept (grownBy_putObj' W D (.deferred none)) (fun e=>by injection e with e;omega);have hbF:=hbw.trans (belowK_b (n₀:=B) (w:=w) (by omega) W D _ (.deferred none) (by omega) hK rfl rfl);refine⟨by simp,.inl ⟨_,_,rfl,run_takeDeferred hK,?_⟩⟩;refine⟨.tuple #[.slice none 0 0,errV ea 1],?_,.inr ⟨HR.out,rfl,hbF⟩⟩;simp[results,Tryz.results78,go_sem,p0.cell,p1.cell]
theorem nums_any(ea:Nat→Addr)(s:List UInt8)(w:World)(hs:s.length≤1000000)(hg:Glob w ea [1])(hT:TxtEnv w) :
 Calls Tryz.prog 78 #[.string ⟨s.toArray⟩] w (NumsPost ea s w.heap.size w):=callsIn_wide.1 (nums_in ea s w hs hg hT)
end Go.Proofs.YtppfkokfnoeopaaGreatDoor
namespace Go.Proofs.YtppfkokfnoeopaaGreatDoor
open Go.RowKit Go.Maps Go.WideMaps
noncomputable def oneR:List Value→Nat→Value→Option (DataW Unit×List MemPlace)
 | [],_,_=>none
 | x::r,i,v=>by classical exact if v=x then some (.lit (.int .i64 (i:Nat)),[]) else oneR r (i+1) v
theorem oneR_inv:∀(vs:List Value) (i:Nat) (v:Value) (y:DataW Unit×List MemPlace),oneR vs i v=some y→∃j,∃hj:j<vs.length,v=vs[j]∧y=(.lit (.int .i64 ((i+j:Nat):Int)),[])
 | [],i,v,y,h=>by simp[oneR] at h
 | x::r,i,v,y,h=>by
  rw[oneR] at h
  split at h
  ·rename_i e
   exact⟨0,by simp,e,(Option.some.inj h).symm⟩
  ·obtain⟨j,hj,e1,e2⟩:=oneR_inv r (i+1) v y h
   exact⟨j+1,by simpa using hj,by simpa using e1,by rw[e2];congr 4;omega⟩
theorem oneR_get:∀(vs:List Value) (i j:Nat) (hj:j<vs.length),vs.Pairwise (·≠·)→oneR vs i vs[j]=some (.lit (.int .i64 ((i+j:Nat):Int)),[])
 | [],i,j,hj,_=>by simp at hj
 | x::r,i,0,hj,h=>by
  rw[oneR];simp
 | x::r,i,j+1,hj,h=>by
  rw[List.pairwise_cons] at h;have hj':j<r.length:=by simpa using hj
  rw[oneR,if_neg (by simpa using(h.1 r[j] (List.getElem_mem hj')).symm)];have:=oneR_get r (i+1) j hj' h.2;simp only[List.getElem_cons_succ];rw[this]
  congr 4;omega
section
variable {P:Program} {k t e:TypeId} {vs:List Value}
def FunAt(P:Program)(k:TypeId)(vs:List Value)(w:World)(mb:Nat)(f:List UInt8→Option Nat)(q:Nat):Prop:=
 ∃D:DataW Unit,w.ownsMap P k (oneR vs 0) mb q D∧(∀s j,f s=some j→Maps.has D (.string s)=true∧∀z,D.atKey (.string s) z=.lit (.int .i64 (j:Int)))∧(∀s,f s=none→Maps.has D (.string s)=false)
theorem FunAt.lt{w:World}{mb q:Nat}{f:List UInt8→Option Nat}(h:FunAt P k vs w mb f q):mb<w.heap.size:=by
 obtain⟨D,h,_⟩:=h;exact h.lt
theorem FunAt.kept{w w':World}{mb q:Nat}{f:List UInt8→Option Nat}{row:Option Nat}(h:FunAt P k vs w mb f q)(hg:w.grownBy w' row)(hne:some mb≠row):FunAt P k vs w' mb f q:=by
 obtain⟨D,h,h1⟩:=h;exact⟨D,h.kept hg hne,h1⟩
theorem FunAt.below{w w':World}{mb q:Nat}{f:List UInt8→Option Nat}(h:FunAt P k vs w mb f q)(hb:Below w.heap.size w w'):FunAt P k vs w' mb f q:=by
 obtain⟨D,⟨es,clock,hb1,h1⟩,h2⟩:=h;exact⟨D,⟨es,clock,(hb.block mb (Array.getElem?_eq_some_iff.1 hb1).1).trans hb1,h1⟩,h2⟩
theorem fun_made(P:Program)(k:TypeId)(vs:List Value)(w:World):FunAt P k vs (w.alloc (.map #[] 0)) w.heap.size (fun _=>none) 0:=
 ⟨.map [],World.ownsMap_made w P k _,fun s j h=>by simp at h,fun s _=>rfl⟩
theorem fun_look{w:World}{mb q:Nat}{f:List UInt8→Option Nat}(h:FunAt P k vs w mb f q)(hk:P.underlying k=some .string)(ht:P.underlying t=some (.map k e))(hp:vs.Pairwise (·≠·)){z:Value}{jz:Nat}(hjz:jz<vs.length)(hzv:vs[jz]=z)(hz:(zeroValue e).run P w=.ok z w)(s:List UInt8)(hs:s.length≤maxLen) :
 (Instr.lookup t (.map (some mb)) (.string ⟨s.toArray⟩) false).run P w=.ok (match f s with|some j=>vs.getD j z|none=>z) w:=by
 obtain⟨D,h,h1,h2⟩:=h;have hR:=oneR_get vs 0 jz hjz hp;rw[hzv] at hR;obtain⟨v,ps,hrun,hv⟩:=h.lookup (string_keyed hk) ht hz hR (keyOf_string_mk hk (s:=⟨s.toArray⟩) (by simpa[ByteArray.size] using hs));obtain⟨j,hj,rfl,hx⟩:=oneR_inv vs 0 v _ hv;rw[hrun];have hx:=congrArg Prod.fst hx;dsimp only at hx;simp only[Nat.zero_add] at hx
 cases hf:f s with
 | some i=>
  rw[(h1 s i hf).2] at hx;have e:i=j:=by injection hx with hx;injection hx with _ hx;omega
  subst e;simp[List.getD_eq_getElem?_getD,hj]
 | none=>
  rw[atKey_of_not_has (h2 s hf)] at hx;have e:jz=j:=by injection hx with hx;injection hx with _ hx;omega
  subst e;rw[hzv]
theorem fun_put{w:World}{mb q:Nat}{f:List UInt8→Option Nat}(h:FunAt P k vs w mb f q)(hk:P.underlying k=some .string)(ht:P.underlying t=some (.map k e))(hp:vs.Pairwise (·≠·))(hq:q<1000000)(s:List UInt8)(hs:s.length≤maxLen){j:Nat}(hj:j<vs.length){v:Value}(hv:vs[j]=v) :
 ∃w',(Instr.mapUpdate t (.map (some mb)) (.string ⟨s.toArray⟩) v).run P w=.ok () w'∧FunAt P k vs w' mb (fun s'=>if s'=s then some j else f s') (q+1)∧w.grownBy w' (some mb):=by
 obtain⟨D,h,h1,h2⟩:=h;have hT:=ownsMap_tidy h (string_keyed hk);have hR:=oneR_get vs 0 j hj hp;rw[hv,Nat.zero_add] at hR;obtain⟨w',hrun,ho,hg⟩:=h.update (string_keyed hk) ht (by unfold maxLen;omega) (keyOf_string_mk hk (s:=⟨s.toArray⟩) (by simpa[ByteArray.size] using hs)) hR;refine⟨w',hrun,⟨_,ho,fun s' i hi=>?_,fun s' hi=>?_⟩,hg⟩
 ·dsimp only at hi
  split at hi
  ·rename_i e;subst e
   obtain rfl:=Option.some.inj hi;have hkl:WideAt.IsKeyLit (.string s'):=trivial;exact⟨has_put_same hT.isMap hkl _,fun z=>atKey_put_same hT.isMap hkl _ _⟩
  ·rename_i hne
   have hne':(Lit.string s')≠.string s:=fun e=>hne (by injection e)
   exact⟨by rw[has_put_other hne'];exact(h1 s' i hi).1,fun z=>by rw[atKey_put_other hne'];exact(h1 s' i hi).2 z⟩
 ·dsimp only at hi
  split at hi
  ·cases hi
  ·rename_i hne
   have hne':(Lit.string s')≠.string s:=fun e=>hne (by injection e)
   rw[has_put_other hne'];exact h2 s' hi
end
end Go.Proofs.YtppfkokfnoeopaaGreatDoor
namespace Go.Proofs.YtppfkokfnoeopaaGreatDoor
open Go.RowKit Go.Maps
theorem int_wfN(l:List UInt8):(Lit.int .i64 (numN l)).wf=true:=by
 have h1:IntKind.i64.min=-9223372036854775808:=by decide +kernel
 have h2:IntKind.i64.max=9223372036854775807:=by decide +kernel
 have h3:=numN_bounds l;simp only[Lit.wf,Bool.and_eq_true,decide_eq_true_eq,h1,h2];omega
theorem slotT_len{c:CP}(h:InvP c):c.slotT.length≤95:=by
 unfold CP.slotT
 split
 ·exact h.sent_len
 ·simp
theorem EnvC.at{ea:Nat→Addr}{L:CL}{w:World}(h:EnvC ea L w):Glob w ea [1,2,3,4,5,6,7,8,9,10,11]∧TxtEnv w:=h w (Fr.refl _ _)
set_option maxRecDepth 100000 in
set_option maxHeartbeats 1600000 in
theorem ySlot_any(ea:Nat→Addr)(L:CL)(c:CP)(word:List UInt8)(w:World)(hE:EnvC ea L w)(h:ClusAt w L c)(hI:InvP c)(hl:word.length≤100000) :
 Calls Tryz.prog 79 #[.pointer (some ⟨L.cb,0,none⟩),.string ⟨word.toArray⟩] w fun e w'=>e=.returned (.tuple #[.string ⟨(c.slotW word).2.1.toArray⟩,errV ea (c.slotW word).2.2])∧ClusAt w' L (c.slotW word).1∧Fr L.own w w':=by
 have KR:=Lib.hid (read_any ea word w (by omega) (hE.at.1.sub (by simp)) hE.at.2);have HE:=Lib.hid hE;have H:=Lib.hid h;have HI:=Lib.hid hI;clear hE h hI
 cases hf:readF word with
 | none=>
  have HS:Hid (c.slotW word=(c,[],1)):=by unfold Hid CP.slotW;rw[hf]
  rw[hf] at KR;rw[readV,errV_pos ea (by decide)] at KR;clear hf;go_enter Tryz.func79,Tryz.ntmps79;go_wp2_with fail;refine KR.out.mono ?_;rintro e w1⟨rfl,hb1⟩;go_wp2;go_ret2;rw[HS.out];dsimp only;rw[errV_pos ea (by decide)];exact⟨rfl,H.out.below hb1,Fr.of hb1⟩
 | some k=>
  have HS:Hid (c.slotW word=((c.slotF (listTo (k:Nat) 16)).1,Lib.replaceAll (if c.slotT=[] then nothB else c.slotT) [32] [95],(c.slotF (listTo (k:Nat) 16)).2)):=by unfold Hid CP.slotW;rw[hf]
  rw[hf] at KR;rw[readV] at KR;clear hf;have hst:=slotT_len HI.out;obtain⟨kk,hkk⟩:∃kk:Int,kk=(k:Nat):=⟨_,rfl⟩
  rw[←hkk] at HS KR;clear hkk;have KL:=Lib.hid (fun(W:World) (hb:Below w.heap.size w W)=>list_any ea kk W ((HE.out.fr (Fr.of hb)).at.1.sub (by simp)));have hlen:=listTo_length kk 16;generalize listTo kk 16=ls at *;have K3:=Lib.hid (fun(W:World) (va:Option Addr) (vc:Nat) (hb:Below w.heap.size w W) (hr:RowAt W va (encInts ls))=>cSlot_any ea L c va ls.length vc ls W (HE.out.fr (Fr.of hb)) (H.out.below hb) HI.out rfl hr (by omega));have HT:=Lib.hid (fun(W W':World) (hb:Below w.heap.size w W) (hf:Fr L.own W W')=>((HE.out.fr (Fr.of hb)).fr hf).at.2);generalize c.slotT=tx at *;generalize c.slotF ls=sf at *
  by_cases hx:tx=[]
  ·subst hx
   rw[if_pos rfl] at HS;clear hst;go_enter Tryz.func79,Tryz.ntmps79;go_wp2_with fail;refine KR.out.mono ?_;rintro e w1⟨rfl,hb1⟩;have K2:=Lib.hid (KL.out w1 hb1);go_wp2_with fail;refine K2.out.mono ?_;rintro e w2⟨v,rfl,hown,hb2⟩;obtain⟨va,vc,rfl⟩:=owned_shape hown;have hv2:=onto hb1 hb2;have K4:=Lib.hid (K3.out w2 va vc hv2 (ownsRow_at hown));clear hown;go_wp2_with fail;refine K4.out.mono ?_;rintro e w3⟨rfl,hC3,hF3⟩;have KX:=Lib.hid (replaceOne_any nothB 32 95 w3 (HT.out w2 w3 hv2 hF3) (by decide));go_wp2_with fail;refine KX.out.mono ?_;rintro e w4⟨rfl,hb4⟩;go_wp2;go_ret2;rw[HS.out];exact⟨rfl,hC3.below hb4,(Fr.of hv2).trans (hF3.off hb4)⟩
  ·rw[if_neg hx] at HS
   have q2:(tx==[])=false:=by simpa using hx
   have q3:tx.isEmpty=false:=by simpa using hx
   clear hx;go_enter Tryz.func79,Tryz.ntmps79;go_wp2_with fail;refine KR.out.mono ?_;rintro e w1⟨rfl,hb1⟩;have K2:=Lib.hid (KL.out w1 hb1);go_wp2_with fail;refine K2.out.mono ?_;rintro e w2⟨v,rfl,hown,hb2⟩;obtain⟨va,vc,rfl⟩:=owned_shape hown;have hv2:=onto hb1 hb2;have K4:=Lib.hid (K3.out w2 va vc hv2 (ownsRow_at hown));clear hown;go_wp2_with fail;refine K4.out.mono ?_;rintro e w3⟨rfl,hC3,hF3⟩;have KX:=Lib.hid (replaceOne_any tx 32 95 w3 (HT.out w2 w3 hv2 hF3) (by omega));go_wp2_with fail;refine KX.out.mono ?_;rintro e w4⟨rfl,hb4⟩;go_wp2;go_ret2;rw[HS.out];exact⟨rfl,hC3.below hb4,(Fr.of hv2).trans (hF3.off hb4)⟩
set_option maxRecDepth 100000 in
set_option maxHeartbeats 1600000 in
theorem ySet_any(ea:Nat→Addr)(L:CL)(c:CP)(wa:Option Addr)(wc:Nat)(w0 w1 w2:List UInt8)(w:World)(hE:EnvC ea L w)(h:ClusAt w L c)(hr:RowAt w wa (encTexts [w0,w1,w2]))(h1:w1.length≤100000)(h2:w2.length≤100000) :
 Calls Tryz.prog 80 #[.pointer (some ⟨L.cb,0,none⟩),.slice wa 3 wc] w fun e w'=>e=.returned (errV ea (c.setW w1 w2).2)∧ClusAt w' L (c.setW w1 w2).1∧Fr L.own w w':=by
 obtain⟨b,off,rfl,hbl,hc⟩:=hr.at (by simp[encTexts]);have c1:w.cell? ⟨b,off+1,none⟩=some (.string ⟨w1.toArray⟩):=hc 1 _ rfl;have c2:w.cell? ⟨b,off+2,none⟩=some (.string ⟨w2.toArray⟩):=hc 2 _ rfl;have K1:=Lib.hid (yNumber_any ea w1 w (hE.at.1.sub (by simp)) hE.at.2 (by omega));have K2:=Lib.hid (fun(W:World) (hb:Below w.heap.size w W)=>yNumber_any ea w2 W ((hE.fr (Fr.of hb)).at.1.sub (by simp)) (hE.fr (Fr.of hb)).at.2 (by omega));have KS:=Lib.hid (fun(W:World) (hb:Below w.heap.size w W)=>cSet_any ea L c (numN w1) (numN w2) W ((hE.fr (Fr.of hb)).at.1.sub (by simp)) (h.below hb) (int_wfN w1));have H:=Lib.hid h;clear hr hc hE h
 cases hn1:numF w1 with
 | none=>
  have HS:Hid (c.setW w1 w2=(c,1)):=by unfold Hid CP.setW;rw[hn1]
  have e2:numE w1=1:=by unfold numE numIs;rw[hn1];rfl
  rw[e2,errV_pos ea (by decide)] at K1;clear hn1 e2;go_enter Tryz.func80,Tryz.ntmps80;go_wp2_with fail;refine K1.out.mono ?_;rintro e W1⟨rfl,hb1⟩;go_wp2;go_ret;rw[HS.out];dsimp only;rw[errV_pos ea (by decide)];exact⟨rfl,H.out.below hb1,Fr.of hb1⟩
 | some n=>
  have e2:numE w1=0:=by unfold numE numIs;rw[hn1];rfl
  rw[e2,errV_zero] at K1;clear e2
  cases hn2:numF w2 with
  | none=>
   have HS:Hid (c.setW w1 w2=(c,1)):=by unfold Hid CP.setW;rw[hn1,hn2]
   have e2:numE w2=1:=by unfold numE numIs;rw[hn2];rfl
   rw[e2,errV_pos ea (by decide)] at K2;clear hn1 hn2 e2;go_enter Tryz.func80,Tryz.ntmps80;go_wp2_with fail;refine K1.out.mono ?_;rintro e W1⟨rfl,hb1⟩;have d2:=(hb1.cell (p:=⟨b,off+2,none⟩) hbl).trans c2;have K2':=Lib.hid (K2.out W1 hb1);go_wp2_with fail;refine K2'.out.mono ?_;rintro e W2⟨rfl,hb2⟩;go_wp2;go_ret;rw[HS.out];dsimp only;rw[errV_pos ea (by decide)];exact⟨rfl,H.out.below (onto hb1 hb2),Fr.of (onto hb1 hb2)⟩
  | some v=>
   have e3:numN w1=n:=by unfold numN;rw[hn1];rfl
   have e4:numN w2=v:=by unfold numN;rw[hn2];rfl
   have HS:Hid (c.setW w1 w2=c.set (numN w1) (numN w2)):=by unfold Hid CP.setW;rw[hn1,hn2,e3,e4]
   have e2:numE w2=0:=by unfold numE numIs;rw[hn2];rfl
   rw[e2,errV_zero] at K2;clear hn1 hn2 e2 e3 e4;generalize numN w1=n1 at *;generalize numN w2=n2 at *;go_enter Tryz.func80,Tryz.ntmps80;go_wp2_with fail;refine K1.out.mono ?_;rintro e W1⟨rfl,hb1⟩;have d2:=(hb1.cell (p:=⟨b,off+2,none⟩) hbl).trans c2;have K2':=Lib.hid (K2.out W1 hb1);go_wp2_with fail;refine K2'.out.mono ?_;rintro e W2⟨rfl,hb2⟩;have hb12:=onto hb1 hb2;have KS':=Lib.hid (KS.out W2 hb12);go_wp2_with fail;refine KS'.out.mono ?_;rintro e W3⟨rfl,hC3,hF3⟩;go_wp2;go_ret;rw[HS.out];exact⟨rfl,hC3,(Fr.of hb12).trans hF3⟩
def ChangePost(ea:Nat→Addr)(L:CL)(c:CP)(ws:List (List UInt8))(w:World)(e:Ending)(w':World):Prop:=
 ∃(v ev:Value) (t:List UInt8) (pl:Int),e=.returned (.tuple #[v,.string ⟨t.toArray⟩,ev])∧ErrIs ea w' ev (c.change ws).2.2 pl∧Fr L.own w w' ∧
  ((c.change ws).2.2=0→∃L':CL,v=.pointer (some ⟨L'.cb,0,none⟩)∧t=(c.change ws).2.1∧ClusAt w' L' (c.change ws).1∧∀j,L'.own j→L.own j∨w.heap.size≤j)
theorem change_plan(c:CP)(w1:List UInt8):c.change [[112,108,97,110],w1]=((c.planW w1).1,okB,(c.planW w1).2):=rfl
theorem change_slot(c:CP)(w1:List UInt8):c.change [[115,108,111,116],w1]=c.slotW w1:=rfl
theorem change_set(c:CP)(w1 w2:List UInt8):c.change [[115,101,116],w1,w2]=((c.setW w1 w2).1,okB,(c.setW w1 w2).2):=rfl
theorem change_one(c:CP)(w0 w1:List UInt8)(h1:w0≠[112,108,97,110])(h2:w0≠[115,108,111,116])(h3:w0≠[115,101,116]):c.change [w0,w1]=((c.oneW w0 w1).1,okB,(c.oneW w0 w1).2):=by
 unfold CP.change;simp[h1,h2,h3]
theorem words_cases{w0:List UInt8}{k:Int}(h:wordsN w0=k)(hk:0≤k):(k=1∧(w0=[112,108,97,110]∨w0=[111,102,102]∨w0=[111,110]∨w0=[109,111,100,101]∨w0=[115,108,111,116]))∨(k=2∧w0=[115,101,116]):=by
 unfold wordsN at h
 split at h
 ·rename_i h1;exact Or.inl ⟨h.symm,h1⟩
 ·split at h
  ·rename_i h2;exact Or.inr ⟨h.symm,h2⟩
  ·omega
set_option maxRecDepth 100000 in
set_option maxHeartbeats 1600000 in
theorem yPlan_any(ea:Nat→Addr)(L:CL)(c:CP)(wa:Option Addr)(wc:Nat)(w1:List UInt8)(w:World)(hE:EnvC ea L w)(hr:RowAt w wa (encTexts [[112,108,97,110],w1]))(h1:w1.length≤100000) :
 Calls Tryz.prog 36 #[.pointer (some ⟨L.cb,0,none⟩),.slice wa 2 wc] w (ChangePost ea L c [[112,108,97,110],w1] w):=by
 obtain⟨b,off,rfl,hbl,hc⟩:=hr.at (by simp[encTexts]);have c0:w.cell? ⟨b,off,none⟩=some (.string ⟨#[112,108,97,110]⟩):=hc 0 _ rfl;have c1:w.cell? ⟨b,off+1,none⟩=some (.string ⟨w1.toArray⟩):=hc 1 _ rfl;have KU:=Lib.hid (nums_any ea w1 w (by omega) (hE.at.1.sub (by simp)) hE.at.2);have HG:=Lib.hid (fun(W:World) (hb:Below w.heap.size w W)=>(hE.fr (Fr.of hb)).at.1);clear hr hc hE;go_enter Tryz.func36,Tryz.ntmps36;go_wp2_with fail;refine KU.out.mono ?_;rintro e W1 (⟨xs,v,hf,rfl,hown,hb1⟩|⟨hf,rfl,hb1⟩)
 ·obtain⟨av,cv,rfl⟩:=owned_shape hown
  have HS:Hid (c.change [[112,108,97,110],w1]=(CP.new xs,okB,(planF xs).1)):=by unfold Hid;rw[change_plan,CP.planW,hf]
  have hxl:xs.length≤100001:=by
   have e1:=numsAcc_len hf;have e2:=cutL_length 44 w1;omega
  clear hf
  by_cases hp:(planF xs).1=0
  ·have K2:=Lib.hid (cNew_ok ea av xs.length cv xs W1 ((HG.out W1 hb1).sub (by simp)) rfl (ownsRow_at hown) hp)
   rw[hp] at HS;clear hp hown;go_wp2_with fail;refine K2.out.mono ?_;rintro e W2⟨L',rfl,hC2,hL2,hb2⟩;go_wp2;go_ret3;unfold ChangePost;rw[HS.out]
   exact⟨_,_,okB,-1,rfl,Or.inl ⟨rfl,(errV_zero ea).symm⟩,Fr.of (onto hb1 hb2),fun _=>⟨L',rfl,rfl,hC2,fun j hj=>Or.inr (by
    have:=hb1.size
    rcases hj with rfl|rfl|rfl
    ·exact Nat.le_trans this hL2.cb
    ·exact Nat.le_trans this hL2.bb
    ·exact Nat.le_trans this hL2.mb)⟩⟩
  ·have K2:=Lib.hid (cNew_bad ea av xs.length cv xs W1 ((HG.out W1 hb1).sub (by simp)) rfl (ownsRow_at hown) (by omega) hp)
   have HP:=Lib.hid hp;clear hp hown;go_wp2_with fail;refine K2.out.mono ?_;rintro e W2⟨v,rfl,hE2,hb2⟩;have HE2:=Lib.hid hE2;obtain⟨t,x,rfl⟩:=hE2.held HP.out;clear hE2;go_wp2;go_ret3;unfold ChangePost;rw[HS.out];exact⟨_,_,okB,_,rfl,HE2.out,Fr.of (onto hb1 hb2),fun h0=>absurd h0 HP.out⟩
 ·have HS:Hid (c.change [[112,108,97,110],w1]=(c,okB,1)):=by unfold Hid;rw[change_plan,CP.planW,hf]
  clear hf;rw[errV_pos ea (by decide)];go_wp2;go_ret3;unfold ChangePost;rw[HS.out];exact⟨_,_,[],-1,rfl,Or.inl ⟨rfl,(errV_pos ea (by decide)).symm⟩,Fr.of hb1,fun h0=>absurd (show(1:Nat)=0 from h0) (by decide)⟩
set_option maxRecDepth 100000 in
set_option maxHeartbeats 1600000 in
theorem ySlotC_any(ea:Nat→Addr)(L:CL)(c:CP)(wa:Option Addr)(wc:Nat)(w1:List UInt8)(w:World)(hE:EnvC ea L w)(h:ClusAt w L c)(hI:InvP c)(hr:RowAt w wa (encTexts [[115,108,111,116],w1]))(h1:w1.length≤100000) :
 Calls Tryz.prog 36 #[.pointer (some ⟨L.cb,0,none⟩),.slice wa 2 wc] w (ChangePost ea L c [[115,108,111,116],w1] w):=by
 obtain⟨b,off,rfl,hbl,hc⟩:=hr.at (by simp[encTexts]);have c0:w.cell? ⟨b,off,none⟩=some (.string ⟨#[115,108,111,116]⟩):=hc 0 _ rfl;have c1:w.cell? ⟨b,off+1,none⟩=some (.string ⟨w1.toArray⟩):=hc 1 _ rfl;have KU:=Lib.hid (ySlot_any ea L c w1 w hE h hI h1);have HS:Hid (c.change [[115,108,111,116],w1]=c.slotW w1):=change_slot c w1;clear hr hc hE h hI;generalize c.slotW w1=r at *;obtain⟨r1,r2,r3⟩:=r;dsimp only at KU;go_enter Tryz.func36,Tryz.ntmps36;go_wp2_with fail;refine KU.out.mono ?_;rintro e W1⟨rfl,hC1,hF1⟩;go_wp2;go_ret3;unfold ChangePost;rw[HS.out];exact⟨_,_,r2,-1,rfl,ErrIs.bare ea W1 r3,hF1,fun _=>⟨L,rfl,rfl,hC1,fun j hj=>Or.inl hj⟩⟩
set_option maxRecDepth 100000 in
set_option maxHeartbeats 1600000 in
theorem ySetC_any(ea:Nat→Addr)(L:CL)(c:CP)(wa:Option Addr)(wc:Nat)(w1 w2:List UInt8)(w:World)(hE:EnvC ea L w)(h:ClusAt w L c)(hr:RowAt w wa (encTexts [[115,101,116],w1,w2]))(h1:w1.length≤100000)(h2:w2.length≤100000) :
 Calls Tryz.prog 36 #[.pointer (some ⟨L.cb,0,none⟩),.slice wa 3 wc] w (ChangePost ea L c [[115,101,116],w1,w2] w):=by
 have KU:=Lib.hid (ySet_any ea L c wa wc [115,101,116] w1 w2 w hE h hr h1 h2);obtain⟨b,off,rfl,hbl,hc⟩:=hr.at (by simp[encTexts]);have c0:w.cell? ⟨b,off,none⟩=some (.string ⟨#[115,101,116]⟩):=hc 0 _ rfl;have HS:Hid (c.change [[115,101,116],w1,w2]=((c.setW w1 w2).1,okB,(c.setW w1 w2).2)):=change_set c w1 w2;clear hr hc hE h;generalize c.setW w1 w2=r at *;obtain⟨r1,r3⟩:=r;dsimp only at KU HS;go_enter Tryz.func36,Tryz.ntmps36;go_wp2_with fail;refine KU.out.mono ?_;rintro e W1⟨rfl,hC1,hF1⟩;go_wp2;go_ret3;unfold ChangePost;rw[HS.out];exact⟨_,_,okB,-1,rfl,ErrIs.bare ea W1 r3,hF1,fun _=>⟨L,rfl,rfl,hC1,fun j hj=>Or.inl hj⟩⟩
def doVs(cb:Nat):List Value:=[.func (.func 81) #[.pointer (some ⟨cb,0,none⟩)] #[],.func (.func 82) #[.pointer (some ⟨cb,0,none⟩)] #[],.func (.func 83) #[.pointer (some ⟨cb,0,none⟩)] #[],.nilFunc]
theorem doVs_ne(cb:Nat):(doVs cb).Pairwise (·≠·):=by simp[doVs]
theorem zeroFun(w:World):(zeroValue 136).run Tryz.prog w=.ok .nilFunc w:=by kernel_rfl
theorem doMap(cb:Nat)(w:World):∃w1 w2 w3:World,
 (Instr.mapUpdate 137 (.map (some w.heap.size)) (.string ⟨#[111,102,102]⟩) (.func (.func 81) #[.pointer (some ⟨cb,0,none⟩)] #[])).run Tryz.prog (w.alloc (.map #[] 0))=.ok () w1 ∧
 (Instr.mapUpdate 137 (.map (some w.heap.size)) (.string ⟨#[111,110]⟩) (.func (.func 82) #[.pointer (some ⟨cb,0,none⟩)] #[])).run Tryz.prog w1=.ok () w2 ∧
 (Instr.mapUpdate 137 (.map (some w.heap.size)) (.string ⟨#[109,111,100,101]⟩) (.func (.func 83) #[.pointer (some ⟨cb,0,none⟩)] #[])).run Tryz.prog w2=.ok () w3∧Below w.heap.size w w3 ∧
 (Instr.lookup 137 (.map (some w.heap.size)) (.string ⟨#[111,102,102]⟩) false).run Tryz.prog w3=.ok (.func (.func 81) #[.pointer (some ⟨cb,0,none⟩)] #[]) w3 ∧
 (Instr.lookup 137 (.map (some w.heap.size)) (.string ⟨#[111,110]⟩) false).run Tryz.prog w3=.ok (.func (.func 82) #[.pointer (some ⟨cb,0,none⟩)] #[]) w3 ∧
 (Instr.lookup 137 (.map (some w.heap.size)) (.string ⟨#[109,111,100,101]⟩) false).run Tryz.prog w3=.ok (.func (.func 83) #[.pointer (some ⟨cb,0,none⟩)] #[]) w3:=by
 have h0:=fun_made Tryz.prog 9 (doVs cb) w;obtain⟨w1,r1,h1,g1⟩:=fun_put h0 Tryz.underlying9 Tryz.underlying137 (doVs_ne cb) (by omega) [111,102,102] (by decide) (j:=0) (by simp[doVs]) rfl;obtain⟨w2,r2,h2,g2⟩:=fun_put h1 Tryz.underlying9 Tryz.underlying137 (doVs_ne cb) (by omega) [111,110] (by decide) (j:=1) (by simp[doVs]) rfl;obtain⟨w3,r3,h3,g3⟩:=fun_put h2 Tryz.underlying9 Tryz.underlying137 (doVs_ne cb) (by omega) [109,111,100,101] (by decide) (j:=2) (by simp[doVs]) rfl;have hb0:Below w.heap.size w (w.alloc (.map #[] 0)):=(Below.refl _ _).alloc (Nat.le_refl _) _;have hb1:=hb0.grown g1 hb0.size (fun j e=>by injection e with e;omega);have hb2:=hb1.grown g2 hb1.size (fun j e=>by injection e with e;omega);have hb3:=hb2.grown g3 hb2.size (fun j e=>by injection e with e;omega);have look:=fun(s:List UInt8) (hs:s.length≤maxLen)=>fun_look h3 Tryz.underlying9 Tryz.underlying137 (doVs_ne cb) (z:=.nilFunc) (jz:=3) (by simp[doVs]) rfl (zeroFun w3) s hs
 exact⟨w1,w2,w3,r1,r2,r3,hb3,look [111,102,102] (by decide),look [111,110] (by decide),look [109,111,100,101] (by decide)⟩
set_option maxRecDepth 100000 in
set_option maxHeartbeats 1600000 in
theorem yOffC_any(ea:Nat→Addr)(L:CL)(c:CP)(wa:Option Addr)(wcp:Nat)(w1:List UInt8)(w:World)(hE:EnvC ea L w)(h:ClusAt w L c)(hI:InvP c)(hr:RowAt w wa (encTexts [[111,102,102],w1]))(h1:w1.length≤100000) :
 Calls Tryz.prog 36 #[.pointer (some ⟨L.cb,0,none⟩),.slice wa 2 wcp] w (ChangePost ea L c [[111,102,102],w1] w):=by
 obtain⟨b,off,rfl,hbl,hc⟩:=hr.at (by simp[encTexts]);have c0:w.cell? ⟨b,off,none⟩=some (.string ⟨#[111,102,102]⟩):=hc 0 _ rfl;have c1:w.cell? ⟨b,off+1,none⟩=some (.string ⟨w1.toArray⟩):=hc 1 _ rfl;have KN:=Lib.hid (yNumber_any ea w1 w (hE.at.1.sub (by simp)) hE.at.2 (by omega));have hmm:=@run_makeMap Tryz.prog;have HS0:Hid (c.change [[111,102,102],w1]=((c.oneW [111,102,102] w1).1,okB,(c.oneW [111,102,102] w1).2)):=change_one c _ w1 (by decide) (by decide) (by decide);have hwf:=int_wfN w1;have hin:=hI.now;have hia:=hI.asked
 cases hn1:numF w1 with
 | none=>
  have HS:Hid (c.change [[111,102,102],w1]=(c,okB,1)):=by unfold Hid;rw[HS0.out,CP.oneW,hn1]
  have e2:numE w1=1:=by unfold numE numIs;rw[hn1];rfl
  rw[e2,errV_pos ea (by decide)] at KN;clear e2 hn1 hr hc hE h hI hin hia;go_enter Tryz.func36,Tryz.ntmps36;go_wp2_with fail;refine KN.out.mono ?_;rintro e w2⟨rfl,hb2⟩;go_wp2;go_ret3;unfold ChangePost;rw[HS.out];exact⟨_,_,[],-1,rfl,Or.inl ⟨rfl,(errV_pos ea (by decide)).symm⟩,Fr.of hb2,fun h0=>absurd (show(1:Nat)=0 from h0) (by decide)⟩
 | some nn=>
  have e3:numN w1=nn:=by unfold numN;rw[hn1];rfl
  have e2:numE w1=0:=by unfold numE numIs;rw[hn1];rfl
  have HS:Hid (c.change [[111,102,102],w1]=((c.turn nn 0).1,okB,(c.turn nn 0).2)):=by unfold Hid;rw[HS0.out,CP.oneW,hn1];rfl
  rw[e2,errV_zero,e3] at KN;rw[e3] at hwf;have KF:=Lib.hid (fun(W:World) (hb:Below w.heap.size w W)=>cOff_any ea L c nn W ((hE.fr (Fr.of hb)).at.1.sub (by simp)) (h.below hb) hwf);clear e2 hn1 hr hc hE h hI e3 hin hia;generalize c.turn nn 0=r at *;obtain⟨r1,r2⟩:=r;dsimp only at HS KF;go_enter Tryz.func36,Tryz.ntmps36;go_wp2_with fail;refine KN.out.mono ?_;rintro e w2⟨rfl,hb2⟩;have d0:=(hb2.cell (p:=⟨b,off,none⟩) hbl).trans c0;obtain⟨W1,W2,W3,m1,m2,m3,hb3,k1,k2,k3⟩:=doMap L.cb w2;have d3:=(hb3.cell (p:=⟨b,off,none⟩) (Nat.lt_of_lt_of_le hbl hb2.size)).trans d0;have hv3:=onto hb2 hb3;have KF3:=Lib.hid (KF.out W3 hv3);go_wp2_with fail;refine KF3.out.mono ?_;rintro e w4⟨rfl,hC4,hF4⟩;go_wp2;go_ret3;unfold ChangePost;rw[HS.out];exact⟨_,_,okB,-1,rfl,ErrIs.bare ea w4 r2,(Fr.of hv3).trans hF4,fun _=>⟨L,rfl,rfl,hC4,fun j hj=>Or.inl hj⟩⟩
set_option maxRecDepth 100000 in
set_option maxHeartbeats 1600000 in
theorem yOnC_any(ea:Nat→Addr)(L:CL)(c:CP)(wa:Option Addr)(wcp:Nat)(w1:List UInt8)(w:World)(hE:EnvC ea L w)(h:ClusAt w L c)(hI:InvP c)(hr:RowAt w wa (encTexts [[111,110],w1]))(h1:w1.length≤100000) :
 Calls Tryz.prog 36 #[.pointer (some ⟨L.cb,0,none⟩),.slice wa 2 wcp] w (ChangePost ea L c [[111,110],w1] w):=by
 obtain⟨b,off,rfl,hbl,hc⟩:=hr.at (by simp[encTexts]);have c0:w.cell? ⟨b,off,none⟩=some (.string ⟨#[111,110]⟩):=hc 0 _ rfl;have c1:w.cell? ⟨b,off+1,none⟩=some (.string ⟨w1.toArray⟩):=hc 1 _ rfl;have KN:=Lib.hid (yNumber_any ea w1 w (hE.at.1.sub (by simp)) hE.at.2 (by omega));have hmm:=@run_makeMap Tryz.prog;have HS0:Hid (c.change [[111,110],w1]=((c.oneW [111,110] w1).1,okB,(c.oneW [111,110] w1).2)):=change_one c _ w1 (by decide) (by decide) (by decide);have hwf:=int_wfN w1;have hin:=hI.now;have hia:=hI.asked
 cases hn1:numF w1 with
 | none=>
  have HS:Hid (c.change [[111,110],w1]=(c,okB,1)):=by unfold Hid;rw[HS0.out,CP.oneW,hn1]
  have e2:numE w1=1:=by unfold numE numIs;rw[hn1];rfl
  rw[e2,errV_pos ea (by decide)] at KN;clear e2 hn1 hr hc hE h hI hin hia;go_enter Tryz.func36,Tryz.ntmps36;go_wp2_with fail;refine KN.out.mono ?_;rintro e w2⟨rfl,hb2⟩;go_wp2;go_ret3;unfold ChangePost;rw[HS.out];exact⟨_,_,[],-1,rfl,Or.inl ⟨rfl,(errV_pos ea (by decide)).symm⟩,Fr.of hb2,fun h0=>absurd (show(1:Nat)=0 from h0) (by decide)⟩
 | some nn=>
  have e3:numN w1=nn:=by unfold numN;rw[hn1];rfl
  have e2:numE w1=0:=by unfold numE numIs;rw[hn1];rfl
  have HS:Hid (c.change [[111,110],w1]=((c.turn nn 1).1,okB,(c.turn nn 1).2)):=by unfold Hid;rw[HS0.out,CP.oneW,hn1];rfl
  rw[e2,errV_zero,e3] at KN;rw[e3] at hwf;have KF:=Lib.hid (fun(W:World) (hb:Below w.heap.size w W)=>cOn_any ea L c nn W ((hE.fr (Fr.of hb)).at.1.sub (by simp)) (h.below hb) hwf);clear e2 hn1 hr hc hE h hI e3 hin hia;generalize c.turn nn 1=r at *;obtain⟨r1,r2⟩:=r;dsimp only at HS KF;go_enter Tryz.func36,Tryz.ntmps36;go_wp2_with fail;refine KN.out.mono ?_;rintro e w2⟨rfl,hb2⟩;have d0:=(hb2.cell (p:=⟨b,off,none⟩) hbl).trans c0;obtain⟨W1,W2,W3,m1,m2,m3,hb3,k1,k2,k3⟩:=doMap L.cb w2;have d3:=(hb3.cell (p:=⟨b,off,none⟩) (Nat.lt_of_lt_of_le hbl hb2.size)).trans d0;have hv3:=onto hb2 hb3;have KF3:=Lib.hid (KF.out W3 hv3);go_wp2_with fail;refine KF3.out.mono ?_;rintro e w4⟨rfl,hC4,hF4⟩;go_wp2;go_ret3;unfold ChangePost;rw[HS.out];exact⟨_,_,okB,-1,rfl,ErrIs.bare ea w4 r2,(Fr.of hv3).trans hF4,fun _=>⟨L,rfl,rfl,hC4,fun j hj=>Or.inl hj⟩⟩
set_option maxRecDepth 100000 in
set_option maxHeartbeats 1600000 in
theorem yModeC_any(ea:Nat→Addr)(L:CL)(c:CP)(wa:Option Addr)(wcp:Nat)(w1:List UInt8)(w:World)(hE:EnvC ea L w)(h:ClusAt w L c)(hI:InvP c)(hr:RowAt w wa (encTexts [[109,111,100,101],w1]))(h1:w1.length≤100000) :
 Calls Tryz.prog 36 #[.pointer (some ⟨L.cb,0,none⟩),.slice wa 2 wcp] w (ChangePost ea L c [[109,111,100,101],w1] w):=by
 obtain⟨b,off,rfl,hbl,hc⟩:=hr.at (by simp[encTexts]);have c0:w.cell? ⟨b,off,none⟩=some (.string ⟨#[109,111,100,101]⟩):=hc 0 _ rfl;have c1:w.cell? ⟨b,off+1,none⟩=some (.string ⟨w1.toArray⟩):=hc 1 _ rfl;have KN:=Lib.hid (yNumber_any ea w1 w (hE.at.1.sub (by simp)) hE.at.2 (by omega));have hmm:=@run_makeMap Tryz.prog;have HS0:Hid (c.change [[109,111,100,101],w1]=((c.oneW [109,111,100,101] w1).1,okB,(c.oneW [109,111,100,101] w1).2)):=change_one c _ w1 (by decide) (by decide) (by decide);have hwf:=int_wfN w1;have hin:=hI.now;have hia:=hI.asked
 cases hn1:numF w1 with
 | none=>
  have HS:Hid (c.change [[109,111,100,101],w1]=(c,okB,1)):=by unfold Hid;rw[HS0.out,CP.oneW,hn1]
  have e2:numE w1=1:=by unfold numE numIs;rw[hn1];rfl
  rw[e2,errV_pos ea (by decide)] at KN;clear e2 hn1 hr hc hE h hI hin hia;go_enter Tryz.func36,Tryz.ntmps36;go_wp2_with fail;refine KN.out.mono ?_;rintro e w2⟨rfl,hb2⟩;go_wp2;go_ret3;unfold ChangePost;rw[HS.out];exact⟨_,_,[],-1,rfl,Or.inl ⟨rfl,(errV_pos ea (by decide)).symm⟩,Fr.of hb2,fun h0=>absurd (show(1:Nat)=0 from h0) (by decide)⟩
 | some nn=>
  have e3:numN w1=nn:=by unfold numN;rw[hn1];rfl
  have e2:numE w1=0:=by unfold numE numIs;rw[hn1];rfl
  have HS:Hid (c.change [[109,111,100,101],w1]=((c.ask nn).1,okB,(c.ask nn).2)):=by unfold Hid;rw[HS0.out,CP.oneW,hn1];rfl
  rw[e2,errV_zero,e3] at KN;rw[e3] at hwf;have KF:=Lib.hid (fun(W:World) (hb:Below w.heap.size w W)=>cAsk_any ea L c nn W ((hE.fr (Fr.of hb)).at.1.sub (by simp)) (h.below hb) hin hia);clear e2 hn1 hr hc hE h hI e3 hin hia;generalize c.ask nn=r at *;obtain⟨r1,r2⟩:=r;dsimp only at HS KF;go_enter Tryz.func36,Tryz.ntmps36;go_wp2_with fail;refine KN.out.mono ?_;rintro e w2⟨rfl,hb2⟩;have d0:=(hb2.cell (p:=⟨b,off,none⟩) hbl).trans c0;obtain⟨W1,W2,W3,m1,m2,m3,hb3,k1,k2,k3⟩:=doMap L.cb w2;have d3:=(hb3.cell (p:=⟨b,off,none⟩) (Nat.lt_of_lt_of_le hbl hb2.size)).trans d0;have hv3:=onto hb2 hb3;have KF3:=Lib.hid (KF.out W3 hv3);go_wp2_with fail;refine KF3.out.mono ?_;rintro e w4⟨rfl,hC4,hF4⟩;go_wp2;go_ret3;unfold ChangePost;rw[HS.out];exact⟨_,_,okB,-1,rfl,ErrIs.bare ea w4 r2,(Fr.of hv3).trans hF4,fun _=>⟨L,rfl,rfl,hC4,fun j hj=>Or.inl hj⟩⟩
theorem yChange_any(ea:Nat→Addr)(L:CL)(c:CP)(wa:Option Addr)(wcp n:Nat)(ws:List (List UInt8))(w:World)(hE:EnvC ea L w)(h:ClusAt w L c)(hI:InvP c)(hr:RowAt w wa (encTexts ws))(hn:ws.length=n)(hl:∀x∈ws,x.length≤100000)(hk:wordsN (ws.getD 0 [])=(n:Int)-1)(h0:0<n) :
 Calls Tryz.prog 36 #[.pointer (some ⟨L.cb,0,none⟩),.slice wa n wcp] w (ChangePost ea L c ws w):=by
 rcases words_cases hk (by omega) with⟨h1,hw⟩|⟨h1,hw⟩
 ·obtain rfl:n=2:=by omega
  match ws,hn with
  | [w0,w1],_=>
   have hl1:=hl w1 (by simp);have hw':w0=[112,108,97,110]∨w0=[111,102,102]∨w0=[111,110]∨w0=[109,111,100,101]∨w0=[115,108,111,116]:=hw
   rcases hw' with rfl|rfl|rfl|rfl|rfl
   ·exact yPlan_any ea L c wa wcp w1 w hE hr hl1
   ·exact yOffC_any ea L c wa wcp w1 w hE h hI hr hl1
   ·exact yOnC_any ea L c wa wcp w1 w hE h hI hr hl1
   ·exact yModeC_any ea L c wa wcp w1 w hE h hI hr hl1
   ·exact ySlotC_any ea L c wa wcp w1 w hE h hI hr hl1
 ·obtain rfl:n=3:=by omega
  match ws,hn with
  | [w0,w1,w2],_=>
   have hw':w0=[115,101,116]:=hw;subst hw';exact ySetC_any ea L c wa wcp w1 w2 w hE h hr (hl w1 (by simp)) (hl w2 (by simp))
theorem int_wfT(l:List UInt8):(Lit.int .i64 (numN l)).wf=true:=by
 have h1:IntKind.i64.min=-9223372036854775808:=by decide +kernel
 have h2:IntKind.i64.max=9223372036854775807:=by decide +kernel
 have h3:=numN_bounds l;simp only[Lit.wf,Bool.and_eq_true,decide_eq_true_eq,h1,h2];omega
theorem sep_inj{c:UInt8}:∀{a b r s:List UInt8},c∉a→c∉b→a++c::r=b++c::s→a=b∧r=s
 | [],[],r,s,_,_,h=>by simpa using h
 | [],y::b,r,s,_,hb,h=>by
  simp at h;exact absurd h.1 (fun e=>hb (by simp[e]))
 | x::a,[],r,s,ha,_,h=>by
  simp at h;exact absurd h.1.symm (fun e=>ha (by simp[e]))
 | x::a,y::b,r,s,ha,hb,h=>by
  simp only[List.mem_cons,not_or] at ha hb;simp only[List.cons_append,List.cons.injEq] at h;obtain⟨h1,h2⟩:=sep_inj ha.2 hb.2 h.2;exact⟨by rw[h.1,h1],h2⟩
theorem itoa_injT{a b:Int}(ha : -9223372036854775808≤a∧a≤9223372036854775807)(hb : -9223372036854775808≤b∧b≤9223372036854775807)(h:Lib.itoa a=Lib.itoa b):a=b:=by
 have h1:=atoiAll_itoa a ha.1 ha.2;have h2:=atoiAll_itoa b hb.1 hb.2;rw[h,h2] at h1;injection h1 with h1;exact h1.symm
theorem key_eq{x y:List UInt8}{n d:Int}(hx:(32:UInt8)∉x)(hy:(32:UInt8)∉y)(hn:0≤n∧n≤1000000)(hd:0≤d∧d≤9):(x++[32]++Lib.itoa n=y++32::Lib.itoa d)↔(x=y∧n=d):=by
 constructor
 ·intro h
  rw[List.append_assoc] at h;obtain⟨h1,h2⟩:=sep_inj hx hy h;exact⟨h1,itoa_injT (by omega) (by omega) h2⟩
 ·rintro⟨rfl,rfl⟩;simp
def TellPost(ea:Nat→Addr)(r:List UInt8×Nat)(w:World)(e:Ending)(w':World):Prop:=
 ∃t:List UInt8,e=.returned (.tuple #[.string ⟨t.toArray⟩,errV ea r.2])∧(r.2=0→t=r.1)∧Below w.heap.size w w'
set_option maxRecDepth 100000 in
set_option maxHeartbeats 1600000 in
theorem yTell_any(ea:Nat→Addr)(L:CL)(c:CP)(wa:Option Addr)(wcp n:Nat)(ws:List (List UInt8))(w:World)(hg:Glob w ea [1,2,3,4,7,10,11])(hT:TxtEnv w)(h:ClusAt w L c)(hI:InvP c)(hr:RowAt w wa (encTexts ws))(hn:ws.length=n)(hn0:0<n)(hn1:n≤200000)(hl:∀x∈ws,x.length≤100000)(hsp:∀x∈ws,(32:UInt8)∉x) :
 Calls Tryz.prog 34 #[.pointer (some ⟨L.cb,0,none⟩),.slice wa n wcp] w (TellPost ea (c.tell ws) w):=by
 obtain⟨w0,r,rfl⟩:∃w0 r,ws=w0::r:=by
  cases ws with
  | nil=>simp at hn;omega
  | cons x r=>exact⟨x,r,rfl⟩
 obtain⟨b,off,rfl,hbl,hc⟩:=hr.at (by simp[encTexts]);have c0:w.cell? ⟨b,off,none⟩=some (.string ⟨w0.toArray⟩):=hc 0 _ rfl;have hl0:w0.length≤100000:=hl w0 (by simp);have hs0:(32:UInt8)∉w0:=hsp w0 (by simp);have hwr:IntKind.i64.wrap ((n:Int)-1)=(n:Int)-1:=IntWalk.i64_in _ (by omega);have hi0:(0:Int)<(n:Int):=by omega
 have hi1:(1:Int)≤(n:Int):=by omega
 have KI:=Lib.hid (fun(W:World) (hb:Below w.heap.size w W)=>itoa_any ((n:Int)-1) W (hT.below hb) (by omega));have hli:(Lib.itoa ((n:Int)-1)).length≤9:=itoa_le (by omega) (by omega);have HT:=Lib.hid hT;have HG:=Lib.hid hg;have H:=Lib.hid h;have HI:=Lib.hid hI;have HN:=Lib.hid hn;have HC:=Lib.hid hc;have HL:=Lib.hid hl;obtain⟨key,hkey⟩:∃key,key=w0++[32]++Lib.itoa ((n:Int)-1):=⟨_,rfl⟩
 have e1:∀y d,(32:UInt8)∉y→(0≤d∧d≤9)→((key=y++32::Lib.itoa d)↔(w0=y∧(n:Int)-1=d)):=fun y d hy hd=>by rw[hkey];exact key_eq hs0 hy (by omega) hd
 have E1:=Lib.hid e1;have HKEY:=Lib.hid hkey.symm;have s1:(9223372036854775807<w0.length+1)=False:=eq_false (by omega);have s2:(9223372036854775807<w0.length+1+(Lib.itoa ((n:Int)-1)).length)=False:=eq_false (by omega);clear hkey e1 hT hg h hI hn hc hl hsp hr;go_enter Tryz.func34,Tryz.ntmps34;go_upto_region 1 with(fail);have hb0:Below w.heap.size w w.drew:=(Below.refl _ _).drew;go_cut [17] (fun s17 wx=>s17=.string ⟨key.toArray⟩∧Below w.heap.size w wx)
 case first=>
  go_region_held3 (fun w'=>w'.cell? ⟨b,off,none⟩=some (.string ⟨w0.toArray⟩)) (go_keep)
   ((go_at_call 46;(with_reducible refine(KI.out _ hb0).mono ?_);rintro e w3⟨rfl,hb3⟩;have hv3:=onto hb0 hb3;have d0:=(hb3.cell (p:=⟨b,off,none⟩) hbl).trans c0))
  go_wp2_with fail;go_meet
  case rel=>exact⟨by rw[←HKEY.out,←ba_append,←ba_append],hv3⟩
 case rest=>
  obtain⟨rfl,hbx⟩:=hcut;have HGX:=Lib.hid (HG.out.below hbx);have HTX:=Lib.hid (HT.out.below hbx);have HX:=Lib.hid (H.out.below hbx);have c0x:=(hbx.cell (p:=⟨b,off,none⟩) hbl).trans c0;have HBX:=Lib.hid hbx;have hbl2:b<wc.heap.size:=Nat.lt_of_lt_of_le hbl hbx.size;have HCX:=Lib.hid (fun(i:Nat) (v:Value) (h:(encTexts (w0::r))[i]?=some v)=>(hbx.cell (p:=⟨b,off+i,none⟩) hbl).trans (HC.out i v h));clear hbx c0 HC s1 s2 hli KI hb0
  by_cases hA:w0=[99,114,101,119]∧(n:Int)-1=0
  ·obtain⟨rfl,hn⟩:=hA
   obtain rfl:n=1:=by omega
   obtain rfl:key=[99,114,101,119,32,48]:=by
    rw[(E1.out [99,114,101,119] 0 (by decide) (by omega)).2 ⟨rfl,hn⟩];decide +kernel
   have HS:Hid (c.tell ([99,114,101,119]::r)=(textF (c.crewN:Nat),0)):=by unfold Hid CP.tell;rw[if_pos ⟨HN.out,rfl⟩]
   have KC:=Lib.hid (cCrew_any ea L c wc (HGX.out.sub (by simp)) HX.out HI.out.dom (planF_ok HI.out.plan).2.2.2);clear hn E1 HKEY hs0 hwr;generalize ((c.crewN:Nat):Int)=cr at *;go_wp2_with fail;refine KC.out.mono ?_;rintro e w2⟨rfl,hb2⟩;have KT:=Lib.hid (text_any ea cr w2 ((HGX.out.below hb2).sub (by simp)));go_wp2_with fail;refine KT.out.mono ?_;rintro e w3⟨rfl,hb3⟩;go_wp2;go_ret2;unfold TellPost;rw[HS.out];exact⟨_,by rw[errV_zero];rfl,fun _=>rfl,onto (onto HBX.out hb2) hb3⟩
  by_cases hB:w0=[116,105,109,101]∧(n:Int)-1=0
  ·obtain⟨rfl,hn⟩:=hB
   obtain rfl:n=1:=by omega
   obtain rfl:key=[116,105,109,101,32,48]:=by
    rw[(E1.out [116,105,109,101] 0 (by decide) (by omega)).2 ⟨rfl,hn⟩];decide +kernel
   have HS:Hid (c.tell ([116,105,109,101]::r)=(Lib.itoa (c.time:Nat),0)):=by unfold Hid CP.tell;rw[if_neg (by simp),if_pos ⟨HN.out,rfl⟩]
   have ht:=HI.out.time;have KC:=Lib.hid (cTime_any L c wc HX.out);have KT:=Lib.hid (itoa_any (c.time:Int) wc HTX.out (by omega));clear hn E1 HKEY hs0 hwr hA;go_wp2_with fail;refine KC.out.mono ?_;rintro e w2⟨rfl,rfl⟩;go_wp2_with fail;refine KT.out.mono ?_;rintro e w3⟨rfl,hb3⟩;go_wp2;go_ret2;unfold TellPost;rw[HS.out];exact⟨_,by rw[errV_zero];rfl,fun _=>rfl,onto HBX.out hb3⟩
  by_cases hC:askB w0=true∧(n:Int)-1=1
  ·obtain⟨ha,hn⟩:=hC
   obtain rfl:n=2:=by omega
   obtain⟨w1,rfl⟩:∃w1,r=[w1]:=by
    have h2:=HN.out
    match r,h2 with
    | [x],_=>exact⟨x,rfl⟩
   have c1x:wc.cell? ⟨b,off+1,none⟩=some (.string ⟨w1.toArray⟩):=HCX.out 1 _ rfl
   have HS0:Hid (c.tell [w0,w1]=(match numF w1 with|none=>([],1)|some n=>c.tellN w0 n)):=by
    unfold Hid CP.tell;rw[if_neg (by simp),if_neg (by simp),if_pos ⟨rfl,ha⟩];rfl
   have hl1:w1.length≤100000:=HL.out w1 (by simp);have KN:=Lib.hid (yNumber_any ea w1 wc (HGX.out.sub (by simp)) HTX.out (by omega));have hask:w0=[115,116,97,116,101]∨w0=[118,105,101,119]∨w0=[104,105,115,116,111,114,121]∨w0=[116,111,116,97,108]:=by simpa[askB] using ha
   cases hn1:numF w1 with
   | none=>
    have HS:Hid (c.tell [w0,w1]=([],1)):=by unfold Hid;rw[HS0.out,hn1]
    have e2:numE w1=1:=by unfold numE numIs;rw[hn1];rfl
    rw[e2,errV_pos ea (by decide)] at KN;clear e2 hn1 hA hB ha
    rcases hask with rfl|rfl|rfl|rfl
    ·obtain rfl:key=[115,116,97,116,101,32,49]:=by
      rw[(E1.out [115,116,97,116,101] 1 (by decide) (by omega)).2 ⟨rfl,hn⟩];decide +kernel
     clear hn E1 HKEY hs0 hwr;go_wp2_with fail;refine KN.out.mono ?_;rintro e w2⟨rfl,hb2⟩;go_wp2;go_ret2;unfold TellPost;rw[HS.out];exact⟨[],by rw[errV_pos ea (by decide)];rfl,fun h=>absurd h (by decide),onto HBX.out hb2⟩
    ·obtain rfl:key=[118,105,101,119,32,49]:=by
      rw[(E1.out [118,105,101,119] 1 (by decide) (by omega)).2 ⟨rfl,hn⟩];decide +kernel
     clear hn E1 HKEY hs0 hwr;go_wp2_with fail;refine KN.out.mono ?_;rintro e w2⟨rfl,hb2⟩;go_wp2;go_ret2;unfold TellPost;rw[HS.out];exact⟨[],by rw[errV_pos ea (by decide)];rfl,fun h=>absurd h (by decide),onto HBX.out hb2⟩
    ·obtain rfl:key=[104,105,115,116,111,114,121,32,49]:=by
      rw[(E1.out [104,105,115,116,111,114,121] 1 (by decide) (by omega)).2 ⟨rfl,hn⟩];decide +kernel
     clear hn E1 HKEY hs0 hwr;go_wp2_with fail;refine KN.out.mono ?_;rintro e w2⟨rfl,hb2⟩;go_wp2;go_ret2;unfold TellPost;rw[HS.out];exact⟨[],by rw[errV_pos ea (by decide)];rfl,fun h=>absurd h (by decide),onto HBX.out hb2⟩
    ·obtain rfl:key=[116,111,116,97,108,32,49]:=by
      rw[(E1.out [116,111,116,97,108] 1 (by decide) (by omega)).2 ⟨rfl,hn⟩];decide +kernel
     clear hn E1 HKEY hs0 hwr;go_wp2_with fail;refine KN.out.mono ?_;rintro e w2⟨rfl,hb2⟩;go_wp2;go_ret2;unfold TellPost;rw[HS.out];exact⟨[],by rw[errV_pos ea (by decide)];rfl,fun h=>absurd h (by decide),onto HBX.out hb2⟩
   | some nd=>
    have e3:numN w1=nd:=by unfold numN;rw[hn1];rfl
    have HS:Hid (c.tell [w0,w1]=c.tellN w0 (numN w1)):=by unfold Hid;rw[HS0.out,hn1,e3]
    have e2:numE w1=0:=by unfold numE numIs;rw[hn1];rfl
    have hwf:=int_wfT w1;rw[e2,errV_zero] at KN;clear e2 hn1 hA hB ha e3;generalize numN w1=nn at *
    rcases hask with rfl|rfl|rfl|rfl
    ·obtain rfl:key=[115,116,97,116,101,32,49]:=by
      rw[(E1.out [115,116,97,116,101] 1 (by decide) (by omega)).2 ⟨rfl,hn⟩];decide +kernel
     clear hn E1 HKEY hs0 hwr;go_wp2_with fail;refine KN.out.mono ?_;rintro e w2⟨rfl,hb2⟩;have d0:=(hb2.cell (p:=⟨b,off,none⟩) hbl2).trans c0x;have hb02:=onto HBX.out hb2;have HS2:Hid (c.tell [[115,116,97,116,101],w1]=(if c.stT nn=[] then nothB else c.stT nn,0)):=HS.out;have KX:=Lib.hid (cState_any L c nn w2 (HX.out.below hb2) hwf (fun x hf=>(HI.out.node nn x hf).st));generalize c.stT nn=tx at *;clear HS
     by_cases hx:tx=[]
     ·subst hx
      go_wp2_with fail;refine KX.out.mono ?_;rintro e w3⟨rfl,hb3⟩;go_wp2;go_ret2;unfold TellPost;rw[HS2.out];exact⟨nothB,by rw[errV_zero];rfl,fun _=>rfl,onto hb02 hb3⟩
     ·rw[if_neg hx] at HS2
      have q1:(tx != [])=true:=by simpa using hx
      have q2:(tx==[])=false:=by simpa using hx
      have q3:tx.isEmpty=false:=by simpa using hx
      clear hx;go_wp2_with fail;refine KX.out.mono ?_;rintro e w3⟨rfl,hb3⟩;go_wp2;go_ret2;unfold TellPost;rw[HS2.out];exact⟨tx,by rw[errV_zero];rfl,fun _=>rfl,onto hb02 hb3⟩
    ·obtain rfl:key=[118,105,101,119,32,49]:=by
      rw[(E1.out [118,105,101,119] 1 (by decide) (by omega)).2 ⟨rfl,hn⟩];decide +kernel
     clear hn E1 HKEY hs0 hwr;go_wp2_with fail;refine KN.out.mono ?_;rintro e w2⟨rfl,hb2⟩;have d0:=(hb2.cell (p:=⟨b,off,none⟩) hbl2).trans c0x;have hb02:=onto HBX.out hb2;have HS2:Hid (c.tell [[118,105,101,119],w1]=((c.on nn).1.viewT,(c.on nn).2)):=HS.out;have KX:=Lib.hid (yView_any ea L c nn w2 ((HGX.out.below hb2).sub (by simp)) (HTX.out.below hb2) (HX.out.below hb2) HI.out hwf);clear HS;go_wp2_with fail;refine KX.out.mono ?_;rintro e w3⟨rfl,hb3⟩;go_wp2;go_ret2;unfold TellPost;rw[HS2.out];exact⟨_,rfl,fun h=>rfl,onto hb02 hb3⟩
    ·obtain rfl:key=[104,105,115,116,111,114,121,32,49]:=by
      rw[(E1.out [104,105,115,116,111,114,121] 1 (by decide) (by omega)).2 ⟨rfl,hn⟩];decide +kernel
     clear hn E1 HKEY hs0 hwr;go_wp2_with fail;refine KN.out.mono ?_;rintro e w2⟨rfl,hb2⟩;have d0:=(hb2.cell (p:=⟨b,off,none⟩) hbl2).trans c0x;have hb02:=onto HBX.out hb2;have HS2:Hid (c.tell [[104,105,115,116,111,114,121],w1]=(histT (c.on nn).1.h,(c.on nn).2)):=HS.out;have KX:=Lib.hid (yHistory_any ea L c nn w2 ((HGX.out.below hb2).sub (by simp)) (HTX.out.below hb2) (HX.out.below hb2) HI.out hwf);have hif:Hid ((c.on nn).2=0→(if (c.on nn).2=0 then histT (c.on nn).1.h else[])=histT (c.on nn).1.h):=fun h=>if_pos h
     generalize (if (c.on nn).2=0 then histT (c.on nn).1.h else[])=tx at KX hif;clear HS;go_wp2_with fail;refine KX.out.mono ?_;rintro e w3⟨rfl,hb3⟩;go_wp2;go_ret2;unfold TellPost;rw[HS2.out];exact⟨tx,rfl,fun h=>hif.out h,onto hb02 hb3⟩
    ·obtain rfl:key=[116,111,116,97,108,32,49]:=by
      rw[(E1.out [116,111,116,97,108] 1 (by decide) (by omega)).2 ⟨rfl,hn⟩];decide +kernel
     clear hn E1 HKEY hs0 hwr;go_wp2_with fail;refine KN.out.mono ?_;rintro e w2⟨rfl,hb2⟩;have d0:=(hb2.cell (p:=⟨b,off,none⟩) hbl2).trans c0x;have hb02:=onto HBX.out hb2;have HS2:Hid (c.tell [[116,111,116,97,108],w1]=(Lib.itoa (lastF (c.on nn).1.h).sum,(c.on nn).2)):=HS.out;have KX:=Lib.hid (yTotal_any ea L c nn w2 ((HGX.out.below hb2).sub (by simp)) (HTX.out.below hb2) (HX.out.below hb2) HI.out hwf);have hif:Hid ((c.on nn).2=0→(if (c.on nn).2=0 then Lib.itoa (lastF (c.on nn).1.h).sum else[])=Lib.itoa (lastF (c.on nn).1.h).sum):=fun h=>if_pos h
     generalize (if (c.on nn).2=0 then Lib.itoa (lastF (c.on nn).1.h).sum else[])=tx at KX hif;clear HS;go_wp2_with fail;refine KX.out.mono ?_;rintro e w3⟨rfl,hb3⟩;go_wp2;go_ret2;unfold TellPost;rw[HS2.out];exact⟨tx,rfl,fun h=>hif.out h,onto hb02 hb3⟩
  ·have HS:Hid (c.tell (w0::r)=([],1)):=by
    unfold Hid CP.tell;rw[if_neg (fun h=>hA ⟨h.2,by have:=HN.out;rw[h.1] at this;omega⟩),if_neg (fun h=>hB ⟨h.2,by have:=HN.out;rw[h.1] at this;omega⟩),if_neg (fun h=>hC ⟨h.2,by have:=HN.out;rw[h.1] at this;omega⟩)]
   have kf:∀(K y:List UInt8) (d:Int),K=y++32::Lib.itoa d→(32:UInt8)∉y→(0≤d∧d≤9)→¬(w0=y∧(n:Int)-1=d)→(key==K)=false:=fun K y d hK h1 h2 h3=>beq_eq_false_iff_ne.2 (fun e=>h3 ((E1.out y d h1 h2).1 (e.trans hK)))
   have k1:=kf [99,114,101,119,32,48] [99,114,101,119] 0 (by decide +kernel) (by decide) (by omega) hA;have k2:=kf [116,105,109,101,32,48] [116,105,109,101] 0 (by decide +kernel) (by decide) (by omega) hB;have k3:=kf [115,116,97,116,101,32,49] [115,116,97,116,101] 1 (by decide +kernel) (by decide) (by omega) (fun h=>hC ⟨by simp[askB,h.1],h.2⟩);have k4:=kf [118,105,101,119,32,49] [118,105,101,119] 1 (by decide +kernel) (by decide) (by omega) (fun h=>hC ⟨by simp[askB,h.1],h.2⟩);have k5:=kf [104,105,115,116,111,114,121,32,49] [104,105,115,116,111,114,121] 1 (by decide +kernel) (by decide) (by omega) (fun h=>hC ⟨by simp[askB,h.1],h.2⟩);have k6:=kf [116,111,116,97,108,32,49] [116,111,116,97,108] 1 (by decide +kernel) (by decide) (by omega) (fun h=>hC ⟨by simp[askB,h.1],h.2⟩);have g1:=HGX.out.cell 1 (by simp);simp only[gOf] at g1;clear kf hA hB hC E1 HKEY hs0 hwr;go_wp2;go_quiet (fail);go_wp2;go_ret2;unfold TellPost;rw[HS.out];exact⟨[],rfl,fun h=>absurd h (by decide),HBX.out.trans (below_drewN (Below.refl _ _) _)⟩
set_option maxRecDepth 100000 in
theorem yFresh_any(ea:Nat→Addr)(w:World)(hg:Glob w ea [2,5,7,4]) :
 Calls Tryz.prog 30 #[] w fun e w'=>∃L:CL,e=.returned (.tuple #[.pointer (some ⟨L.cb,0,none⟩),.nilIface])∧ClusAt w' L freshC∧Fresh w.heap.size L∧Below w.heap.size w w':=by
 have hb0:Below w.heap.size w (w.alloc (.cells #[.int .i64 1,.int .i64 2,.int .i64 3] 3)):=(Below.refl _ _).alloc (Nat.le_refl _) _;have KN:=Lib.hid (cNew_ok ea (some ⟨w.heap.size,0,none⟩) 3 3 [1,2,3] _ (hg.below hb0) rfl (RowAt.new_at w (encInts [1,2,3]) 3 _ rfl) (by decide +kernel));clear hg;go_enter Tryz.func30,Tryz.ntmps30;go_wp2_with fail;refine KN.out.mono ?_;rintro e w1⟨L,rfl,hC1,hL,hb1⟩;go_wp2;go_ret2;exact⟨L,rfl,hC1,hL.weak hb0.size,onto hb0 hb1⟩
set_option maxRecDepth 100000 in
theorem yNew_any(ea:Nat→Addr)(w:World)(hg:Glob w ea [2,5,7,4]) :
 Calls Tryz.prog 8 #[] w fun e w'=>∃Y:YL,e=.returned (.pointer (some ⟨Y.yb,0,none⟩))∧YardAt w' w.heap.size Y YP.new∧Below w.heap.size w w':=by
 have KD:=Lib.hid (newDisk_any [] w (by simp));have KF:=Lib.hid (fun(W:World) (hb:Below w.heap.size w W)=>yFresh_any ea W (hg.below hb));clear hg;go_enter Tryz.func8,Tryz.ntmps8;go_wp2_with fail;refine KD.out.mono ?_;rintro e w1⟨D,rfl,hD1,hb1⟩;have K2:=Lib.hid (KF.out w1 hb1);go_wp2_with fail;refine K2.out.mono ?_;rintro e w2⟨L,rfl,hC2,hL2,hb2⟩;have HC2:=Lib.hid hC2;have HD2:=Lib.hid (hD1.below hb2);have hv2:=onto hb1 hb2;clear hC2 hD1;go_wp2;go_ret;have hal:Below w2.heap.size w2 (w2.alloc (.cells #[.pointer (some ⟨L.cb,0,none⟩),.pointer (some ⟨D,0,none⟩)] 69)):=(Below.refl _ _).alloc (Nat.le_refl _) _;exact⟨⟨w2.heap.size,L,D⟩,rfl,⟨Blok.new w2 _ _,HC2.out.below hal,HD2.out.below hal,fresh_inv,hv2.size,hL2.weak hb1.size,by decide⟩,onto hv2 hal⟩
theorem yTape_any(base:Nat)(Y:YL)(y:YP)(w:World)(h:YardAt w base Y y) :
 Calls Tryz.prog 15 #[.pointer (some ⟨Y.yb,0,none⟩)] w fun e w'=>e=.returned (.pointer (some ⟨Y.D,0,none⟩))∧w=w':=by
 have c1:=h.blk.cell 1 rfl;clear h;go_enter Tryz.func15,Tryz.ntmps15;go_wp2;go_ret;exact⟨rfl,rfl⟩
theorem InvP.hist{c:CP}(h:InvP c):∀i x,c.f i=some x→x.h.length≤1000:=fun i x hx=>by
 have hN:=h.node i x hx
 by_cases ha:x.st=2
 ·have:=(hN.on ha).2.2.2.2.1;have:=h.time;omega
 ·rw[(hN.off ha).2.2.2];simp
theorem yCluster_any(base:Nat)(Y:YL)(y:YP)(w:World)(h:YardAt w base Y y) :
 Calls Tryz.prog 18 #[.pointer (some ⟨Y.yb,0,none⟩)] w fun e w'=>∃L':CL,e=.returned (.pointer (some ⟨L'.cb,0,none⟩))∧ClusAt w' L' y.c∧Fresh w.heap.size L'∧Below w.heap.size w w':=by
 have c0:=h.blk.cell 0 rfl;have KC:=Lib.hid (cCopy_any Y.L y.c w h.clus h.inv.hist);clear h;go_enter Tryz.func18,Tryz.ntmps18;go_wp2_with fail;refine KC.out.mono ?_;rintro e w1⟨L',rfl,hC1,hL1,hb1⟩;go_wp2;go_ret;exact⟨L',rfl,hC1,hL1,hb1⟩
def DoPost(ea:Nat→Addr)(base:Nat)(Y:YL)(r:YP×List UInt8×Nat)(w:World)(e:Ending)(w':World):Prop:=
 ∃Y':YL,e=.returned (.tuple #[.string ⟨r.2.1.toArray⟩,errV ea r.2.2])∧YardAt w' base Y' r.1∧YStep w w' Y Y'
theorem apF_cut{s:Dk}{t:List UInt8}(h : -9223372036854775808≤s.cut∧s.cut≤9223372036854775807) : -9223372036854775808≤(apF s t).1.cut∧(apF s t).1.cut≤9223372036854775807:=by
 unfold apF
 split
 ·exact h
 ·split
  ·exact h
  ·unfold wrF
   split
   ·exact h
   ·split
    ·exact h
    ·rename_i h1 _ _ h2
     dsimp only
     split
     ·omega
     ·exact h
theorem envC_new{ea:Nat→Addr}{w0 w:World}{L:CL}(hG:GlobC w0 ea)(hT:TxtEnv w0)(hb:Below w0.heap.size w0 w)(hL:Fresh w0.heap.size L):EnvC ea L w:=fun W hW=>by
 have h:=hW.base hb (fun k hk=>by
  rcases hk with rfl|rfl|rfl
  ·exact hL.cb
  ·exact hL.bb
  ·exact hL.mb)
 exact⟨(hG.sub (fun _ hk=>hk)).below h,hT.below h⟩
theorem YardAt.moved{w w3 w4:World}{base:Nat}{Y:YL}{y:YP}(h:YardAt w base Y y)(hb3:Below w.heap.size w w3){s':Dk}(hD:DiskAt w4 base Y.D s')(hS:Step base Y.D w3 w4)(hc : -9223372036854775808≤s'.cut∧s'.cut≤9223372036854775807) :
 YardAt w4 base Y ⟨y.c,s'⟩∧YStep w w4 Y Y:=by
 have h3:=h.below hb3;have hF:Fr (DOwn w3 Y.D) w3 w4:=⟨hS.below.os,hS.below.tape,hS.below.output,hS.below.size,hS.own⟩;have hdo:∀k,k<w.heap.size→DOwn w3 Y.D k→DOwn w Y.D k:=fun k _ hk=>hk.same (hb3.block _ h.disk.lt)
 have hyb:¬DOwn w3 Y.D Y.yb:=fun hk=>by
  obtain⟨_,_,cur,fz,t,h1,h2⟩:=h3.disk.owns hk;rw[show w3.heap[Y.yb]?=_ from h3.blk] at h1;injection h1 with h1;injection h1 with _ e;subst e
  rcases h2 with h2|h2
  ·revert h2;decide
  ·revert h2;decide
 refine⟨⟨(hF.block _ h3.blk.lt hyb).trans h3.blk,h3.clus.turned hF (fun k _ hk=>?_),hD,h.inv,h.low,h.lowc,hc⟩,⟨?_,rfl,rfl,fun k hk hx=>hdo k hk (hS.mv k (Nat.lt_of_lt_of_le hk hb3.size) hx),fun _ hk=>Or.inl hk⟩⟩
 ·obtain⟨_,_,cur,fz,t,h1,h2⟩:=h3.disk.owns hk
  exact⟨cur,fz,t,h1,h2.elim Or.inl (fun e=>Or.inr (Or.inl e))⟩
 ·refine(Fr.of hb3).then hF (fun i hi=>?_)
  by_cases hl:i<w.heap.size
  ·exact Or.inl (Or.inr (hdo i hl hi))
  ·exact Or.inr (by omega)
theorem YardAt.take{w w3 w4:World}{base:Nat}{Y:YL}{y:YP}{L':CL}{c':CP}(h:YardAt w base Y y)(hb3:Below w.heap.size w w3){s':Dk}(hD:DiskAt w4 base Y.D s')(hS:Step base Y.D w3 w4)(hc : -9223372036854775808≤s'.cut∧s'.cut≤9223372036854775807)
 (hC:ClusAt w3 L' c') (hI:InvP c') (hn:∀j,L'.own j→w.heap.size≤j) :
 YardAt (w4.setCell ⟨Y.yb,0,none⟩ (.pointer (some ⟨L'.cb,0,none⟩))) base ⟨Y.yb,L',Y.D⟩ ⟨c',s'⟩∧YStep w (w4.setCell ⟨Y.yb,0,none⟩ (.pointer (some ⟨L'.cb,0,none⟩))) Y ⟨Y.yb,L',Y.D⟩:=by
 obtain⟨h4,st4⟩:=h.moved hb3 hD hS hc;have h3:=h.below hb3;have hF:Fr (DOwn w3 Y.D) w3 w4:=⟨hS.below.os,hS.below.tape,hS.below.output,hS.below.size,hS.own⟩
 have hC4:ClusAt w4 L' c':=hC.turned hF (fun k _ hk=>by
  obtain⟨_,_,cur,fz,t,h1,h2⟩:=h3.disk.owns hk
  exact⟨cur,fz,t,h1,h2.elim Or.inl (fun e=>Or.inr (Or.inl e))⟩)
 have hF5:Fr (fun k=>k=Y.yb) w4 (w4.setCell ⟨Y.yb,0,none⟩ (.pointer (some ⟨L'.cb,0,none⟩))):=(Fr.refl (fun k=>k=Y.yb) w4).setCell (p:=⟨Y.yb,0,none⟩) (Or.inl rfl) _
 have hno:∀k,DOwn w4 Y.D k→¬(k=Y.yb):=fun k hk e=>by
  subst e;obtain⟨_,_,cur,fz,t,h1,h2⟩:=hD.owns hk;rw[show w4.heap[Y.yb]?=_ from h4.blk] at h1;injection h1 with h1;injection h1 with _ e;subst e
  rcases h2 with h2|h2
  ·revert h2;decide
  ·revert h2;decide
 have hbl:=h4.blk.set 0 (.pointer (some ⟨L'.cb,0,none⟩));have hsz:base≤w.heap.size:=h.size;refine⟨⟨by simpa using hbl,hC4.turned hF5 (fun k _ e=>by subst e;exact⟨_,_,_,h4.blk,Or.inr (Or.inr rfl)⟩),hD.fr hF5 hno,hI,h.low,⟨Nat.le_trans hsz (hn _ (Or.inl rfl)),Nat.le_trans hsz (hn _ (Or.inr (Or.inl rfl))),Nat.le_trans hsz (hn _ (Or.inr (Or.inr rfl)))⟩,hc⟩,⟨?_,rfl,rfl,fun k hk hx=>st4.mv k hk (DOwn.fr hD hF5 hno hx),fun j hj=>Or.inr (hn j hj)⟩⟩;exact st4.fr.then hF5 (fun i e=>Or.inl (Or.inl e))
def EnvY(ea:Nat→Addr)(base:Nat)(w:World):Prop:=gOf 11<base∧∀W,Below base w W→GlobC W ea∧TxtEnv W
theorem EnvY.of{ea:Nat→Addr}{base:Nat}{w0 w:World}(hG:GlobC w0 ea)(hT:TxtEnv w0)(hb:Below w0.heap.size w0 w)(hB:w0.heap.size≤base):EnvY ea base w:=
 ⟨Nat.lt_of_lt_of_le (hG.glob.lt 11 (by simp)) hB,fun _ hW=>⟨hG.below (hb.trans (hW.mono hB)),hT.below (hb.trans (hW.mono hB))⟩⟩
theorem EnvY.later{ea:Nat→Addr}{base:Nat}{w w':World}(h:EnvY ea base w)(hb:Below base w w'):EnvY ea base w':=⟨h.1,fun W hW=>h.2 W (hb.trans hW)⟩
theorem EnvY.now{ea:Nat→Addr}{base:Nat}{w:World}(h:EnvY ea base w):GlobC w ea∧TxtEnv w:=h.2 w (Below.refl _ _)
set_option maxRecDepth 100000 in
set_option maxHeartbeats 3200000 in
theorem yDo_any(ea:Nat→Addr)(base:Nat)(Y:YL)(y:YP)(line:List UInt8)(w:World)(hE:EnvY ea base w)(hY:YardAt w base Y y)(hl:line.length≤100000) :
 Calls Tryz.prog 10 #[.pointer (some ⟨Y.yb,0,none⟩),.string ⟨line.toArray⟩] w (DoPost ea base Y (y.doF line) w):=by
 obtain⟨hG,hT⟩:=hE.now;have hgb:=hE.1;have HE:=Lib.hid hE;have KS:=Lib.hid (split_any 32 line w hT (by omega));obtain⟨ws,hws⟩:∃ws,ws=cutL 32 line:=⟨_,rfl⟩
 have hne:ws≠[]:=by rw[hws];exact cutL_ne 32 line
 have hfree:∀x∈ws,(32:UInt8)∉x:=by rw[hws];exact cutL_free 32 line
 have hpc:∀x∈ws,x.length≤100000:=fun x hx=>by rw[hws] at hx;exact Nat.le_trans (cutL_piece 32 line x hx) hl
 have hlen:ws.length≤100001:=by rw[hws];exact Nat.le_trans (cutL_length 32 line) (by omega)
 obtain⟨W1,hW1⟩:∃W,W=w.alloc (.cells (encTexts ws).toArray 9):=⟨_,rfl⟩
 have hb1:Below w.heap.size w W1:=by rw[hW1];exact(Below.refl _ _).alloc (Nat.le_refl _) _
 have hr1:RowAt W1 (some ⟨w.heap.size,0,none⟩) (encTexts ws):=by rw[hW1];exact RowAt.new_at w _ _ _ rfl
 rw[←hws,←hW1] at KS;obtain⟨n,hn⟩:∃n,n=ws.length:=⟨_,rfl⟩
 have hn0:0<n:=by rw[hn];exact List.length_pos_iff.2 hne
 have hD:y.doF line=if wordsN (ws.getD 0 [])≠(n:Int)-1 then(y,if (y.c.tell ws).2=0 then(y.c.tell ws).1 else[],(y.c.tell ws).2)
  else if (y.c.change ws).2.2≠0 then(y,[],(y.c.change ws).2.2)
  else if (apF y.d line).2≠0 then(⟨y.c,(apF y.d line).1⟩,[],(apF y.d line).2)
  else(⟨(y.c.change ws).1,(apF y.d line).1⟩,(y.c.change ws).2.1,0):=by rw[YP.doF,←hws,hn]
 have HD:=Lib.hid hD;rw[←hn] at KS hlen
 have q0:W1.cell? ⟨w.heap.size,0,none⟩=some (.string ⟨(ws.getD 0 []).toArray⟩):=by
  have:=hr1.cell (i:=0) (v:=.string ⟨(ws.getD 0 []).toArray⟩) (by
   obtain⟨x,r,e⟩:=List.exists_cons_of_ne_nil hne
   rw[e];rfl)
  simpa using this
 have HN:=Lib.hid hn.symm;obtain⟨w0,hw0⟩:∃w0,w0=ws.getD 0 []:=⟨_,rfl⟩
 have HW0:=Lib.hid hw0.symm;rw[←hw0] at q0 HD;have KW:=Lib.hid (fun W:World=>yWords_any w0 W);have HG:=Lib.hid hG;have HT:=Lib.hid hT;have HY:=Lib.hid hY;have HR1:=Lib.hid hr1;have HFR:=Lib.hid hfree;have HPC:=Lib.hid hpc;have HNE:=Lib.hid hne;have hlt:w.heap.size<W1.heap.size:=by rw[hW1];simp
 have y0:=((hY.below hb1).blk).cell 0 rfl;clear hW1 hws hD hn hG hT hE hY hr1 hfree hpc hne hw0;have hn1:(1:Int)≤(n:Int):=by omega
 by_cases hd:wordsN w0=(n:Int)-1
 ·have HD2:Hid (y.doF line=if (y.c.change ws).2.2≠0 then(y,[],(y.c.change ws).2.2)
   else if (apF y.d line).2≠0 then(⟨y.c,(apF y.d line).1⟩,[],(apF y.d line).2)
   else(⟨(y.c.change ws).1,(apF y.d line).1⟩,(y.c.change ws).2.1,0)):=by unfold Hid;rw[HD.out,if_neg (fun h=>h hd)]
  have hdb:(wordsN w0==(n:Int)-1)=true:=beq_iff_eq.2 hd;have HDW:=Lib.hid hd;clear hd HD;generalize hk:wordsN w0=k at *;have HKW:=Lib.hid hk;clear hk;have KC:=Lib.hid (cCopy_any Y.L y.c W1 (HY.out.clus.below hb1) HY.out.inv.hist);go_enter Tryz.func10,Tryz.ntmps10;go_wp2_with fail;refine KS.out.mono ?_;rintro e wx⟨rfl,rfl⟩;go_wp2_with fail;refine(KW.out _).mono ?_;rintro e wx⟨rfl,rfl⟩;go_wp2_with fail;refine KC.out.mono ?_;rintro e w2⟨L',rfl,hC2,hL2,hb2⟩;have hv2:=onto hb1 hb2;have KCH:=Lib.hid (yChange_any ea L' y.c (some ⟨w.heap.size,0,none⟩) n n ws w2 (envC_new HG.out HT.out hv2 (hL2.weak hb1.size)) hC2 HY.out.inv (HR1.out.below hb2) HN.out HPC.out (by rw[HW0.out];exact HKW.out.trans HDW.out) hn0);have y1:=((HY.out.below hv2).blk).cell 1 rfl;have y0':=((HY.out.below hv2).blk).cell 0 rfl;have HL2:=Lib.hid (hL2.weak hb1.size);clear KC KS KW hC2 hL2 q0 y0;go_wp2_with fail;refine KCH.out.mono ?_;rintro e w3⟨v,ev,t,pl,rfl,hE3,hF3,hok⟩
  have hv3:Below w.heap.size w w3:=hF3.base hv2 (fun k hk=>by
   rcases hk with rfl|rfl|rfl
   ·exact HL2.out.cb
   ·exact HL2.out.bb
   ·exact HL2.out.mb)
  by_cases hz:(y.c.change ws).2.2=0
  ·rw[hz] at hE3
   obtain rfl:=hE3.nil;obtain⟨L3,rfl,rfl,hC3,hown3⟩:=hok hz;have HC3:=Lib.hid hC3
   have HO3:=Lib.hid (fun j (hj:L3.own j)=>(hown3 j hj).elim (fun h=>(by
    rcases h with rfl|rfl|rfl
    ·exact HL2.out.cb
    ·exact HL2.out.bb
    ·exact HL2.out.mb:w.heap.size≤j)) (fun h=>Nat.le_trans hv2.size h))
   have HI3:=Lib.hid (HY.out.inv.change ws hz);have hcut:=HY.out.cut;have hY3:=HY.out.below hv3;have KA:=Lib.hid (tapeAppend_any ea base Y.D y.d line w3 ((HG.out.below hv3).sub (by simp)) (HT.out.below hv3) hY3.disk hY3.size (by omega) hgb hcut);have z1:=hY3.blk.cell 1 rfl;have HCT:=Lib.hid (apF_cut (t:=line) hcut);have HD3:Hid (y.doF line=if (apF y.d line).2≠0 then(⟨y.c,(apF y.d line).1⟩,[],(apF y.d line).2) else(⟨(y.c.change ws).1,(apF y.d line).1⟩,(y.c.change ws).2.1,0)):=by unfold Hid;rw[HD2.out,if_neg (fun h=>h hz)]
   clear hz hok hC3 hown3 hE3 hcut hY3 HD2;generalize apF y.d line=q at *;obtain⟨q1,q2⟩:=q;dsimp only at KA HCT HD3;go_wp2_with fail;refine KA.out.mono ?_;rintro e w4⟨rfl,hD4,hS4⟩
   by_cases ha:q2=0
   ·subst ha
    obtain⟨t1,t2⟩:=HY.out.take hv3 hD4 hS4 HCT.out HC3.out HI3.out HO3.out;have hm:=(HY.out.moved hv3 hD4 hS4 HCT.out).1.blk;have m0:=hm.cell 0 rfl;have mf:=hm.frozen 0;have HT1:=Lib.hid t1;have HT2:=Lib.hid t2;rw[errV_zero];clear t1 t2 hm hD4 hS4;go_wp2;go_ret2;unfold DoPost;rw[HD3.out,if_neg (fun h=>h rfl)];exact⟨_,by rw[errV_zero];rfl,HT1.out,HT2.out⟩
   ·obtain⟨t1,t2⟩:=HY.out.moved hv3 hD4 hS4 HCT.out
    have HT1:=Lib.hid t1;have HT2:=Lib.hid t2;have HZ:=Lib.hid ha;have hv4:Below base w w4:=t2.below HY.out;have hE4:ErrType w4:=(HE.out.2 w4 hv4).1.typ;have KB:=Lib.hid (yBare_any ea (errV ea q2) q2 (-1) w4 hE4 (ErrIs.bare ea w4 q2) ha);have HEV:=Lib.hid (errV_pos ea ha);rw[HEV.out] at KB ⊢;clear t1 t2 ha hD4 hS4 hE4;go_wp2_with fail;refine KB.out.mono ?_;rintro e w5⟨rfl,hb5⟩;go_wp2;go_ret2;unfold DoPost;rw[HD3.out];rw[if_pos HZ.out];refine⟨Y,?_,HT1.out.below hb5,HT2.out.trans (YStep.of HT1.out hb5)⟩;dsimp only;rw[HEV.out]
    rfl
  ·have HE3:=Lib.hid hE3
   have HZ:=Lib.hid hz;obtain⟨et,ex,rfl⟩:=hE3.held hz;have KB:=Lib.hid (yBare_any ea _ _ pl w3 (HG.out.below hv3).typ HE3.out hz);have HD3:Hid (y.doF line=(y,[],(y.c.change ws).2.2)):=by unfold Hid;rw[HD2.out,if_pos hz]
   clear hz hE3 hok;go_wp2_with fail;refine KB.out.mono ?_;rintro e w4⟨rfl,hb4⟩;go_wp2;go_ret2;have hv4:=onto hv3 hb4;unfold DoPost;rw[HD3.out];exact⟨Y,rfl,HY.out.below hv4,YStep.of HY.out hv4⟩
 ·have HD2:Hid (y.doF line=(y,if (y.c.tell ws).2=0 then(y.c.tell ws).1 else[],(y.c.tell ws).2)):=by unfold Hid;rw[HD.out,if_pos hd]
  have hdb:(wordsN w0==(n:Int)-1)=false:=beq_eq_false_iff_ne.2 hd;clear hd HD;generalize hk:wordsN w0=k at *;clear hk;go_enter Tryz.func10,Tryz.ntmps10;go_wp2_with fail;refine KS.out.mono ?_;rintro e wx⟨rfl,rfl⟩;go_wp2_with fail;refine(KW.out _).mono ?_;rintro e wx⟨rfl,rfl⟩;have KT:=Lib.hid (yTell_any ea Y.L y.c (some ⟨w.heap.size,0,none⟩) n n ws wx (((HG.out.below hb1).sub (fun _ hk=>hk)).sub (by simp)) (HT.out.below hb1) (HY.out.clus.below hb1) HY.out.inv HR1.out HN.out hn0 (by omega) HPC.out HFR.out);clear KW KS q0;go_wp2_with fail;refine KT.out.mono ?_;rintro e w2⟨t,rfl,ht,hb2⟩;have hv2:=onto hb1 hb2;generalize y.c.tell ws=r at *;obtain⟨r1,r2⟩:=r;dsimp only at ht HD2 ⊢
  by_cases hz:r2=0
  ·subst hz
   obtain rfl:=ht rfl;rw[errV_zero];clear ht;go_wp2;go_ret2;unfold DoPost;rw[HD2.out];exact⟨Y,by rw[errV_zero];rfl,HY.out.below hv2,YStep.of HY.out hv2⟩
  ·have HZ:=Lib.hid hz
   have KB:=Lib.hid (yBare_any ea (errV ea r2) r2 (-1) w2 (HG.out.below hv2).typ (ErrIs.bare ea w2 r2) hz);have HEV:=Lib.hid (errV_pos ea hz);rw[HEV.out] at KB ⊢;clear hz ht;go_wp2_with fail;refine KB.out.mono ?_;rintro e w4⟨rfl,hb4⟩;go_wp2;go_ret2;have hv4:=onto hv2 hb4;unfold DoPost;rw[HD2.out];refine⟨Y,?_,HY.out.below hv4,YStep.of HY.out hv4⟩;dsimp only;rw[if_neg HZ.out,HEV.out]
   rfl
def OpenPost(ea:Nat→Addr)(base D:Nat)(s:Dk)(l:List (List UInt8))(w:World)(e:Ending)(w':World):Prop:=
 ((freshC.linesF 0 l).2.1=0∧∃Y:YL,Y.D=D∧e=.returned (.tuple #[.pointer (some ⟨Y.yb,0,none⟩),.nilIface])∧YardAt w' base Y ⟨(freshC.linesF 0 l).1,⟨s.b.take (l.flatMap recB).length,false,-1⟩⟩∧Fr (DOwn w D) w w'∧(∀k,k<w.heap.size→DOwn w' D k→DOwn w D k)∧w.heap.size≤Y.yb∧∀j,Y.L.own j→w.heap.size≤j) ∨
 ((freshC.linesF 0 l).2.1≠0∧∃v,e=.returned (.tuple #[.pointer none,v])∧ErrIs ea w' v (freshC.linesF 0 l).2.1 (freshC.linesF 0 l).2.2∧Fr (DOwn w D) w w')
theorem text_cell{w:World}{a:Option Addr}{l:List (List UInt8)}(h:RowAt w a (encTexts l))(k:Nat)(hk:k<l.length) :
 ∃b off,a=some ⟨b,off,none⟩∧b<w.heap.size∧w.cell? ⟨b,off+k,none⟩=some (.string ⟨l[k].toArray⟩):=by
 obtain⟨b,off,rfl,hb,hc⟩:=h.at (fun e=>by have h1:=congrArg List.length e;simp[encTexts] at h1;subst h1;simp at hk);exact⟨b,off,rfl,hb,hc k _ (by simp[encTexts,hk])⟩
set_option maxRecDepth 100000 in
set_option maxHeartbeats 3200000 in
theorem yOpen_any(ea:Nat→Addr)(base D:Nat)(s:Dk)(l:List (List UInt8))(w:World)(hE:EnvY ea base w)(hbz:base≤w.heap.size)(hD:DiskAt w base D s)(hP:Parse s.b l)(hm:l.length≤300000) :
 Calls Tryz.prog 21 #[.pointer (some ⟨D,0,none⟩)] w (OpenPost ea base D s l w):=by
 have KR:=Lib.hid (recover_any base D s l hP w hD hbz (fun W hs=>(hE.2 W hs.below).2));have hl4:∀x∈l,x.length≤4000:=hP.1
 have HE:=Lib.hid hE;have HD:=Lib.hid hD;have HL4:=Lib.hid hl4;have HDW:=Lib.hid (fun k (hk:DOwn w D k)=>(hD.owns hk).1);clear hE hD hP hl4;go_enter Tryz.func21,Tryz.ntmps21;go_wp2_with fail;refine KR.out.mono ?_;rintro e w1⟨v,rfl,hown,hD1,hS1⟩;obtain⟨ra,rc,rfl⟩:=owned_shape hown;have hb1:Below base w w1:=hS1.below;have KF:=Lib.hid (yFresh_any ea w1 (((HE.out.2 w1 hb1).1.sub (fun _ hk=>hk)).sub (by simp)));have hF1:Fr (DOwn w D) w w1:=⟨hS1.below.os,hS1.below.tape,hS1.below.output,hS1.below.size,hS1.own⟩;have HM1:=Lib.hid hS1.mv;have HF1:=Lib.hid hF1;have HB1:=Lib.hid hb1;go_wp2_with fail;refine KF.out.mono ?_;rintro e w2⟨L,rfl,hC2,hL2,hb2⟩;have HRW:=Lib.hid ((RowAt.owned hown).1);have HD1:=Lib.hid hD1;have hs1:=hS1.size;have hl0:(freshC.linesF 0 (l.take 0)).2.1=0:=rfl;have HLEN:=Lib.hid (show l.length≤300000 from hm);obtain⟨nl,hnl⟩:∃nl,nl=l.length:=⟨_,rfl⟩
 have HNL:=Lib.hid hnl;rw[←hnl];rw[←hnl] at hm;have HI0:Hid (InvP (freshC.linesF 0 (l.take 0)).1):=fresh_inv;have hC2':ClusAt w2 L (freshC.linesF 0 (l.take 0)).1:=by rw[List.take_zero];exact hC2
 have hL2':∀j,L.own j→w1.heap.size≤j:=fun j hj=>by
  rcases hj with rfl|rfl|rfl
  ·exact hL2.cb
  ·exact hL2.bb
  ·exact hL2.mb
 have HHL0:=Lib.hid hl0;clear hnl hown hD1 hS1 hF1 hb1 KF KR hC2 hL2 hl0;go_wp2;go_loopw [6,27] (fun c6 i wr=>∃(k:Nat) (L:CL),k≤nl∧i=.int .i64 k∧c6=.pointer (some ⟨L.cb,0,none⟩)∧Hid ((freshC.linesF 0 (l.take k)).2.1=0)∧ClusAt wr L (freshC.linesF 0 (l.take k)).1∧Hid (InvP (freshC.linesF 0 (l.take k)).1)∧(∀j,L.own j→w1.heap.size≤j)∧Below w1.heap.size w1 wr) (fun _ i _=>nl-(intOf i).toNat)
 case atStart=>exact⟨0,L,Nat.zero_le _,rfl,rfl,HHL0,hC2',HI0,hL2',hb2⟩
 case round=>
  clear hC2' HI0 hL2' hb2 HHL0;obtain⟨k,L,hk,rfl,rfl,hok,hC,hI,hL,hb⟩:=hrel
  by_cases hlt:k<nl
  ·have hkl:k<l.length:=by rw[←HNL.out];exact hlt
   obtain⟨tb,tof,rfl,htb,ct⟩:=text_cell (HRW.out.below hb) k hkl;have hl4:l[k].length≤4000:=HL4.out _ (List.getElem_mem hkl);have HNX:=Lib.hid (fun h2=>linesF_next l freshC k hkl hok.out h2);have HSP:=Lib.hid (fun h2=>linesF_stop l freshC 0 k hkl hok.out h2);have hi0:(0:Int)≤(k:Int):=by omega
   have hi1:(k:Int)<(nl:Int):=by omega
   have hbw:Below base w wr:=HB1.out.trans (hb.mono (Nat.le_trans hbz hs1));have HOK:=Lib.hid hok;clear hok;generalize (freshC.linesF 0 (l.take k)).1=c at *;generalize l[k]=line at *;have KS:=Lib.hid (split_any 32 line wr (HE.out.2 wr hbw).2 (by omega));obtain⟨ws,hws⟩:∃ws,ws=cutL 32 line:=⟨_,rfl⟩
   have hne:ws≠[]:=by rw[hws];exact cutL_ne 32 line
   have hpc:∀x∈ws,x.length≤100000:=fun x hx=>by rw[hws] at hx;exact Nat.le_trans (cutL_piece 32 line x hx) (by omega)
   have hlen:ws.length≤100001:=by rw[hws];exact Nat.le_trans (cutL_length 32 line) (by omega)
   obtain⟨W1,hW1⟩:∃W,W=wr.alloc (.cells (encTexts ws).toArray 9):=⟨_,rfl⟩
   have hb1:Below wr.heap.size wr W1:=by rw[hW1];exact(Below.refl _ _).alloc (Nat.le_refl _) _
   have hr1:RowAt W1 (some ⟨wr.heap.size,0,none⟩) (encTexts ws):=by rw[hW1];exact RowAt.new_at wr _ _ _ rfl
   rw[←hws,←hW1] at KS;obtain⟨n,hn⟩:∃n,n=ws.length:=⟨_,rfl⟩
   have hn0:0<n:=by rw[hn];exact List.length_pos_iff.2 hne
   have hD:c.lineF line=if wordsN (ws.getD 0 [])≠(n:Int)-1 then(c,1) else((c.change ws).1,(c.change ws).2.2):=by rw[CP.lineF,←hws,hn]
   have HDF:=Lib.hid hD;rw[←hn] at KS hlen
   have q0:W1.cell? ⟨wr.heap.size,0,none⟩=some (.string ⟨(ws.getD 0 []).toArray⟩):=by
    have:=hr1.cell (i:=0) (v:=.string ⟨(ws.getD 0 []).toArray⟩) (by
     obtain⟨x,r,e⟩:=List.exists_cons_of_ne_nil hne
     rw[e];rfl)
    simpa using this
   have HN:=Lib.hid hn.symm;obtain⟨w0,hw0⟩:∃w0,w0=ws.getD 0 []:=⟨_,rfl⟩
   have HW0:=Lib.hid hw0.symm;rw[←hw0] at q0 HDF;have KW:=Lib.hid (fun W:World=>yWords_any w0 W);have HR1:=Lib.hid hr1;have HPC:=Lib.hid hpc;have hlt1:wr.heap.size<W1.heap.size:=by rw[hW1];simp
   have hb2:Below w1.heap.size w1 W1:=onto hb hb1;have hbw1:Below base w W1:=HB1.out.trans (hb2.mono (Nat.le_trans hbz hs1));have HC:=Lib.hid (hC.below hb1);have HLO:=Lib.hid hL;have HIC:=Lib.hid hI.out;have HB2:=Lib.hid hb2;have HBW1:=Lib.hid hbw1;clear hW1 hws hD hn hr1 hpc hne hw0 hC hL hI hb hbw hb2 hbw1 hb1;have hn1:(1:Int)≤(n:Int):=by omega
   by_cases hd:wordsN w0=(n:Int)-1
   ·have HL3:Hid (c.lineF line=((c.change ws).1,(c.change ws).2.2)):=by unfold Hid;rw[HDF.out,if_neg (fun h=>h hd)]
    have hdb:(wordsN w0==(n:Int)-1)=true:=beq_iff_eq.2 hd;have HDW:=Lib.hid hd
    have hE2:EnvC ea L W1:=fun W hW=>by
     have h:=HE.out.2 W (HBW1.out.trans (hW.below (Nat.le_trans (Nat.le_trans hbz hs1) HB2.out.size) (fun j hj=>Nat.le_trans (Nat.le_trans hbz hs1) (HLO.out j hj))));exact⟨h.1.sub (fun _ hk=>hk),h.2⟩
    have KCH:=Lib.hid (yChange_any ea L c (some ⟨wr.heap.size,0,none⟩) n n ws W1 hE2 HC.out HIC.out HR1.out HN.out HPC.out (by rw[HW0.out];exact HDW.out) hn0);clear hd hE2 HDF;generalize hk2:wordsN w0=kk at *;clear hk2;go_wp2_with fail;refine KS.out.mono ?_;rintro e wx⟨rfl,rfl⟩;go_wp2_with fail;refine(KW.out _).mono ?_;rintro e wx⟨rfl,rfl⟩;go_wp2_with fail;refine KCH.out.mono ?_;rintro e w3⟨v,ev,t,pl,rfl,hE3,hF3,hok3⟩;have hv3:Below w1.heap.size w1 w3:=HB2.out.trans (hF3.below HB2.out.size (fun j hj=>HLO.out j hj))
    by_cases hz:(c.change ws).2.2=0
    ·rw[hz] at hE3
     obtain rfl:=hE3.nil;obtain⟨L3,rfl,rfl,hC3,hown3⟩:=hok3 hz;have HN2:=Lib.hid (HNX.out (by rw[HL3.out];exact hz));have HC3:Hid (ClusAt w3 L3 (freshC.linesF 0 (l.take (k+1))).1):=by unfold Hid;rw[HN2.out,HL3.out];exact hC3
     have HI3:Hid (InvP (freshC.linesF 0 (l.take (k+1))).1):=by unfold Hid;rw[HN2.out,HL3.out];exact HIC.out.change ws hz
     have HO3:Hid ((freshC.linesF 0 (l.take (k+1))).2.1=0):=by unfold Hid;rw[HN2.out]
     have HL4':Hid (∀j,L3.own j→w1.heap.size≤j):=fun j hj=>(hown3 j hj).elim (fun h=>HLO.out j h) (fun h=>Nat.le_trans HB2.out.size h)
     have HV3:=Lib.hid hv3;clear hz hok3 hC3 hown3 hE3 hF3 hv3 KCH KS KW q0 ct;go_wp2;go_roundw
     case rel=>exact⟨k+1,L3,by omega,by go_num,rfl,HO3,HC3.out,HI3,HL4'.out,HV3.out⟩
     case measure=>simp[intOf];omega
    ·have HZ:=Lib.hid hz
     have HE3:=Lib.hid hE3;obtain⟨et,ex,rfl⟩:=hE3.held hz;have HS3:=Lib.hid (HSP.out (by rw[HL3.out];exact hz));rw[HL3.out] at HS3;have hb3w:Below base w w3:=HB1.out.trans (hv3.mono (Nat.le_trans hbz hs1));have KB:=Lib.hid (yBare_any ea _ _ pl w3 (HE.out.2 w3 hb3w).1.typ HE3.out hz);have HEV:=Lib.hid (errV_pos ea hz);rw[HEV.out] at KB;have HV3:=Lib.hid hv3;clear hz hok3 hE3 hF3 hv3 KCH KS KW q0 ct HNX HSP;go_wp2_with fail;refine KB.out.mono ?_;rintro e w4⟨rfl,hb4⟩;go_wp2;go_ret2;have hal:Below w4.heap.size w4 (w4.alloc (.cells #[.int .i64 k,.iface 346 (.pointer (some (ea (c.change ws).2.2)))] 115)):=(Below.refl _ _).alloc (Nat.le_refl _) _;refine Or.inr ⟨by rw[HS3.out];exact HZ.out,fltV w4.heap.size,rfl,?_,HF1.out.off (onto (onto HV3.out hb4) hal)⟩;rw[HS3.out];exact Or.inr ⟨by dsimp only;omega,HZ.out,w4.heap.size,rfl,by simp,by simp,by rw[HEV.out];simp⟩
   ·have HL3:Hid (c.lineF line=(c,1)):=by unfold Hid;rw[HDF.out,if_pos hd]
    have hdb:(wordsN w0==(n:Int)-1)=false:=beq_eq_false_iff_ne.2 hd;have g1:=(HE.out.2 W1 HBW1.out).1.glob.cell 1 (by simp);simp only[gOf] at g1;rw[errV_pos ea (by decide)] at g1;have KB:=Lib.hid (yBare_any ea (errV ea 1) 1 (-1) W1 (HE.out.2 W1 HBW1.out).1.typ (ErrIs.bare ea W1 1) (by decide));rw[errV_pos ea (by decide)] at KB;have HS3:=Lib.hid (HSP.out (by rw[HL3.out];show(1:Nat)≠0;decide));rw[HL3.out] at HS3;clear hd HDF HNX HSP;generalize hk2:wordsN w0=kk at *;clear hk2;go_wp2_with fail;refine KS.out.mono ?_;rintro e wx⟨rfl,rfl⟩;go_wp2_with fail;refine(KW.out _).mono ?_;rintro e wx⟨rfl,rfl⟩;go_wp2_with fail;refine KB.out.mono ?_;rintro e w4⟨rfl,hb4⟩;go_wp2;go_ret2;have hal:Below w4.heap.size w4 (w4.alloc (.cells #[.int .i64 k,.iface 346 (.pointer (some (ea 1)))] 115)):=(Below.refl _ _).alloc (Nat.le_refl _) _;refine Or.inr ⟨by rw[HS3.out];show(1:Nat)≠0;decide,fltV w4.heap.size,rfl,?_,HF1.out.off (onto (onto HB2.out hb4) hal)⟩;rw[HS3.out];exact Or.inr ⟨by dsimp only;omega,by show(1:Nat)≠0;decide,w4.heap.size,rfl,by simp,by simp,by simp[errV_pos ea (k:=1) (by decide)]⟩
  ·obtain rfl:k=nl:=by omega
   have HH:Hid (freshC.linesF 0 (l.take k)=freshC.linesF 0 l):=by unfold Hid;rw[HNL.out,List.take_length]
   have HC:=Lib.hid hC;have HL:=Lib.hid hL;have HB:=Lib.hid hb;clear hC hL hb;go_wp2;go_ret2;have hal:Below wr.heap.size wr (wr.alloc (.cells #[.pointer (some ⟨L.cb,0,none⟩),.pointer (some ⟨D,0,none⟩)] 69)):=(Below.refl _ _).alloc (Nat.le_refl _) _;have hb3:=onto HB.out hal;refine Or.inl ⟨by rw[←HH.out];exact hok.out,⟨wr.heap.size,L,D⟩,rfl,rfl,?_,HF1.out.off hb3,fun j hj hx=>HM1.out j hj (hx.same (hb3.block _ HD1.out.lt)),Nat.le_trans hs1 HB.out.size,fun j hj=>Nat.le_trans hs1 (HL.out j hj)⟩;rw[←HH.out];exact⟨Blok.new wr _ _,HC.out.below hal,HD1.out.below hb3,hI.out,Nat.le_trans hbz (Nat.le_trans hs1 HB.out.size),⟨Nat.le_trans hbz (Nat.le_trans hs1 (HL.out _ (Or.inl rfl))),Nat.le_trans hbz (Nat.le_trans hs1 (HL.out _ (Or.inr (Or.inl rfl)))),Nat.le_trans hbz (Nat.le_trans hs1 (HL.out _ (Or.inr (Or.inr rfl))))⟩,⟨by show(-9223372036854775808:Int)≤-1;decide,by show(-1:Int)≤9223372036854775807;decide⟩⟩
theorem stT_len(c:CP)(i:Int):(c.stT i).length≤7:=by
 unfold CP.stT
 cases c.f i with
 | none=>simp
 | some x=>
  dsimp only;unfold Go.Proofs.YtppfkokfnoeopaaGreatDoor.stT
  split
  ·simp
  ·split<;>simp
theorem viewT_len{c:CP}(h:InvP c)(i:Int):((c.on i).1.viewT).length≤70:=by
 obtain⟨h1,h2,h3,h4,h5⟩:=h.on i;have e1:=textF_len48 (c.on i).1.m;have e2:(Lib.itoa (c.on i).1.d).length≤9:=itoa_le (by omega) (by omega);have e3:(Lib.itoa (c.on i).1.s).length≤9:=itoa_le (by omega) (by omega);unfold NP.viewT;simp only[List.length_append,List.length_cons];omega
theorem nodeT_len{c:CP}(h:InvP c)(i:Int)(hi : -10000000<i∧i<10000000):(c.nodeT i).length≤2700:=by
 have e1:=viewT_len h i;have e2:=stT_len c i;have e3:=histT_len (h.on i).2.2.2.1;have e4:(Lib.itoa i).length≤9:=itoa_le hi.1 hi.2;unfold CP.nodeT;simp only[List.length_append,List.length_cons,List.length_nil]
 split
 ·simp only[List.length_cons,List.length_append];omega
 ·simp;omega
def CP.textK(c:CP)(k:Nat):List UInt8:=[116,105,109,101,32]++(Lib.itoa (c.time:Nat)++10::((namesOf c.plan).take k).flatMap c.nodeT)
theorem textK_next(c:CP)(k:Nat)(hk:k<(namesOf c.plan).length):c.textK (k+1)=c.textK k++c.nodeT (namesOf c.plan)[k]:=by
 unfold CP.textK;rw[List.take_succ_eq_append_getElem hk,List.flatMap_append];simp
theorem textK_len{c:CP}(h:InvP c):∀k,k≤(namesOf c.plan).length→(c.textK k).length≤20+2700*k
 | 0,_=>by
  have:=h.time;have e:(Lib.itoa (c.time:Nat)).length≤9:=itoa_le (by omega) (by omega);unfold CP.textK;simp only[List.take_zero,List.flatMap_nil,List.length_append,List.length_cons,List.length_nil];omega
 | k+1,hk=>by
  have ih:=textK_len h k (by omega);rw[textK_next c k (by omega),List.length_append];have hm:=names_mem (planF_ok h.plan).2.2.2 (namesOf c.plan)[k];have hn:=(planF_ok h.plan).2.2.2 _ (hm.1 (List.getElem_mem (by omega)));simp only[nodeB,decide_eq_true_eq] at hn;have:=nodeT_len h (namesOf c.plan)[k] (by omega);omega
theorem cNodesX_any(L:CL)(c:CP)(w:World)(h:ClusAt w L c)(hd:∀i,(c.f i).isSome=decide (i∈c.plan))(hp:∀i∈c.plan,nodeB i=true) :
 Calls Tryz.prog 48 #[.pointer (some ⟨L.cb,0,none⟩)] w fun e w'=>∃(a:Option Addr) (cap:Nat),e=.returned (.slice a (namesOf c.plan).length cap)∧RowAt w' a (encInts (namesOf c.plan))∧Below w.heap.size w w':=by
 have K:=Lib.hid (cNames_any L c w h hd hp);clear h hd hp;go_enter Tryz.func48,Tryz.ntmps48;go_wp2_with fail;refine K.out.mono ?_;rintro e w1⟨a,cap,rfl,hr,hb⟩;go_wp2;go_ret;exact⟨a,cap,rfl,ownsRow_at hr,hb⟩
set_option maxRecDepth 100000 in
set_option maxHeartbeats 3200000 in
theorem yText_any(ea:Nat→Addr)(base:Nat)(Y:YL)(y:YP)(w:World)(hE:EnvY ea base w)(hY:YardAt w base Y y) :
 Calls Tryz.prog 13 #[.pointer (some ⟨Y.yb,0,none⟩)] w fun e w'=>e=.returned (.string ⟨(y.c.textY).toArray⟩)∧Below w.heap.size w w':=by
 obtain⟨hG,hT⟩:=hE.now;have c0:=hY.blk.cell 0 rfl;have hyl:=hY.blk.lt;have hI:=hY.inv;have ht:=hI.time;have KT:=Lib.hid (cTime_any Y.L y.c w hY.clus);have KI:=Lib.hid (itoa_any (y.c.time:Int) w hT (by omega));have hit:(Lib.itoa (y.c.time:Int)).length≤9:=itoa_le (by omega) (by omega);have HC:=Lib.hid (fun(W:World) (hb:Below w.heap.size w W)=>hY.clus.below hb);have HG:=Lib.hid (fun(W:World) (hb:Below w.heap.size w W)=>hG.below hb);have HT:=Lib.hid (fun(W:World) (hb:Below w.heap.size w W)=>hT.below hb);have HB:=Lib.hid (fun(W:World) (hb:Below w.heap.size w W)=>(hY.blk.kept hb).cell 0 rfl);have HI:=Lib.hid hI;clear hG hT hE hY hI;generalize y.c=c at *;have HTX:Hid (c.textK 0=[116,105,109,101,32]++(Lib.itoa (c.time:Int)++[10])):=by unfold Hid CP.textK;simp
 have HTY:Hid (c.textY=c.textK (namesOf c.plan).length):=by unfold Hid CP.textK CP.textY;rw[List.take_length]
 have HNM:=Lib.hid (fun k (hk:k<(namesOf c.plan).length)=>textK_next c k hk);have HLN:=Lib.hid (fun k (hk:k≤(namesOf c.plan).length)=>textK_len HI.out k hk);have KN:=Lib.hid (fun(W:World) (hb:Below w.heap.size w W)=>cNodesX_any Y.L c W (HC.out W hb) HI.out.dom (planF_ok HI.out.plan).2.2.2);have HMM:=Lib.hid (fun x (hx:x∈namesOf c.plan)=>(planF_ok HI.out.plan).2.2.2 x ((names_mem (planF_ok HI.out.plan).2.2.2 x).1 hx));have hn16:=names_len c.plan;generalize namesOf c.plan=ns at *;obtain⟨nn,hnn⟩:∃nn,nn=ns.length:=⟨_,rfl⟩
 have HNN:=Lib.hid hnn;rw[←hnn] at KN hn16 HTY;obtain⟨t0,ht0⟩:∃t0,t0=Lib.itoa (c.time:Int):=⟨_,rfl⟩
 rw[←ht0] at KI hit HTX;have s1:(9223372036854775807<5+t0.length)=False:=eq_false (by omega);have s2:(9223372036854775807<5+t0.length+1)=False:=eq_false (by omega);clear ht0 hnn;go_enter Tryz.func13,Tryz.ntmps13;go_wp2_with fail;refine KT.out.mono ?_;rintro e w'⟨rfl,rfl⟩;go_wp2_with fail;refine KI.out.mono ?_;rintro e w1⟨rfl,hb1⟩;have c1:=HB.out w1 hb1;have KN1:=Lib.hid (KN.out w1 hb1);go_wp2_with fail;refine KN1.out.mono ?_;rintro e w2⟨na,nc,rfl,hrow,hb2⟩;have hb12:=onto hb1 hb2;have HRW:=Lib.hid hrow;have HTX0:Hid ((⟨([116,105,109,101,32]++(t0++[10])).toArray⟩:ByteArray)=⟨(c.textK 0).toArray⟩):=by unfold Hid;rw[HTX.out]
 clear hrow KN1 KN KT KI c0 c1;go_wp2;go_loopw [3,25] (fun s3 i wr=>∃k:Nat,k≤nn∧i=.int .i64 k∧s3=.string ⟨(c.textK k).toArray⟩∧Below w2.heap.size w2 wr) (fun _ i _=>nn-(intOf i).toNat)
 case atStart=>exact⟨0,Nat.zero_le _,rfl,congrArg Value.string (by rw[HTX.out];apply ByteArray.ext;apply Array.ext';simp),Below.refl _ _⟩
 case round=>
  obtain⟨k,hk,rfl,rfl,hb⟩:=hrel
  by_cases hlt:k<nn
  ·have hkl:k<ns.length:=by rw[←HNN.out];exact hlt
   obtain⟨lb,lo,rfl,hlbl,ck⟩:=(HRW.out.below hb).int k hkl;have HNX:=Lib.hid (HNM.out k hkl);have hlk:=HLN.out k (by omega);have hnb:=HMM.out _ (List.getElem_mem hkl);generalize ns[k]=nd at *;simp only[nodeB,decide_eq_true_eq] at hnb;have hwf:=int_wfY (n:=nd) (by omega);have hb12':=onto hb12 hb;have hi0:(0:Int)≤(k:Int):=by omega
   have hi1:(k:Int)<(nn:Int):=by omega
   have KS:=Lib.hid (cState_any Y.L c nd wr (HC.out wr hb12') hwf (fun x hx=>(HI.out.node nd x hx).st));have ls:=stT_len c nd;have li:(Lib.itoa nd).length≤9:=itoa_le (by omega) (by omega);have lv:=viewT_len HI.out nd;have lh:=histT_len (HI.out.on nd).2.2.2.1;have h0:=HB.out wr hb12';have HBW:=Lib.hid hb12';have HBB:=Lib.hid hb;have KI:=Lib.hid (fun(W:World) (h:Below w.heap.size w W)=>itoa_any nd W (HT.out W h) (by omega));have KV:=Lib.hid (fun(W:World) (h:Below w.heap.size w W)=>yView_any ea Y.L c nd W ((HG.out W h).glob.sub (by simp)) (HT.out W h) (HC.out W h) HI.out hwf);have KH:=Lib.hid (fun(W:World) (h:Below w.heap.size w W)=>yHistory_any ea Y.L c nd W ((HG.out W h).glob.sub (by simp)) (HT.out W h) (HC.out W h) HI.out hwf);have HND:Hid (c.nodeT nd=Lib.itoa nd++32::(c.stT nd++((if (c.on nd).2=0 then 32::((c.on nd).1.viewT++32::histT (c.on nd).1.h) else[])++[10]))):=rfl;clear hb hb12' hkl hnb hwf;obtain⟨tk,htk⟩:∃tk,tk=c.textK k:=⟨_,rfl⟩
   rw[←htk] at hlk HNX;rw[←htk];have HTK:=Lib.hid htk;clear htk;generalize hek:c.textK (k+1)=tk1 at *;generalize c.nodeT nd=tn at *;generalize c.stT nd=tst at *;generalize Lib.itoa nd=ti at *;generalize c.on nd=r at *;obtain⟨x,er⟩:=r;dsimp only at *;generalize x.viewT=tv at *;obtain⟨th,hth⟩:∃th,th=histT x.h:=⟨_,rfl⟩
   rw[←hth] at lh HND;have s3:(9223372036854775807<ti.length+1)=False:=eq_false (by omega);have s4:(9223372036854775807<ti.length+1+tst.length)=False:=eq_false (by omega);have s5:(9223372036854775807<tk.length+(ti.length+1+tst.length))=False:=eq_false (by omega);have s6:(9223372036854775807<1+tv.length)=False:=eq_false (by omega);have s7:(9223372036854775807<1+tv.length+1)=False:=eq_false (by omega);have s8:(9223372036854775807<1+tv.length+1+th.length)=False:=eq_false (by omega);have s9:(9223372036854775807<tk.length+(ti.length+1+tst.length)+(1+tv.length+1+th.length))=False:=eq_false (by omega);have s10:(9223372036854775807<tk.length+(ti.length+1+tst.length)+(1+tv.length+1+th.length)+1)=False:=eq_false (by omega);have s11:(9223372036854775807<tk.length+(ti.length+1+tst.length)+1)=False:=eq_false (by omega);go_wp2_with fail;refine KS.out.mono ?_;rintro e w3⟨rfl,hb3⟩;have hv3:=onto HBW.out hb3;have hx3:=onto HBB.out hb3;have K3:=Lib.hid (KI.out _ hv3);have h3:=HB.out _ hv3;go_wp2_with fail;refine K3.out.mono ?_;rintro e w4⟨rfl,hb4⟩;have hv4:=onto hv3 hb4;have hx4:=onto hx3 hb4;have K4:=Lib.hid (KV.out _ hv4);have h4:=HB.out _ hv4;clear K3 KS hv3 hx3 h3;go_wp2_with fail;refine K4.out.mono ?_;rintro e w5⟨rfl,hb5⟩;have hv5:=onto hv4 hb5;have hx5:=onto hx4 hb5;have h5:=HB.out _ hv5;have K5:=Lib.hid (KH.out _ hv5);clear K4 hv4 hx4 h4
   by_cases hz:er=0
   ·subst hz
    rw[if_pos rfl] at HND;rw[if_pos rfl,←hth] at K5;have HX5:=Lib.hid hx5;clear hth;have e0:errV ea 0=.nilIface:=by simp[errV]
    rw[e0] at K5;rw[e0];go_wp2_with fail;refine K5.out.mono ?_;rintro e w6⟨rfl,hb6⟩;go_wp2;go_roundw
    case rel=>exact⟨k+1,by omega,by go_num,congrArg Value.string (by rw[hek,HNX.out,HND.out];apply ByteArray.ext;apply Array.ext';simp),onto HX5.out hb6⟩
    case measure=>simp[intOf];omega
   ·rw[if_neg hz] at HND
    have hev:=errV_pos ea hz;rw[hev];clear K5;go_wp2;go_roundw
    case rel=>exact⟨k+1,by omega,by go_num,congrArg Value.string (by rw[hek,HNX.out,HND.out];apply ByteArray.ext;apply Array.ext';simp),hx5⟩
    case measure=>simp[intOf];omega
  ·obtain rfl:k=nn:=by omega
   have hb':=onto hb12 hb;rw[←HTY.out];clear hb;go_wp2;go_ret;exact⟨rfl,hb'⟩
end Go.Proofs.YtppfkokfnoeopaaGreatDoor
namespace Go.Proofs.YtppfkokfnoeopaaGreatDoor
open Go.RowKit
def runC(st:Dk×List (List UInt8))(t:List UInt8):Dk×List (List UInt8):=((apF st.1 t).1,if (apF st.1 t).2=0 then st.2++[t] else st.2)
structure InvC(k:Nat)(st:Dk×List (List UInt8)):Prop where
 lens:∀s∈st.2,s.length≤200
 many:st.2.length≤k
 size:st.1.b.length≤250*k
 cut : -1≤st.1.cut∧st.1.cut≤9223372036854775807
 bytes:(st.1.off=false∧st.1.b=st.2.flatMap recB∧0≤st.1.cut)∨(st.1.off=true∧∃t p,t.length≤4000∧p <+: recB t∧p.length<(recB t).length∧st.1.b=st.2.flatMap recB++p)
theorem InvC.step{k:Nat}{st:Dk×List (List UInt8)}(h:InvC k st)(hk:k≤40){t:List UInt8}(ht:t.length≤200):InvC (k+1) (runC st t):=by
 obtain⟨⟨b,o,c⟩,l⟩:=st;obtain⟨h1,h2,h3,h4,h5⟩:=h;dsimp only at h1 h2 h3 h4 h5;have hrl:=recB_le t (by omega);have hlow:=recB_len t;have hA:apF ⟨b,o,c⟩ t=wrF ⟨b,o,c⟩ (recB t):=by rw[apF,if_neg (by omega),if_neg (by dsimp only;omega)]
 rcases h5 with⟨rfl,rfl,hc0⟩|⟨rfl,t',p,q1,q2,q3,rfl⟩
 ·by_cases hlt:c<(recB t).length
  ·have hW:wrF ⟨l.flatMap recB,false,c⟩ (recB t)=(⟨l.flatMap recB++(recB t).take c.toNat,true,c⟩,11):=by rw[wrF];simp[hc0,hlt]
   rw[runC,hA,hW];refine⟨h1,by dsimp only;simp;omega,?_,h4,Or.inr ⟨rfl,t,(recB t).take c.toNat,by omega,List.take_prefix _ _,by rw[List.length_take];omega,by simp⟩⟩;dsimp only;rw[List.length_append,List.length_take];omega
  ·have hW:wrF ⟨l.flatMap recB,false,c⟩ (recB t)=(⟨l.flatMap recB++recB t,false,c-(recB t).length⟩,0):=by rw[wrF];simp[hc0,hlt]
   rw[runC,hA,hW];refine⟨fun s hs=>?_,?_,?_,by dsimp only;omega,Or.inl ⟨rfl,by simp,by dsimp only;omega⟩⟩
   ·dsimp only at hs
    rw[if_pos rfl] at hs
    rcases List.mem_append.1 hs with hs|hs
    ·exact h1 s hs
    ·rw[List.mem_singleton.1 hs];exact ht
   ·dsimp only;rw[if_pos rfl,List.length_append,List.length_singleton];omega
   ·dsimp only;rw[List.length_append];omega
 ·have hW:wrF ⟨l.flatMap recB++p,true,c⟩ (recB t)=(⟨l.flatMap recB++p,true,c⟩,11):=by rw[wrF];rfl
  rw[runC,hA,hW];exact⟨h1,by dsimp only;simp;omega,by dsimp only at h3 ⊢;omega,h4,Or.inr ⟨rfl,t',p,q1,q2,q3,by simp⟩⟩
theorem text_at{w:World}{a:Option Addr}{l:List (List UInt8)}(h:RowAt w a (encTexts l))(k:Nat)(hk:k<l.length) :
 ∃b off,a=some ⟨b,off,none⟩∧b<w.heap.size∧w.cell? ⟨b,off+k,none⟩=some (.string ⟨l[k].toArray⟩):=by
 obtain⟨b,off,rfl,hb,hc⟩:=h.at (fun e=>by have h1:=congrArg List.length e;simp[encTexts] at h1;subst h1;simp at hk);exact⟨b,off,rfl,hb,hc k _ (by simp[encTexts,hk])⟩
theorem DiskAt.grown{w w':World}{base D:Nat}{s:Dk}{v:Value}{n size:Nat}{xs:List Value}(h:DiskAt w base D s)(hv:w.ownsRow base 9 size v n xs)(hg:w.grownBy w' v.ownBlock):DiskAt w' base D s:=by
 obtain⟨hB,hl,u,hK,hu⟩:=h
 have hno:∀(k:Nat) (c:Array Value) (t:TypeId) (fz:Nat×Nat),w.heap[k]?=some (Obj.cells c t fz)→t≠9→w'.heap[k]?=w.heap[k]?:=fun k c t fz hk ht=>by
  refine hg.block k (Array.getElem?_eq_some_iff.1 hk).1 (fun e=>?_)
  rcases hv.2 with⟨rfl,_⟩|⟨g,cap,cur,rfl,h2,h3,h4⟩
  ·simp[Value.ownBlock] at e
  ·simp[Value.ownBlock] at e
   subst e;rw[h3] at hk;simp at hk;exact ht hk.2.1.symm
 refine⟨hB,hl,u,(hno D _ _ _ hK (by decide)).trans hK,hu.kept fun g hg2=>?_⟩;obtain⟨_,cur,fz,hc⟩:=hu.bytes g hg2;exact hno g _ _ _ hc (by decide)
theorem InvC.take{k:Nat}{st:Dk×List (List UInt8)}(h:InvC k st):st.1.b.take (st.2.flatMap recB).length=st.2.flatMap recB:=by
 rcases h.bytes with⟨_,e,_⟩|⟨_,t,p,h1,h2,h3,e⟩
 ·rw[e,List.take_length]
 ·rw[e,List.take_left]
end Go.Proofs.YtppfkokfnoeopaaGreatDoor
namespace Go.Proofs.YtppfkokfnoeopaaGreatDoor
open Go.RowKit Go.Maps
structure InvY(k:Nat)(y:YP)(dn:List (List UInt8)):Prop where
 lens:∀s∈dn,s.length≤150
 many:dn.length≤k
 size:y.d.b.length≤200*k
 cut : -1≤y.d.cut∧y.d.cut≤9223372036854775807
 bytes:(y.d.off=false∧y.d.b=dn.flatMap recB)∨(y.d.off=true∧∃t p,t.length≤4000∧p <+: recB t∧p.length<(recB t).length∧y.d.b=dn.flatMap recB++p)
 run:freshC.linesF 0 dn=(y.c,0,-1)
theorem InvY.take{k:Nat}{y:YP}{dn:List (List UInt8)}(h:InvY k y dn):y.d.b.take (dn.flatMap recB).length=dn.flatMap recB:=by
 rcases h.bytes with⟨_,e⟩|⟨_,t,p,h1,h2,h3,e⟩
 ·rw[e,List.take_length]
 ·rw[e,List.take_left]
theorem InvY.more{k:Nat}{y:YP}{dn:List (List UInt8)}(h:InvY k y dn):InvY (k+1) y dn:=
 ⟨h.lens,by have:=h.many;omega,by have:=h.size;omega,h.cut,h.bytes,h.run⟩
theorem invY_cut(cut:Int)(h : -1≤cut∧cut≤9223372036854775807):InvY 0 ⟨freshC,⟨[],false,cut⟩⟩ []:=⟨by simp,Nat.le_refl _,by simp,h,Or.inl ⟨rfl,rfl⟩,rfl⟩
def tapedF(y:YP)(t:List UInt8)(dn:List (List UInt8)):List (List UInt8):=
 if wordsN ((cutL 32 t).getD 0 [])≠((cutL 32 t).length:Int)-1 then dn else if (y.c.change (cutL 32 t)).2.2≠0 then dn else if (apF y.d t).2≠0 then dn else dn++[t]
theorem apF_wr{s:Dk}{t:List UInt8}(ht:t.length≤150)(hb:s.b.length≤100000):apF s t=wrF s (recB t):=by
 have:=recB_le t (by omega);rw[apF,if_neg (by omega),if_neg (by omega)]
theorem InvY.step{k:Nat}{y:YP}{dn:List (List UInt8)}(h:InvY k y dn)(hk:k≤100){t:List UInt8}(ht:t.length≤150):InvY (k+1) (y.doF t).1 (tapedF y t dn):=by
 unfold YP.doF tapedF
 split
 ·exact h.more
 ·rename_i hw
  split
  ·exact h.more
  ·rename_i hc'
   have hc:(y.c.change (cutL 32 t)).2.2=0:=Decidable.not_not.1 hc';clear hc';have hsz:=h.size;have hA:=apF_wr (s:=y.d) ht (by omega);have hrl:=recB_le t (by omega);have hlow:=recB_len t;obtain⟨c,⟨b,o,cu⟩⟩:=y;obtain⟨h1,h2,h3,h4,h5,h6⟩:=h;dsimp only at h1 h2 h3 h4 h5 h6 hA hsz hc ⊢;rw[hA]
   rcases h5 with⟨rfl,rfl⟩|⟨rfl,t',p,q1,q2,q3,rfl⟩
   ·by_cases hlt:0≤cu∧cu<(recB t).length
    ·have hW:wrF ⟨dn.flatMap recB,false,cu⟩ (recB t)=(⟨dn.flatMap recB++(recB t).take cu.toNat,true,cu⟩,11):=by rw[wrF];simp[hlt]
     rw[hW,if_pos (by simp)];refine⟨h1,by rw[if_pos (by simp)];omega,?_,h4,Or.inr ⟨rfl,t,(recB t).take cu.toNat,by omega,List.take_prefix _ _,by rw[List.length_take];omega,rfl⟩,h6⟩;dsimp only;rw[List.length_append,List.length_take];omega
    ·have hW:wrF ⟨dn.flatMap recB,false,cu⟩ (recB t)=(⟨dn.flatMap recB++recB t,false,if 0≤cu then cu-(recB t).length else cu⟩,0):=by rw[wrF];simp[hlt]
     rw[hW,if_neg (by simp)];refine⟨fun s hs=>?_,?_,?_,?_,Or.inl ⟨rfl,by simp⟩,?_⟩
     ·dsimp only at hs
      rw[if_neg (by simp)] at hs
      rcases List.mem_append.1 hs with hs|hs
      ·exact h1 s hs
      ·rw[List.mem_singleton.1 hs];exact ht
     ·dsimp only;rw[if_neg (by simp),List.length_append,List.length_singleton];omega
     ·dsimp only;rw[List.length_append];omega
     ·dsimp only;split<;>omega
     ·dsimp only
      rw[if_neg (by simp),linesF_snoc _ _ _ _ (by rw[h6]),h6];dsimp only;have hL:c.lineF t=((c.change (cutL 32 t)).1,(c.change (cutL 32 t)).2.2):=by rw[CP.lineF,if_neg hw]
      rw[hL,hc,if_pos rfl]
   ·have hW:wrF ⟨dn.flatMap recB++p,true,cu⟩ (recB t)=(⟨dn.flatMap recB++p,true,cu⟩,11):=by rw[wrF];rfl
    rw[hW,if_pos (by simp)];exact⟨h1,by rw[if_pos (by simp)];omega,by dsimp only at h3 ⊢;omega,h4,Or.inr ⟨rfl,t',p,q1,q2,q3,rfl⟩,h6⟩
def Dk.up(s:Dk):Prop:=s.off=false∧s.cut=-1
theorem InvY.flat{k:Nat}{y:YP}{dn:List (List UInt8)}(h:InvY k y dn)(hu:y.d.up):y.d=⟨dn.flatMap recB,false,-1⟩:=by
 obtain⟨c,⟨b,o,cu⟩⟩:=y;obtain⟨h1,h2⟩:=hu;dsimp only at h1 h2;subst h1 h2
 rcases h.bytes with⟨_,e⟩|⟨e,_⟩
 ·dsimp only at e;rw[e]
 ·cases e
theorem yarded_one:(YP.new.doF [115,108,111,116,32,50]).2.2=0∧6<(YP.new.doF [115,108,111,116,32,50]).2.1.length∧(YP.new.doF [115,108,111,116,32,50]).2.1.length≤4000∧(YP.new.doF [115,108,111,116,32,50]).1.d.b=[54,58,115,108,111,116,32,50,10,46]:=by decide +kernel
theorem yarded_two:((YP.new.doF [115,108,111,116,32,50]).1.doF [104,105,115,116,111,114,121,32,50]).2=([49,33],0)∧(((YP.new.doF [115,108,111,116,32,50]).1.doF [104,105,115,116,111,114,121,32,50]).1.doF [104,105,115,116,111,114,121,32,51]).2=([49,58,48],0)∧(((YP.new.doF [115,108,111,116,32,50]).1.doF [104,105,115,116,111,114,121,32,50]).1.doF [104,105,115,116,111,114,121,32,51]).1.d.b=[54,58,115,108,111,116,32,50,10,46]:=by decide +kernel
set_option maxRecDepth 100000 in
set_option maxHeartbeats 1600000 in
theorem yarded_any(ea:Nat→Addr)(w:World)(hG:GlobC w ea)(hT:TxtEnv w) :
 Calls Tryz.prog 6 #[] w fun e w'=>e=.returned (.bool true)∧Below w.heap.size w w':=by
 have KN:=Lib.hid (yNew_any ea w (hG.glob.sub (by simp)));have KD:=Lib.hid (fun(W:World) (Y:YL) (y:YP) (t:List UInt8) (hb:Below w.heap.size w W) (hY:YardAt W w.heap.size Y y) (ht:t.length≤4000)=>yDo_any ea w.heap.size Y y t W (EnvY.of hG hT hb (Nat.le_refl _)) hY (by omega));have KT:=Lib.hid (fun(W:World) (Y:YL) (y:YP) (hY:YardAt W w.heap.size Y y)=>yTape_any w.heap.size Y y W hY);have KB:=Lib.hid (fun(W:World) (D:Nat) (s:Dk) (hD:DiskAt W w.heap.size D s)=>diskBytes_any w.heap.size D s W hD);obtain⟨r1,hr1⟩:∃r,r=YP.new.doF [115,108,111,116,32,50]:=⟨_,rfl⟩
 obtain⟨r2,hr2⟩:∃r,r=r1.1.doF [104,105,115,116,111,114,121,32,50]:=⟨_,rfl⟩
 obtain⟨r3,hr3⟩:∃r,r=r2.1.doF [104,105,115,116,111,114,121,32,51]:=⟨_,rfl⟩
 have F1:Hid (r1.2.2=0∧6<r1.2.1.length∧r1.2.1.length≤4000):=by unfold Hid;rw[hr1];exact⟨yarded_one.1,yarded_one.2.1,yarded_one.2.2.1⟩
 have F2:Hid (r2.2=([49,33],0)):=by unfold Hid;rw[hr2,hr1];exact yarded_two.1
 have F3:Hid (r3.2=([49,58,48],0)):=by unfold Hid;rw[hr3,hr2,hr1];exact yarded_two.2.1
 have F4:Hid (r3.1.d.b=[54,58,115,108,111,116,32,50,10,46]):=by unfold Hid;rw[hr3,hr2,hr1];exact yarded_two.2.2
 have R1:=Lib.hid hr1;have R2:=Lib.hid hr2;have R3:=Lib.hid hr3;clear hr1 hr2 hr3 hG hT;go_enter Tryz.func6,Tryz.ntmps6;go_wp2_with fail;refine KN.out.mono ?_;rintro e w1⟨Y,rfl,hY,hb1⟩;have K1:=Lib.hid (KD.out w1 Y _ [115,108,111,116,32,50] hb1 hY (by decide));rw[←R1.out] at K1;clear R1 KN;obtain⟨y1,a1,e1⟩:=r1;obtain⟨f1,f2,f3⟩:=F1.out;dsimp only at f1 f2 f3 R2;subst f1;have d1:decide ((6:Int)<(a1.length:Int))=true:=decide_eq_true (by omega);have HY:=Lib.hid hY;clear f2 hY F1;go_wp2_with fail;refine K1.out.mono ?_;rintro e w2⟨Y1,rfl,hY1,hs1⟩;dsimp only at hY1 ⊢;rw[errV_zero];have hb2:Below w.heap.size w w2:=hb1.trans (hs1.below HY.out);have K2:=Lib.hid (KD.out w2 Y1 _ [104,105,115,116,111,114,121,32,50] hb2 hY1 (by decide));rw[←R2.out] at K2;obtain⟨y2,a2,e2⟩:=r2;obtain⟨rfl,rfl⟩:=Prod.mk.inj F2.out;have HY1:=Lib.hid hY1;clear hY1 K1 R2 HY F2;dsimp only at R3;rw[show Y.yb=Y1.yb from hs1.yb.symm];go_wp2_with fail;refine K2.out.mono ?_;rintro e w3⟨Y2,rfl,hY2,hs2⟩;dsimp only at hY2 ⊢;rw[errV_zero];have hb3:Below w.heap.size w w3:=hb2.trans (hs2.below HY1.out);have K3:=Lib.hid (KD.out w3 Y2 _ [104,105,115,116,111,114,121,32,51] hb3 hY2 (by decide));rw[←R3.out] at K3;obtain⟨y3,a3,e3⟩:=r3;obtain⟨rfl,rfl⟩:=Prod.mk.inj F3.out;have HY2:=Lib.hid hY2;clear hY2 K2 R3 HY1 F3;rw[show Y1.yb=Y2.yb from hs2.yb.symm];go_wp2_with fail;refine K3.out.mono ?_;rintro e w4⟨Y3,rfl,hY3,hs3⟩;dsimp only at hY3 ⊢;rw[errV_zero];have hb4:Below w.heap.size w w4:=hb3.trans (hs3.below HY2.out);have KTT:=Lib.hid (KT.out w4 Y3 _ hY3);have KBB:=Lib.hid (KB.out w4 Y3.D _ hY3.disk);rw[F4.out] at KBB;rw[show Y2.yb=Y3.yb from hs3.yb.symm];clear K3 HY2 hY3;go_wp2_with fail;refine KTT.out.mono ?_;rintro e w5⟨rfl,rfl⟩;go_wp2_with fail;refine KBB.out.mono ?_;rintro e w5⟨rfl,rfl⟩;go_wp2;go_ret;exact⟨rfl,hb4⟩
def longT(l:List (List UInt8))(most:Int):Bool:=decide (most<(l.length:Int))||l.any (fun s=>decide (150<s.length))
set_option maxRecDepth 100000 in
theorem longLines_any(a:Option Addr)(n cap:Nat)(l:List (List UInt8))(most:Int)(w:World)(hn:l.length=n)(hr:RowAt w a (encTexts l))(hc:n≤4611686018427387904) :
 Calls Tryz.prog 7 #[.slice a n cap,.int .i64 most] w fun e w'=>e=.returned (.bool (longT l most))∧w=w':=by
 subst hn;have HR:=Lib.hid hr;clear hr
 by_cases hm:most<(l.length:Int)
 ·have hb:decide (most<(l.length:Int))=true:=decide_eq_true hm
  have HA:Hid (longT l most=true):=by unfold Hid longT;rw[hb];rfl
  clear hm;go_enter Tryz.func7,Tryz.ntmps7;go_wp2;go_ret;exact⟨ret_bool HA.out.symm,rfl⟩
 ·have hb:decide (most<(l.length:Int))=false:=decide_eq_false hm
  have HA:Hid (longT l most=l.any (fun s=>decide (150<s.length))):=by unfold Hid longT;rw[hb];rfl
  clear hm;go_enter Tryz.func7,Tryz.ntmps7;go_wp2;go_loop [5] (fun i=>∃k:Nat,k≤l.length∧i=.int .i64 k∧Hid ((l.take k).any (fun s=>decide (150<s.length))=false)) (fun i=>l.length-(intOf i).toNat)
  case atStart=>exact⟨0,Nat.zero_le _,rfl,rfl⟩
  case round=>
   obtain⟨k,hk,rfl,hx⟩:=hrel
   by_cases hlt:k<l.length
   ·obtain⟨b,off,rfl,hbl,c0⟩:=text_at HR.out k hlt
    have HT:=Lib.hid (any_take_snoc l (fun s=>decide (150<s.length)) k hlt);have HM:Hid (l[k]∈l):=List.getElem_mem hlt;have hi0:(0:Int)≤(k:Int):=by omega
    have hi1:(k:Int)<(l.length:Int):=by omega
    generalize l[k]=s at *
    by_cases h1:150<s.length
    ·have h2:decide ((150:Int)<(s.length:Int))=true:=decide_eq_true (by omega)
     have HL:Hid (longT l most=true):=by
      unfold Hid;rw[HA.out,List.any_eq_true];exact⟨s,HM.out,decide_eq_true h1⟩
     clear h1;go_wp2;go_ret;exact⟨ret_bool HL.out.symm,rfl⟩
    ·have h2:decide ((150:Int)<(s.length:Int))=false:=decide_eq_false (by omega)
     have HL:Hid (decide (150<s.length)=false):=decide_eq_false h1;clear h1;go_wp2;go_round
     case rel=>exact⟨k+1,by omega,by go_num,by unfold Hid;rw[HT.out,hx.out,HL.out];rfl⟩
     case measure=>simp[intOf];omega
   ·obtain rfl:k=l.length:=by omega
    go_wp2;go_ret;exact⟨ret_bool (by rw[HA.out,←hx.out,List.take_length]),rfl⟩
theorem longT_not{l:List (List UInt8)}{most:Int}(h:longT l most=false):(l.length:Int)≤most∧∀a∈l,a.length≤150:=by
 simp only[longT,Bool.or_eq_false_iff,decide_eq_false_iff_not,List.any_eq_false,decide_eq_true_eq] at h;exact⟨by omega,fun a ha=>by have:=h.2 a ha;omega⟩
end Go.Proofs.YtppfkokfnoeopaaGreatDoor
namespace Go.Proofs.YtppfkokfnoeopaaGreatDoor
open Go.RowKit Go.Maps
end Go.Proofs.YtppfkokfnoeopaaGreatDoor
namespace Go.Proofs.YtppfkokfnoeopaaGreatDoor
open Go.RowKit Go.Maps
theorem Fr.cell{S:Nat→Prop}{w w':World}(h:Fr S w w'){p:Addr}(hp:p.block<w.heap.size)(hn:¬S p.block):w'.cell? p=w.cell? p:=by
 unfold World.cell?;rw[h.block p.block hp hn]
theorem flat_le150:∀{l:List (List UInt8)},(∀s∈l,s.length≤150)→(l.flatMap recB).length≤200*l.length
 | [],_=>by simp
 | s::r,h=>by
  have h1:=recB_le s (by have:=h s (by simp);omega);have h2:=h s (by simp);have h3:=flat_le150 (l:=r) (fun t ht=>h t (List.mem_cons_of_mem _ ht));rw[List.flatMap_cons,List.length_append,List.length_cons];omega
end Go.Proofs.YtppfkokfnoeopaaGreatDoor
