/- A part of a proof. -/
import Derived.ProofKit
import Derived.LaidMore
import Derived.OpenShut
import Derived.Deep.Slices
import Derived.Stop.Joined
import Derived.Stop.LaidErr
import Derived.SizedLaws
import Derived.Test.YtppfkokfnoeopaaGreatDoorSLib
set_option maxRecDepth 400000
set_option maxHeartbeats 6400000
namespace Go.Proofs.YtppfkokfnoeopaaGreatDoor
open Go.ChangeShapes Go.WideShapes Go.ChangeAt Go.WideElems Go.RowKit Go.Proofs.Tryz
section
variable {H:Type} {enc:TypeId×Value→H} {w:World} {base:Nat} {spare:Nat→Bool} {held:Bool}
theorem zAh{α:Type}(cells:α→List Value)(q:Nat)(hq:∀x,(cells x).length=q)(h0:0<q)(W:α→Prop)(T:TypeId)(hT:prog.cellsOf T=q)[Inhabited α]
 (hopen:∀(fuel:Nat) (cs:List Value) (x:DataW H×List MemPlace),DataW.trod enc prog w base spare held fuel T cs=some x→∃e:α,cs=cells e∧W e)
 {t:TypeId} (ht:prog.underlying t=some (.slice T)) {fuel:Nat} {a:Option Addr} {n cap:Nat} {x:DataW H×List MemPlace} (h:DataW.trod enc prog w base spare held fuel t [.slice a n cap]=some x) :
 ∃l:List α,l.length=n∧Ac w a (l.flatMap cells)∧n≤cap∧cap≤maxLen∧(∀e∈l,W e)∧((x.1=.nil∧n=0)∨∃elems sp,x.1=.slice elems sp∧elems.length=n):=by
 rcases Go.Deep.open_slice ht h with⟨hcs,hx⟩|⟨a',len',cap',m,f,D,Pl,hcs,_,hl,hm,hmm,hx,hcell⟩
 ·simp only[List.cons.injEq,Value.slice.injEq,and_true] at hcs
  obtain⟨rfl,rfl,rfl⟩:=hcs;exact⟨[],rfl,Or.inl rfl,Nat.le_refl _,by simp[maxLen],by simp,Or.inl ⟨by rw[hx],rfl⟩⟩
 ·simp only[List.cons.injEq,Value.slice.injEq,and_true] at hcs
  obtain⟨rfl,rfl,rfl⟩:=hcs;have hnm:n≤m:=by rw[hmm];split<;>omega
  rw[hT] at hcell
  have hex:∀i,i<n→∃e:α,W e∧∀j,j<q→w.cell? ((a'.add (i*q)).add j)=(cells e)[j]?:=fun i hi=>by
   obtain⟨cs',hc,ht'⟩:=hcell i (by omega);obtain⟨e,rfl,hw⟩:=hopen _ _ _ ht';exact⟨e,hw,fun j hj=>(World.cells?_some hc).2.2 j hj⟩
  obtain⟨E,hE⟩:=Go.Deep.choose_lt hex;have hlen:((List.range n).map E).length=n:=by simp
  refine⟨(List.range n).map E,hlen,?_,hl,hm,fun e he=>?_,Or.inr ⟨_,_,by rw[hx],by simp⟩⟩
  ·by_cases hn0:n=0
   ·subst hn0;exact Or.inl rfl
   ·have hc0:=(hE 0 (by omega)).2 0 h0
    rw[List.getElem?_eq_getElem (by rw[hq];exact h0)] at hc0;obtain⟨b,off,spot⟩:=a';have hspot:spot=none:=by simpa[Addr.add] using World.cell?_spot hc0
    subst hspot;refine Or.inr ⟨b,off,rfl,by have:=World.block_lt_of_cell? w _ hc0;simpa[Addr.add] using this,fun i v hv=>?_⟩
    have hi:i<n*q:=by
     have:=(List.getElem?_eq_some_iff.1 hv).1;rw[P8 cells q hq,hlen] at this;exact this
    have hd:i/q<n:=Nat.div_lt_of_lt_mul (by rw[Nat.mul_comm];exact hi);have hiq:i/q<((List.range n).map E).length:=by rw[hlen];exact hd
    have hmq:i%q<q:=Nat.mod_lt _ h0;have hdm:i/q*q+i%q=i:=by rw[Nat.mul_comm];exact Nat.div_add_mod i q
    have hg:=N7 cells q hq ((List.range n).map E) (i/q) hiq (i%q) hmq;rw[hdm,hv] at hg;have hcc:=(hE (i/q) hd).2 (i%q) hmq;rw[Go.Deep.add_add,hdm,Go.WideShapes.add_plain] at hcc;rw[hcc,hg];simp
  ·obtain⟨i,hi,rfl⟩:=List.mem_map.1 he
   exact(hE i (by simpa using hi)).1
end
section
variable {H:Type} {enc:TypeId×Value→H} {w:World} {base b0:Nat} {spare:Nat→Bool} {held:Bool}
theorem zFa:prog.cellsOf 9=1:=by kernel_rfl
theorem Sj(fuel:Nat)(cs:List Value)(x:DataW H×List MemPlace)(h:DataW.trod enc prog w base spare held fuel 9 cs=some x):∃e:List UInt8,cs=[Value.string ⟨e.toArray⟩]∧e.length≤maxLen:=by
 obtain⟨s',h,_,hm⟩:=DataW.trod_string underlying9 h;exact⟨s'.data.toList,h,by simpa using hm⟩
theorem Yh{t:TypeId}(ht:prog.underlying t=some (.slice 9)){fuel:Nat}{a:Option Addr}{n cap:Nat}{x:DataW H×List MemPlace}(h:DataW.trod enc prog w base spare held fuel t [.slice a n cap]=some x) :
 ∃l:List (List UInt8),l.length=n∧Ac w a (Ad l)∧n≤cap∧cap≤maxLen∧(∀e∈l,e.length≤maxLen)∧((x.1=.nil∧n=0)∨∃elems sp,x.1=.slice elems sp∧elems.length=n):=by
 obtain⟨l,h1,h2,h3⟩:=zAh (fun e:List UInt8=>[Value.string ⟨e.toArray⟩]) 1 (fun _=>rfl) (by omega) (fun e=>e.length≤maxLen) 9 zFa Sj ht h
 have e:l.flatMap (fun e:List UInt8=>[Value.string ⟨e.toArray⟩])=Ad l:=by
  clear h1 h2 h3
  induction l with
  | nil=>rfl
  | cons x r ih=>rw[List.flatMap_cons,ih];rfl
 rw[e] at h2;exact⟨l,h1,h2,h3⟩
end
end Go.Proofs.YtppfkokfnoeopaaGreatDoor
