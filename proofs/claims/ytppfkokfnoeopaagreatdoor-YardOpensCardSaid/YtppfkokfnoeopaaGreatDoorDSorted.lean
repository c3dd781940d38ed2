/- A part of a proof. -/
import Derived.Sort.OwnSortedInts
import Derived.Test.YtppfkokfnoeopaaGreatDoorDCrewRead
namespace Go.Proofs.YtppfkokfnoeopaaGreatDoor
open Go.RowKit Go.Shelf
attribute [local go_sem] Oper.semAt_some
def vl_Ints(n₀:Nat)(W:World)(sv:Value)(zs:List Int):Prop:=
 (sv=.slice none 0 0∧zs=[])∨∃b off cap,sv=.slice (some ⟨b,off,none⟩) zs.length cap∧b<n₀∧∀j,j<zs.length→W.cell? ⟨b,off+j,none⟩=some (.int .i64 (zs[j]?.getD 0))
theorem vl_Ints.below{n₀:Nat}{A B:World}(h:Below n₀ A B){sv:Value}{zs:List Int}:vl_Ints n₀ A sv zs→vl_Ints n₀ B sv zs
 | .inl e=>.inl e
 | .inr ⟨b,off,cap,e,hb,hc⟩=>.inr ⟨b,off,cap,e,hb,fun j hj=>(h.cell (p:=⟨b,off+j,none⟩) hb).trans (hc j hj)⟩
end Go.Proofs.YtppfkokfnoeopaaGreatDoor
namespace Go.Proofs.YtppfkokfnoeopaaGreatDoor
open Go.RowKit Go.Shelf
attribute [local go_sem] Oper.semAt_some
def sortL(zs:List Int):List Int:=zs.mergeSort fun x y=>decide (x≤y)
theorem sortL_length(zs:List Int):(sortL zs).length=zs.length:=by simp[sortL]
end Go.Proofs.YtppfkokfnoeopaaGreatDoor
namespace Go.Proofs.YtppfkokfnoeopaaGreatDoor
open Go.RowKit
theorem crewOf_congr{l m:List Int}(h:∀x,x∈l↔x∈m):crewOf l=crewOf m:=by
 apply Nat.eq_of_testBit_eq;intro i;rw[crewOf,crewOf,testBit_fold,testBit_fold,Nat.zero_testBit,Bool.false_or,Bool.false_or,Bool.eq_iff_iff,List.any_eq_true,List.any_eq_true]
 constructor
 ·rintro⟨x,hx,e⟩;exact⟨x,(h x).1 hx,e⟩
 ·rintro⟨x,hx,e⟩;exact⟨x,(h x).2 hx,e⟩
theorem mem_listTo(c x:Int):∀k,x∈listTo c k↔hasB c x=true∧1≤x∧x≤k
 | 0=>by simp[listTo];omega
 | k+1=>by
  rw[listTo,List.mem_append,mem_listTo c x k]
  constructor
  ·rintro(⟨h1,h2,h3⟩|h)
   ·exact⟨h1,h2,by omega⟩
   ·split at h
    ·rename_i hh
     rw[List.mem_singleton] at h;subst h;exact⟨hh,by omega,by omega⟩
    ·simp at h
  ·rintro⟨h1,h2,h3⟩
   by_cases e:x=(k:Int)+1
   ·subst e;right;rw[if_pos h1];simp
   ·left;exact⟨h1,h2,by omega⟩
theorem mem_nodesOf{l:List Int}(hl:∀n∈l,nodeB n=true)(x:Int):x∈listTo (crewOf l) 16↔x∈l:=by
 rw[mem_listTo,hasB_crewOf hl,decide_eq_true_eq]
 constructor
 ·exact fun h=>h.1
 ·intro h
  have:=hl x h;simp only[nodeB,decide_eq_true_eq] at this;exact⟨h,this.1,by omega⟩
theorem listTo_rising(c:Int):∀k,(listTo c k).Pairwise (· < ·)
 | 0=>List.Pairwise.nil
 | k+1=>by
  rw[listTo,List.pairwise_append];refine⟨listTo_rising c k,?_,fun a ha b hb=>?_⟩
  ·split<;>simp
  ·have:=(mem_listTo c a k).1 ha
   split at hb
   ·rw[List.mem_singleton] at hb;omega
   ·simp at hb
theorem rising_eq:∀{l m:List Int},l.Pairwise (· < ·)→m.Pairwise (· < ·)→(∀x,x∈l↔x∈m)→l=m
 | [],[],_,_,_=>rfl
 | [],y::m,_,_,h=>by have:=(h y).2 (by simp);simp at this
 | x::l,[],_,_,h=>by have:=(h x).1 (by simp);simp at this
 | x::l,y::m,h1,h2,h=>by
  rw[List.pairwise_cons] at h1 h2
  have e:x=y:=by
   rcases List.mem_cons.1 ((h x).1 (by simp)) with e|e
   ·exact e
   ·rcases List.mem_cons.1 ((h y).2 (by simp)) with e2|e2
    ·exact e2.symm
    ·have a1:=h1.1 y e2
     have a2:=h2.1 x e;omega
  subst e;rw[rising_eq h1.2 h2.2 (fun z=>?_)]
  constructor
  ·intro hz
   rcases List.mem_cons.1 ((h z).1 (List.mem_cons_of_mem _ hz)) with e|e
   ·subst e;have:=h1.1 z hz;omega
   ·exact e
  ·intro hz
   rcases List.mem_cons.1 ((h z).2 (List.mem_cons_of_mem _ hz)) with e|e
   ·subst e;have:=h2.1 z hz;omega
   ·exact e
theorem sortL_mem(zs:List Int)(x:Int):x∈sortL zs↔x∈zs:=by
 have:=(List.mergeSort_perm zs fun x y=>decide (x≤y)).mem_iff (a:=x);exact this
theorem sortL_rising{zs:List Int}(h:zs.Nodup):(sortL zs).Pairwise (· < ·):=by
 have h1:(sortL zs).Pairwise (fun a b=>decide (a≤b)=true):=List.pairwise_mergeSort (fun a b c h1 h2=>by simp at *;omega) (fun a b=>by simp;omega) zs;have h2:(sortL zs).Nodup:=(List.mergeSort_perm zs fun x y=>decide (x≤y)).nodup_iff.2 h;have h3:(sortL zs).Pairwise (fun a b=>decide (a≤b)=true∧a≠b):=h1.and h2;exact h3.imp fun {a b} h=>by simp at h;omega
theorem sortL_nodes{l zs:List Int}(hl:∀n∈l,nodeB n=true)(hz:zs.Nodup)(h:∀x,x∈zs↔x∈l):sortL zs=listTo (crewOf l) 16:=
 rising_eq (sortL_rising hz) (listTo_rising _ _) fun x=>by rw[sortL_mem,h,mem_nodesOf hl]
end Go.Proofs.YtppfkokfnoeopaaGreatDoor
