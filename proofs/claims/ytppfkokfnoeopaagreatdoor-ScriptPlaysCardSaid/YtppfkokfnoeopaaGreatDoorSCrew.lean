/- A part of a proof. -/
import Derived.Test.YtppfkokfnoeopaaGreatDoorSLib
set_option maxRecDepth 400000
set_option maxHeartbeats 6400000
namespace Go.Proofs.YtppfkokfnoeopaaGreatDoor
open Go.RowKit Go.Proofs.Tryz
def Fn(c:Int):Nat:=if Bn c then 0 else 2
theorem Dt(ea:Nat→Addr)(c:Int)(w:World)(hg:Bh w ea [2]) :
 Calls prog 126 #[.int .i64 c] w fun e w'=>e=.returned (Bm ea (Fn c))∧w=w':=by
 have g2:=hg.cell 2 (by simp);simp only[gOf] at g2;go_enter func126,ntmps126;go_wp2
 all_goals
  go_ret
  first
   | refine⟨zB5 (congrArg (Bm ea) ?_),rfl⟩
   | refine⟨zB5 (Lz ea ?_),rfl⟩
  clear hg g2
  first
   | (rw[Fn,if_pos (by simp[Bn]<;>omega)];done)
   | (rw[Fn,if_neg (by simp[Bn]<;>omega)];done)
theorem Q0(n:Int)(w:World)(h:Aq n=true):Calls prog 155 #[.int .i64 n] w fun e w'=>e=.returned (.int .i64 (At n))∧w=w':=by
 simp only[Aq,decide_eq_true_eq] at h;have hc:n=1∨n=2∨n=3∨n=4∨n=5∨n=6∨n=7∨n=8∨n=9∨n=10∨n=11∨n=12∨n=13∨n=14∨n=15∨n=16:=by omega
 rcases hc with rfl|rfl|rfl|rfl|rfl|rfl|rfl|rfl|rfl|rfl|rfl|rfl|rfl|rfl|rfl|rfl
 all_goals
  clear h;go_enter func155,ntmps155;go_wp2;go_ret;exact⟨Hn (by decide),rfl⟩
theorem zBq(ea:Nat→Addr)(c n:Int)(w:World)(hg:Bh w ea [2]) :
 Calls prog 171 #[.int .i64 c,.int .i64 n] w fun e w'=>e=.returned (.bool (Ep c n))∧w=w':=by
 cases hc:Bn c
 ·have he:Bm ea (Fn c)=.iface 346 (.pointer (some (ea 2))):=by rw[Fn,hc];exact Ae ea (by decide)
  have HE:=zh he;have HC:=zh hc;clear he hc;go_enter func171,ntmps171;go_wp2_with (go_at_call 126;refine(Dt ea _ _ hg).mono ?_;rintro e w'⟨rfl,rfl⟩;rw[HE.out]);go_ret;exact⟨Ca (by simp[Ep,HC.out]),rfl⟩
 ·have he:Bm ea (Fn c)=.nilIface:=by rw[Fn,hc];exact Al ea
  have HE:=zh he;clear he;obtain⟨k,rfl⟩:∃k:Nat,c=k:=⟨c.toNat,by simp[Bn] at hc;omega⟩
  have hk:k<65536:=by simp[Bn] at hc;omega
  have HC:=zh hc;clear hc
  cases hn:Aq n
  ·have HN:=zh hn
   clear hn;go_enter func171,ntmps171
   go_wp2_with (first
    | (go_at_call 126;refine(Dt ea _ _ hg).mono ?_;rintro e w'⟨rfl,rfl⟩;rw[HE.out])
    | (go_at_call 154;refine(Fq _ _).mono ?_;rintro e w'⟨rfl,rfl⟩;rw[HN.out]))
   go_ret;exact⟨Ca (by simp[Ep,HN.out]),rfl⟩
  ·have hb:=Dx hn
   have hA:bits .and .i64 (k:Int) (At n:Int)=((k&&&At n:Nat):Int):=zHx _ _ (by omega) (by omega)
   have hT:((((k&&&At n:Nat):Int)) != 0)=k.testBit (n.toNat-1):=by
    rw[At,zHw];cases k.testBit (n.toNat-1)
    ·simp
    ·have h2:=Nat.two_pow_pos (n.toNat-1)
     rw[if_pos rfl];generalize 2^(n.toNat-1)=q at h2 ⊢;rw[bne_iff_ne];omega
   have HN:=zh hn;clear hn;go_enter func171,ntmps171
   go_wp2_with (first
    | (go_at_call 126;refine(Dt ea _ _ hg).mono ?_;rintro e w'⟨rfl,rfl⟩;rw[HE.out])
    | (go_at_call 154;refine(Fq _ _).mono ?_;rintro e w'⟨rfl,rfl⟩;rw[HN.out])
    | (go_at_call 155;refine(Q0 _ _ HN.out).mono ?_;rintro e w'⟨rfl,rfl⟩))
   go_ret;exact⟨Ca (by simp[Ep,HN.out,HC.out]),rfl⟩
theorem zJe(a:Option Addr)(n cap:Nat)(l:List Int)(w:World)(hn:l.length=n)(hr:Ac w a (Aa l))(hc:n≤4611686018427387904)(hall:∀x∈l,Aq x=true) :
 Calls prog 106 #[.slice a n cap] w fun e w'=>e=.returned (.tuple #[.int .i64 (A6 l),.nilIface])∧w=w':=by
 have HA:=zh hall;clear hall;go_enter func106,ntmps106;go_wp2;go_loop [4,9] (fun c i=>∃k:Nat,k≤n∧i=.int .i64 k∧c=.int .i64 (A6 (l.take k))) (fun _ i=>n-(intOf i).toNat)
 case atStart=>exact⟨0,Nat.zero_le _,rfl,rfl⟩
 case round=>
  obtain⟨k,hk,rfl,rfl⟩:=hrel
  by_cases hlt:k<n
  ·obtain⟨b,off,rfl,hbl,c0⟩:=hr.int k (by omega)
   have hkt:k<l.length:=by omega
   have hs:A6 (l.take (k+1))=A6 (l.take k)|||At l[k]:=by rw[List.take_succ_eq_append_getElem hkt,A6,List.foldl_append];rfl
   have hnd:=HA.out _ (List.getElem_mem hkt);have hlt1:A6 (l.take k)<65536:=Hq (fun x hx=>HA.out x (List.mem_of_mem_take hx));have hlt2:=Dx hnd;generalize l[k]=x at *;have hO:bits .or .i64 (A6 (l.take k):Int) (At x:Int)=((A6 (l.take k)|||At x:Nat):Int):=Wc _ _ (by omega) (by omega);have HN:=zh hnd;have HS:=zh hs;clear hnd hs
   go_wp2_with (first
    | (go_at_call 154;refine(Fq _ _).mono ?_;rintro e w'⟨rfl,rfl⟩;rw[HN.out])
    | (go_at_call 155;refine(Q0 _ _ HN.out).mono ?_;rintro e w'⟨rfl,rfl⟩))
   go_round
   case rel=>exact⟨k+1,by omega,by go_num,by rw[HS.out]⟩
   case measure=>simp[intOf];omega
  ·have e1:l.take k=l:=List.take_of_length_le (by omega)
   rw[e1];clear e1;go_wp2;go_ret2;exact⟨rfl,rfl⟩
def Fp(a b:Nat):Nat:=a ^^^ (a&&&b)
theorem Rc(a b:Nat)(ha:a<9223372036854775808)(hb:b<9223372036854775808):bits .andNot .i64 (a:Int) (b:Int)=((Fp a b:Nat):Int):=by
 have hx:Fp a b<2^63:=Nat.xor_lt_two_pow (by omega) (Nat.and_lt_two_pow _ (by omega))
 have e:(BitVec.ofInt 64 (a:Int)&&&~~~ BitVec.ofInt 64 (b:Int)).toNat=Fp a b:=by
  apply Nat.eq_of_testBit_eq;intro i;rw[Fp,Nat.testBit_xor,Nat.testBit_and,BitVec.testBit_toNat,BitVec.getLsbD_and,BitVec.getLsbD_not,←BitVec.testBit_toNat,←BitVec.testBit_toNat,Hu a ha,Hu b hb]
  by_cases hi:i<64
  ·cases a.testBit i<;>cases b.testBit i<;>simp[hi]
  ·have:a.testBit i=false:=Nat.testBit_lt_two_pow (Nat.lt_of_lt_of_le (show a<2^64 by omega) (Nat.pow_le_pow_right (by omega) (by omega)))
   simp[this]
 show IntKind.i64.wrap ((BitVec.ofInt 64 (a:Int)&&&~~~ BitVec.ofInt 64 (b:Int)).toNat:Int)=_
 rw[e,IntKind.wrap_i64];omega
theorem Ln{a:Int}(h:Bn a=true):∃k:Nat,a=k∧k<65536:=⟨a.toNat,by simp[Bn] at h;omega,by simp[Bn] at h;omega⟩
end Go.Proofs.YtppfkokfnoeopaaGreatDoor
