/- A part of a proof. -/
import Derived.Test.YtppfkokfnoeopaaGreatDoorDLib
namespace Go.Proofs.YtppfkokfnoeopaaGreatDoor
open Go.RowKit
def crewE(c:Int):Nat:=if crewB c then 0 else 2
theorem crewCheck_any(ea:Nat→Addr)(c:Int)(w:World)(hg:Glob w ea [2]) :
 Calls Tryz.prog 126 #[.int .i64 c] w fun e w'=>e=.returned (errV ea (crewE c))∧w=w':=by
 have g2:=hg.cell 2 (by simp);simp only[gOf] at g2;go_enter Tryz.func126,Tryz.ntmps126;go_wp2
 all_goals
  go_ret
  first
   | refine⟨ret_v (congrArg (errV ea) ?_),rfl⟩
   | refine⟨ret_v (nil_errV ea ?_),rfl⟩
  clear hg g2
  first
   | (rw[crewE,if_pos (by simp[crewB]<;>omega)];done)
   | (rw[crewE,if_neg (by simp[crewB]<;>omega)];done)
theorem bit_any(n:Int)(w:World)(h:nodeB n=true):Calls Tryz.prog 155 #[.int .i64 n] w fun e w'=>e=.returned (.int .i64 (bitOf n))∧w=w':=by
 simp only[nodeB,decide_eq_true_eq] at h;have hc:n=1∨n=2∨n=3∨n=4∨n=5∨n=6∨n=7∨n=8∨n=9∨n=10∨n=11∨n=12∨n=13∨n=14∨n=15∨n=16:=by omega
 rcases hc with rfl|rfl|rfl|rfl|rfl|rfl|rfl|rfl|rfl|rfl|rfl|rfl|rfl|rfl|rfl|rfl
 all_goals
  clear h;go_enter Tryz.func155,Tryz.ntmps155;go_wp2;go_ret;exact⟨ret_int (by decide),rfl⟩
theorem has_any(ea:Nat→Addr)(c n:Int)(w:World)(hg:Glob w ea [2]) :
 Calls Tryz.prog 171 #[.int .i64 c,.int .i64 n] w fun e w'=>e=.returned (.bool (hasB c n))∧w=w':=by
 cases hc:crewB c
 ·have he:errV ea (crewE c)=.iface 346 (.pointer (some (ea 2))):=by rw[crewE,hc];exact errV_pos ea (by decide)
  have HE:=Lib.hid he;have HC:=Lib.hid hc;clear he hc;go_enter Tryz.func171,Tryz.ntmps171;go_wp2_with (go_at_call 126;refine(crewCheck_any ea _ _ hg).mono ?_;rintro e w'⟨rfl,rfl⟩;rw[HE.out]);go_ret;exact⟨ret_bool (by simp[hasB,HC.out]),rfl⟩
 ·have he:errV ea (crewE c)=.nilIface:=by rw[crewE,hc];exact errV_zero ea
  have HE:=Lib.hid he;clear he;obtain⟨k,rfl⟩:∃k:Nat,c=k:=⟨c.toNat,by simp[crewB] at hc;omega⟩
  have hk:k<65536:=by simp[crewB] at hc;omega
  have HC:=Lib.hid hc;clear hc
  cases hn:nodeB n
  ·have HN:=Lib.hid hn
   clear hn;go_enter Tryz.func171,Tryz.ntmps171
   go_wp2_with (first
    | (go_at_call 126;refine(crewCheck_any ea _ _ hg).mono ?_;rintro e w'⟨rfl,rfl⟩;rw[HE.out])
    | (go_at_call 154;refine(node_any _ _).mono ?_;rintro e w'⟨rfl,rfl⟩;rw[HN.out]))
   go_ret;exact⟨ret_bool (by simp[hasB,HN.out]),rfl⟩
  ·have hb:=bitOf_lt hn
   have hA:bits .and .i64 (k:Int) (bitOf n:Int)=((k&&&bitOf n:Nat):Int):=and_nat _ _ (by omega) (by omega)
   have hT:((((k&&&bitOf n:Nat):Int)) != 0)=k.testBit (n.toNat-1):=by
    rw[bitOf,and_bit];cases k.testBit (n.toNat-1)
    ·simp
    ·have h2:=Nat.two_pow_pos (n.toNat-1)
     rw[if_pos rfl];generalize 2^(n.toNat-1)=q at h2 ⊢;rw[bne_iff_ne];omega
   have HN:=Lib.hid hn;clear hn;go_enter Tryz.func171,Tryz.ntmps171
   go_wp2_with (first
    | (go_at_call 126;refine(crewCheck_any ea _ _ hg).mono ?_;rintro e w'⟨rfl,rfl⟩;rw[HE.out])
    | (go_at_call 154;refine(node_any _ _).mono ?_;rintro e w'⟨rfl,rfl⟩;rw[HN.out])
    | (go_at_call 155;refine(bit_any _ _ HN.out).mono ?_;rintro e w'⟨rfl,rfl⟩))
   go_ret;exact⟨ret_bool (by simp[hasB,HN.out,HC.out]),rfl⟩
theorem of_ok(a:Option Addr)(n cap:Nat)(l:List Int)(w:World)(hn:l.length=n)(hr:RowAt w a (encInts l))(hc:n≤4611686018427387904)(hall:∀x∈l,nodeB x=true) :
 Calls Tryz.prog 106 #[.slice a n cap] w fun e w'=>e=.returned (.tuple #[.int .i64 (crewOf l),.nilIface])∧w=w':=by
 have HA:=Lib.hid hall;clear hall;go_enter Tryz.func106,Tryz.ntmps106;go_wp2;go_loop [4,9] (fun c i=>∃k:Nat,k≤n∧i=.int .i64 k∧c=.int .i64 (crewOf (l.take k))) (fun _ i=>n-(intOf i).toNat)
 case atStart=>exact⟨0,Nat.zero_le _,rfl,rfl⟩
 case round=>
  obtain⟨k,hk,rfl,rfl⟩:=hrel
  by_cases hlt:k<n
  ·obtain⟨b,off,rfl,hbl,c0⟩:=hr.int k (by omega)
   have hkt:k<l.length:=by omega
   have hs:crewOf (l.take (k+1))=crewOf (l.take k)|||bitOf l[k]:=by rw[List.take_succ_eq_append_getElem hkt,crewOf,List.foldl_append];rfl
   have hnd:=HA.out _ (List.getElem_mem hkt);have hlt1:crewOf (l.take k)<65536:=crewOf_lt (fun x hx=>HA.out x (List.mem_of_mem_take hx));have hlt2:=bitOf_lt hnd;generalize l[k]=x at *;have hO:bits .or .i64 (crewOf (l.take k):Int) (bitOf x:Int)=((crewOf (l.take k)|||bitOf x:Nat):Int):=or_nat _ _ (by omega) (by omega);have HN:=Lib.hid hnd;have HS:=Lib.hid hs;clear hnd hs
   go_wp2_with (first
    | (go_at_call 154;refine(node_any _ _).mono ?_;rintro e w'⟨rfl,rfl⟩;rw[HN.out])
    | (go_at_call 155;refine(bit_any _ _ HN.out).mono ?_;rintro e w'⟨rfl,rfl⟩))
   go_round
   case rel=>exact⟨k+1,by omega,by go_num,by rw[HS.out]⟩
   case measure=>simp[intOf];omega
  ·have e1:l.take k=l:=List.take_of_length_le (by omega)
   rw[e1];clear e1;go_wp2;go_ret2;exact⟨rfl,rfl⟩
def lessN(a b:Nat):Nat:=a ^^^ (a&&&b)
theorem andNot_nat(a b:Nat)(ha:a<9223372036854775808)(hb:b<9223372036854775808):bits .andNot .i64 (a:Int) (b:Int)=((lessN a b:Nat):Int):=by
 have hx:lessN a b<2^63:=Nat.xor_lt_two_pow (by omega) (Nat.and_lt_two_pow _ (by omega))
 have e:(BitVec.ofInt 64 (a:Int)&&&~~~ BitVec.ofInt 64 (b:Int)).toNat=lessN a b:=by
  apply Nat.eq_of_testBit_eq;intro i;rw[lessN,Nat.testBit_xor,Nat.testBit_and,BitVec.testBit_toNat,BitVec.getLsbD_and,BitVec.getLsbD_not,←BitVec.testBit_toNat,←BitVec.testBit_toNat,ofInt_nat a ha,ofInt_nat b hb]
  by_cases hi:i<64
  ·cases a.testBit i<;>cases b.testBit i<;>simp[hi]
  ·have:a.testBit i=false:=Nat.testBit_lt_two_pow (Nat.lt_of_lt_of_le (show a<2^64 by omega) (Nat.pow_le_pow_right (by omega) (by omega)))
   simp[this]
 show IntKind.i64.wrap ((BitVec.ofInt 64 (a:Int)&&&~~~ BitVec.ofInt 64 (b:Int)).toNat:Int)=_
 rw[e,IntKind.wrap_i64];omega
theorem crew_nat{a:Int}(h:crewB a=true):∃k:Nat,a=k∧k<65536:=⟨a.toNat,by simp[crewB] at h;omega,by simp[crewB] at h;omega⟩
end Go.Proofs.YtppfkokfnoeopaaGreatDoor
