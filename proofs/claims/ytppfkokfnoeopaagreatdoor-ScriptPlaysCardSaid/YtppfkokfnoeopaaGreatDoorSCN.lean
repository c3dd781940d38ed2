/- A part of a proof. -/
import Derived.Lib.AtoiTie
import Derived.Lib.ItoaMem
import Derived.Lib.ItoaLen
import Derived.Lib.Strings
import Derived.Lib.Bytealg
set_option maxRecDepth 400000
set_option maxHeartbeats 6400000
namespace Go.Proofs.YtppfkokfnoeopaaGreatDoor
open Go.Lib
theorem Cj{u:Nat}(h:u<10):decDigits u=[UInt8.ofNat (48+u)]:=by rw[decDigits,dif_pos h]
theorem Ed{u:Nat}(h:¬u<10):decDigits u=decDigits (u/10)++[UInt8.ofNat (48+u%10)]:=by rw[decDigits,dif_neg h]
theorem Eo(u:Nat):decDigits u≠[]:=by
 by_cases h:u<10
 ·rw[Cj h];simp
 ·rw[Ed h];simp
theorem Iy{d:Nat}(h:d<10):(UInt8.ofNat (48+d)).toNat=48+d:=by
 rw[UInt8.toNat_ofNat'];exact Nat.mod_eq_of_lt (by omega)
theorem Dq:∀u:Nat,∀c∈decDigits u,48≤c.toNat∧c.toNat≤57:=by
 intro u
 induction u using Nat.strongRecOn with
 | _ u ih=>
  intro c hc
  by_cases h:u<10
  ·rw[Cj h,List.mem_singleton] at hc
   subst hc;rw[Iy h];omega
  ·rw[Ed h,List.mem_append,List.mem_singleton] at hc
   rcases hc with hc|rfl
   ·exact ih (u/10) (by omega) c hc
   ·rw[Iy (by omega)];omega
theorem Lo:∀u:Nat,1≤u→∃c r,decDigits u=c::r∧c.toNat≠48:=by
 intro u
 induction u using Nat.strongRecOn with
 | _ u ih=>
  intro hu
  by_cases h:u<10
  ·exact⟨_,[],Cj h,by rw[Iy h];omega⟩
  ·obtain⟨c,r,e,hc⟩:=ih (u/10) (by omega) (by omega)
   exact⟨c,r++[UInt8.ofNat (48+u%10)],by rw[Ed h,e];rfl,hc⟩
theorem Pf(l:List UInt8)(c:UInt8):∀acc v:Nat,parseUint10 acc l=.ok v→parseUint10 acc (l++[c])=parseUint10 v [c]:=by
 induction l with
 | nil=>intro acc v h;simp only[parseUint10,NumEnd.ok.injEq] at h;subst h;rfl
 | cons a r ih=>
  intro acc v h;simp only[parseUint10,List.cons_append] at h ⊢
  split at h
  ·rename_i h1
   rw[if_pos h1]
   split at h
   ·cases h
   ·rename_i h2
    rw[if_neg h2]
    split at h
    ·cases h
    ·rename_i h3
     rw[if_neg h3];exact ih _ _ h
  ·cases h
theorem Ni:∀u:Nat,u<18446744073709551616→parseUint10 0 (decDigits u)=.ok u:=by
 intro u
 induction u using Nat.strongRecOn with
 | _ u ih=>
  intro hu
  by_cases h:u<10
  ·rw[Cj h]
   simp only[parseUint10];rw[Iy h,if_pos (by omega),if_neg (by omega),if_neg (by omega),show 0*10+(48+u-48)=u by omega]
  ·rw[Ed h,Pf _ _ 0 (u/10) (ih (u/10) (by omega) (by omega))]
   simp only[parseUint10];rw[Iy (by omega),if_pos (by omega),if_neg (by omega),if_neg (by omega),show u/10*10+(48+u%10-48)=u by omega]
theorem Lc{u:Nat}(hu:u<18446744073709551616):parseMag (decDigits u)=.ok u:=by
 unfold parseMag;rw[if_neg (Eo u)];exact Ni u hu
theorem F6(n:Int)(h0 : -9223372036854775808≤n)(h1:n≤9223372036854775807):atoiAll (itoa n)=.ok n:=by
 by_cases hn:n<0
 ·have e:itoa n=45::decDigits n.natAbs:=by unfold itoa;rw[if_pos hn]
  rw[e];simp only[atoiAll];rw[if_pos (Or.inr (by decide)),Lc (by omega)];simp only;rw[if_neg (by intro h;exact h.1 (by decide)),if_neg (by omega),if_pos (by decide)]
  congr 1;omega
 ·have e:itoa n=decDigits n.toNat:=by unfold itoa;rw[if_neg hn]
  rw[e]
  obtain⟨c,r,ec⟩:∃c r,decDigits n.toNat=c::r:=by
   cases hd:decDigits n.toNat with
   | nil=>exact absurd hd (Eo _)
   | cons c r=>exact⟨c,r,rfl⟩
  have hc:=Dq n.toNat c (by rw[ec];simp);have hp:=Lc (u:=n.toNat) (by omega);rw[ec] at hp ⊢;simp only[atoiAll];rw[if_neg (by omega),hp];simp only;rw[if_neg (by omega),if_neg (by omega),if_neg (by omega)]
  congr 1;omega
theorem Sq:∀u:Nat,1≤u→10^(nDigits u-1)≤u:=by
 intro u
 induction u using Nat.strongRecOn with
 | _ u ih=>
  intro hu
  by_cases h:u<10
  ·rw[nDigits_small h];simpa using hu
  ·have h1:=ih (u/10) (by omega) (by omega)
   have h2:=nDigits_pos (u/10);rw[nDigits_big h,show nDigits (u/10)+1-1=(nDigits (u/10)-1)+1 by omega,Nat.pow_succ];omega
theorem Dg(u k:Nat)(hk:1≤k):(decDigits u).length≤k↔u<10^k:=by
 rw[decDigits_length]
 constructor
 ·intro h;exact Nat.lt_of_lt_of_le (lt_pow_nDigits u) (Nat.pow_le_pow_right (by omega) h)
 ·intro h
  by_cases hu:u=0
  ·subst hu;rw[nDigits_small (by omega)];exact hk
  ·have h1:=Sq u (by omega)
   by_cases hlt:nDigits u≤k
   ·exact hlt
   ·have:=Nat.pow_le_pow_right (n:=10) (by omega) (show k≤nDigits u-1 by omega)
    omega
theorem Nz(l:List UInt8)(c:UInt8):∀acc:Nat,decFrom acc (l++[c])=(decFrom acc l).bind fun v=>decFrom v [c]:=by
 induction l with
 | nil=>intro acc;rfl
 | cons a r ih=>
  intro acc;simp only[decFrom,List.cons_append]
  cases ha:digitVal a with
  | none=>rfl
  | some d=>exact ih _
theorem Lp:∀u:Nat,decFrom 0 (decDigits u)=some u:=by
 intro u
 induction u using Nat.strongRecOn with
 | _ u ih=>
  by_cases h:u<10
  ·rw[Cj h]
   simp only[decFrom,digitVal];rw[Iy h,if_pos (by omega)];simp only[Option.some.injEq];omega
  ·rw[Ed h,Nz,ih (u/10) (by omega)]
   simp only[Option.bind,decFrom,digitVal];rw[Iy (by omega),if_pos (by omega)];simp only[Option.some.injEq];omega
theorem Iz:∀(k:Nat) (t:List UInt8) (m:Nat),t.length=k→t≠[]→(1<t.length→t.head?≠some 48)→decFrom 0 t=some m→t=decDigits m:=by
 intro k
 induction k with
 | zero=>intro t m hk hne;exact absurd (List.eq_nil_of_length_eq_zero hk) hne
 | succ k ih=>
  intro t m hk hne hz h;obtain⟨r,c,rfl⟩:∃r c,t=r++[c]:=⟨t.dropLast,t.getLast hne,(List.dropLast_concat_getLast hne).symm⟩
  rw[Nz] at h
  cases hr:decFrom 0 r with
  | none=>rw[hr] at h;cases h
  | some v=>
   rw[hr] at h;simp only[Option.bind,decFrom,digitVal] at h
   split at h
   ·rename_i e he
    split at he
    ·rename_i hd
     simp only[Option.some.injEq] at h he
     have hc:c=UInt8.ofNat (48+(c.toNat-48)):=by
      apply UInt8.toNat_inj.1;rw[Iy (by omega)];omega
     by_cases hr0:r=[]
     ·subst hr0
      simp only[decFrom,Option.some.injEq] at hr;subst hr;rw[List.nil_append,Cj (by omega)];have:m=c.toNat-48:=by omega
      rw[this,←hc]
     ·have hl:r.length=k:=by simp at hk;omega
      have hh:(r++[c]).head?=r.head?:=by cases r with|nil=>exact absurd rfl hr0|cons a b=>rfl
      have hz':r.head?≠some 48:=by rw[←hh];exact hz (by have:=List.length_pos_iff.2 hr0;simp;omega)
      have hr':=ih r v hl hr0 (fun _=>hz') hr
      have hv:1≤v:=by
       by_cases hv:v=0
       ·subst hv;rw[hr',Cj (by omega)] at hz';exact absurd rfl hz'
       ·omega
      rw[Ed (u:=m) (by omega),show m/10=v by omega,←hr']
      congr 1
      rw[show m%10=c.toNat-48 by omega,←hc]
    ·cases he
   ·cases h
def Cl(s:List UInt8):Option Int:=match atoiAll s with
 | .ok n=>if itoa n=s∧(trimPrefix s [45]).length≤7 then some n else none
 | _=>none
def Nk(s:List UInt8):Option Int:=
 if (s.head?=some 45) then
  (if s.tail.length<1∨7<s.tail.length∨(1<s.tail.length∧s.tail.head?=some 48)∨s.tail=[48] then none else(decFrom 0 s.tail).map fun(m:Nat)=>-(m:Int))
 else(if s.length<1∨7<s.length∨(1<s.length∧s.head?=some 48) then none else(decFrom 0 s).map fun(m:Nat)=>(m:Int))
theorem D7(s:List UInt8)(n:Int):Cl s=some n↔s=itoa n∧-10000000<n∧n<10000000:=by
 have e7:(10:Nat)^7=10000000:=by decide
 have htp:∀m:Int,(trimPrefix (itoa m) [45]).length=(decDigits m.natAbs).length:=by
  intro m
  by_cases hm:m<0
  ·have e:itoa m=45::decDigits m.natAbs:=by unfold itoa;rw[if_pos hm]
   rw[e,trimPrefix,hasPrefix];simp
  ·have e:itoa m=decDigits m.natAbs:=by unfold itoa;rw[if_neg hm,show m.toNat=m.natAbs by omega]
   rw[e]
   cases hd:decDigits m.natAbs with
   | nil=>exact absurd hd (Eo _)
   | cons c r=>
    have hc:=Dq m.natAbs c (by rw[hd];simp)
    have hcc:((45:UInt8)==c)=false:=by
     rw[beq_eq_false_iff_ne];rintro rfl;exact absurd hc.1 (by decide)
    rw[trimPrefix,hasPrefix];simp[List.isPrefixOf,hcc]
 constructor
 ·intro h
  unfold Cl at h
  split at h
  ·rename_i v hv
   split at h
   ·rename_i hc
    simp only[Option.some.injEq] at h;subst h;have h1:=htp v;rw[hc.1] at h1;have h2:=(Dg v.natAbs 7 (by omega)).1 (by omega);exact⟨hc.1.symm,by omega,by omega⟩
   ·cases h
  ·cases h
 ·rintro⟨rfl,h0,h1⟩
  unfold Cl;rw[F6 n (by omega) (by omega)];simp only;rw[if_pos ⟨trivial,by rw[htp,Dg _ _ (by omega)];omega⟩]
theorem zAr(s:List UInt8)(n:Int):Nk s=some n↔s=itoa n∧-10000000<n∧n<10000000:=by
 have e7:(10:Nat)^7=10000000:=by decide
 constructor
 ·intro h
  unfold Nk at h
  split at h
  ·rename_i hb
   split at h
   ·cases h
   ·rename_i hc
    rw[Option.map_eq_some_iff] at h;obtain⟨m,hm,rfl⟩:=h
    have hs:s=45::s.tail:=by
     cases s with
     | nil=>simp at hb
     | cons a r=>simp at hb;subst hb;rfl
    have hne:s.tail≠[]:=fun e=>hc (Or.inl (by rw[e];decide))
    have ht:=Iz _ s.tail m rfl hne (fun h1 h2=>hc (Or.inr (Or.inr (Or.inl ⟨h1,h2⟩)))) hm;have hl:=(Dg m 7 (by omega)).1 (by rw[←ht];omega)
    have hm0:1≤m:=by
     by_cases h0:m=0
     ·subst h0;exact absurd (Or.inr (Or.inr (Or.inr (by rw[ht];exact Cj (by omega))))) hc
     ·omega
    refine⟨?_,by omega,by omega⟩;rw[itoa_neg m hm0,←ht];exact hs
  ·rename_i hb
   split at h
   ·cases h
   ·rename_i hc
    rw[Option.map_eq_some_iff] at h;obtain⟨m,hm,rfl⟩:=h;have hne:s≠[]:=fun e=>hc (Or.inl (by rw[e];decide))
    have ht:=Iz _ s m rfl hne (fun h1 h2=>hc (Or.inr (Or.inr ⟨h1,h2⟩))) hm;have hl:=(Dg m 7 (by omega)).1 (by rw[←ht];omega);exact⟨by rw[itoa_nonneg];exact ht,by omega,by omega⟩
 ·rintro⟨rfl,h0,h1⟩
  by_cases hn:n<0
  ·obtain⟨m,rfl⟩:∃m:Nat,n=-(m:Int):=⟨n.natAbs,by omega⟩
   have e:=itoa_neg m (by omega);rw[e];unfold Nk;have hl:=(Dg m 7 (by omega)).2 (by omega);have hp:=List.length_pos_iff.2 (Eo m);obtain⟨c,r,ec,hc⟩:=Lo m (by omega);rw[if_pos (by simp),if_neg,List.tail_cons,Lp]
   ·rfl
   ·rw[List.tail_cons]
    rintro(h|h|h|h)
    ·omega
    ·omega
    ·rw[ec] at h;simp at h;rw[h.2] at hc;exact hc (by decide)
    ·rw[ec] at h;simp at h;rw[h.1] at hc;exact hc (by decide)
  ·obtain⟨m,rfl⟩:∃m:Nat,n=(m:Int):=⟨n.toNat,by omega⟩
   rw[itoa_nonneg];unfold Nk;have hl:=(Dg m 7 (by omega)).2 (by omega);have hp:=List.length_pos_iff.2 (Eo m)
   have hhead:(decDigits m).head?≠some 45:=by
    intro e
    cases hd:decDigits m with
    | nil=>exact absurd hd (Eo _)
    | cons c r=>
     rw[hd] at e;simp at e;subst e;have:=Dq m 45 (by rw[hd];simp);exact absurd this.1 (by decide)
   rw[if_neg hhead,if_neg,Lp]
   ·rfl
   ·rintro(h|h|h)
    ·omega
    ·omega
    ·by_cases hm:m<10
     ·rw[Cj hm] at h;simp at h
     ·obtain⟨c,r,ec,hc⟩:=Lo m (by omega)
      rw[ec] at h;simp at h;rw[h.2] at hc;exact hc (by decide)
theorem Vb(s:List UInt8):Nk s=Cl s:=by
 apply Option.ext;intro n;rw[zAr,D7]
def Az(c:UInt8):List UInt8→List (List UInt8)
 | []=>[[]]
 | b::r=>if b==c then[]::Az c r else match Az c r with
  | []=>[[b]]
  | w::ws=>(b::w)::ws
theorem F7(c:UInt8)(l:List UInt8):Az c l≠[]:=by
 cases l with
 | nil=>simp[Az]
 | cons b r=>
  rw[Az];split
  ·simp
  ·split<;>simp
theorem Ch(c:UInt8):∀l:List UInt8,(Az c l).length≤l.length+1
 | []=>by simp[Az]
 | b::r=>by
  have ih:=Ch c r;rw[Az];split
  ·simp;omega
  ·split
   ·simp
   ·rename_i w ws h;rw[h] at ih;simp at ih ⊢;omega
theorem Md(c:UInt8):∀l:List UInt8,indexByte l c=-1→Az c l=[l]
 | [],_=>rfl
 | b::r,h=>by
  rw[indexByte] at h
  split at h
  ·exact absurd h (by decide)
  ·rename_i hb
   split at h
   ·rename_i h1
    rw[Az,if_neg hb,Md c r (by simpa using h1)]
   ·have:=indexByte_ge r c;rename_i h1;simp at h1;omega
theorem Ny(c:UInt8):∀(l:List UInt8) (k:Nat),indexByte l c=k→k<l.length∧Az c l=l.take k::Az c (l.drop (k+1))
 | [],k,h=>by exfalso;rw[indexByte] at h;omega
 | b::r,k,h=>by
  rw[indexByte] at h
  split at h
  ·rename_i hb
   obtain rfl:k=0:=by omega
   exact⟨by simp,by rw[Az,if_pos hb];rfl⟩
  ·rename_i hb
   split at h
   ·omega
   ·have h1:=indexByte_ge r c
    rename_i h2;simp at h2;obtain⟨m,rfl⟩:∃m,k=m+1:=⟨k-1,by omega⟩
    obtain⟨h3,h4⟩:=Ny c r m (by omega);refine⟨by rw[List.length_cons];omega,?_⟩;rw[Az,if_neg hb,h4];rfl
theorem Jy(c:UInt8):∀(l:List UInt8),∀w∈Az c l,c∉w
 | [],w,h=>by simp[Az] at h;subst h;simp
 | b::r,w,h=>by
  have ih:=Jy c r;rw[Az] at h
  split at h
  ·rcases List.mem_cons.1 h with rfl|h
   ·simp
   ·exact ih w h
  ·rename_i hb
   have hbc:c≠b:=by rintro rfl;simp at hb
   split at h
   ·simp at h;subst h;simpa using hbc
   ·rename_i v vs e
    rw[e] at ih
    rcases List.mem_cons.1 h with rfl|h
    ·have:=ih v (by simp)
     simp only[List.mem_cons,not_or];exact⟨hbc,this⟩
    ·exact ih w (List.mem_cons_of_mem _ h)
theorem Me(c:UInt8):∀(w:List UInt8),c∉w→Az c w=[w]
 | [],_=>rfl
 | b::r,h=>by
  simp only[List.mem_cons,not_or] at h;rw[Az,if_neg (by simp;exact fun e=>h.1 e.symm),Me c r h.2]
theorem O6(c:UInt8)(l:List UInt8):∀(w:List UInt8),c∉w→Az c (w++c::l)=w::Az c l
 | [],_=>by simp[Az]
 | b::r,h=>by
  simp only[List.mem_cons,not_or] at h;rw[List.cons_append,Az,if_neg (by simp;exact fun e=>h.1 e.symm),O6 c l r h.2]
theorem Cz(c:UInt8):∀(l:List UInt8),∀w∈Az c l,w.length≤l.length
 | [],w,h=>by simp[Az] at h;subst h;simp
 | b::r,w,h=>by
  have ih:=Cz c r;rw[Az] at h
  split at h
  ·rcases List.mem_cons.1 h with rfl|h
   ·simp
   ·have:=ih w h;rw[List.length_cons];omega
  ·split at h
   ·simp at h;subst h;simp
   ·rename_i v vs e
    rw[e] at ih
    rcases List.mem_cons.1 h with rfl|h
    ·have:=ih v (by simp);simp only[List.length_cons];omega
    ·have:=ih w (List.mem_cons_of_mem _ h);rw[List.length_cons];omega
def Cv(c:UInt8):List (List UInt8)→List UInt8
 | []=>[]
 | [w]=>w
 | w::ws=>w++c::Cv c ws
theorem Er(c:UInt8)(w:List UInt8){ws:List (List UInt8)}(h:ws≠[]):Cv c (w::ws)=w++c::Cv c ws:=by
 cases ws with
 | nil=>exact absurd rfl h
 | cons a b=>rfl
theorem Es(c:UInt8):∀l:List UInt8,Cv c (Az c l)=l
 | []=>rfl
 | b::r=>by
  have ih:=Es c r;rw[Az]
  split
  ·rename_i hb
   rw[Er c _ (F7 c r),ih,List.nil_append,eq_of_beq hb]
  ·split
   ·rename_i h;exact absurd h (F7 c r)
   ·rename_i v vs h
    rw[h] at ih
    cases vs with
    | nil=>simp only[Cv] at ih ⊢;rw[ih]
    | cons a as=>simp only[Cv] at ih ⊢;rw[List.cons_append,ih]
theorem Kj(c:UInt8):∀ws:List (List UInt8),ws≠[]→(∀w∈ws,c∉w)→Az c (Cv c ws)=ws
 | [],h,_=>absurd rfl h
 | [w],_,h=>Me c w (h w (by simp))
 | w::v::vs,_,h=>by
  rw[Er c w (by simp),O6 c _ w (h w (by simp)),Kj c (v::vs) (by simp) (fun u hu=>h u (List.mem_cons_of_mem _ hu))]
end Go.Proofs.YtppfkokfnoeopaaGreatDoor
