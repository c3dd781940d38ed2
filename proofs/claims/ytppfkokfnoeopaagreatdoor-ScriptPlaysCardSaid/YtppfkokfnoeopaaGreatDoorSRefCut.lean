/- A part of a proof. -/
import Derived.Laws.IdiomStrings
import Derived.Test.YtppfkokfnoeopaaGreatDoorSCrewRead
import Derived.Test.YtppfkokfnoeopaaGreatDoorSRefBase
set_option maxRecDepth 400000
set_option maxHeartbeats 6400000
namespace Go.Proofs.YtppfkokfnoeopaaGreatDoor
open Go.RowKit Go.Proofs.Tryz
theorem zJl(l:List UInt8)(f k:Nat):(⟨l.toArray⟩:ByteArray).extract f k=⟨((l.drop f).take (k-f)).toArray⟩:=by
 apply ByteArray.ext;apply Array.ext';simp
theorem zFk{c:UInt8}{s:List UInt8}{f k:Nat}(hf:f≤k)(hk:k<s.length)(hno:c∉(s.drop f).take (k-f))(hc:s[k]=c):Az c (s.drop f)=(s.drop f).take (k-f)::Az c (s.drop (k+1)):=by
 have h1:s.drop f=(s.drop f).take (k-f)++c::s.drop (k+1):=by
  conv=>lhs;rw[←List.take_append_drop (k-f) (s.drop f)]
  rw[List.drop_drop,show f+(k-f)=k by omega,List.drop_eq_getElem_cons hk,hc]
 conv=>lhs;rw[h1]
 rw[O6 c _ _ hno]
theorem zJn{c:UInt8}{s:List UInt8}{f k:Nat}(hf:f≤k)(hk:k<s.length)(hno:c∉(s.drop f).take (k-f))(hc:s[k]≠c):c∉(s.drop f).take (k+1-f):=by
 rw[show k+1-f=(k-f)+1 by omega,List.take_succ_eq_append_getElem (by rw[List.length_drop];omega),List.mem_append,not_or];refine⟨hno,?_⟩;rw[List.getElem_drop];simp only[List.mem_singleton];intro e;have:f+(k-f)=k:=by omega
 simp only[this] at e;exact hc e.symm
theorem Mv(xs:List (List UInt8))(x:List UInt8):Ad (xs++[x])=Ad xs++[.string ⟨x.toArray⟩]:=by simp[Ad]
theorem Fv(s:List UInt8)(c:UInt8)(w:World)(hs:s.length≤100000) :
 Calls prog 39 #[.string ⟨s.toArray⟩,.int .u8 (c.toNat:Int)] w fun e w'=>∃ao n co,e=.returned (.slice ao n co)∧Ac w' ao (Ad (Az c s))∧(Az c s).length=n∧n≤co∧Below w.heap.size w w':=by
 obtain⟨i0,hi,hz0,hz1,hz2⟩:=info_parts Do;have hi':=zh hi;have hz0':=zh hz0;have hz1':=zh hz1;have hz2':=zh hz2;clear hi hz0 hz1 hz2;go_enter func39,ntmps39;go_wp2;go_loopw [5,6,7] (fun v fr i wr=>∃(pre:List (List UInt8)) (f k:Nat),f≤k∧k≤s.length∧pre.length≤f∧fr=.int .i64 f∧i=.int .i64 k∧wr.ownsRow w.heap.size 9 1 v pre.length (Ad pre)∧Hid (Az c s=pre++Az c (s.drop f))∧Hid (c∉(s.drop f).take (k-f))∧Below w.heap.size w wr) (fun _ _ i _=>s.length-(intOf i).toNat)
 case atStart=>exact⟨[],0,0,Nat.le_refl _,Nat.zero_le _,Nat.le_refl _,rfl,rfl,World.ownsRow_nil _ _ _ _,by unfold Hid;simp,by unfold Hid;simp,Below.refl _ _⟩
 case round=>
  obtain⟨pre,f,k,hfk,hk,hpl,rfl,rfl,hown,HC,HN,hb⟩:=hrel
  by_cases hlt:k<s.length
  ·have hx:(⟨s.toArray⟩:ByteArray)[k]'(by simpa[ByteArray.size] using hlt)=s[k]:=rfl
   have HSt:=zh (zFk hfk hlt HN.out);have HGo:=zh (zJn hfk hlt HN.out);have hmid:=zJl s f k
   by_cases hc:s[k]=c
   ·have HC2:Hid (Az c s=(pre++[(s.drop f).take (k-f)])++Az c (s.drop (k+1))):=by unfold Hid;rw[HC.out,HSt.out hc,List.append_assoc];rfl
    have hcb:((s[k].toNat:Int)==(c.toNat:Int))=true:=by simp[hc]
    have hcb2:(s[k].toNat==c.toNat)=true:=by simp[hc]
    generalize s[k]=y at *;clear HSt HGo HC HN hc;generalize (s.drop f).take (k-f)=piece at *;have HO:=zh (hown.alloc (.cells #[.string ⟨piece.toArray⟩] 9));have HW:=zh (Ac.new_at wr [.string ⟨piece.toArray⟩] 9 _ rfl);have HV:=zh (hb.alloc hb.size (.cells #[.string ⟨piece.toArray⟩] 9));clear hown;go_wp2_with (at_builtin;refine Ag _ rfl (.tmp 19) (.tmp 24) 22 rfl w.heap.size 9 i0 _ 1 16 underlying22 hi'.out hz0'.out hz1'.out hz2'.out rfl (by decide) _ pre.length (Ad pre) rfl HO.out (some ⟨wr.heap.size,0,none⟩) 1 1 [.string ⟨piece.toArray⟩] rfl rfl HW.out ?_ ?_ ?_ ?_ ?_;(simp[Value.oneCell']);(unfold maxLen;omega);(omega);(exact HV.out.size);intro v1 w5 ho1 hg1 hq hm1;clear hq hm1);go_roundw
    case rel=>exact⟨pre++[piece],k+1,k+1,Nat.le_refl _,by omega,by simp;omega,by go_num,by go_num,by rw[Mv,List.length_append];exact ho1,HC2,by unfold Hid;simp,HV.out.grown hg1 HV.out.size (fun j e=>(HO.out.lt j e).1)⟩
    case measure=>simp[intOf];omega
   ·have HN2:Hid (c∉(s.drop f).take (k+1-f)):=HGo.out hc
    have hcn:s[k].toNat≠c.toNat:=fun e=>hc (UInt8.toNat_inj.1 e)
    have hcb:((s[k].toNat:Int)==(c.toNat:Int))=false:=by simp;omega
    have hcb2:(s[k].toNat==c.toNat)=false:=by simpa using hcn
    generalize s[k]=y at *;clear HSt HGo HN hc hcn;go_wp2;go_roundw
    case rel=>exact⟨pre,f,k+1,by omega,by omega,hpl,rfl,by go_num,hown,HC,HN2,hb⟩
    case measure=>simp[intOf];omega
  ·obtain rfl:k=s.length:=by omega
   have HW2:Hid (Az c s=pre++[s.drop f]):=by
    unfold Hid;have h1:c∉s.drop f:=by have:=HN.out;rwa [List.take_of_length_le (by rw[List.length_drop];omega)] at this
    rw[HC.out,Me c _ h1]
   have hd:=He s f;generalize s.drop f=piece at *;have HO:=zh (hown.alloc (.cells #[.string ⟨piece.toArray⟩] 9));have HW:=zh (Ac.new_at wr [.string ⟨piece.toArray⟩] 9 _ rfl);have HV:=zh (hb.alloc hb.size (.cells #[.string ⟨piece.toArray⟩] 9));clear hown HC HN;go_wp2_with (at_builtin;refine Ag _ rfl (.tmp 28) (.tmp 32) 22 rfl w.heap.size 9 i0 _ 1 16 underlying22 hi'.out hz0'.out hz1'.out hz2'.out rfl (by decide) _ pre.length (Ad pre) rfl HO.out (some ⟨wr.heap.size,0,none⟩) 1 1 [.string ⟨piece.toArray⟩] rfl rfl HW.out ?_ ?_ ?_ ?_ ?_;(simp[Value.oneCell']);(unfold maxLen;omega);(omega);(exact HV.out.size);intro v1 w5 ho1 hg1 hq hm1;clear hq hm1);obtain⟨ao,co,rfl⟩:=Aj ho1;obtain⟨ra,_,na,_⟩:=Ac.owned ho1;go_wp2;go_ret;exact⟨ao,_,co,rfl,by rw[HW2.out,Mv];exact ra,by rw[HW2.out];simp,na,HV.out.grown hg1 HV.out.size (fun j e=>(HO.out.lt j e).1)⟩
end Go.Proofs.YtppfkokfnoeopaaGreatDoor
