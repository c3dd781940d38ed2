/- A part of a proof. -/
import Derived.Test.YtppfkokfnoeopaaGreatDoorSLib
set_option maxRecDepth 400000
set_option maxHeartbeats 6400000
namespace Go.Proofs.YtppfkokfnoeopaaGreatDoor
open Go.RowKit Go.Proofs.Tryz
theorem Tc{x y:ByteArray}(h:x≠y):(x.toList==y.toList)=false:=by
 rw[beq_eq_false_iff_ne,ByteArray.toList_eq,ByteArray.toList_eq];intro e;obtain⟨⟨x⟩⟩:=x;obtain⟨⟨y⟩⟩:=y;exact h (by simpa using e)
theorem zA3{x y:ByteArray}(h:x≠y):(x.toList != y.toList)=true:=by rw[bne,Tc h];rfl
theorem Uc(a a2:Option Addr)(n cap n2 cap2:Nat)(es fs:List ByteArray)(w:World)(hn:es.length=n)(hr:Ac w a (I4 es))(hn2:fs.length=n2)(hr2:Ac w a2 (I4 fs))(hc:n≤4611686018427387904) :
 Calls prog 29 #[.slice a n cap,.slice a2 n2 cap2] w fun e w'=>e=.returned (.bool (decide (es=fs)))∧Below w.heap.size w w':=by
 by_cases hl:n=n2
 ·subst hl
  have hq:((n:Int) != (n:Int))=false:=by simp
  have HN:=zh hn;have HN2:=zh hn2;clear hn hn2;go_enter func29,ntmps29;go_wp2;go_loopw [5] (fun i wr=>∃k:Nat,k≤n∧i=.int .i64 k∧Hid (es.take k=fs.take k)∧Below w.heap.size w wr) (fun i _=>n-(intOf i).toNat)
  case atStart=>exact⟨0,Nat.zero_le _,rfl,rfl,Below.refl _ _⟩
  case round=>
   obtain⟨k,hk,rfl,HK,hb⟩:=hrel
   by_cases hlt:k<n
   ·have hk1:k<es.length:=by have:=HN.out;omega
    have hk2:k<fs.length:=by have:=HN2.out;omega
    obtain⟨b,off,rfl,hbl,c0⟩:=(hr.below hb).str k hk1;obtain⟨b',off',rfl,hbl',d0⟩:=(hr2.below hb).str k hk2;have ht1:=zh (List.take_succ_eq_append_getElem hk1);have ht2:=zh (List.take_succ_eq_append_getElem hk2);have hi0:(0:Int)≤(k:Int):=by omega
    have hi1:(k:Int)<(n:Int):=by omega
    by_cases he:es[k]=fs[k]
    ·have HS:Hid (es.take (k+1)=fs.take (k+1)):=by unfold Hid at HK ⊢;rw[ht1.out,ht2.out,HK,he]
     rw[←he] at d0;clear ht1 ht2 he;generalize es[k]=e at *;go_wp2;go_quiet (fail);go_wp2;go_roundw
     case rel=>exact⟨k+1,by omega,by go_num,HS,Ab hb _⟩
     case measure=>simp[intOf];omega
    ·have HS:Hid (es≠fs):=by unfold Hid;intro e;subst e;exact he rfl
     have h1:=Tc he;have h2:=zA3 he;clear ht1 ht2 he;generalize es[k]=e at *;generalize fs[k]=f at *;go_wp2;go_quiet (fail);go_wp2;go_ret;exact⟨Ca (by simp[HS.out]),Ab hb _⟩
   ·have HS:Hid (es=fs):=by
     unfold Hid at HK ⊢
     rwa [List.take_of_length_le (by have:=HN.out;omega),List.take_of_length_le (by have:=HN2.out;omega)] at HK
    go_wp2;go_ret;exact⟨Ca (by simp[HS.out]),hb⟩
 ·have hq:((n:Int) != (n2:Int))=true:=by simp;omega
  have HS:Hid (es≠fs):=by unfold Hid;intro e;subst e;omega
  clear hl;go_enter func29,ntmps29;go_wp2;go_ret;exact⟨Ca (by simp[HS.out]),Below.refl _ _⟩
end Go.Proofs.YtppfkokfnoeopaaGreatDoor
