/- A part of a proof. -/
import Derived.Test.YtppfkokfnoeopaaGreatDoorSRefBase
set_option maxRecDepth 400000
set_option maxHeartbeats 6400000
namespace Go.Proofs.YtppfkokfnoeopaaGreatDoor
open Go.RowKit Go.Proofs.Tryz
set_option maxHeartbeats 12800000 in
theorem Jn(a:Option Addr)(n cap:Nat)(es:List Ent)(w:World)(hn:es.length=n)(hr:Ac w a (Av es))(hm:n≤4611686018427387904) :
 Calls prog 230 #[.slice a n cap] w fun e w'=>e=.returned (.agg #[.int .i64 (chk es).1,.int .i64 (chk es).2])∧Below w.heap.size w w':=by
 have HN:=zh hn
 by_cases h2:200<n
 ·have HC:Hid (chk es=(7,-1)):=by unfold Hid;rw[chk,if_pos (by omega)]
  clear hn;go_enter func230,ntmps230;go_wp2_with (go_at_call 118;refine(Cu _ _).mono ?_;rintro e w1⟨rfl,hb⟩;have c0:w1.cell? ⟨w.heap.size,0,none⟩=some (.int .i64 0):=(hb.cell (p:=⟨w.heap.size,0,none⟩) (by simp)).trans (by simp);have c1:w1.cell? ⟨w.heap.size,1,none⟩=some (.int .i64 0):=(hb.cell (p:=⟨w.heap.size,1,none⟩) (by simp)).trans (by simp);have f0:w1.frozen? ⟨w.heap.size,0,none⟩=false:=(hb.frozen (p:=⟨w.heap.size,0,none⟩) (by simp)).trans (by simp);have f1:w1.frozen? ⟨w.heap.size,1,none⟩=false:=(hb.frozen (p:=⟨w.heap.size,1,none⟩) (by simp)).trans (by simp);have hz:w.heap.size<w1.heap.size:=(by have:=hb.size;simp at this;omega));refine bodyPost_ret (v:=.agg #[.int .i64 7,.int .i64 (-1)]) (by simp[results,results230,go_sem,c0,c1]) rfl ?_;rw[HC.out];exact⟨rfl,(((zb.alloc zl _).trans (hb.mono (by simp))).setCell (by simp) _).setCell (by simp) _⟩
 ·have HC:Hid (chk es=Co 0 es):=by unfold Hid;rw[chk,if_neg (by omega)]
  have hd:decide ((200:Int)<(n:Int))=false:=by simp;omega
  clear hn;go_enter func230,ntmps230;go_wp2;go_loop [3] (fun i=>∃k:Nat,k≤n∧i=.int .i64 k∧Hid (Co k (es.drop k)=Co 0 es)) (fun i=>n-(intOf i).toNat)
  case atStart=>exact⟨0,Nat.zero_le _,rfl,rfl⟩
  case round=>
   obtain⟨k,hk,rfl,HK⟩:=hrel
   by_cases hlt:k<n
   ·have hkt:k<es.length:=by have:=HN.out;omega
    obtain⟨b,off,rfl,hbl,q0,q1,q2,q3⟩:=hr.ent k hkt;have hw0:Below w.heap.size w (w.alloc (.cells #[.int .i64 0,.int .i64 0] 55)):=zb.alloc zl _;have c0:=(hw0.cell (p:=⟨b,off+k*4,none⟩) hbl).trans q0;have c1:=(hw0.cell (p:=⟨b,off+k*4+1,none⟩) hbl).trans q1;have c2:=(hw0.cell (p:=⟨b,off+k*4+2,none⟩) hbl).trans q2;have c3:=(hw0.cell (p:=⟨b,off+k*4+3,none⟩) hbl).trans q3;have hdr:es.drop k=es[k]::es.drop (k+1):=List.drop_eq_getElem_cons hkt
    have HS:Hid (Bu k es[k]=0→Co (k+1:Nat) (es.drop (k+1))=Co 0 es):=by
     unfold Hid at HK ⊢;intro hz;rw[←HK,hdr,Co,if_pos hz];rfl
    have HE:Hid (Bu k es[k]≠0→chk es=(Bu k es[k],(k:Int))):=by
     unfold Hid at HK HC ⊢;intro hz;rw[HC,←HK,hdr,Co,if_neg hz]
    have hi0:(0:Int)≤(k:Int):=by omega
    have hi1:(k:Int)<(n:Int):=by omega
    clear hdr HK q0 q1 q2 q3 hw0 hr hbl;generalize hek:es[k]=ek at *;clear hek hkt;obtain⟨s,f,h,v⟩:=ek;simp only at c0 c1 c2 c3
    by_cases hs:s=(k:Int)
    ·cases hnd:Aq f
     ·cases h
      ·by_cases hv0:v=0
       ·have hb1 : -1048576≤v:=by omega
        have hb2:v≤1048576:=by omega
        have HZ:Hid (Bu k ⟨s,f,false,v⟩=4):=by
         unfold Hid Bu Cr;rw[if_neg (by simp[hs])];rw[if_pos hnd]
        have HND:=zh hnd;have hsb:(s != (k:Int))=false:=by simpa using hs
        have hvb:(v != 0)=false:=by simp[hv0]
        clear hs hnd hv0;go_wp2_with (go_at_call 119;refine(Au _ _).mono ?_;rintro e w1⟨rfl,rfl⟩;rw[HND.out]);refine bodyPost_ret (v:=.agg #[.int .i64 4,.int .i64 k]) (by simp[results,results230,go_sem]) rfl ?_;rw[HE.out (by rw[HZ.out];decide),HZ.out];exact⟨rfl,zb.alloc zl _⟩
       ·by_cases hlo:v < -1048576
        ·have HZ:Hid (Bu k ⟨s,f,false,v⟩=4):=by
          unfold Hid Bu Cr;rw[if_neg (by simp[hs])];rw[if_pos hnd]
         have HND:=zh hnd;have hsb:(s != (k:Int))=false:=by simpa using hs
         have hvb:(v != 0)=true:=by simpa using hv0
         clear hs hnd hv0;go_wp2_with (go_at_call 119;refine(Au _ _).mono ?_;rintro e w1⟨rfl,rfl⟩;rw[HND.out]);refine bodyPost_ret (v:=.agg #[.int .i64 4,.int .i64 k]) (by simp[results,results230,go_sem]) rfl ?_;rw[HE.out (by rw[HZ.out];decide),HZ.out];exact⟨rfl,zb.alloc zl _⟩
        ·by_cases hhi:1048576<v
         ·have HZ:Hid (Bu k ⟨s,f,false,v⟩=4):=by
           unfold Hid Bu Cr;rw[if_neg (by simp[hs])];rw[if_pos hnd]
          have HND:=zh hnd;have hsb:(s != (k:Int))=false:=by simpa using hs
          have hvb:(v != 0)=true:=by simpa using hv0
          clear hs hnd hv0;go_wp2_with (go_at_call 119;refine(Au _ _).mono ?_;rintro e w1⟨rfl,rfl⟩;rw[HND.out]);refine bodyPost_ret (v:=.agg #[.int .i64 4,.int .i64 k]) (by simp[results,results230,go_sem]) rfl ?_;rw[HE.out (by rw[HZ.out];decide),HZ.out];exact⟨rfl,zb.alloc zl _⟩
         ·have hb1 : -1048576≤v:=by omega
          have hb2:v≤1048576:=by omega
          have HZ:Hid (Bu k ⟨s,f,false,v⟩=4):=by
           unfold Hid Bu Cr;rw[if_neg (by simp[hs])];rw[if_pos hnd]
          have HND:=zh hnd;have hsb:(s != (k:Int))=false:=by simpa using hs
          have hvb:(v != 0)=true:=by simpa using hv0
          clear hs hnd hv0;go_wp2_with (go_at_call 119;refine(Au _ _).mono ?_;rintro e w1⟨rfl,rfl⟩;rw[HND.out]);refine bodyPost_ret (v:=.agg #[.int .i64 4,.int .i64 k]) (by simp[results,results230,go_sem]) rfl ?_;rw[HE.out (by rw[HZ.out];decide),HZ.out];exact⟨rfl,zb.alloc zl _⟩
      ·by_cases hv0:v=0
       ·have hb1 : -1048576≤v:=by omega
        have hb2:v≤1048576:=by omega
        have HZ:Hid (Bu k ⟨s,f,true,v⟩=4):=by
         unfold Hid Bu Cr;rw[if_neg (by simp[hs])];rw[if_pos hnd]
        have HND:=zh hnd;have hsb:(s != (k:Int))=false:=by simpa using hs
        have hvb:(v != 0)=false:=by simp[hv0]
        clear hs hnd hv0;go_wp2_with (go_at_call 119;refine(Au _ _).mono ?_;rintro e w1⟨rfl,rfl⟩;rw[HND.out]);refine bodyPost_ret (v:=.agg #[.int .i64 4,.int .i64 k]) (by simp[results,results230,go_sem]) rfl ?_;rw[HE.out (by rw[HZ.out];decide),HZ.out];exact⟨rfl,zb.alloc zl _⟩
       ·by_cases hlo:v < -1048576
        ·have HZ:Hid (Bu k ⟨s,f,true,v⟩=4):=by
          unfold Hid Bu Cr;rw[if_neg (by simp[hs])];rw[if_pos hnd]
         have HND:=zh hnd;have hsb:(s != (k:Int))=false:=by simpa using hs
         have hvb:(v != 0)=true:=by simpa using hv0
         clear hs hnd hv0;go_wp2_with (go_at_call 119;refine(Au _ _).mono ?_;rintro e w1⟨rfl,rfl⟩;rw[HND.out]);refine bodyPost_ret (v:=.agg #[.int .i64 4,.int .i64 k]) (by simp[results,results230,go_sem]) rfl ?_;rw[HE.out (by rw[HZ.out];decide),HZ.out];exact⟨rfl,zb.alloc zl _⟩
        ·by_cases hhi:1048576<v
         ·have HZ:Hid (Bu k ⟨s,f,true,v⟩=4):=by
           unfold Hid Bu Cr;rw[if_neg (by simp[hs])];rw[if_pos hnd]
          have HND:=zh hnd;have hsb:(s != (k:Int))=false:=by simpa using hs
          have hvb:(v != 0)=true:=by simpa using hv0
          clear hs hnd hv0;go_wp2_with (go_at_call 119;refine(Au _ _).mono ?_;rintro e w1⟨rfl,rfl⟩;rw[HND.out]);refine bodyPost_ret (v:=.agg #[.int .i64 4,.int .i64 k]) (by simp[results,results230,go_sem]) rfl ?_;rw[HE.out (by rw[HZ.out];decide),HZ.out];exact⟨rfl,zb.alloc zl _⟩
         ·have hb1 : -1048576≤v:=by omega
          have hb2:v≤1048576:=by omega
          have HZ:Hid (Bu k ⟨s,f,true,v⟩=4):=by
           unfold Hid Bu Cr;rw[if_neg (by simp[hs])];rw[if_pos hnd]
          have HND:=zh hnd;have hsb:(s != (k:Int))=false:=by simpa using hs
          have hvb:(v != 0)=true:=by simpa using hv0
          clear hs hnd hv0;go_wp2_with (go_at_call 119;refine(Au _ _).mono ?_;rintro e w1⟨rfl,rfl⟩;rw[HND.out]);refine bodyPost_ret (v:=.agg #[.int .i64 4,.int .i64 k]) (by simp[results,results230,go_sem]) rfl ?_;rw[HE.out (by rw[HZ.out];decide),HZ.out];exact⟨rfl,zb.alloc zl _⟩
     ·cases h
      ·by_cases hv0:v=0
       ·have hb1 : -1048576≤v:=by omega
        have hb2:v≤1048576:=by omega
        have HZ:Hid (Bu k ⟨s,f,false,v⟩=0):=by
         unfold Hid Bu Cr;rw[if_neg (by simp[hs])];rw[if_neg (by simp[hnd])];rw[if_neg (by simp;omega)];rw[if_neg (by simp[hv0])]
        have HND:=zh hnd;have hsb:(s != (k:Int))=false:=by simpa using hs
        have hvb:(v != 0)=false:=by simp[hv0]
        clear hs hnd hv0;go_wp2_with (go_at_call 119;refine(Au _ _).mono ?_;rintro e w1⟨rfl,rfl⟩;rw[HND.out]);go_round
        case rel=>exact⟨k+1,by omega,by go_num,HS.out HZ.out⟩
        case measure=>simp[intOf];omega
       ·by_cases hlo:v < -1048576
        ·have HZ:Hid (Bu k ⟨s,f,false,v⟩=2):=by
          unfold Hid Bu Cr;rw[if_neg (by simp[hs])];rw[if_neg (by simp[hnd])];rw[if_pos (by simp;omega)]
         have HND:=zh hnd;have hsb:(s != (k:Int))=false:=by simpa using hs
         have hvb:(v != 0)=true:=by simpa using hv0
         clear hs hnd hv0;go_wp2_with (go_at_call 119;refine(Au _ _).mono ?_;rintro e w1⟨rfl,rfl⟩;rw[HND.out]);refine bodyPost_ret (v:=.agg #[.int .i64 2,.int .i64 k]) (by simp[results,results230,go_sem]) rfl ?_;rw[HE.out (by rw[HZ.out];decide),HZ.out];exact⟨rfl,zb.alloc zl _⟩
        ·by_cases hhi:1048576<v
         ·have HZ:Hid (Bu k ⟨s,f,false,v⟩=2):=by
           unfold Hid Bu Cr;rw[if_neg (by simp[hs])];rw[if_neg (by simp[hnd])];rw[if_pos (by simp;omega)]
          have HND:=zh hnd;have hsb:(s != (k:Int))=false:=by simpa using hs
          have hvb:(v != 0)=true:=by simpa using hv0
          clear hs hnd hv0;go_wp2_with (go_at_call 119;refine(Au _ _).mono ?_;rintro e w1⟨rfl,rfl⟩;rw[HND.out]);refine bodyPost_ret (v:=.agg #[.int .i64 2,.int .i64 k]) (by simp[results,results230,go_sem]) rfl ?_;rw[HE.out (by rw[HZ.out];decide),HZ.out];exact⟨rfl,zb.alloc zl _⟩
         ·have hb1 : -1048576≤v:=by omega
          have hb2:v≤1048576:=by omega
          have HZ:Hid (Bu k ⟨s,f,false,v⟩=3):=by
           unfold Hid Bu Cr;rw[if_neg (by simp[hs])];rw[if_neg (by simp[hnd])];rw[if_neg (by simp;omega)];rw[if_pos ⟨rfl,hv0⟩]
          have HND:=zh hnd;have hsb:(s != (k:Int))=false:=by simpa using hs
          have hvb:(v != 0)=true:=by simpa using hv0
          clear hs hnd hv0;go_wp2_with (go_at_call 119;refine(Au _ _).mono ?_;rintro e w1⟨rfl,rfl⟩;rw[HND.out]);refine bodyPost_ret (v:=.agg #[.int .i64 3,.int .i64 k]) (by simp[results,results230,go_sem]) rfl ?_;rw[HE.out (by rw[HZ.out];decide),HZ.out];exact⟨rfl,zb.alloc zl _⟩
      ·by_cases hv0:v=0
       ·have hb1 : -1048576≤v:=by omega
        have hb2:v≤1048576:=by omega
        have HZ:Hid (Bu k ⟨s,f,true,v⟩=0):=by
         unfold Hid Bu Cr;rw[if_neg (by simp[hs])];rw[if_neg (by simp[hnd])];rw[if_neg (by simp;omega)];rw[if_neg (by simp[hv0])]
        have HND:=zh hnd;have hsb:(s != (k:Int))=false:=by simpa using hs
        have hvb:(v != 0)=false:=by simp[hv0]
        clear hs hnd hv0;go_wp2_with (go_at_call 119;refine(Au _ _).mono ?_;rintro e w1⟨rfl,rfl⟩;rw[HND.out]);go_round
        case rel=>exact⟨k+1,by omega,by go_num,HS.out HZ.out⟩
        case measure=>simp[intOf];omega
       ·by_cases hlo:v < -1048576
        ·have HZ:Hid (Bu k ⟨s,f,true,v⟩=2):=by
          unfold Hid Bu Cr;rw[if_neg (by simp[hs])];rw[if_neg (by simp[hnd])];rw[if_pos (by simp;omega)]
         have HND:=zh hnd;have hsb:(s != (k:Int))=false:=by simpa using hs
         have hvb:(v != 0)=true:=by simpa using hv0
         clear hs hnd hv0;go_wp2_with (go_at_call 119;refine(Au _ _).mono ?_;rintro e w1⟨rfl,rfl⟩;rw[HND.out]);refine bodyPost_ret (v:=.agg #[.int .i64 2,.int .i64 k]) (by simp[results,results230,go_sem]) rfl ?_;rw[HE.out (by rw[HZ.out];decide),HZ.out];exact⟨rfl,zb.alloc zl _⟩
        ·by_cases hhi:1048576<v
         ·have HZ:Hid (Bu k ⟨s,f,true,v⟩=2):=by
           unfold Hid Bu Cr;rw[if_neg (by simp[hs])];rw[if_neg (by simp[hnd])];rw[if_pos (by simp;omega)]
          have HND:=zh hnd;have hsb:(s != (k:Int))=false:=by simpa using hs
          have hvb:(v != 0)=true:=by simpa using hv0
          clear hs hnd hv0;go_wp2_with (go_at_call 119;refine(Au _ _).mono ?_;rintro e w1⟨rfl,rfl⟩;rw[HND.out]);refine bodyPost_ret (v:=.agg #[.int .i64 2,.int .i64 k]) (by simp[results,results230,go_sem]) rfl ?_;rw[HE.out (by rw[HZ.out];decide),HZ.out];exact⟨rfl,zb.alloc zl _⟩
         ·have hb1 : -1048576≤v:=by omega
          have hb2:v≤1048576:=by omega
          have HZ:Hid (Bu k ⟨s,f,true,v⟩=0):=by
           unfold Hid Bu Cr;rw[if_neg (by simp[hs])];rw[if_neg (by simp[hnd])];rw[if_neg (by simp;omega)];rw[if_neg (by simp[])]
          have HND:=zh hnd;have hsb:(s != (k:Int))=false:=by simpa using hs
          have hvb:(v != 0)=true:=by simpa using hv0
          clear hs hnd hv0;go_wp2_with (go_at_call 119;refine(Au _ _).mono ?_;rintro e w1⟨rfl,rfl⟩;rw[HND.out]);go_round
          case rel=>exact⟨k+1,by omega,by go_num,HS.out HZ.out⟩
          case measure=>simp[intOf];omega
    ·cases hnd:Aq f
     ·cases h
      ·by_cases hv0:v=0
       ·have hb1 : -1048576≤v:=by omega
        have hb2:v≤1048576:=by omega
        have HZ:Hid (Bu k ⟨s,f,false,v⟩=10):=by
         unfold Hid Bu Cr;rw[if_pos hs]
        have HND:=zh hnd;have hsb:(s != (k:Int))=true:=by simpa using hs
        have hvb:(v != 0)=false:=by simp[hv0]
        clear hs hnd hv0;go_wp2_with (go_at_call 119;refine(Au _ _).mono ?_;rintro e w1⟨rfl,rfl⟩;rw[HND.out]);refine bodyPost_ret (v:=.agg #[.int .i64 10,.int .i64 k]) (by simp[results,results230,go_sem]) rfl ?_;rw[HE.out (by rw[HZ.out];decide),HZ.out];exact⟨rfl,zb.alloc zl _⟩
       ·by_cases hlo:v < -1048576
        ·have HZ:Hid (Bu k ⟨s,f,false,v⟩=10):=by
          unfold Hid Bu Cr;rw[if_pos hs]
         have HND:=zh hnd;have hsb:(s != (k:Int))=true:=by simpa using hs
         have hvb:(v != 0)=true:=by simpa using hv0
         clear hs hnd hv0;go_wp2_with (go_at_call 119;refine(Au _ _).mono ?_;rintro e w1⟨rfl,rfl⟩;rw[HND.out]);refine bodyPost_ret (v:=.agg #[.int .i64 10,.int .i64 k]) (by simp[results,results230,go_sem]) rfl ?_;rw[HE.out (by rw[HZ.out];decide),HZ.out];exact⟨rfl,zb.alloc zl _⟩
        ·by_cases hhi:1048576<v
         ·have HZ:Hid (Bu k ⟨s,f,false,v⟩=10):=by
           unfold Hid Bu Cr;rw[if_pos hs]
          have HND:=zh hnd;have hsb:(s != (k:Int))=true:=by simpa using hs
          have hvb:(v != 0)=true:=by simpa using hv0
          clear hs hnd hv0;go_wp2_with (go_at_call 119;refine(Au _ _).mono ?_;rintro e w1⟨rfl,rfl⟩;rw[HND.out]);refine bodyPost_ret (v:=.agg #[.int .i64 10,.int .i64 k]) (by simp[results,results230,go_sem]) rfl ?_;rw[HE.out (by rw[HZ.out];decide),HZ.out];exact⟨rfl,zb.alloc zl _⟩
         ·have hb1 : -1048576≤v:=by omega
          have hb2:v≤1048576:=by omega
          have HZ:Hid (Bu k ⟨s,f,false,v⟩=10):=by
           unfold Hid Bu Cr;rw[if_pos hs]
          have HND:=zh hnd;have hsb:(s != (k:Int))=true:=by simpa using hs
          have hvb:(v != 0)=true:=by simpa using hv0
          clear hs hnd hv0;go_wp2_with (go_at_call 119;refine(Au _ _).mono ?_;rintro e w1⟨rfl,rfl⟩;rw[HND.out]);refine bodyPost_ret (v:=.agg #[.int .i64 10,.int .i64 k]) (by simp[results,results230,go_sem]) rfl ?_;rw[HE.out (by rw[HZ.out];decide),HZ.out];exact⟨rfl,zb.alloc zl _⟩
      ·by_cases hv0:v=0
       ·have hb1 : -1048576≤v:=by omega
        have hb2:v≤1048576:=by omega
        have HZ:Hid (Bu k ⟨s,f,true,v⟩=10):=by
         unfold Hid Bu Cr;rw[if_pos hs]
        have HND:=zh hnd;have hsb:(s != (k:Int))=true:=by simpa using hs
        have hvb:(v != 0)=false:=by simp[hv0]
        clear hs hnd hv0;go_wp2_with (go_at_call 119;refine(Au _ _).mono ?_;rintro e w1⟨rfl,rfl⟩;rw[HND.out]);refine bodyPost_ret (v:=.agg #[.int .i64 10,.int .i64 k]) (by simp[results,results230,go_sem]) rfl ?_;rw[HE.out (by rw[HZ.out];decide),HZ.out];exact⟨rfl,zb.alloc zl _⟩
       ·by_cases hlo:v < -1048576
        ·have HZ:Hid (Bu k ⟨s,f,true,v⟩=10):=by
          unfold Hid Bu Cr;rw[if_pos hs]
         have HND:=zh hnd;have hsb:(s != (k:Int))=true:=by simpa using hs
         have hvb:(v != 0)=true:=by simpa using hv0
         clear hs hnd hv0;go_wp2_with (go_at_call 119;refine(Au _ _).mono ?_;rintro e w1⟨rfl,rfl⟩;rw[HND.out]);refine bodyPost_ret (v:=.agg #[.int .i64 10,.int .i64 k]) (by simp[results,results230,go_sem]) rfl ?_;rw[HE.out (by rw[HZ.out];decide),HZ.out];exact⟨rfl,zb.alloc zl _⟩
        ·by_cases hhi:1048576<v
         ·have HZ:Hid (Bu k ⟨s,f,true,v⟩=10):=by
           unfold Hid Bu Cr;rw[if_pos hs]
          have HND:=zh hnd;have hsb:(s != (k:Int))=true:=by simpa using hs
          have hvb:(v != 0)=true:=by simpa using hv0
          clear hs hnd hv0;go_wp2_with (go_at_call 119;refine(Au _ _).mono ?_;rintro e w1⟨rfl,rfl⟩;rw[HND.out]);refine bodyPost_ret (v:=.agg #[.int .i64 10,.int .i64 k]) (by simp[results,results230,go_sem]) rfl ?_;rw[HE.out (by rw[HZ.out];decide),HZ.out];exact⟨rfl,zb.alloc zl _⟩
         ·have hb1 : -1048576≤v:=by omega
          have hb2:v≤1048576:=by omega
          have HZ:Hid (Bu k ⟨s,f,true,v⟩=10):=by
           unfold Hid Bu Cr;rw[if_pos hs]
          have HND:=zh hnd;have hsb:(s != (k:Int))=true:=by simpa using hs
          have hvb:(v != 0)=true:=by simpa using hv0
          clear hs hnd hv0;go_wp2_with (go_at_call 119;refine(Au _ _).mono ?_;rintro e w1⟨rfl,rfl⟩;rw[HND.out]);refine bodyPost_ret (v:=.agg #[.int .i64 10,.int .i64 k]) (by simp[results,results230,go_sem]) rfl ?_;rw[HE.out (by rw[HZ.out];decide),HZ.out];exact⟨rfl,zb.alloc zl _⟩
     ·cases h
      ·by_cases hv0:v=0
       ·have hb1 : -1048576≤v:=by omega
        have hb2:v≤1048576:=by omega
        have HZ:Hid (Bu k ⟨s,f,false,v⟩=10):=by
         unfold Hid Bu Cr;rw[if_pos hs]
        have HND:=zh hnd;have hsb:(s != (k:Int))=true:=by simpa using hs
        have hvb:(v != 0)=false:=by simp[hv0]
        clear hs hnd hv0;go_wp2_with (go_at_call 119;refine(Au _ _).mono ?_;rintro e w1⟨rfl,rfl⟩;rw[HND.out]);refine bodyPost_ret (v:=.agg #[.int .i64 10,.int .i64 k]) (by simp[results,results230,go_sem]) rfl ?_;rw[HE.out (by rw[HZ.out];decide),HZ.out];exact⟨rfl,zb.alloc zl _⟩
       ·by_cases hlo:v < -1048576
        ·have HZ:Hid (Bu k ⟨s,f,false,v⟩=10):=by
          unfold Hid Bu Cr;rw[if_pos hs]
         have HND:=zh hnd;have hsb:(s != (k:Int))=true:=by simpa using hs
         have hvb:(v != 0)=true:=by simpa using hv0
         clear hs hnd hv0;go_wp2_with (go_at_call 119;refine(Au _ _).mono ?_;rintro e w1⟨rfl,rfl⟩;rw[HND.out]);refine bodyPost_ret (v:=.agg #[.int .i64 10,.int .i64 k]) (by simp[results,results230,go_sem]) rfl ?_;rw[HE.out (by rw[HZ.out];decide),HZ.out];exact⟨rfl,zb.alloc zl _⟩
        ·by_cases hhi:1048576<v
         ·have HZ:Hid (Bu k ⟨s,f,false,v⟩=10):=by
           unfold Hid Bu Cr;rw[if_pos hs]
          have HND:=zh hnd;have hsb:(s != (k:Int))=true:=by simpa using hs
          have hvb:(v != 0)=true:=by simpa using hv0
          clear hs hnd hv0;go_wp2_with (go_at_call 119;refine(Au _ _).mono ?_;rintro e w1⟨rfl,rfl⟩;rw[HND.out]);refine bodyPost_ret (v:=.agg #[.int .i64 10,.int .i64 k]) (by simp[results,results230,go_sem]) rfl ?_;rw[HE.out (by rw[HZ.out];decide),HZ.out];exact⟨rfl,zb.alloc zl _⟩
         ·have hb1 : -1048576≤v:=by omega
          have hb2:v≤1048576:=by omega
          have HZ:Hid (Bu k ⟨s,f,false,v⟩=10):=by
           unfold Hid Bu Cr;rw[if_pos hs]
          have HND:=zh hnd;have hsb:(s != (k:Int))=true:=by simpa using hs
          have hvb:(v != 0)=true:=by simpa using hv0
          clear hs hnd hv0;go_wp2_with (go_at_call 119;refine(Au _ _).mono ?_;rintro e w1⟨rfl,rfl⟩;rw[HND.out]);refine bodyPost_ret (v:=.agg #[.int .i64 10,.int .i64 k]) (by simp[results,results230,go_sem]) rfl ?_;rw[HE.out (by rw[HZ.out];decide),HZ.out];exact⟨rfl,zb.alloc zl _⟩
      ·by_cases hv0:v=0
       ·have hb1 : -1048576≤v:=by omega
        have hb2:v≤1048576:=by omega
        have HZ:Hid (Bu k ⟨s,f,true,v⟩=10):=by
         unfold Hid Bu Cr;rw[if_pos hs]
        have HND:=zh hnd;have hsb:(s != (k:Int))=true:=by simpa using hs
        have hvb:(v != 0)=false:=by simp[hv0]
        clear hs hnd hv0;go_wp2_with (go_at_call 119;refine(Au _ _).mono ?_;rintro e w1⟨rfl,rfl⟩;rw[HND.out]);refine bodyPost_ret (v:=.agg #[.int .i64 10,.int .i64 k]) (by simp[results,results230,go_sem]) rfl ?_;rw[HE.out (by rw[HZ.out];decide),HZ.out];exact⟨rfl,zb.alloc zl _⟩
       ·by_cases hlo:v < -1048576
        ·have HZ:Hid (Bu k ⟨s,f,true,v⟩=10):=by
          unfold Hid Bu Cr;rw[if_pos hs]
         have HND:=zh hnd;have hsb:(s != (k:Int))=true:=by simpa using hs
         have hvb:(v != 0)=true:=by simpa using hv0
         clear hs hnd hv0;go_wp2_with (go_at_call 119;refine(Au _ _).mono ?_;rintro e w1⟨rfl,rfl⟩;rw[HND.out]);refine bodyPost_ret (v:=.agg #[.int .i64 10,.int .i64 k]) (by simp[results,results230,go_sem]) rfl ?_;rw[HE.out (by rw[HZ.out];decide),HZ.out];exact⟨rfl,zb.alloc zl _⟩
        ·by_cases hhi:1048576<v
         ·have HZ:Hid (Bu k ⟨s,f,true,v⟩=10):=by
           unfold Hid Bu Cr;rw[if_pos hs]
          have HND:=zh hnd;have hsb:(s != (k:Int))=true:=by simpa using hs
          have hvb:(v != 0)=true:=by simpa using hv0
          clear hs hnd hv0;go_wp2_with (go_at_call 119;refine(Au _ _).mono ?_;rintro e w1⟨rfl,rfl⟩;rw[HND.out]);refine bodyPost_ret (v:=.agg #[.int .i64 10,.int .i64 k]) (by simp[results,results230,go_sem]) rfl ?_;rw[HE.out (by rw[HZ.out];decide),HZ.out];exact⟨rfl,zb.alloc zl _⟩
         ·have hb1 : -1048576≤v:=by omega
          have hb2:v≤1048576:=by omega
          have HZ:Hid (Bu k ⟨s,f,true,v⟩=10):=by
           unfold Hid Bu Cr;rw[if_pos hs]
          have HND:=zh hnd;have hsb:(s != (k:Int))=true:=by simpa using hs
          have hvb:(v != 0)=true:=by simpa using hv0
          clear hs hnd hv0;go_wp2_with (go_at_call 119;refine(Au _ _).mono ?_;rintro e w1⟨rfl,rfl⟩;rw[HND.out]);refine bodyPost_ret (v:=.agg #[.int .i64 10,.int .i64 k]) (by simp[results,results230,go_sem]) rfl ?_;rw[HE.out (by rw[HZ.out];decide),HZ.out];exact⟨rfl,zb.alloc zl _⟩
   ·have HS:Hid (chk es=(0,-1)):=by
     unfold Hid at HK HC ⊢;rw[HC,←HK,List.drop_eq_nil_of_le (by have:=HN.out;omega)];rfl
    go_wp2_with (go_at_call 64;refine(Jz _).mono ?_;rintro e w1⟨rfl,hb⟩;have c0:w1.cell? ⟨w.heap.size,0,none⟩=some (.int .i64 0):=(hb.cell (p:=⟨w.heap.size,0,none⟩) (by simp)).trans (by simp);have c1:w1.cell? ⟨w.heap.size,1,none⟩=some (.int .i64 0):=(hb.cell (p:=⟨w.heap.size,1,none⟩) (by simp)).trans (by simp);have f0:w1.frozen? ⟨w.heap.size,0,none⟩=false:=(hb.frozen (p:=⟨w.heap.size,0,none⟩) (by simp)).trans (by simp);have f1:w1.frozen? ⟨w.heap.size,1,none⟩=false:=(hb.frozen (p:=⟨w.heap.size,1,none⟩) (by simp)).trans (by simp);have hz:w.heap.size<w1.heap.size:=(by have:=hb.size;simp at this;omega));refine bodyPost_ret (v:=.agg #[.int .i64 0,.int .i64 (-1)]) (by simp[results,results230,go_sem,c0,c1]) rfl ?_;rw[HS.out];exact⟨rfl,(((zb.alloc zl _).trans (hb.mono (by simp))).setCell (by simp) _).setCell (by simp) _⟩
def tC(r:Int)(es:List Ent):Nat:=if (chk es).1≠0 then(chk es).1 else if 1≤r∧r≤32 then 0 else 2
def tG(r:Int)(es:List Ent):Int:=if (chk es).1=0∧1≤r∧r≤32 then Gy (Fc r es) else 0
def tB(r:Int)(es:List Ent):Int:=if (chk es).1=0∧1≤r∧r≤32 then Lh (Fc r es) else 0
theorem zD9(ea:Nat→Addr)(a:Option Addr)(n cap:Nat)(es:List Ent)(r:Int)(w:World)(hg:Bh w ea [7,10,4,2,3])(hn:es.length=n)(hr:Ac w a (Av es))(hm:n≤cap)(hc:n≤4611686018427387904) :
 Calls prog 226 #[.slice a n cap,.int .i64 r] w fun e w'=>∃v,e=.returned (.tuple #[.bool (decide (tB r es<tG r es)),v])∧Bg ea w' v (tC r es) (chk es).2∧Below w.heap.size w w':=by
 by_cases h0:(chk es).1=0
 ·have e1:(chk es).2=-1:=by rw[Lk h0]
  by_cases h1:1≤r∧r≤32
  ·refine(zHg ea a n cap es r w hg hn hr hm hc h0 h1.1 h1.2).mono ?_
   rintro e w'⟨rfl,hb⟩;refine⟨_,by rw[tG,tB,if_pos ⟨h0,h1⟩,if_pos ⟨h0,h1⟩];rfl,?_,hb⟩;rw[tC,if_neg (by simp[h0]),if_pos h1,e1];exact Or.inl ⟨rfl,(Al ea).symm⟩
  ·refine(Y0 ea a n cap es r w hg hn hr hm hc h0 h1).mono ?_
   rintro e w'⟨rfl,hb⟩;refine⟨_,by rw[tG,tB,if_neg (fun h=>h1 h.2),if_neg (fun h=>h1 h.2)];rfl,?_,hb⟩;rw[tC,if_neg (by simp[h0]),if_neg h1,e1];exact Bg.bare ea w' 2
 ·refine(zEa ea a n cap es r w hg hn hr hm hc h0).mono ?_
  rintro e w'⟨v,rfl,hE,hb⟩;refine⟨v,by rw[tG,tB,if_neg (fun h=>h0 h.1),if_neg (fun h=>h0 h.1)];rfl,?_,hb⟩;rw[tC,if_pos h0];exact hE
theorem Y9(a:Option Addr)(n cap:Nat)(es:List Ent)(r:Int)(w:World)(hn:es.length=n)(hr:Ac w a (Av es))(hm:n≤4611686018427387904)(h0:(chk es).1≠0) :
 Calls prog 191 #[.slice a n cap,.int .i64 r] w fun e w'=>e=.returned (.tuple #[.int .i64 0,.int .i64 0,.agg #[.int .i64 (chk es).1,.int .i64 (chk es).2]])∧Below w.heap.size w w':=by
 have hb0:Below w.heap.size w (w.alloc (.cells #[.int .i64 0,.int .i64 0] 55)):=zb.alloc zl _;have C:=zh (Jn a n cap es _ hn (hr.below hb0) hm);have hp:(0:Int)<((chk es).1:Int):=by omega
 have hz:(((chk es).1:Int)==0)=false:=by simp;omega
 generalize ((chk es).1:Int)=c at *;generalize (chk es).2=pl at *;have HB0:=zh hb0;clear hb0 h0;go_enter func191,ntmps191;go_wp2_with fail;refine C.out.mono ?_;rintro e w1⟨rfl,hb⟩;obtain⟨c0,c1,f0,f1,z1,hw1⟩:=L1 hb;go_wp2;go_region;go_wp2
 have d0:(((w1.setCell ⟨w.heap.size,0,none⟩ (.int .i64 c)).setCell ⟨w.heap.size,1,none⟩ (.int .i64 pl)).alloc (.cells #[.int .i64 c,.int .i64 pl] 55)).cell? ⟨w.heap.size,0,none⟩=some (.int .i64 c):=by
  rw[World.cell?_alloc_lt _ _ ⟨w.heap.size,0,none⟩ (by simpa using z1)];go_simp
 have d1:(((w1.setCell ⟨w.heap.size,0,none⟩ (.int .i64 c)).setCell ⟨w.heap.size,1,none⟩ (.int .i64 pl)).alloc (.cells #[.int .i64 c,.int .i64 pl] 55)).cell? ⟨w.heap.size,1,none⟩=some (.int .i64 pl):=by
  rw[World.cell?_alloc_lt _ _ ⟨w.heap.size,1,none⟩ (by simpa using z1)];go_simp
 refine bodyPost_ret (v:=.tuple #[.int .i64 0,.int .i64 0,.agg #[.int .i64 c,.int .i64 pl]]) (by simp[results,results191,go_sem,d0,d1]) rfl ?_;exact⟨rfl,Ab (((hw1.setCell (by simp) _).setCell (by simp) _).alloc (by simpa using hw1.size) _) 1⟩
theorem Uf(a:Option Addr)(n cap:Nat)(es:List Ent)(r:Int)(w:World)(hn:es.length=n)(hr:Ac w a (Av es))(hm:n≤4611686018427387904)(h0:(chk es).1=0)(h1:r<1∨32<r) :
 Calls prog 191 #[.slice a n cap,.int .i64 r] w fun e w'=>e=.returned (.tuple #[.int .i64 0,.int .i64 0,.agg #[.int .i64 2,.int .i64 (-1)]])∧Below w.heap.size w w':=by
 have hb0:Below w.heap.size w (w.alloc (.cells #[.int .i64 0,.int .i64 0] 55)):=zb.alloc zl _;have C:=zh (Jn a n cap es _ hn (hr.below hb0) hm);rw[Lk h0] at C;simp only[Int.cast_ofNat_Int] at C;have HB0:=zh hb0;clear hb0 h0
 by_cases hlo:r<1
 all_goals
  go_enter func191,ntmps191;go_wp2_with fail;refine C.out.mono ?_;rintro e w1⟨rfl,hb⟩;obtain⟨c0,c1,f0,f1,z1,hw1⟩:=L1 hb;go_wp2_with fail;refine(Cu _ _).mono ?_;rintro e w2⟨rfl,hb2⟩;obtain⟨d0,d1,g0,g1,z2⟩:=Qd (zAj hb2) z1 c0 c1 f0 f1;obtain⟨q0,q1,r0,r1,z3,hw2⟩:=L1 hb2;have hne:¬w.heap.size=w1.heap.size:=by omega
  have hne2:¬w1.heap.size=w.heap.size:=by omega
  have hv2:=Ar hw1 hw2;go_wp2;go_region;go_wp2;refine bodyPost_ret (v:=.tuple #[.int .i64 0,.int .i64 0,.agg #[.int .i64 2,.int .i64 (-1)]]) (by simp[results,results191,go_sem,d0,d1]) rfl ?_;refine⟨rfl,Ab (w:=((((w2.setCell ⟨w1.heap.size,0,none⟩ (.int .i64 2)).setCell ⟨w1.heap.size,1,none⟩ (.int .i64 (-1))).setCell ⟨w.heap.size,0,none⟩ (.int .i64 2)).setCell ⟨w.heap.size,1,none⟩ (.int .i64 (-1)))) ?_ 1⟩;exact((((hv2.setCell (by simp;omega) _).setCell (by simp;omega) _).setCell (by simp) _).setCell (by simp) _)
theorem zA6(a:Option Addr)(n cap:Nat)(es:List Ent)(r:Int)(w:World)(hn:es.length=n)(hr:Ac w a (Av es))(hm:n≤4611686018427387904)(h0:(chk es).1=0)(h1:1≤r)(h2:r≤32) :
 Calls prog 191 #[.slice a n cap,.int .i64 r] w fun e w'=>e=.returned (.tuple #[.int .i64 (Gy (Fc r es)),.int .i64 (Lh (Fc r es)),.agg #[.int .i64 0,.int .i64 (-1)]])∧Below w.heap.size w w':=by
 have hb0:Below w.heap.size w (w.alloc (.cells #[.int .i64 0,.int .i64 0] 55)):=zb.alloc zl _;have C:=zh (Jn a n cap es _ hn (hr.below hb0) hm);rw[Lk h0] at C;simp only[Int.cast_ofNat_Int] at C;have HN:=zh hn;clear hb0 h0 hn;go_enter func191,ntmps191;go_wp2_with fail;refine C.out.mono ?_;rintro e w1⟨rfl,hb⟩;obtain⟨c0,c1,f0,f1,z1,hw1⟩:=L1 hb;obtain⟨R0,R1⟩:=zG7 z1 c0 c1;have hr1:=hr.below (hw1.alloc hw1.size (.cells #[.int .i64 0,.int .i64 (-1)] 55));go_wp2;go_loop [8,9,10] (fun g b i=>∃k:Nat,k≤n∧i=.int .i64 k∧g=.int .i64 (Gy ((es.take k).drop ((n:Int)-r).toNat))∧b=.int .i64 (Lh ((es.take k).drop ((n:Int)-r).toNat))) (fun _ _ i=>n-(intOf i).toNat)
 case atStart=>exact⟨0,Nat.zero_le _,rfl,by simp[Gy],by simp[Lh]⟩
 case round=>
  obtain⟨k,hk,rfl,rfl,rfl⟩:=hrel
  by_cases hlt:k<n
  ·have hkt:k<es.length:=by have:=HN.out;omega
   obtain⟨b,off,rfl,hbl,q0,q1,q2,q3⟩:=hr1.ent k hkt;have ht:es.take (k+1)=es.take k++[es[k]]:=List.take_succ_eq_append_getElem hkt;have hlk:(es.take k).length=k:=by rw[List.length_take];omega
   by_cases hin:(k:Int)<(n:Int)-r
   ·have HS:Hid ((es.take (k+1)).drop ((n:Int)-r).toNat=(es.take k).drop ((n:Int)-r).toNat):=by
     unfold Hid;rw[List.drop_eq_nil_of_le (by rw[List.length_take];omega),List.drop_eq_nil_of_le (by rw[hlk];omega)]
    clear ht hlk q0 q1 q2 q3 hkt;go_wp2;go_round
    case rel=>exact⟨k+1,by omega,by go_num,by rw[HS.out],by rw[HS.out]⟩
    case measure=>simp[intOf];omega
   ·have HS:Hid ((es.take (k+1)).drop ((n:Int)-r).toNat=(es.take k).drop ((n:Int)-r).toNat++[es[k]]):=by
     unfold Hid;rw[ht,List.drop_append_of_le_length (by rw[hlk];omega)]
    have hg0:=Xt ((es.take k).drop ((n:Int)-r).toNat);have hb0:=zBh ((es.take k).drop ((n:Int)-r).toNat);have hl:((es.take k).drop ((n:Int)-r).toNat).length≤k:=by rw[List.length_drop,hlk];omega
    have hi0:(0:Int)≤(k:Int):=by omega
    have hi1:(k:Int)<(n:Int):=by omega
    have HG:∀e:Ent,Gy ((es.take k).drop ((n:Int)-r).toNat++[e])=Gy ((es.take k).drop ((n:Int)-r).toNat)+(if e.heard then 1 else 0):=fun e=>by
     simp only[Gy,List.filter_append];cases hh:e.heard<;>simp[hh]
    have HBd:∀e:Ent,Lh ((es.take k).drop ((n:Int)-r).toNat++[e])=Lh ((es.take k).drop ((n:Int)-r).toNat)+(if e.heard then 0 else 1):=fun e=>by
     simp only[Lh,List.filter_append];cases hh:e.heard<;>simp[hh]
    have HG:=zh (HG es[k]);have HBd:=zh (HBd es[k]);generalize (es.take k).drop ((n:Int)-r).toNat=tl at *;generalize es[k]=ek at *;clear ht hlk hkt
    cases hh:ek.heard
    all_goals
     rw[hh] at q2 HG HBd;clear hh;go_wp2;go_round
     case rel=>exact⟨k+1,by omega,by go_num,by rw[HS.out,HG.out];first|rfl|go_num,by rw[HS.out,HBd.out];first|rfl|go_num⟩
     case measure=>simp[intOf];omega
  ·have e1:(es.take k).drop ((n:Int)-r).toNat=Fc r es:=by
    have:=HN.out;rw[Fc,List.take_of_length_le (by omega),this]
   rw[e1];clear e1;go_wp2;go_region;go_wp2;refine bodyPost_ret (v:=.tuple #[.int .i64 (Gy (Fc r es)),.int .i64 (Lh (Fc r es)),.agg #[.int .i64 0,.int .i64 (-1)]]) (by simp[results,results191,go_sem,R0,R1]) rfl ?_;exact⟨rfl,Ab (((hw1.setCell (by simp) _).setCell (by simp) _).alloc (by simpa using hw1.size) _) 1⟩
theorem Y8(a:Option Addr)(n cap:Nat)(es:List Ent)(r:Int)(w:World)(hn:es.length=n)(hr:Ac w a (Av es))(hm:n≤4611686018427387904) :
 Calls prog 191 #[.slice a n cap,.int .i64 r] w fun e w'=>e=.returned (.tuple #[.int .i64 (tG r es),.int .i64 (tB r es),.agg #[.int .i64 (tC r es),.int .i64 (chk es).2]])∧Below w.heap.size w w':=by
 by_cases h0:(chk es).1=0
 ·have e1:(chk es).2=-1:=by rw[Lk h0]
  by_cases h1:1≤r∧r≤32
  ·rw[tG,tB,tC,if_pos ⟨h0,h1⟩,if_pos ⟨h0,h1⟩,if_neg (by simp[h0]),if_pos h1,e1]
   exact zA6 a n cap es r w hn hr hm h0 h1.1 h1.2
  ·rw[tG,tB,tC,if_neg (fun h=>h1 h.2),if_neg (fun h=>h1 h.2),if_neg (by simp[h0]),if_neg h1,e1]
   exact Uf a n cap es r w hn hr hm h0 (by omega)
 ·rw[tG,tB,tC,if_neg (fun h=>h0 h.1),if_neg (fun h=>h0 h.1),if_pos h0]
  exact Y9 a n cap es r w hn hr hm h0
end Go.Proofs.YtppfkokfnoeopaaGreatDoor
