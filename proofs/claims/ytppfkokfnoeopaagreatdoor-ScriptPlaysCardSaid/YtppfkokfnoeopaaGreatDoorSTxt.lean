/- A part of a proof. -/
import Derived.Lib.AppendIntMem
import Derived.Test.YtppfkokfnoeopaaGreatDoorSLib
import Derived.Test.YtppfkokfnoeopaaGreatDoorSCN
import Derived.Test.YtppfkokfnoeopaaGreatDoorSShelf
set_option maxRecDepth 400000
set_option maxHeartbeats 6400000
namespace Go.Proofs.YtppfkokfnoeopaaGreatDoor
open Go.RowKit Go.Proofs.Tryz
theorem Ba(a b:List UInt8):(⟨a.toArray⟩:ByteArray)++⟨b.toArray⟩=⟨(a++b).toArray⟩:=by
 apply ByteArray.ext;apply Array.ext';simp
theorem Vs(l:List UInt8)(k:Nat):(⟨l.toArray⟩:ByteArray).extract 0 k=⟨(l.take k).toArray⟩:=by
 apply ByteArray.ext;apply Array.ext';simp
theorem He(l:List UInt8)(k:Nat):(⟨l.toArray⟩:ByteArray).extract k l.length=⟨(l.drop k).toArray⟩:=by
 apply ByteArray.ext;apply Array.ext';simp;exact List.take_of_length_le (by simp)
structure Bf(w:World):Prop where
 tab : Lib.TabIs prog w "internal/strconv.uint64pow10" .u64 Lib.pow10Tab
 syn:∃t p,16<w.heap.size∧w.cell? ⟨16,0,none⟩=some (.iface t p)
 rng:∃t p,17<w.heap.size∧w.cell? ⟨17,0,none⟩=some (.iface t p)
 mx:∃m,12<w.heap.size∧w.cell? ⟨12,0,none⟩=some (.int .i64 m)
theorem Bf.below{w w':World}(h:Bf w)(hb:Below w.heap.size w w'):Bf w':=by
 obtain⟨ht,⟨t1,p1,l1,c1⟩,⟨t2,p2,l2,c2⟩,m,l3,c3⟩:=h;exact⟨Lib.tabBelow_of_tabIs ht w' hb,⟨t1,p1,Nat.lt_of_lt_of_le l1 hb.size,(hb.cell (p:=⟨16,0,none⟩) l1).trans c1⟩,⟨t2,p2,Nat.lt_of_lt_of_le l2 hb.size,(hb.cell (p:=⟨17,0,none⟩) l2).trans c2⟩,m,Nat.lt_of_lt_of_le l3 hb.size,(hb.cell (p:=⟨12,0,none⟩) l3).trans c3⟩
theorem Df(n:Int)(w:World)(hT:Bf w)(h0 : -9223372036854775808≤n∧n≤9223372036854775807) :
 Calls prog 46 #[.int .i64 n] w fun e w'=>e=.returned (.string ⟨(Lib.itoa n).toArray⟩)∧Below w.heap.size w w':=by
 refine(Tryz.strconv_Itoa n h0.1 h0.2 w hT.tab).mono ?_;rintro e w'⟨rfl,k,os,rfl⟩;exact⟨rfl,Lib.below_grow _ w zl k os⟩
theorem Jv(l:List UInt8)(n:Int)(w:World)(hl:l.length≤4294967280)(h:Lib.atoiAll l=.ok n) :
 Calls prog 175 #[.string ⟨l.toArray⟩] w fun e w'=>e=.returned (.tuple #[.int .i64 n,.nilIface])∧Below w.heap.size w w':=by
 refine(Tryz.strconv_Atoi_ok ⟨l.toArray⟩ (by simp[ByteArray.size];omega) n h w).mono ?_;rintro e w'⟨rfl,rfl |⟨t,rfl⟩⟩
 ·exact⟨rfl,Below.refl _ _⟩
 ·exact⟨rfl,Lib.bytesWorld_below _ _ _⟩
theorem Nt(l:List UInt8)(w:World)(hT:Bf w)(hl:l.length≤4294967280)(h:∀n,Lib.atoiAll l≠.ok n) :
 Calls prog 175 #[.string ⟨l.toArray⟩] w fun e w'=>(∃m t x,e=.returned (.tuple #[.int .i64 m,.iface t x]))∧Below w.heap.size w w':=by
 obtain⟨t1,p1,l1,c1⟩:=hT.syn;obtain⟨t2,p2,l2,c2⟩:=hT.rng
 cases hc:Lib.atoiAll l
 ·exact absurd hc (h _)
 ·refine(Any.strconv_Atoi_syntax Tryz.laysC172 ⟨l.toArray⟩ (by simp[ByteArray.size];omega) hc _ w c1 (.inr ⟨_,_,rfl⟩)).mono ?_
  rintro e w'⟨N,rfl,_,_,hb⟩;exact⟨⟨_,_,_,rfl⟩,hb⟩
 ·refine(Tryz.strconv_Atoi_range ⟨l.toArray⟩ (by simp[ByteArray.size];omega) hc _ w c2 (.inr ⟨_,_,rfl⟩)).mono ?_
  rintro e w'⟨N,rfl,_,_,hb⟩;exact⟨⟨_,_,_,rfl⟩,hb⟩
theorem Tf(l p:List UInt8)(w:World) :
 Calls prog 176 #[.string ⟨l.toArray⟩,.string ⟨p.toArray⟩] w fun e w'=>e=.returned (.string ⟨(Lib.trimPrefix l p).toArray⟩)∧w=w':=
 (Tryz.strings_TrimPrefix ⟨l.toArray⟩ ⟨p.toArray⟩ w).mono fun _ _ h=>⟨h.1,h.2.symm⟩
def Ah(l:List UInt8):Int:=(Cl l).getD 0
def Aw(l:List UInt8):Bool:=(Cl l).isSome
theorem Qj(l:List UInt8) : -10000000<Ah l∧Ah l<10000000:=by
 unfold Ah
 cases h:Cl l with
 | none=>exact⟨by decide,by decide⟩
 | some n=>exact((D7 l n).1 h).2
theorem Ih(l:List UInt8)(w:World)(hT:Bf w)(hl:l.length≤4294967280) :
 Calls prog 129 #[.string ⟨l.toArray⟩] w fun e w'=>e=.returned (.tuple #[.int .i64 (Ah l),.bool (Aw l)])∧Below w.heap.size w w':=by
 have HT:=zh hT
 by_cases hg:∃n,Lib.atoiAll l=.ok n
 ·obtain⟨n,hn⟩:=hg
  have hb:=Lib.atoiAll_bounds hn;have KA:=zh (Jv l n w hl hn);have KI:=zh (fun(W:World) (h:Below w.heap.size w W)=>Df n W (HT.out.below h) hb);have KP:=zh (fun(W:World)=>Tf l [45] W);have hF:Cl l=if Lib.itoa n=l∧(Lib.trimPrefix l [45]).length≤7 then some n else none:=by rw[Cl,hn]
  have HL:Hid ((Lib.trimPrefix l [45]).length≤l.length):=by
   unfold Hid Lib.trimPrefix;split
   ·rw[List.length_drop];omega
   ·exact Nat.le_refl _
  have HLL:=HL.out
  by_cases h1:Lib.itoa n=l
  ·by_cases h2:(Lib.trimPrefix l [45]).length≤7
   ·have hR:Ah l=n∧Aw l=true:=by rw[Ah,Aw,hF,if_pos ⟨h1,h2⟩];exact⟨rfl,rfl⟩
    have HR:=zh hR;clear hn hF hR hT;rw[h1] at KI;clear h1;generalize Lib.trimPrefix l [45]=t at *;go_enter func129,ntmps129;go_wp2_with fail;refine KA.out.mono ?_;rintro e w1⟨rfl,hb1⟩;go_wp2_with fail;refine(KI.out _ hb1).mono ?_;rintro e w2⟨rfl,hb2⟩;go_wp2_with fail;refine(KP.out _).mono ?_;rintro e w3⟨rfl,rfl⟩;go_wp2;go_ret2;exact⟨by rw[HR.out.1,HR.out.2];rfl,hb1.trans (hb2.mono hb1.size)⟩
   ·have hR:Ah l=0∧Aw l=false:=by rw[Ah,Aw,hF,if_neg (fun h=>h2 h.2)];exact⟨rfl,rfl⟩
    have HR:=zh hR;have h2':7<(Lib.trimPrefix l [45]).length:=by omega
    clear hn hF hR hT h2;rw[h1] at KI;clear h1;generalize Lib.trimPrefix l [45]=t at *;go_enter func129,ntmps129;go_wp2_with fail;refine KA.out.mono ?_;rintro e w1⟨rfl,hb1⟩;go_wp2_with fail;refine(KI.out _ hb1).mono ?_;rintro e w2⟨rfl,hb2⟩;go_wp2_with fail;refine(KP.out _).mono ?_;rintro e w3⟨rfl,rfl⟩;go_wp2;go_ret2;exact⟨by rw[HR.out.1,HR.out.2];rfl,hb1.trans (hb2.mono hb1.size)⟩
  ·have hR:Ah l=0∧Aw l=false:=by rw[Ah,Aw,hF,if_neg (fun h=>h1 h.1)];exact⟨rfl,rfl⟩
   have HR:=zh hR;clear hn hF hR hT;generalize Lib.itoa n=t at *;go_enter func129,ntmps129;go_wp2_with fail;refine KA.out.mono ?_;rintro e w1⟨rfl,hb1⟩;go_wp2_with fail;refine(KI.out _ hb1).mono ?_;rintro e w2⟨rfl,hb2⟩;go_wp2;go_ret2;exact⟨by rw[HR.out.1,HR.out.2];rfl,hb1.trans (hb2.mono hb1.size)⟩
 ·have KA:=zh (Nt l w hT hl (fun n hn=>hg ⟨n,hn⟩))
  have hR:Ah l=0∧Aw l=false:=by
   have:Cl l=none:=by
    unfold Cl;split
    ·rename_i n hn;exact absurd ⟨n,hn⟩ hg
    ·rfl
   rw[Ah,Aw,this];exact⟨rfl,rfl⟩
  have HR:=zh hR;clear hg hR hT;go_enter func129,ntmps129;go_wp2_with fail;refine KA.out.mono ?_;rintro e w1⟨⟨m,t,x,rfl⟩,hb1⟩;go_wp2;go_ret2;exact⟨by rw[HR.out.1,HR.out.2];rfl,hb1⟩
end Go.Proofs.YtppfkokfnoeopaaGreatDoor
