/- A part of a proof. -/
import Derived.Deep.RegionHeld3
import Derived.RegionTactic
import Derived.Lib.Split
import Derived.Lib.SplitLaws
import Derived.Lib.LastIndexByte
import Derived.Test.YtppfkokfnoeopaaGreatDoorSCrewRead
import Derived.Test.YtppfkokfnoeopaaGreatDoorSPlan
set_option maxRecDepth 400000
set_option maxHeartbeats 6400000
namespace Go.Proofs.YtppfkokfnoeopaaGreatDoor
open Go.RowKit Go.Proofs.Tryz
structure Frm where
 frm:Int
 mem:Int
 mode:Int
 slot:Int
 value:Int
 deriving DecidableEq,Inhabited
def Frm.arr(f:Frm):Array Value:=#[.int .i64 f.frm,.int .i64 f.mem,.int .i64 f.mode,.int .i64 f.slot,.int .i64 f.value]
def C9(mode slot:Int):Bool:=decide (0≤mode∧mode≤3∧0≤slot∧slot≤1000000)
def A8(f:Frm):Nat:=if Aq f.frm then(if Bn f.mem then(if Ep f.mem f.frm then(if C9 f.mode f.slot&&Cr f.value then 0 else 2) else 3) else 2) else 4
theorem Fz{f:Frm}(h:A8 f=0):Aq f.frm=true∧Bn f.mem=true∧Ep f.mem f.frm=true∧C9 f.mode f.slot=true∧Cr f.value=true:=by
 unfold A8 at h
 split at h
 ·split at h
  ·split at h
   ·split at h
    ·rename_i h1 h2 h3 h4;rw[Bool.and_eq_true] at h4;exact⟨h1,h2,h3,h4.1,h4.2⟩
    ·omega
   ·omega
  ·omega
 ·omega
theorem H7(ea:Nat→Addr)(f1 f2 f3 f4 f5:Int)(w:World)(hg:Bh w ea [2,3,4]) :
 Calls prog 225 #[.agg #[.int .i64 f1,.int .i64 f2,.int .i64 f3,.int .i64 f4,.int .i64 f5]] w fun e w'=>e=.returned (Bm ea (A8 ⟨f1,f2,f3,f4,f5⟩))∧Below w.heap.size w w':=by
 have hb0:Below w.heap.size w (w.alloc (.cells #[.int .i64 f1,.int .i64 f2,.int .i64 f3,.int .i64 f4,.int .i64 f5] 256)):=zb.alloc zl _;have hgb:=hg.below hb0;have g2:=hgb.cell 2 (by simp);have g3:=hgb.cell 3 (by simp);have g4:=hgb.cell 4 (by simp);simp only[gOf] at g2 g3 g4;have KN:=zh (fun W=>Fq f1 W);have KC:=zh (Dt ea f2 _ (hgb.sub (by simp)));have KH:=zh (zBq ea f2 f1 _ (hgb.sub (by simp)));clear hg hgb
 cases h1:Aq f1
 ·have HF:Hid (A8 ⟨f1,f2,f3,f4,f5⟩=4):=by unfold Hid;simp only[A8,h1];rfl
  rw[h1] at KN;clear h1;go_enter func225,ntmps225;go_wp2_with (go_at_call 154;refine(KN.out _).mono ?_;rintro e w'⟨rfl,rfl⟩);go_ret;exact⟨by rw[HF.out];rfl,hb0⟩
 ·rw[h1] at KN
  cases h2:Bn f2
  ·have HF:Hid (A8 ⟨f1,f2,f3,f4,f5⟩=2):=by unfold Hid;simp only[A8,h1,h2];rfl
   have HE:=zh (Ae ea (k:=2) (by decide));rw[show Bm ea (Fn f2)=.iface 346 (.pointer (some (ea 2))) by rw[Fn,h2];exact Ae ea (by decide)] at KC;clear h1 h2;go_enter func225,ntmps225
   go_wp2_with (first
    | (go_at_call 154;refine(KN.out _).mono ?_;rintro e w'⟨rfl,rfl⟩)
    | (go_at_call 126;refine KC.out.mono ?_;rintro e w'⟨rfl,rfl⟩))
   go_ret;exact⟨by rw[HF.out,HE.out];rfl,hb0⟩
  ·rw[show Bm ea (Fn f2)=.nilIface by rw[Fn,h2];exact Al ea] at KC
   cases h3:Ep f2 f1
   ·have HF:Hid (A8 ⟨f1,f2,f3,f4,f5⟩=3):=by unfold Hid;simp only[A8,h1,h2,h3];rfl
    rw[h3] at KH;clear h1 h2 h3;go_enter func225,ntmps225
    go_wp2_with (first
     | (go_at_call 154;refine(KN.out _).mono ?_;rintro e w'⟨rfl,rfl⟩)
     | (go_at_call 126;refine KC.out.mono ?_;rintro e w'⟨rfl,rfl⟩)
     | (go_at_call 171;refine KH.out.mono ?_;rintro e w'⟨rfl,rfl⟩))
    go_ret;exact⟨by rw[HF.out];rfl,hb0⟩
   ·have HB:Hid ((f3<0∨4≤f3∨f4<0∨1000000<f4∨f5 < -1048576∨1048576<f5)→A8 ⟨f1,f2,f3,f4,f5⟩=2):=by
     unfold Hid;intro h;simp only[A8,h1,h2,h3,if_true];rw[if_neg];simp only[C9,Cr,Bool.and_eq_true,decide_eq_true_eq];omega
    have HO:Hid (¬(f3<0∨4≤f3∨f4<0∨1000000<f4∨f5 < -1048576∨1048576<f5)→A8 ⟨f1,f2,f3,f4,f5⟩=0):=by
     unfold Hid;intro h;simp only[A8,h1,h2,h3,if_true];rw[if_pos];simp only[C9,Cr,Bool.and_eq_true,decide_eq_true_eq];omega
    have HZ:=zh (Al ea);rw[h3] at KH;clear h1 h2 h3;go_enter func225,ntmps225
    go_wp2_with (first
     | (go_at_call 154;refine(KN.out _).mono ?_;rintro e w'⟨rfl,rfl⟩)
     | (go_at_call 126;refine KC.out.mono ?_;rintro e w'⟨rfl,rfl⟩)
     | (go_at_call 171;refine KH.out.mono ?_;rintro e w'⟨rfl,rfl⟩))
    all_goals
     go_ret
     first
      | exact⟨by rw[HB.out (by omega)];rfl,hb0⟩
      | exact⟨by rw[HO.out (by omega),HZ.out];rfl,hb0⟩
def Q9(n:Nat)(b:UInt8):Nat:=(n*257+b.toNat+1)%65521
def Gh(l:List UInt8):Nat:=l.foldl Q9 1
theorem zA5(l:List UInt8):∀n,n<65521→l.foldl Q9 n<65521:=by
 induction l with
 | nil=>intro n h;exact h
 | cons b r ih=>intro n _;exact ih _ (Nat.mod_lt _ (by decide))
theorem Mr(l:List UInt8):Gh l<65521:=zA5 l 1 (by decide)
theorem zB8(l:List UInt8)(w:World)(hl:l.length≤4294967280) :
 Calls prog 223 #[.string ⟨l.toArray⟩] w fun e w'=>e=.returned (.int .i64 (Gh l))∧w=w':=by
 go_enter func223,ntmps223;go_wp2;go_loop [3,7] (fun t i=>∃k:Nat,k≤l.length∧i=.int .i64 k∧t=.int .i64 (Gh (l.take k))) (fun _ i=>l.length-(intOf i).toNat)
 case atStart=>exact⟨0,Nat.zero_le _,rfl,rfl⟩
 case round=>
  obtain⟨k,hk,rfl,rfl⟩:=hrel
  by_cases hlt:k<l.length
  ·have hs:Gh (l.take (k+1))=(Gh (l.take k)*257+l[k].toNat+1)%65521:=by rw[List.take_succ_eq_append_getElem hlt,Gh,List.foldl_append];rfl
   have hlt1:=Mr (l.take k);have hu:l[k].toNat<256:=UInt8.toNat_lt _;have hx:(⟨l.toArray⟩:ByteArray)[k]'(by simpa[ByteArray.size] using hlt)=l[k]:=rfl;have HS:Hid (((Gh (l.take (k+1)):Nat):Int)=(((Gh (l.take k):Nat):Int)*257+(l[k].toNat:Int)+1)%65521):=by unfold Hid;rw[hs];omega
   clear hs;generalize Gh (l.take k)=n at *;generalize l[k]=y at *;go_wp2;go_round
   case rel=>exact⟨k+1,by omega,by go_num,by rw[HS.out]⟩
   case measure=>simp[intOf];omega
  ·obtain rfl:k=l.length:=by omega
   rw[List.take_length];go_wp2;go_ret;exact⟨rfl,rfl⟩
theorem Em(l:List UInt8)(w:World)(hT:Bf w)(hl:l.length≤4294967280) :
 Calls prog 222 #[.string ⟨l.toArray⟩] w fun e w'=>e=.returned (.tuple #[.int .i64 (Ah l),.bool (Aw l&&decide (0≤Ah l))])∧Below w.heap.size w w':=by
 have K:=zh (Ih l w hT hl);clear hT
 cases h:Aw l
 ·rw[h] at K
  clear h;generalize Ah l=n at *;go_enter func222,ntmps222;go_wp2_with fail;refine K.out.mono ?_;rintro e w1⟨rfl,hb⟩;go_wp2;go_ret2;exact⟨by simp,hb⟩
 ·rw[h] at K
  clear h;generalize Ah l=n at *
  by_cases h0:0≤n
  ·have hd:decide (0≤n)=true:=by simpa using h0
   go_enter func222,ntmps222;go_wp2_with fail;refine K.out.mono ?_;rintro e w1⟨rfl,hb⟩;go_wp2;go_ret2;exact⟨by simp[h0],hb⟩
  ·have hd:decide (0≤n)=false:=by simpa using h0
   go_enter func222,ntmps222;go_wp2_with fail;refine K.out.mono ?_;rintro e w1⟨rfl,hb⟩;go_wp2;go_ret2;exact⟨by simp[h0],hb⟩
def F9(f:Frm):List (List UInt8):=[[102,114,97,109,101],Lib.itoa f.frm,Db f.mem,Lib.itoa f.mode,Lib.itoa f.slot,Lib.itoa f.value]
def Bd(f:Frm):List UInt8:=Cv 32 (F9 f)
def Fu(f:Frm):List UInt8:=Bd f++32::Lib.itoa (Gh (Bd f))
def Ly(f:Frm):List UInt8:=if A8 f=0 then Fu f else[]
theorem Vm(c:Int):(Db c).length≤352:=by
 unfold Db
 split
 ·split
  ·decide
  ·refine Nat.le_trans (Ko ((Ao c 16).map Lib.itoa) (fun x hx=>?_)) (by have:=Ck c 16;simp;omega)
   obtain⟨y,hy,rfl⟩:=List.mem_map.1 hx;have:=Ic c 16 zl y hy;exact Lib.itoa_length_le y (by omega) (by omega)
 ·decide
theorem Mw{f:Frm}(h:A8 f=0):(Bd f).length≤1000:=by
 obtain⟨h1,h2,h3,h4,h5⟩:=Fz h;simp only[Aq,C9,Cr,decide_eq_true_eq] at h1 h4 h5;have l1:=Lib.itoa_length_le f.frm (by omega) (by omega);have l2:=Vm f.mem;have l3:=Lib.itoa_length_le f.mode (by omega) (by omega);have l4:=Lib.itoa_length_le f.slot (by omega) (by omega);have l5:=Lib.itoa_length_le f.value (by omega) (by omega);simp only[Bd,F9,Cv,List.length_append,List.length_cons,List.length_nil];omega
theorem zIh(ea:Nat→Addr)(f1 f2 f3 f4 f5:Int)(w:World)(hg:Bh w ea [2,3,4])(hT:Bf w)(h:A8 ⟨f1,f2,f3,f4,f5⟩=0) :
 Calls prog 219 #[.agg #[.int .i64 f1,.int .i64 f2,.int .i64 f3,.int .i64 f4,.int .i64 f5]] w fun e w'=>e=.returned (.tuple #[.string ⟨(Fu ⟨f1,f2,f3,f4,f5⟩).toArray⟩,.nilIface])∧Below w.heap.size w w':=by
 have hb0:Below w.heap.size w (w.alloc (.cells #[.int .i64 f1,.int .i64 f2,.int .i64 f3,.int .i64 f4,.int .i64 f5] 256)):=zb.alloc zl _;have KC:=zh (H7 ea f1 f2 f3 f4 f5 _ (hg.below hb0));have HG:=zh (fun(W:World) (h:Below w.heap.size w W)=>show Bh W ea [2] from(hg.below h).sub (by simp));have HT:=zh (fun(W:World) (h:Below w.heap.size w W)=>hT.below h);have hlen:=Mw h;have hsm:=Mr (Bd ⟨f1,f2,f3,f4,f5⟩);obtain⟨h1,h2,h3,h4,h5⟩:=Fz h;simp only[Aq,C9,Cr,decide_eq_true_eq] at h1 h4 h5;rw[h,Al] at KC;have HFT:Hid (Fu ⟨f1,f2,f3,f4,f5⟩=Bd ⟨f1,f2,f3,f4,f5⟩++32::Lib.itoa (Gh (Bd ⟨f1,f2,f3,f4,f5⟩))):=rfl;have hj:Lib.join (F9 ⟨f1,f2,f3,f4,f5⟩) [32]=Bd ⟨f1,f2,f3,f4,f5⟩:=Et 32 _;have KJ:=zh (fun(W:World)=>Ry (some ⟨W.heap.size,0,none⟩) 6 6 (F9 ⟨f1,f2,f3,f4,f5⟩) [32] (W.alloc (.cells (Ad (F9 ⟨f1,f2,f3,f4,f5⟩)).toArray 9)) rfl (Ac.new_at W _ _ _ rfl) zl (by rw[hj];omega) (by omega));rw[hj] at KJ;have KI:=zh (fun(n:Int) (W:World) (hb:Below w.heap.size w W) (hn : -9223372036854775808≤n∧n≤9223372036854775807)=>Df n W (HT.out W hb) hn);have KT:=zh (fun(W:World) (hb:Below w.heap.size w W)=>Te ea f2 W (HG.out W hb));have KS:=zh (fun(W:World)=>zB8 (Bd ⟨f1,f2,f3,f4,f5⟩) W (by omega));generalize Bd ⟨f1,f2,f3,f4,f5⟩=body at *;generalize Gh body=sm at *;have n1 : -9223372036854775808≤f1∧f1≤9223372036854775807:=by omega
 have n3 : -9223372036854775808≤f3∧f3≤9223372036854775807:=by omega
 have n4 : -9223372036854775808≤f4∧f4≤9223372036854775807:=by omega
 have n5 : -9223372036854775808≤f5∧f5≤9223372036854775807:=by omega
 have N1:=zh n1;have N3:=zh n3;have N4:=zh n4;have N5:=zh n5;clear hg hT h hj h1 h2 h3 h4 h5 n1 n3 n4 n5;go_enter func219,ntmps219;go_wp2_with fail;refine KC.out.mono ?_;rintro e w1⟨rfl,hb1⟩;have k0:w1.drew.cell? ⟨w.heap.size,0,none⟩=some (.int .i64 f1):=(hb1.cell (p:=⟨w.heap.size,0,none⟩) (by simp)).trans (by simp);have k1:w1.drew.cell? ⟨w.heap.size,1,none⟩=some (.int .i64 f2):=(hb1.cell (p:=⟨w.heap.size,1,none⟩) (by simp)).trans (by simp);have k2:w1.drew.cell? ⟨w.heap.size,2,none⟩=some (.int .i64 f3):=(hb1.cell (p:=⟨w.heap.size,2,none⟩) (by simp)).trans (by simp);have k3:w1.drew.cell? ⟨w.heap.size,3,none⟩=some (.int .i64 f4):=(hb1.cell (p:=⟨w.heap.size,3,none⟩) (by simp)).trans (by simp);have k4:w1.drew.cell? ⟨w.heap.size,4,none⟩=some (.int .i64 f5):=(hb1.cell (p:=⟨w.heap.size,4,none⟩) (by simp)).trans (by simp);have hz1:w.heap.size<w1.drew.heap.size:=by have:=hb1.size;simp at this;exact this
 have hv1:Below w.heap.size w w1.drew:=(hb0.trans (hb1.mono (by simp))).drew;have A1:=zh (KI.out f1 w1.drew hv1 N1.out);clear hb1 hb0;go_wp2
 go_region_held3 (fun w'=>w'.cell? ⟨w.heap.size,0,none⟩=some (.int .i64 f1)∧w'.cell? ⟨w.heap.size,1,none⟩=some (.int .i64 f2)∧w'.cell? ⟨w.heap.size,2,none⟩=some (.int .i64 f3)∧w'.cell? ⟨w.heap.size,3,none⟩=some (.int .i64 f4)∧w'.cell? ⟨w.heap.size,4,none⟩=some (.int .i64 f5)) (go_keep)
  (first
   | (go_at_call 46;(with_reducible refine A1.out.mono ?_);rintro e w2⟨rfl,hb2⟩;have hv2:=hv1.trans (hb2.mono hv1.size);have k0:=(hb2.cell (p:=⟨w.heap.size,0,none⟩) hz1).trans k0;have k1:=(hb2.cell (p:=⟨w.heap.size,1,none⟩) hz1).trans k1;have k2:=(hb2.cell (p:=⟨w.heap.size,2,none⟩) hz1).trans k2;have k3:=(hb2.cell (p:=⟨w.heap.size,3,none⟩) hz1).trans k3;have k4:=(hb2.cell (p:=⟨w.heap.size,4,none⟩) hz1).trans k4;have hz2:=Nat.lt_of_lt_of_le hz1 hb2.size;have A2:=zh (KT.out w2 hv2);clear hb2)
   | (go_at_call 74;(with_reducible refine A2.out.mono ?_);rintro e w3⟨rfl,hb2⟩;have hv3:=hv2.trans (hb2.mono hv2.size);have k0:=(hb2.cell (p:=⟨w.heap.size,0,none⟩) hz2).trans k0;have k1:=(hb2.cell (p:=⟨w.heap.size,1,none⟩) hz2).trans k1;have k2:=(hb2.cell (p:=⟨w.heap.size,2,none⟩) hz2).trans k2;have k3:=(hb2.cell (p:=⟨w.heap.size,3,none⟩) hz2).trans k3;have k4:=(hb2.cell (p:=⟨w.heap.size,4,none⟩) hz2).trans k4;have hz3:=Nat.lt_of_lt_of_le hz2 hb2.size;have A3:=zh (KI.out f3 w3 hv3 N3.out);clear hb2)
   | (go_at_call 46;(with_reducible refine A3.out.mono ?_);rintro e w4⟨rfl,hb2⟩;have hv4:=hv3.trans (hb2.mono hv3.size);have k0:=(hb2.cell (p:=⟨w.heap.size,0,none⟩) hz3).trans k0;have k1:=(hb2.cell (p:=⟨w.heap.size,1,none⟩) hz3).trans k1;have k2:=(hb2.cell (p:=⟨w.heap.size,2,none⟩) hz3).trans k2;have k3:=(hb2.cell (p:=⟨w.heap.size,3,none⟩) hz3).trans k3;have k4:=(hb2.cell (p:=⟨w.heap.size,4,none⟩) hz3).trans k4;have hz4:=Nat.lt_of_lt_of_le hz3 hb2.size;have A4:=zh (KI.out f4 w4 hv4 N4.out);clear hb2)
   | (go_at_call 46;(with_reducible refine A4.out.mono ?_);rintro e w5⟨rfl,hb2⟩;have hv5:=hv4.trans (hb2.mono hv4.size);have k0:=(hb2.cell (p:=⟨w.heap.size,0,none⟩) hz4).trans k0;have k1:=(hb2.cell (p:=⟨w.heap.size,1,none⟩) hz4).trans k1;have k2:=(hb2.cell (p:=⟨w.heap.size,2,none⟩) hz4).trans k2;have k3:=(hb2.cell (p:=⟨w.heap.size,3,none⟩) hz4).trans k3;have k4:=(hb2.cell (p:=⟨w.heap.size,4,none⟩) hz4).trans k4;have hz5:=Nat.lt_of_lt_of_le hz4 hb2.size;have A5:=zh (KI.out f5 w5 hv5 N5.out);clear hb2)
   | (go_at_call 46;(with_reducible refine A5.out.mono ?_);rintro e w6⟨rfl,hb2⟩;have hv6:=hv5.trans (hb2.mono hv5.size);have k0:=(hb2.cell (p:=⟨w.heap.size,0,none⟩) hz5).trans k0;have k1:=(hb2.cell (p:=⟨w.heap.size,1,none⟩) hz5).trans k1;have k2:=(hb2.cell (p:=⟨w.heap.size,2,none⟩) hz5).trans k2;have k3:=(hb2.cell (p:=⟨w.heap.size,3,none⟩) hz5).trans k3;have k4:=(hb2.cell (p:=⟨w.heap.size,4,none⟩) hz5).trans k4;clear hb2))
 clear k0 k1 k2 k3 k4 A1 A2 A3 A4 A5;go_wp2_with fail;refine(KJ.out w6).mono ?_;rintro e w7⟨rfl,hb7⟩;have hv7:Below w.heap.size w w7:=(hv6.alloc hv6.size _).trans (hb7.mono (by have:=hv6.size;simp;omega));go_wp2_with fail;refine(KS.out _).mono ?_;rintro e w8⟨rfl,rfl⟩;go_wp2_with fail;refine(KI.out _ _ hv7 (by omega)).mono ?_;rintro e w9⟨rfl,hb9⟩;have hsl:=Lib.itoa_length_le (sm:Int) (by omega) (by omega);generalize Lib.itoa (sm:Int)=si at *;have c1:=Ba body [32];have c2:=Ba (body++[32]) si;go_wp2;go_ret2;exact⟨by rw[HFT.out];simp,hv7.trans (hb9.mono hv7.size)⟩
theorem zGe(ea:Nat→Addr)(f1 f2 f3 f4 f5:Int)(w:World)(hg:Bh w ea [2,3,4])(hT:Bf w) :
 Calls prog 219 #[.agg #[.int .i64 f1,.int .i64 f2,.int .i64 f3,.int .i64 f4,.int .i64 f5]] w fun e w'=>e=.returned (.tuple #[.string ⟨(Ly ⟨f1,f2,f3,f4,f5⟩).toArray⟩,Bm ea (A8 ⟨f1,f2,f3,f4,f5⟩)])∧Below w.heap.size w w':=by
 by_cases h:A8 ⟨f1,f2,f3,f4,f5⟩=0
 ·rw[Ly,if_pos h,h,Al]
  exact zIh ea f1 f2 f3 f4 f5 w hg hT h
 ·have hb0:Below w.heap.size w (w.alloc (.cells #[.int .i64 f1,.int .i64 f2,.int .i64 f3,.int .i64 f4,.int .i64 f5] 256)):=zb.alloc zl _
  have KC:=zh (H7 ea f1 f2 f3 f4 f5 _ (hg.below hb0));have HE:=zh (Ae ea h);rw[HE.out] at KC;rw[Ly,if_neg h,HE.out];clear hg hT h;go_enter func219,ntmps219;go_wp2_with fail;refine KC.out.mono ?_;rintro e w1⟨rfl,hb1⟩;go_wp2;go_ret2;exact⟨rfl,hb0.trans (hb1.mono (by simp))⟩
theorem index_one(c:UInt8):∀l:List UInt8,Lib.index l [c]=Lib.indexByte l c
 | []=>rfl
 | b::l=>by
  rw[Lib.index,Lib.indexByte,index_one c l];have:([c]:List UInt8).isPrefixOf (b::l)=(b==c):=by simp[List.isPrefixOf,Bool.beq_comm]
  rw[this]
theorem S0(c:UInt8):∀(k:Nat) (l:List UInt8),(Az c l).length≤k+1→Lib.splitK [c] 0 k l=Az c l
 | 0,l,h=>by
  have hge:=Lib.indexByte_ge l c
  by_cases hi:Lib.indexByte l c=-1
  ·rw[Md c l hi];rfl
  ·exfalso
   obtain⟨_,h2⟩:=Ny c l (Lib.indexByte l c).toNat (by omega);have:=List.length_pos_iff.2 (F7 c (l.drop ((Lib.indexByte l c).toNat+1)));rw[h2,List.length_cons] at h;omega
 | k+1,l,h=>by
  have hge:=Lib.indexByte_ge l c;rw[Lib.splitK,index_one]
  by_cases hi:Lib.indexByte l c=-1
  ·rw[if_pos (by simp[hi]),Md c l hi]
  ·obtain⟨_,h2⟩:=Ny c l (Lib.indexByte l c).toNat (by omega)
   rw[if_neg (by simp[hi]),h2,Nat.add_zero,List.length_singleton,S0 c k _ (by rw[h2,List.length_cons] at h;omega)]
theorem O5(c:UInt8):∀l:List UInt8,Lib.count l [c]+1=(Az c l).length
 | []=>rfl
 | b::l=>by
  have ih:=O5 c l;rw[Az]
  by_cases hb:b=c
  ·subst hb
   rw[Lib.count_cons_eq,if_pos (by simp),List.length_cons];omega
  ·rw[Lib.count_cons_ne b c l hb,if_neg (by simpa using hb),ih]
   split
   ·rename_i h;exact absurd h (F7 c l)
   ·rename_i h;rw[h];rfl
theorem zAz(c:UInt8)(l:List UInt8):(Lib.splitB ⟨#[c]⟩ 0 (Lib.countB ⟨l.toArray⟩ ⟨#[c]⟩) ⟨l.toArray⟩).map Value.string=Ad (Az c l):=by
 have h1:=Lib.splitB_data ⟨#[c]⟩ 0 (Lib.countB ⟨l.toArray⟩ ⟨#[c]⟩) ⟨l.toArray⟩;have h2:Lib.splitK [c] 0 (Lib.countB ⟨l.toArray⟩ ⟨#[c]⟩) l=Az c l:=S0 c _ l (by rw[←O5 c l];exact Nat.le_refl _);have h3:(Lib.splitB ⟨#[c]⟩ 0 (Lib.countB ⟨l.toArray⟩ ⟨#[c]⟩) ⟨l.toArray⟩).map (·.data.toList)=Az c l:=h1.trans h2;rw[←h3,Ad,List.map_map];exact List.map_congr_left fun x _=>by simp
theorem Hy(c:UInt8)(l:List UInt8)(w:World)(hT:Bf w)(hl:l.length≤4294967280) :
 Calls prog 32 #[.string ⟨l.toArray⟩,.string ⟨#[c]⟩] w fun e w'=>e=.returned (.slice (some ⟨w.heap.size,0,none⟩) (Az c l).length (Az c l).length)∧w'=w.alloc (.cells (Ad (Az c l)).toArray 9):=by
 obtain⟨m,_,hm⟩:=hT.mx;have h:=Tryz.strings_Split ⟨l.toArray⟩ ⟨#[c]⟩ m w (by simp[ByteArray.size];omega) hm (by simp[ByteArray.size]);rw[zAz,show Lib.countB ⟨l.toArray⟩ ⟨#[c]⟩+1=(Az c l).length from O5 c l] at h;exact h
theorem R6(c:UInt8)(a b:List UInt8)(hb:c∉b):Lib.lastIndexByte ⟨(a++c::b).toArray⟩ (c.toNat:Int)=a.length:=by
 have hat:∀j,j<(a++c::b).length→((⟨(a++c::b).toArray⟩:ByteArray).data[j]!)=(a++c::b).getD j 0:=fun j hj=>by
  show(a++c::b).toArray[j]! = _
  rw[getElem!_pos _ j (by simpa using hj),List.getD_eq_getElem?_getD,List.getElem?_eq_getElem hj];simp
 have hsz:(⟨(a++c::b).toArray⟩:ByteArray).size=(a++c::b).length:=by simp[ByteArray.size]
 have hl:(a++c::b).length=a.length+1+b.length:=by simp;omega
 have hmid:(a++c::b).getD a.length 0=c:=by simp[List.getD_eq_getElem?_getD]
 rcases Lib.lastIndexByte_spec ⟨(a++c::b).toArray⟩ (c.toNat:Int) with⟨_,h⟩|⟨i,hi,e,h1,h2⟩
 ·exact absurd (by rw[hat _ (by omega),hmid]) (h a.length (by rw[hsz];omega))
 ·rw[hsz] at hi h2
  rw[e]
  by_cases hlt:i<a.length
  ·exact absurd (by rw[hat _ (by omega),hmid]) (h2 a.length hlt (by omega))
  ·by_cases hgt:a.length<i
   ·exfalso
    rw[hat i hi] at h1
    have:(a++c::b).getD i 0=b.getD (i-a.length-1) 0:=by
     rw[List.getD_eq_getElem?_getD,List.getElem?_append_right (by omega),List.getElem?_cons,if_neg (by omega),List.getD_eq_getElem?_getD]
    rw[this] at h1;have hc:b.getD (i-a.length-1) 0=c:=UInt8.toNat_inj.1 (by omega);rw[List.getD_eq_getElem?_getD,List.getElem?_eq_getElem (by omega),Option.getD_some] at hc;exact hb (hc▸List.getElem_mem _)
   ·omega
theorem Od(c:Int)(l:List UInt8)(w:World)(hl:l.length≤4294967280) :
 Calls prog 224 #[.string ⟨l.toArray⟩,.int .u8 c] w fun e w'=>e=.returned (.int .i64 (Lib.lastIndexByte ⟨l.toArray⟩ c))∧w=w':=
 (Tryz.strings_LastIndexByte ⟨l.toArray⟩ c (by simp[ByteArray.size];omega) w).mono fun _ _ h=>⟨h.1,h.2.symm⟩
def Jt:Frm:=⟨0,0,0,0,0⟩
def Eu(l:List UInt8):Bool:=Aw l&&decide (0≤Ah l)
def Gt(w1 w2 w3 w4 w5 w6:List UInt8):Bool:=Eu w1&&(Cq w2).isSome&&Eu w3&&Eu w4&&Aw w5&&Eu w6
def My(w1 w2 w3 w4 w5:List UInt8):Frm:=⟨Ah w1,(((Cq w2).getD 0:Nat):Int),Ah w3,Ah w4,Ah w5⟩
def Gn(w0 w1 w2 w3 w4 w5 w6:List UInt8):Nat×Frm:=
 if w0=[102,114,97,109,101] then(if Gt w1 w2 w3 w4 w5 w6 then(if ((Gh (Cv 32 [w0,w1,w2,w3,w4,w5]):Nat):Int)=Ah w6 then
  (if A8 (My w1 w2 w3 w4 w5)=0 then(0,My w1 w2 w3 w4 w5) else(A8 (My w1 w2 w3 w4 w5),Jt)) else(8,Jt)) else(1,Jt)) else(1,Jt)
def Ym:List (List UInt8)→Nat×Frm
 | [w0,w1,w2,w3,w4,w5,w6]=>Gn w0 w1 w2 w3 w4 w5 w6
 | _=>(1,Jt)
def Ak(s:List UInt8):Nat×Frm:=if 100<s.length then(2,Jt) else Ym (Az 32 s)
theorem Jf{l:List (List UInt8)}(h:l.length=7):∃w0 w1 w2 w3 w4 w5 w6,l=[w0,w1,w2,w3,w4,w5,w6]:=by
 match l,h with
 | [w0,w1,w2,w3,w4,w5,w6],_=>exact⟨w0,w1,w2,w3,w4,w5,w6,rfl⟩
theorem L5{l:List (List UInt8)}(h:l.length≠7):Ym l=(1,Jt):=by
 unfold Ym
 split
 ·exact absurd rfl h
 ·rfl
def Qt(W:World)(b:Nat)(x0 x1 x2 x3 x4:Int):Prop:=W.heap[b]?=some (.cells #[.int .i64 x0,.int .i64 x1,.int .i64 x2,.int .i64 x3,.int .i64 x4] 256)
theorem Qt.kept{W W':World}{b:Nat}{x0 x1 x2 x3 x4:Int}(h:Qt W b x0 x1 x2 x3 x4)(hb:Below W.heap.size W W'):Qt W' b x0 x1 x2 x3 x4:=(hb.block b (Array.getElem?_eq_some_iff.1 h).1).trans h
theorem Qt.lt{W:World}{b:Nat}{x0 x1 x2 x3 x4:Int}(h:Qt W b x0 x1 x2 x3 x4):b<W.heap.size:=(Array.getElem?_eq_some_iff.1 h).1
theorem Qt.cells{W:World}{b:Nat}{x0 x1 x2 x3 x4:Int}(h:Qt W b x0 x1 x2 x3 x4) :
 W.cell? ⟨b,0,none⟩=some (.int .i64 x0)∧W.cell? ⟨b,1,none⟩=some (.int .i64 x1)∧W.cell? ⟨b,2,none⟩=some (.int .i64 x2)∧W.cell? ⟨b,3,none⟩=some (.int .i64 x3)∧W.cell? ⟨b,4,none⟩=some (.int .i64 x4)
 ∧W.frozen? ⟨b,0,none⟩=false∧W.frozen? ⟨b,1,none⟩=false∧W.frozen? ⟨b,2,none⟩=false∧W.frozen? ⟨b,3,none⟩=false∧W.frozen? ⟨b,4,none⟩=false:=by
 have h':W.heap[b]?=some (.cells #[.int .i64 x0,.int .i64 x1,.int .i64 x2,.int .i64 x3,.int .i64 x4] 256):=h;refine⟨?_,?_,?_,?_,?_,?_,?_,?_,?_,?_⟩<;>simp[World.cell?,World.frozen?,h']
theorem Lr(w:World)(x0 x1 x2 x3 x4:Int):Qt (w.alloc (.cells #[.int .i64 x0,.int .i64 x1,.int .i64 x2,.int .i64 x3,.int .i64 x4] 256)) w.heap.size x0 x1 x2 x3 x4:=World.alloc_heap_new w _
theorem Zy(ea:Nat→Addr)(s:List UInt8)(w:World)(hg:Bh w ea [2])(hs:100<s.length)(hs2:s.length≤4294967280) :
 Calls prog 185 #[.string ⟨s.toArray⟩] w fun e w'=>e=.returned (.tuple #[.agg #[.int .i64 0,.int .i64 0,.int .i64 0,.int .i64 0,.int .i64 0],Bm ea 2])∧Below w.heap.size w w':=by
 have g2:=hg.cell 2 (by simp);have z2:=hg.lt 2 (by simp);simp only[gOf] at g2 z2;have hn1:¬(0=w.heap.size):=by omega
 have hn2:¬(w.heap.size=0):=by omega
 clear hg;go_enter func185,ntmps185;go_wp2;go_region
 all_goals
  go_wp2;refine bodyPost_ret (v:=.tuple #[.agg #[.int .i64 0,.int .i64 0,.int .i64 0,.int .i64 0,.int .i64 0],Bm ea 2]) (by simp[results,results185,go_sem]) rfl ?_;exact⟨rfl,(zb.alloc zl _).drew⟩
theorem Cn{B:Nat}{w W:World}(h:Below B w W):Below B w (((((W.setCell ⟨B,0,none⟩ (.int .i64 0)).setCell ⟨B,1,none⟩ (.int .i64 0)).setCell ⟨B,2,none⟩ (.int .i64 0)).setCell ⟨B,3,none⟩ (.int .i64 0)).setCell ⟨B,4,none⟩ (.int .i64 0)):=
 ((((h.setCell (p:=⟨B,0,none⟩) zl _).setCell (p:=⟨B,1,none⟩) zl _).setCell (p:=⟨B,2,none⟩) zl _).setCell (p:=⟨B,3,none⟩) zl _).setCell (p:=⟨B,4,none⟩) zl _
theorem P9(ea:Nat→Addr)(s:List UInt8)(w:World)(hg:Bh w ea [1])(hT:Bf w)(hs:s.length≤100)(h:(Az 32 s).length≠7∨(Az 32 s).getD 0 []≠[102,114,97,109,101]) :
 Calls prog 185 #[.string ⟨s.toArray⟩] w fun e w'=>e=.returned (.tuple #[.agg #[.int .i64 0,.int .i64 0,.int .i64 0,.int .i64 0,.int .i64 0],Bm ea 1])∧Below w.heap.size w w':=by
 have hb0:Below w.heap.size w (w.alloc (.cells #[.int .i64 0,.int .i64 0,.int .i64 0,.int .i64 0,.int .i64 0] 256)):=zb.alloc zl _;have KS:=zh (Hy 32 s _ (hT.below hb0) (by omega));have g1:=hg.cell 1 (by simp);have z1:=hg.lt 1 (by simp);simp only[gOf] at g1 z1;have hn1:¬(1=w.heap.size):=by omega
 have hn2:¬(w.heap.size=1):=by omega
 have hrow:=Ac.new_at (w.alloc (.cells #[.int .i64 0,.int .i64 0,.int .i64 0,.int .i64 0,.int .i64 0] 256)) (Ad (Az 32 s)) 9 _ rfl;rw[World.size_alloc] at hrow;clear hg hT hb0
 by_cases h7:(Az 32 s).length=7
 ·have hw0:=h.resolve_left (by simpa using h7)
  have d0:=hrow.cell (i:=0) (v:=.string ⟨((Az 32 s).getD 0 []).toArray⟩) (by rw[Ad,List.getElem?_map,List.getD_eq_getElem?_getD,List.getElem?_eq_getElem (by omega)];rfl);generalize (Az 32 s).getD 0 []=x at *;rw[h7] at KS;have hx:(x==[102,114,97,109,101])=false:=by simpa using hw0
  simp only[Nat.add_zero] at d0;clear hrow h h7 hw0;go_enter func185,ntmps185;go_wp2_with fail;refine KS.out.mono ?_;rintro e w1⟨rfl,hw1⟩;rw[World.size_alloc];rw[←hw1] at d0;have hbl:Below w.heap.size w w1:=by rw[hw1];exact(zb.alloc zl _).alloc (by simp) _
  have hF:Qt w1 w.heap.size 0 0 0 0 0:=by rw[hw1];exact(Lr w 0 0 0 0 0).kept (zb.alloc zl _)
  have g1:=(hbl.cell (p:=⟨1,0,none⟩) z1).trans g1;obtain⟨k0,k1,k2,k3,k4,f0,f1,f2,f3,f4⟩:=hF.cells;clear hF hw1;go_wp2;go_region
  all_goals
   go_wp2;refine bodyPost_ret (v:=.tuple #[.agg #[.int .i64 0,.int .i64 0,.int .i64 0,.int .i64 0,.int .i64 0],Bm ea 1]) (by simp[results,results185,go_sem,k0,k1,k2,k3,k4]) rfl ?_;exact⟨rfl,by first|exact(Cn hbl).drew|exact Cn hbl.drew|exact hbl.drew⟩
 ·have h7':((((Az 32 s).length:Nat):Int) != 7)=true:=by simp;omega
  generalize (Az 32 s).length=n at *;clear hrow h;go_enter func185,ntmps185;go_wp2_with fail;refine KS.out.mono ?_;rintro e w1⟨rfl,hw1⟩;rw[World.size_alloc];have hbl:Below w.heap.size w w1:=by rw[hw1];exact(zb.alloc zl _).alloc (by simp) _
  have hF:Qt w1 w.heap.size 0 0 0 0 0:=by rw[hw1];exact(Lr w 0 0 0 0 0).kept (zb.alloc zl _)
  have g1:=(hbl.cell (p:=⟨1,0,none⟩) z1).trans g1;obtain⟨k0,k1,k2,k3,k4,f0,f1,f2,f3,f4⟩:=hF.cells;clear hF hw1;go_wp2;go_region
  all_goals
   go_wp2;refine bodyPost_ret (v:=.tuple #[.agg #[.int .i64 0,.int .i64 0,.int .i64 0,.int .i64 0,.int .i64 0],Bm ea 1]) (by simp[results,results185,go_sem,k0,k1,k2,k3,k4]) rfl ?_;exact⟨rfl,by first|exact(Cn hbl).drew|exact Cn hbl.drew|exact hbl.drew⟩
theorem zCo(ea:Nat→Addr)(s:List UInt8)(w0 w1 w2 w3 w4 w5 w6:List UInt8)(w:World)(hg:Bh w ea [1,2,3,4,8])(hT:Bf w)(hs:s.length≤100)(hc:Az 32 s=[w0,w1,w2,w3,w4,w5,w6])(hw0:w0=[102,114,97,109,101])
 (hb:(Eu w1=false∧Cq w2=none)∨(Eu w1=false∧∃c,Cq w2=some c)∨(Eu w1=true∧Cq w2=none)∨(Eu w1=true∧(∃c,Cq w2=some c)∧(Eu w3=false∨Eu w3=true∧(Eu w4=false∨Eu w4=true∧(Aw w5=false∨Aw w5=true∧Eu w6=false))))) :
 Calls prog 185 #[.string ⟨s.toArray⟩] w fun e w'=>e=.returned (.tuple #[.agg #[.int .i64 0,.int .i64 0,.int .i64 0,.int .i64 0,.int .i64 0],Bm ea 1])∧Below w.heap.size w w':=by
 have hb0:Below w.heap.size w (w.alloc (.cells #[.int .i64 0,.int .i64 0,.int .i64 0,.int .i64 0,.int .i64 0] 256)):=zb.alloc zl _;have KS:=zh (Hy 32 s _ (hT.below hb0) (by omega));rw[hc] at KS;have HG:=zh (fun(W:World) (h:Below w.heap.size w W)=>hg.below h);have HT:=zh (fun(W:World) (h:Below w.heap.size w W)=>hT.below h);have z1:=hg.lt 1 (by simp);have z8:=hg.lt 8 (by simp);simp only[gOf] at z1 z8;have hn1:¬(1=w.heap.size):=by omega
 have hn2:¬(w.heap.size=1):=by omega
 have hn3:¬(7=w.heap.size):=by omega
 have hn4:¬(w.heap.size=7):=by omega
 clear z1 z8;have hwl:∀x∈[w0,w1,w2,w3,w4,w5,w6],x.length≤4294967280:=fun x hx=>by have:=Cz 32 s x (by rw[hc];exact hx);omega
 have K1:=zh (fun(W:World) (h:Below w.heap.size w W)=>Em w1 W (HT.out W h) (hwl w1 (by simp)));have K2:=zh (fun(W:World) (h:Below w.heap.size w W)=>Sw ea w2 W (hwl w2 (by simp)) ((HG.out W h).sub (by simp)) (HT.out W h));have K3:=zh (fun(W:World) (h:Below w.heap.size w W)=>Em w3 W (HT.out W h) (hwl w3 (by simp)));have K4:=zh (fun(W:World) (h:Below w.heap.size w W)=>Em w4 W (HT.out W h) (hwl w4 (by simp)));have K5:=zh (fun(W:World) (h:Below w.heap.size w W)=>Ih w5 W (HT.out W h) (hwl w5 (by simp)));have K6:=zh (fun(W:World) (h:Below w.heap.size w W)=>Em w6 W (HT.out W h) (hwl w6 (by simp)));have hrow:=Ac.new_at (w.alloc (.cells #[.int .i64 0,.int .i64 0,.int .i64 0,.int .i64 0,.int .i64 0] 256)) (Ad [w0,w1,w2,w3,w4,w5,w6]) 9 _ rfl;rw[World.size_alloc] at hrow
 change Hid (∀(W:World),Below w.heap.size w W→Calls prog _ _ W fun e w'=>e=.returned (.tuple #[.int .i64 (Ah w1),.bool (Eu w1)])∧Below W.heap.size W w') at K1
 change Hid (∀(W:World),Below w.heap.size w W→Calls prog _ _ W fun e w'=>e=.returned (.tuple #[.int .i64 (Ah w3),.bool (Eu w3)])∧Below W.heap.size W w') at K3
 change Hid (∀(W:World),Below w.heap.size w W→Calls prog _ _ W fun e w'=>e=.returned (.tuple #[.int .i64 (Ah w4),.bool (Eu w4)])∧Below W.heap.size W w') at K4
 change Hid (∀(W:World),Below w.heap.size w W→Calls prog _ _ W fun e w'=>e=.returned (.tuple #[.int .i64 (Ah w6),.bool (Eu w6)])∧Below W.heap.size W w') at K6
 generalize Eu w1=b1 at *;generalize Cq w2=o at *;generalize Eu w3=b3 at *;generalize Eu w4=b4 at *;generalize Aw w5=b5 at *;generalize Eu w6=b6 at *;subst hw0;clear hg hT hwl;generalize Ah w1=n1 at *;generalize Ah w3=n3 at *;generalize Ah w4=n4 at *;generalize Ah w5=n5 at *;generalize Ah w6=n6 at *
 rcases hb with⟨rfl,rfl⟩|⟨rfl,c,rfl⟩|⟨rfl,rfl⟩|⟨rfl,⟨c,rfl⟩,rfl|⟨rfl,rfl|⟨rfl,rfl|⟨rfl,rfl⟩⟩⟩⟩
 all_goals
  first|rw[L6,Ae ea (by decide)] at K2|rw[L6] at K2
  go_enter func185,ntmps185;go_wp2_with fail;refine KS.out.mono ?_;rintro e v1⟨rfl,hw1⟩;rw[World.size_alloc];rw[←hw1] at hrow;have hv1:Below w.heap.size w v1:=by rw[hw1];exact(zb.alloc zl _).alloc (by simp) _
  have hF:Qt v1 w.heap.size 0 0 0 0 0:=by rw[hw1];exact(Lr w 0 0 0 0 0).kept (zb.alloc zl _)
  have HF:=zh hF;clear hw1 hF hc;have d0:v1.cell? ⟨w.heap.size+1,0,none⟩=some (.string ⟨#[102,114,97,109,101]⟩):=hrow.cell (i:=0) rfl;have d1:v1.cell? ⟨w.heap.size+1,1,none⟩=some (.string ⟨w1.toArray⟩):=by have:=hrow.cell (i:=1) (v:=.string ⟨w1.toArray⟩) rfl;simpa using this
  have HR:=zh hrow;clear hrow;go_wp2_with fail;refine(K1.out _ hv1).mono ?_;rintro e v2⟨rfl,hb2⟩;have HR:=zh (HR.out.below hb2);have HF:=zh (HF.out.kept hb2);have hv2:=hv1.trans (hb2.mono hv1.size);clear hb2;have d2:v2.cell? ⟨w.heap.size+1,2,none⟩=some (.string ⟨w2.toArray⟩):=by have:=HR.out.cell (i:=2) (v:=.string ⟨w2.toArray⟩) rfl;simpa using this
  go_wp2_with fail;refine(K2.out _ hv2).mono ?_;rintro e v3⟨rfl,hb3⟩;have HR:=zh (HR.out.below hb3);have HF:=zh (HF.out.kept hb3);have hv3:=hv2.trans (hb3.mono hv2.size);clear hb3;have d3:v3.cell? ⟨w.heap.size+1,3,none⟩=some (.string ⟨w3.toArray⟩):=by have:=HR.out.cell (i:=3) (v:=.string ⟨w3.toArray⟩) rfl;simpa using this
  go_wp2_with fail;refine(K3.out _ hv3).mono ?_;rintro e v4⟨rfl,hb4⟩;have HR:=zh (HR.out.below hb4);have HF:=zh (HF.out.kept hb4);have hv4:=hv3.trans (hb4.mono hv3.size);clear hb4;have d4:v4.cell? ⟨w.heap.size+1,4,none⟩=some (.string ⟨w4.toArray⟩):=by have:=HR.out.cell (i:=4) (v:=.string ⟨w4.toArray⟩) rfl;simpa using this
  go_wp2_with fail;refine(K4.out _ hv4).mono ?_;rintro e v5⟨rfl,hb5⟩;have HR:=zh (HR.out.below hb5);have HF:=zh (HF.out.kept hb5);have hv5:=hv4.trans (hb5.mono hv4.size);clear hb5;have d5:v5.cell? ⟨w.heap.size+1,5,none⟩=some (.string ⟨w5.toArray⟩):=by have:=HR.out.cell (i:=5) (v:=.string ⟨w5.toArray⟩) rfl;simpa using this
  go_wp2_with fail;refine(K5.out _ hv5).mono ?_;rintro e v6⟨rfl,hb6⟩;have HR:=zh (HR.out.below hb6);have HF:=zh (HF.out.kept hb6);have hv6:=hv5.trans (hb6.mono hv5.size);clear hb6;have d6:v6.cell? ⟨w.heap.size+1,6,none⟩=some (.string ⟨w6.toArray⟩):=by have:=HR.out.cell (i:=6) (v:=.string ⟨w6.toArray⟩) rfl;simpa using this
  go_wp2_with fail;refine(K6.out _ hv6).mono ?_;rintro e v7⟨rfl,hb7⟩;have HR:=zh (HR.out.below hb7);have HF:=zh (HF.out.kept hb7);have hv7:=hv6.trans (hb7.mono hv6.size);clear hb7;clear HR K1 K2 K3 K4 K5 K6 KS d0 d1 d2 d3 d4 d5 d6 hv1 hv2 hv3 hv4 hv5 hv6;have g1:=(HG.out _ hv7).cell 1 (by simp);simp only[gOf] at g1;obtain⟨k0,k1,k2,k3,k4,f0,f1,f2,f3,f4⟩:=HF.out.cells;go_wp2;go_region
  all_goals
   go_wp2;refine bodyPost_ret (v:=.tuple #[.agg #[.int .i64 0,.int .i64 0,.int .i64 0,.int .i64 0,.int .i64 0],Bm ea 1]) (by simp[results,results185,go_sem,k0,k1,k2,k3,k4]) rfl ?_;exact⟨rfl,by first|exact(Cn hv7).drew|exact Cn hv7.drew|exact hv7.drew⟩
theorem Xq(ea:Nat→Addr)(s:List UInt8)(w0 w1 w2 w3 w4 w5 w6:List UInt8)(w:World)(hg:Bh w ea [1,2,3,4,8])(hT:Bf w)(hs:s.length≤100)(hc:Az 32 s=[w0,w1,w2,w3,w4,w5,w6])(hw0:w0=[102,114,97,109,101])(h1:Eu w1=true)(c:Nat)(h2:Cq w2=some c)(h3:Eu w3=true)(h4:Eu w4=true)(h5:Aw w5=true)(h6:Eu w6=true) :
 Calls prog 185 #[.string ⟨s.toArray⟩] w fun e w'=>e=.returned (.tuple #[.agg (Gn w0 w1 w2 w3 w4 w5 w6).2.arr,Bm ea (Gn w0 w1 w2 w3 w4 w5 w6).1])∧Below w.heap.size w w':=by
 have hb0:Below w.heap.size w (w.alloc (.cells #[.int .i64 0,.int .i64 0,.int .i64 0,.int .i64 0,.int .i64 0] 256)):=zb.alloc zl _;have KS:=zh (Hy 32 s _ (hT.below hb0) (by omega));rw[hc] at KS;have HG:=zh (fun(W:World) (h:Below w.heap.size w W)=>hg.below h);have HT:=zh (fun(W:World) (h:Below w.heap.size w W)=>hT.below h);have z1:=hg.lt 1 (by simp);have z8:=hg.lt 8 (by simp);simp only[gOf] at z1 z8;have hn1:¬(1=w.heap.size):=by omega
 have hn2:¬(w.heap.size=1):=by omega
 have hn3:¬(7=w.heap.size):=by omega
 have hn4:¬(w.heap.size=7):=by omega
 clear z1 z8;have hwl:∀x∈[w0,w1,w2,w3,w4,w5,w6],x.length≤4294967280:=fun x hx=>by have:=Cz 32 s x (by rw[hc];exact hx);omega
 have K1:=zh (fun(W:World) (h:Below w.heap.size w W)=>Em w1 W (HT.out W h) (hwl w1 (by simp)));have K2:=zh (fun(W:World) (h:Below w.heap.size w W)=>Sw ea w2 W (hwl w2 (by simp)) ((HG.out W h).sub (by simp)) (HT.out W h));have K3:=zh (fun(W:World) (h:Below w.heap.size w W)=>Em w3 W (HT.out W h) (hwl w3 (by simp)));have K4:=zh (fun(W:World) (h:Below w.heap.size w W)=>Em w4 W (HT.out W h) (hwl w4 (by simp)));have K5:=zh (fun(W:World) (h:Below w.heap.size w W)=>Ih w5 W (HT.out W h) (hwl w5 (by simp)));have K6:=zh (fun(W:World) (h:Below w.heap.size w W)=>Em w6 W (HT.out W h) (hwl w6 (by simp)));have hrow:=Ac.new_at (w.alloc (.cells #[.int .i64 0,.int .i64 0,.int .i64 0,.int .i64 0,.int .i64 0] 256)) (Ad [w0,w1,w2,w3,w4,w5,w6]) 9 _ rfl;rw[World.size_alloc] at hrow
 change Hid (∀(W:World),Below w.heap.size w W→Calls prog _ _ W fun e w'=>e=.returned (.tuple #[.int .i64 (Ah w1),.bool (Eu w1)])∧Below W.heap.size W w') at K1
 change Hid (∀(W:World),Below w.heap.size w W→Calls prog _ _ W fun e w'=>e=.returned (.tuple #[.int .i64 (Ah w3),.bool (Eu w3)])∧Below W.heap.size W w') at K3
 change Hid (∀(W:World),Below w.heap.size w W→Calls prog _ _ W fun e w'=>e=.returned (.tuple #[.int .i64 (Ah w4),.bool (Eu w4)])∧Below W.heap.size W w') at K4
 change Hid (∀(W:World),Below w.heap.size w W→Calls prog _ _ W fun e w'=>e=.returned (.tuple #[.int .i64 (Ah w6),.bool (Eu w6)])∧Below W.heap.size W w') at K6
 rw[h1] at K1;rw[h2,L6] at K2;rw[h3] at K3;rw[h4] at K4;rw[h5] at K5;rw[h6] at K6
 have hjn:s=Cv 32 [w0,w1,w2,w3,w4,w5]++32::w6:=by
  have:=Es 32 s;rw[hc] at this;rw[←this];simp[Cv]
 have hw6:(32:UInt8)∉w6:=Jy 32 s w6 (by rw[hc];simp);have hlast:=R6 32 (Cv 32 [w0,w1,w2,w3,w4,w5]) w6 hw6;rw[←hjn] at hlast;have hsl:s.length=(Cv 32 [w0,w1,w2,w3,w4,w5]).length+1+w6.length:=by rw[hjn];simp;omega
 have hext:=Vs s (Cv 32 [w0,w1,w2,w3,w4,w5]).length;rw[show s.take (Cv 32 [w0,w1,w2,w3,w4,w5]).length=Cv 32 [w0,w1,w2,w3,w4,w5] by rw[hjn];exact List.take_left' rfl] at hext;have KL:=zh (fun(W:World)=>Od 32 s W (by omega));rw[show Lib.lastIndexByte ⟨s.toArray⟩ 32=((Cv 32 [w0,w1,w2,w3,w4,w5]).length:Int) from hlast] at KL;have KM:=zh (fun(W:World)=>zB8 (Cv 32 [w0,w1,w2,w3,w4,w5]) W (by omega))
 have HV:Hid (Gn w0 w1 w2 w3 w4 w5 w6=if ((Gh (Cv 32 [w0,w1,w2,w3,w4,w5]):Nat):Int)=Ah w6 then(if A8 ⟨Ah w1,c,Ah w3,Ah w4,Ah w5⟩=0 then(0,⟨Ah w1,c,Ah w3,Ah w4,Ah w5⟩) else(A8 ⟨Ah w1,c,Ah w3,Ah w4,Ah w5⟩,Jt)) else(8,Jt)):=by
  unfold Hid;rw[Gn,if_pos hw0,if_pos (by simp[Gt,h1,h2,h3,h4,h5,h6]),My,h2];rfl
 generalize Gn w0 w1 w2 w3 w4 w5 w6=rv at *;have HX:=zh hext;generalize Cv 32 [w0,w1,w2,w3,w4,w5]=body at *;generalize Gh body=sm at *;clear hjn hw6 hlast hext h1 h2 h3 h4 h5 h6;subst hw0;clear hg hT hwl;generalize Ah w1=n1 at *;generalize Ah w3=n3 at *;generalize Ah w4=n4 at *;generalize Ah w5=n5 at *;generalize Ah w6=n6 at *;go_enter func185,ntmps185;go_wp2_with fail;refine KS.out.mono ?_;rintro e v1⟨rfl,hw1⟩;rw[World.size_alloc];rw[←hw1] at hrow;have hv1:Below w.heap.size w v1:=by rw[hw1];exact(zb.alloc zl _).alloc (by simp) _
 have hF:Qt v1 w.heap.size 0 0 0 0 0:=by rw[hw1];exact(Lr w 0 0 0 0 0).kept (zb.alloc zl _)
 have HF:=zh hF;clear hw1 hF hc;have d0:v1.cell? ⟨w.heap.size+1,0,none⟩=some (.string ⟨#[102,114,97,109,101]⟩):=hrow.cell (i:=0) rfl;have d1:v1.cell? ⟨w.heap.size+1,1,none⟩=some (.string ⟨w1.toArray⟩):=by have:=hrow.cell (i:=1) (v:=.string ⟨w1.toArray⟩) rfl;simpa using this
 have HR:=zh hrow;clear hrow;go_wp2_with fail;refine(K1.out _ hv1).mono ?_;rintro e v2⟨rfl,hb2⟩;have HR:=zh (HR.out.below hb2);have HF:=zh (HF.out.kept hb2);have hv2:=hv1.trans (hb2.mono hv1.size);clear hb2;have d2:v2.cell? ⟨w.heap.size+1,2,none⟩=some (.string ⟨w2.toArray⟩):=by have:=HR.out.cell (i:=2) (v:=.string ⟨w2.toArray⟩) rfl;simpa using this
 go_wp2_with fail;refine(K2.out _ hv2).mono ?_;rintro e v3⟨rfl,hb3⟩;have HR:=zh (HR.out.below hb3);have HF:=zh (HF.out.kept hb3);have hv3:=hv2.trans (hb3.mono hv2.size);clear hb3;have d3:v3.cell? ⟨w.heap.size+1,3,none⟩=some (.string ⟨w3.toArray⟩):=by have:=HR.out.cell (i:=3) (v:=.string ⟨w3.toArray⟩) rfl;simpa using this
 go_wp2_with fail;refine(K3.out _ hv3).mono ?_;rintro e v4⟨rfl,hb4⟩;have HR:=zh (HR.out.below hb4);have HF:=zh (HF.out.kept hb4);have hv4:=hv3.trans (hb4.mono hv3.size);clear hb4;have d4:v4.cell? ⟨w.heap.size+1,4,none⟩=some (.string ⟨w4.toArray⟩):=by have:=HR.out.cell (i:=4) (v:=.string ⟨w4.toArray⟩) rfl;simpa using this
 go_wp2_with fail;refine(K4.out _ hv4).mono ?_;rintro e v5⟨rfl,hb5⟩;have HR:=zh (HR.out.below hb5);have HF:=zh (HF.out.kept hb5);have hv5:=hv4.trans (hb5.mono hv4.size);clear hb5;have d5:v5.cell? ⟨w.heap.size+1,5,none⟩=some (.string ⟨w5.toArray⟩):=by have:=HR.out.cell (i:=5) (v:=.string ⟨w5.toArray⟩) rfl;simpa using this
 go_wp2_with fail;refine(K5.out _ hv5).mono ?_;rintro e v6⟨rfl,hb6⟩;have HR:=zh (HR.out.below hb6);have HF:=zh (HF.out.kept hb6);have hv6:=hv5.trans (hb6.mono hv5.size);clear hb6;have d6:v6.cell? ⟨w.heap.size+1,6,none⟩=some (.string ⟨w6.toArray⟩):=by have:=HR.out.cell (i:=6) (v:=.string ⟨w6.toArray⟩) rfl;simpa using this
 go_wp2_with fail;refine(K6.out _ hv6).mono ?_;rintro e v7⟨rfl,hb7⟩;have HR:=zh (HR.out.below hb7);have HF:=zh (HF.out.kept hb7);have hv7:=hv6.trans (hb7.mono hv6.size);clear hb7;clear HR K1 K2 K3 K4 K5 K6 KS d0 d1 d2 d3 d4 d5 d6 hv1 hv2 hv3 hv4 hv5 hv6;have q0:(0:Int)≤(body.length:Int):=by omega
 have q1:(body.length:Int)≤(s.length:Int):=by omega
 go_wp2_with fail;refine(KL.out _).mono ?_;rintro e v8⟨rfl,rfl⟩;have hext:=HX.out;go_wp2_with fail;refine(KM.out _).mono ?_;rintro e v8⟨rfl,rfl⟩;clear hext
 by_cases hsm:(sm:Int)=n6
 ·have hq:((sm:Int) != n6)=false:=by simpa using hsm
  have HW:Hid (rv=if A8 ⟨n1,c,n3,n4,n5⟩=0 then(0,⟨n1,c,n3,n4,n5⟩) else(A8 ⟨n1,c,n3,n4,n5⟩,Jt)):=by unfold Hid;rw[HV.out,if_pos hsm]
  have hvA:Below w.heap.size w (v7.alloc (.cells #[.int .i64 n1,.int .i64 c,.int .i64 n3,.int .i64 n4,.int .i64 n5] 256)):=hv7.alloc hv7.size _;have KC:=zh (H7 ea n1 c n3 n4 n5 _ ((HG.out _ hvA).sub (by simp)));have hF2:=Lr v7 n1 c n3 n4 n5;have HF2:=zh hF2;have HFA:=zh (HF.out.kept ((Below.refl v7.heap.size v7).alloc zl (.cells #[.int .i64 n1,.int .i64 c,.int .i64 n3,.int .i64 n4,.int .i64 n5] 256)));clear hF2 hsm HV
  by_cases hfe:A8 ⟨n1,c,n3,n4,n5⟩=0
  ·have HY:Hid (rv=(0,⟨n1,c,n3,n4,n5⟩)):=by unfold Hid;rw[HW.out,if_pos hfe]
   have HZ:=zh (Al ea);rw[hfe,HZ.out] at KC;clear hfe HW;go_wp2_with fail;refine KC.out.mono ?_;rintro e v8⟨rfl,hb8⟩;have hv8:=hvA.trans (hb8.mono hvA.size);obtain⟨k0,k1,k2,k3,k4,f0,f1,f2,f3,f4⟩:=(HFA.out.kept hb8).cells;obtain⟨m0,m1,m2,m3,m4,_,_,_,_,_⟩:=(HF2.out.kept hb8).cells;clear hvA hb8;go_wp2;refine bodyPost_ret (v:=.tuple #[.agg #[.int .i64 n1,.int .i64 c,.int .i64 n3,.int .i64 n4,.int .i64 n5],.nilIface]) (by simp[results,results185,go_sem,k0,k1,k2,k3,k4]) rfl ?_;rw[HY.out];exact⟨by rw[HZ.out];rfl,((((hv8.setCell (p:=⟨w.heap.size,0,none⟩) zl _).setCell (p:=⟨w.heap.size,1,none⟩) zl _).setCell (p:=⟨w.heap.size,2,none⟩) zl _).setCell (p:=⟨w.heap.size,3,none⟩) zl _).setCell (p:=⟨w.heap.size,4,none⟩) zl _⟩
  ·have HY:Hid (rv=(A8 ⟨n1,c,n3,n4,n5⟩,Jt)):=by unfold Hid;rw[HW.out,if_neg hfe]
   have HE:=zh (Ae ea hfe);rw[HE.out] at KC;clear hfe HW;go_wp2_with fail;refine KC.out.mono ?_;rintro e v8⟨rfl,hb8⟩;have hv8:=hvA.trans (hb8.mono hvA.size);obtain⟨k0,k1,k2,k3,k4,f0,f1,f2,f3,f4⟩:=(HFA.out.kept hb8).cells;clear hvA hb8;go_wp2;refine bodyPost_ret (v:=.tuple #[.agg #[.int .i64 0,.int .i64 0,.int .i64 0,.int .i64 0,.int .i64 0],.iface 346 (.pointer (some (ea (A8 ⟨n1,c,n3,n4,n5⟩))))]) (by simp[results,results185,go_sem,k0,k1,k2,k3,k4]) rfl ?_;rw[HY.out];exact⟨by rw[HE.out];rfl,Cn hv8⟩
 ·have hq:((sm:Int) != n6)=true:=by simpa using hsm
  have HY:Hid (rv=(8,Jt)):=by unfold Hid;rw[HV.out,if_neg hsm]
  have g8:=(HG.out _ hv7).cell 8 (by simp);simp only[gOf] at g8;obtain⟨k0,k1,k2,k3,k4,f0,f1,f2,f3,f4⟩:=HF.out.cells;clear hsm HV;go_wp2;go_region
  all_goals
   go_wp2;refine bodyPost_ret (v:=.tuple #[.agg #[.int .i64 0,.int .i64 0,.int .i64 0,.int .i64 0,.int .i64 0],Bm ea 8]) (by simp[results,results185,go_sem,k0,k1,k2,k3,k4]) rfl ?_;rw[HY.out];exact⟨rfl,by first|exact(Cn hv7).drew|exact Cn hv7.drew|exact hv7.drew⟩
theorem Mf(ea:Nat→Addr)(s:List UInt8)(w:World)(hg:Bh w ea [1,2,3,4,8])(hT:Bf w)(hs2:s.length≤4294967280) :
 Calls prog 185 #[.string ⟨s.toArray⟩] w fun e w'=>e=.returned (.tuple #[.agg (Ak s).2.arr,Bm ea (Ak s).1])∧Below w.heap.size w w':=by
 by_cases h100:100<s.length
 ·rw[Ak,if_pos h100];exact Zy ea s w (hg.sub (by simp)) h100 hs2
 ·rw[Ak,if_neg h100]
  by_cases h7:(Az 32 s).length=7
  ·obtain⟨w0,w1,w2,w3,w4,w5,w6,hc⟩:=Jf h7
   rw[hc,Ym];have hs:s.length≤100:=by omega
   have bad:Gn w0 w1 w2 w3 w4 w5 w6=(1,Jt)→Calls prog 185 #[.string ⟨s.toArray⟩] w (fun e w'=>e=.returned (.tuple #[.agg #[.int .i64 0,.int .i64 0,.int .i64 0,.int .i64 0,.int .i64 0],Bm ea 1])∧Below w.heap.size w w')→
    Calls prog 185 #[.string ⟨s.toArray⟩] w fun e w'=>e=.returned (.tuple #[.agg (Gn w0 w1 w2 w3 w4 w5 w6).2.arr,Bm ea (Gn w0 w1 w2 w3 w4 w5 w6).1])∧Below w.heap.size w w':=fun e h=>by rw[e];exact h
   by_cases hw0:w0=[102,114,97,109,101]
   ·by_cases hwb:Gt w1 w2 w3 w4 w5 w6=true
    ·simp only[Gt,Bool.and_eq_true] at hwb
     obtain⟨⟨⟨⟨⟨h1,h2⟩,h3⟩,h4⟩,h5⟩,h6⟩:=hwb;obtain⟨c,h2⟩:=Option.isSome_iff_exists.1 h2;exact Xq ea s w0 w1 w2 w3 w4 w5 w6 w hg hT hs hc hw0 h1 c h2 h3 h4 h5 h6
    ·refine bad (by rw[Gn,if_pos hw0,if_neg hwb]) (zCo ea s w0 w1 w2 w3 w4 w5 w6 w hg hT hs hc hw0 ?_)
     revert hwb;unfold Gt
     cases Eu w1<;>cases Cq w2<;>cases Eu w3<;>cases Eu w4<;>cases Aw w5<;>cases Eu w6<;>simp
   ·exact bad (by rw[Gn,if_neg hw0]) (P9 ea s w (hg.sub (by simp)) hT hs (Or.inr (by rw[hc];exact hw0)))
  ·rw[L5 h7]
   exact P9 ea s w (hg.sub (by simp)) hT (by omega) (Or.inl h7)
end Go.Proofs.YtppfkokfnoeopaaGreatDoor
namespace Go.Proofs.YtppfkokfnoeopaaGreatDoor
open Go.RowKit
theorem zH5{c k:Nat}(hc:c<2^k)(hc6:c<65536)(j:Nat)(hj:k≤j)(hj16:j<16):Ep (c:Int) ((j:Int)+1)=false:=by
 rw[J0 c j hc6 hj16];exact Nat.testBit_lt_two_pow (Nat.lt_of_lt_of_le hc (Nat.pow_le_pow_right (by omega) hj))
theorem Lw{c k:Nat}(hc:c<2^k)(hc6:c<65536):∀m,k≤m→m≤16→Ao c m=Ao c k
 | 0,h,_=>by obtain rfl:k=0:=by omega
             rfl
 | m+1,h,hm=>by
  by_cases e:k=m+1
  ·rw[e]
  ·rw[Pb (zH5 hc hc6 m (by omega) (by omega)),Lw hc hc6 m (by omega) (by omega)]
theorem Of{c d:Nat}(hc6:c<65536)(hd6:d<65536):∀m,m≤16→(∀j,j<m→c.testBit j=d.testBit j)→Ao c m=Ao d m
 | 0,_,_=>rfl
 | m+1,hm,h=>by
  have ih:=Of hc6 hd6 m (by omega) (fun j hj=>h j (by omega));rw[Ao,Ao,ih,J0 c m hc6 (by omega),J0 d m hd6 (by omega),h m (by omega)]
theorem zIg{c k:Nat}(hc:c<2^k)(hk:k<16):Ao ((c|||2^k:Nat):Int) 16=Ao c 16++[(k:Int)+1]:=by
 have h16:2^k≤2^15:=Nat.pow_le_pow_right (by omega) (by omega);have hc6:c<65536:=by omega
 have hp:(2:Nat)^k<2^16:=Nat.pow_lt_pow_right (by omega) hk;have hd:c|||2^k<2^(k+1):=Nat.or_lt_two_pow (by rw[Nat.pow_succ];omega) (by rw[Nat.pow_succ];have:=Nat.two_pow_pos k;omega)
 have hd6:c|||2^k<65536:=Nat.or_lt_two_pow (n:=16) (by omega) (by simpa using hp)
 rw[Lw hd hd6 16 (by omega) zl,Lw hc hc6 16 (by omega) zl];rw[Nd (by rw[J0 _ k hd6 hk,Nat.testBit_or,Nat.testBit_two_pow];simp)]
 congr 1
 refine Of hd6 hc6 k (by omega) fun j hj=>?_
 rw[Nat.testBit_or,Nat.testBit_two_pow,show decide (k=j)=false by simp;omega,Bool.or_false]
theorem Yy{α:Type}{p:List α→Prop}(h0:p [])(h1:∀l x,p l→p (l++[x])):∀(n:Nat) (l:List α),l.length=n→p l
 | 0,l,h=>by rw[List.eq_nil_of_length_eq_zero h];exact h0
 | n+1,l,h=>by
  have hne:l≠[]:=fun e=>by rw[e] at h;cases h
  have e:=(List.dropLast_concat_getLast hne).symm;rw[e];exact h1 _ _ (Yy h0 h1 n l.dropLast (by simp[h]))
theorem Wl:∀(l:List (List UInt8)) (c:Nat) (last:Int),Ct l=some (c,last)→0≤last∧last≤16∧c<2^last.toNat∧l=(Ao c 16).map Lib.itoa:=by
 intro l;refine Yy (p:=fun l=>∀(c:Nat) (last:Int),Ct l=some (c,last)→0≤last∧last≤16∧c<2^last.toNat∧l=(Ao c 16).map Lib.itoa) ?_ ?_ l.length l rfl
 ·intro c last h
  simp only[Ct,List.foldl_nil,Option.some.injEq,Prod.mk.injEq] at h;obtain⟨rfl,rfl⟩:=h;exact⟨by omega,by omega,by decide,by decide⟩
 ·intro l x ih c last h
  rw[Ev] at h
  cases hl:Ct l with
  | none=>rw[hl] at h;cases h
  | some p=>
   obtain⟨c0,last0⟩:=p;obtain⟨h1,h2,h3,h4⟩:=ih c0 last0 hl;rw[hl,G3,Option.bind_some,Option.map_eq_some_iff] at h;obtain⟨n,hn,h⟩:=h;obtain⟨hx,hnode,hlt⟩:=Qo hn;simp only[Prod.mk.injEq] at h hlt;obtain⟨rfl,rfl⟩:=h;simp only[Aq,decide_eq_true_eq] at hnode;obtain⟨k,rfl⟩:∃k:Nat,n=(k:Int)+1:=⟨(n-1).toNat,by omega⟩
   have hck:c0<2^k:=Nat.lt_of_lt_of_le h3 (Nat.pow_le_pow_right (by omega) (by omega));refine⟨by omega,by omega,?_,?_⟩
   ·rw[Kh,show((k:Int)+1).toNat=k+1 by omega]
    exact Nat.or_lt_two_pow (by rw[Nat.pow_succ];omega) (by rw[Nat.pow_succ];have:=Nat.two_pow_pos k;omega)
   ·rw[Kh,zIg hck (by omega),List.map_append,←h4,hx];rfl
theorem zAq{s:List UInt8}{c:Nat}(h:Cq s=some c):c<65536∧Db c=s:=by
 unfold Cq at h
 split at h
 ·rename_i hs
  injection h with h;subst h;exact⟨by omega,by rw[hs];rfl⟩
 ·rw[Option.map_eq_some_iff] at h
  obtain⟨⟨c',last⟩,hacc,rfl⟩:=h;obtain⟨h1,h2,h3,h4⟩:=Wl _ _ _ hacc;have hc6:c'<65536:=Nat.lt_of_lt_of_le h3 (by have:=Nat.pow_le_pow_right (n:=2) (by omega) (show last.toNat≤16 by omega);simpa using this);have hcb:Bn (c':Int)=true:=by simp only[Bn,decide_eq_true_eq];omega
  refine⟨hc6,?_⟩
  have hne:c'≠0:=fun e=>by
   rw[e] at h4;have:Ao ((0:Nat):Int) 16=[]:=by decide
   rw[this] at h4;exact F7 44 s h4
  rw[Db,if_pos hcb,if_neg (by omega),←h4,Et,Es]
theorem Ml{l:List UInt8}(h:Eu l=true):l=Lib.itoa (Ah l)∧0≤Ah l:=by
 rw[Eu,Bool.and_eq_true,decide_eq_true_eq] at h;refine⟨?_,h.2⟩;have h1:=h.1;unfold Aw at h1;rw[Option.isSome_iff_exists] at h1;obtain⟨n,hn⟩:=h1;have:=(D7 l n).1 hn;unfold Ah;rw[hn];exact this.1
theorem zAg{l:List UInt8}(h:Aw l=true):l=Lib.itoa (Ah l):=by
 unfold Aw at h;rw[Option.isSome_iff_exists] at h;obtain⟨n,hn⟩:=h;have:=(D7 l n).1 hn;unfold Ah;rw[hn];exact this.1
theorem X3{n:Int}(h : -10000000<n∧n<10000000):Ah (Lib.itoa n)=n∧Aw (Lib.itoa n)=true:=by
 have:=(D7 (Lib.itoa n) n).2 ⟨rfl,h⟩;rw[Ah,Aw,this];exact⟨rfl,rfl⟩
theorem Ob{n:Int}(h:0≤n∧n<10000000):Ah (Lib.itoa n)=n∧Eu (Lib.itoa n)=true:=by
 have:=X3 (n:=n) ⟨by omega,h.2⟩;exact⟨this.1,by rw[Eu,this.2,this.1,Bool.true_and,decide_eq_true_eq];exact h.1⟩
theorem zDw{s:List UInt8}(h:(Ak s).1=0):A8 (Ak s).2=0∧Fu (Ak s).2=s:=by
 unfold Ak at h ⊢
 by_cases h1:100<s.length
 ·rw[if_pos h1] at h;cases h
 ·rw[if_neg h1] at h ⊢
  by_cases h7:(Az 32 s).length=7
  ·obtain⟨w0,w1,w2,w3,w4,w5,w6,hc⟩:=Jf h7
   rw[hc,Ym] at h ⊢;unfold Gn at h ⊢
   by_cases a1:w0=[102,114,97,109,101]
   ·rw[if_pos a1] at h ⊢
    by_cases a2:Gt w1 w2 w3 w4 w5 w6=true
    ·rw[if_pos a2] at h ⊢
     by_cases a3:((Gh (Cv 32 [w0,w1,w2,w3,w4,w5]):Nat):Int)=Ah w6
     ·rw[if_pos a3] at h ⊢
      by_cases a4:A8 (My w1 w2 w3 w4 w5)=0
      ·rw[if_pos a4] at h ⊢
       refine⟨a4,?_⟩;simp only[Gt,Bool.and_eq_true] at a2;obtain⟨⟨⟨⟨⟨b1,b2⟩,b3⟩,b4⟩,b5⟩,b6⟩:=a2;rw[Option.isSome_iff_exists] at b2;obtain⟨c,hc2⟩:=b2;have e2:=(zAq hc2).2
       have hw:F9 (My w1 w2 w3 w4 w5)=[w0,w1,w2,w3,w4,w5]:=by
        rw[F9,My,hc2];simp only[Option.getD_some];rw[e2,←(Ml b1).1,←(Ml b3).1,←(Ml b4).1,←zAg b5,a1]
       rw[Fu,Bd,hw,a3,←(Ml b6).1];have:=Es 32 s;rw[hc] at this;rw[←this];simp[Cv]
      ·rw[if_neg a4] at h;exact absurd h a4
     ·rw[if_neg a3] at h;cases h
    ·rw[if_neg a2] at h;cases h
   ·rw[if_neg a1] at h;cases h
  ·rw[L5 h7] at h;cases h
theorem Rn{n:Nat}(h:n≤16):(Lib.decDigits n).length≤2:=(Dg n 2 (by omega)).2 (by omega)
theorem Ut:∀(l:List (List UInt8)),(∀x∈l,x.length≤2)→(Lib.join l [44]).length≤l.length*3
 | [],_=>by simp[Lib.join,List.intercalate]
 | [x],h=>by have:=h x (by simp);simp[Lib.join,List.intercalate];omega
 | x::y::r,h=>by
  have ih:=Ut (y::r) (fun z hz=>h z (List.mem_cons_of_mem _ hz));have hx:=h x (by simp);simp only[Lib.join,List.intercalate,List.intersperse,List.flatten_cons,List.length_append,List.length_cons,List.length_nil] at ih ⊢;omega
theorem Ji(c:Int):(Db c).length≤48:=by
 unfold Db
 split
 ·split
  ·decide
  ·refine Nat.le_trans (Ut ((Ao c 16).map Lib.itoa) (fun x hx=>?_)) (by have:=Ck c 16;simp;omega)
   obtain⟨y,hy,rfl⟩:=List.mem_map.1 hx;have:=Ic c 16 zl y hy;unfold Lib.itoa;rw[if_neg (by omega)];exact Rn (by omega)
 ·decide
theorem Ib(n:Int)(k:Nat)(hk:1≤k)(h:n.natAbs<10^k):(Lib.itoa n).length≤k+1:=by
 unfold Lib.itoa
 split
 ·have:=(Dg n.natAbs k hk).2 h;simp;omega
 ·have:=(Dg n.toNat k hk).2 (by omega);omega
theorem Qu{f:Frm}(h:A8 f=0):(Bd f).length≤88:=by
 obtain⟨h1,h2,h3,h4,h5⟩:=Fz h;simp only[Aq,C9,Cr,decide_eq_true_eq] at h1 h4 h5;have e2:(10:Nat)^2=100:=by decide
 have e1:(10:Nat)^1=10:=by decide
 have e7:(10:Nat)^7=10000000:=by decide
 have l1:=Ib f.frm 2 (by omega) (by omega);have l2:=Ji f.mem;have l3:=Ib f.mode 1 (by omega) (by omega);have l4:=Ib f.slot 7 (by omega) (by omega);have l5:=Ib f.value 7 (by omega) (by omega);simp only[Bd,F9,Cv,List.length_append,List.length_cons,List.length_nil];omega
theorem N8{f:Frm}(h:A8 f=0):(Fu f).length≤95:=by
 have h1:=Qu h;have h2:=Mr (Bd f);have e5:(10:Nat)^5=100000:=by decide
 have h3:=Ib ((Gh (Bd f):Nat):Int) 5 (by omega) (by omega);rw[Fu,List.length_append,List.length_cons];omega
theorem Ug(c:Int):(32:UInt8)∉Db c:=by
 unfold Db
 split
 ·split
  ·decide
  ·rw[Et]
   intro h
   have:∀l:List Int,(32:UInt8)∉Cv 44 (l.map Lib.itoa):=by
    intro l
    induction l with
    | nil=>simp[Cv]
    | cons x r ih=>
     cases r with
     | nil=>simp only[List.map_cons,List.map_nil,Cv];exact Hh (by decide) x
     | cons y r=>
      simp only[List.map_cons,Cv] at ih ⊢;simp only[List.mem_append,List.mem_cons,not_or];exact⟨Hh (by decide) x,by decide,ih⟩
   exact this _ h
 ·decide
theorem Qv(f:Frm):∀x∈F9 f,(32:UInt8)∉x:=by
 intro x hx;simp only[F9,List.mem_cons,List.not_mem_nil,or_false] at hx
 rcases hx with rfl|rfl|rfl|rfl|rfl|rfl
 ·decide
 ·exact Hh (by decide) _
 ·exact Ug _
 ·exact Hh (by decide) _
 ·exact Hh (by decide) _
 ·exact Hh (by decide) _
theorem Xp(f:Frm):Fu f=Cv 32 (F9 f++[Lib.itoa ((Gh (Bd f):Nat):Int)]):=by
 rw[Fu];simp[Bd,F9,Cv]
theorem Uy{f:Frm}(h:A8 f=0):Ak (Fu f)=(0,f):=by
 have hl:=N8 h;have hsm:=Mr (Bd f)
 have hcut:Az 32 (Fu f)=F9 f++[Lib.itoa ((Gh (Bd f):Nat):Int)]:=by
  rw[Xp];refine Kj 32 _ (by simp) fun w hw=>?_
  rcases List.mem_append.1 hw with hw|hw
  ·exact Qv f w hw
  ·rw[List.mem_singleton] at hw;subst hw;exact Hh (by decide) _
 obtain⟨h1,h2,h3,h4,h5⟩:=Fz h;simp only[Aq,C9,Cr,Bn,decide_eq_true_eq] at h1 h2 h4 h5;obtain⟨c,hc,hc6⟩:∃c:Nat,f.mem=c∧c<65536:=⟨f.mem.toNat,by omega,by omega⟩
 have k1:=Ob (n:=f.frm) (by omega);have k3:=Ob (n:=f.mode) (by omega);have k4:=Ob (n:=f.slot) (by omega);have k5:=X3 (n:=f.value) (by omega);have k6:=Ob (n:=((Gh (Bd f):Nat):Int)) (by omega);have k2:Cq (Db f.mem)=some c:=by rw[hc];exact zDx c hc6
 have hf:My (Lib.itoa f.frm) (Db f.mem) (Lib.itoa f.mode) (Lib.itoa f.slot) (Lib.itoa f.value)=f:=by
  rw[My,k1.1,k2,k3.1,k4.1,k5.1];simp only[Option.getD_some];rw[←hc]
 rw[Ak,if_neg (by omega),hcut]
 show Gn [102,114,97,109,101] (Lib.itoa f.frm) (Db f.mem) (Lib.itoa f.mode) (Lib.itoa f.slot) (Lib.itoa f.value) (Lib.itoa ((Gh (Bd f):Nat):Int))=_
 rw[Gn,if_pos rfl,if_pos (by simp[Gt,k1.2,k2,k3.2,k4.2,k5.2,k6.2]),if_pos (by rw[k6.1];rfl),hf,if_pos h]
end Go.Proofs.YtppfkokfnoeopaaGreatDoor
namespace Go.Proofs.YtppfkokfnoeopaaGreatDoor
open Go.RowKit Go.Proofs.Tryz
def Cs(m d s:Int):Nat:=if Bn m&&C9 d s then 0 else 2
def Cg(l:List Int)(m d s:Int):Nat×Int:=if (Ay l).1=0 then(Cs m d s,-1) else Ay l
theorem Wq{node:Int}(hn:Aq node=true):wrap64 ((2:Int)^(node.toNat-1))=(At node:Int):=by
 simp only[Aq,decide_eq_true_eq] at hn;have hc:node=1∨node=2∨node=3∨node=4∨node=5∨node=6∨node=7∨node=8∨node=9∨node=10∨node=11∨node=12∨node=13∨node=14∨node=15∨node=16:=by omega
 rcases hc with rfl|rfl|rfl|rfl|rfl|rfl|rfl|rfl|rfl|rfl|rfl|rfl|rfl|rfl|rfl|rfl<;>decide +kernel
theorem O0(m:Nat)(d s node:Int)(w:World)(hm:m<65536)(hn:Aq node=true) :
 Calls prog 220 #[.agg #[.int .i64 m,.int .i64 d,.int .i64 s],.int .i64 node] w fun e w'=>e=.returned (.agg #[.int .i64 ((m|||At node:Nat):Int),.int .i64 d,.int .i64 s])∧Below w.heap.size w w':=by
 have hb:=Dx hn;have hO:bits .or .i64 (m:Int) (At node:Int)=((m|||At node:Nat):Int):=Wc _ _ (by omega) (by omega);have hsh:=Wq hn;rw[←hsh] at hO;have HO:=zh hO;simp only[Aq,decide_eq_true_eq] at hn;have h1:¬(node-1<0):=by omega
 clear hO hsh;go_enter func220,ntmps220;go_wp2;go_region
 all_goals
  go_wp2;refine bodyPost_ret (v:=.agg #[.int .i64 ((m|||At node:Nat):Int),.int .i64 d,.int .i64 s]) (by simp[results,results220,go_sem,HO.out]) rfl ?_;exact⟨rfl,((zb.alloc zl _).alloc (by simp) _).drew⟩
theorem V7(ea:Nat→Addr)(m d s:Int)(w:World)(hg:Bh w ea [2]) :
 Calls prog 260 #[.agg #[.int .i64 m,.int .i64 d,.int .i64 s]] w fun e w'=>e=.returned (Bm ea (Cs m d s))∧Below w.heap.size w w':=by
 have hb0:Below w.heap.size w (w.alloc (.cells #[.int .i64 m,.int .i64 d,.int .i64 s] 96)):=zb.alloc zl _;have hgb:=hg.below hb0;have g2:=hgb.cell 2 (by simp);simp only[gOf] at g2;have KC:=zh (Dt ea m _ (hgb.sub (by simp)))
 cases hm:Bn m
 ·have HV:Hid (Cs m d s=2):=by unfold Hid;rw[Cs,hm];rfl
  have he:Bm ea (Fn m)=.iface 346 (.pointer (some (ea 2))):=by rw[Fn,hm];exact Ae ea (by decide)
  rw[he] at KC;have HP:=zh (Ae ea (k:=2) (by decide));clear hg hgb hm he;go_enter func260,ntmps260;go_wp2_with fail;refine KC.out.mono ?_;rintro e w1⟨rfl,rfl⟩;go_wp2;go_ret;exact⟨by rw[HV.out,HP.out];rfl,hb0⟩
 ·have he:Bm ea (Fn m)=.nilIface:=by rw[Fn,hm];exact Al ea
  rw[he] at KC;have HV:Hid (Cs m d s=if C9 d s then 0 else 2):=by unfold Hid;rw[Cs,hm];rfl
  clear hg hgb hm he
  by_cases h1:d<0
  ·have HX:Hid (Cs m d s=2):=by unfold Hid;rw[HV.out,if_neg (by simp[C9];omega)]
   clear HV;go_enter func260,ntmps260;go_wp2_with fail;refine KC.out.mono ?_;rintro e w1⟨rfl,rfl⟩;go_wp2;go_ret;exact⟨by rw[HX.out];rfl,hb0⟩
  ·have d1:decide (d<0)=false:=by simpa using h1
   by_cases h2:4≤d
   ·have HX:Hid (Cs m d s=2):=by unfold Hid;rw[HV.out,if_neg (by simp[C9];omega)]
    clear HV;go_enter func260,ntmps260;go_wp2_with fail;refine KC.out.mono ?_;rintro e w1⟨rfl,rfl⟩;go_wp2;go_ret;exact⟨by rw[HX.out];rfl,hb0⟩
   ·have d2:decide (4≤d)=false:=by simpa using h2
    by_cases h3:s<0
    ·have HX:Hid (Cs m d s=2):=by unfold Hid;rw[HV.out,if_neg (by simp[C9];omega)]
     clear HV;go_enter func260,ntmps260;go_wp2_with fail;refine KC.out.mono ?_;rintro e w1⟨rfl,rfl⟩;go_wp2;go_ret;exact⟨by rw[HX.out];rfl,hb0⟩
    ·have d3:decide (s<0)=false:=by simpa using h3
     by_cases h4:1000000<s
     ·have HX:Hid (Cs m d s=2):=by unfold Hid;rw[HV.out,if_neg (by simp[C9];omega)]
      clear HV;go_enter func260,ntmps260;go_wp2_with fail;refine KC.out.mono ?_;rintro e w1⟨rfl,rfl⟩;go_wp2;go_ret;exact⟨by rw[HX.out];rfl,hb0⟩
     ·have d4:decide (1000000<s)=false:=by simpa using h4
      have HX:Hid (Cs m d s=0):=by unfold Hid;rw[HV.out,if_pos (by simp[C9];omega)]
      clear HV;go_enter func260,ntmps260;go_wp2_with fail;refine KC.out.mono ?_;rintro e w1⟨rfl,rfl⟩;go_wp2;go_ret;exact⟨by rw[HX.out,Al];rfl,hb0⟩
theorem Dz{m d s:Int}(h:Cs m d s=0):Bn m=true∧C9 d s=true:=by
 unfold Cs at h
 split at h
 ·rename_i h1;simpa using h1
 ·cases h
theorem Hz{m d s:Int}(h:Cs m d s≠0):Cs m d s=2:=by
 unfold Cs at h ⊢
 split
 ·rename_i h1;rw[if_pos h1] at h;exact absurd rfl h
 ·rfl
theorem G0{l:List Int}{m d s:Int}(h:(Cg l m d s).1=0):(Ay l).1=0∧Cs m d s=0∧Cg l m d s=(0,-1)∧(Bj l s).1=0:=by
 unfold Cg at h ⊢
 split at h
 ·rename_i h1
  have h:Cs m d s=0:=h;refine⟨h1,h,by rw[if_pos h1,h],?_⟩;obtain⟨_,hv⟩:=Dz h;simp only[C9,decide_eq_true_eq] at hv;rw[Bj,if_pos h1,if_pos (by omega)]
 ·rename_i h1;exact absurd h h1
theorem Fh(ea:Nat→Addr)(a:Option Addr)(n cap:Nat)(l:List Int)(m d s:Int)(w:World)(hg:Bh w ea [2,4,5,7])(hn:l.length=n)(hr:Ac w a (Aa l))(hc:n≤4611686018427387904) :
 Calls prog 218 #[.slice a n cap,.agg #[.int .i64 m,.int .i64 d,.int .i64 s]] w fun e w'=>∃v,e=.returned (.tuple #[.int .i64 (if (Cg l m d s).1=0 then Am l s.toNat else 0),v])∧Bg ea w' v (Cg l m d s).1 (Cg l m d s).2∧Below w.heap.size w w':=by
 have hb0:Below w.heap.size w (w.alloc (.cells #[.int .i64 m,.int .i64 d,.int .i64 s] 96)):=zb.alloc zl _;have KP:=zh (fun(W:World) (h:Below w.heap.size w W)=>Ez ea a n cap l W ((hg.below h).sub (by simp)) hn (hr.below h) hc);have KC:=zh (fun(W:World) (h:Below w.heap.size w W)=>V7 ea m d s W ((hg.below h).sub (by simp)));have KW:=zh (fun(W:World) (h:Below w.heap.size w W)=>zB9 ea a n cap l s W ((hg.below h).sub (by simp)) hn (hr.below h) hc)
 by_cases h1:(Ay l).1=0
 ·have hp:=(Ai h1).1
  by_cases h2:Cs m d s=0
  ·have hM:Cg l m d s=(0,-1):=by rw[Cg,if_pos h1,h2]
   have hR:(Bj l s).1=0:=(G0 (by rw[hM])).2.2.2;rw[hp] at KP;rw[h2,Al] at KC;rw[zEh,if_pos hR,Jg hR] at KW;rw[hM];clear hg hr hn h1 h2 hp hM hR;generalize Am l s.toNat=who at *;go_enter func218,ntmps218;go_wp2_with fail;refine(KP.out _ hb0).mono ?_;rintro e w1⟨v,rfl,hv,hb1⟩;obtain rfl:v=.nilIface:=hv.nil;have hv1:=hb0.trans (hb1.mono hb0.size);have c0:w1.cell? ⟨w.heap.size,0,none⟩=some (.int .i64 m):=(hb1.cell (p:=⟨w.heap.size,0,none⟩) (by simp)).trans (by simp);have c1:w1.cell? ⟨w.heap.size,1,none⟩=some (.int .i64 d):=(hb1.cell (p:=⟨w.heap.size,1,none⟩) (by simp)).trans (by simp);have c2:w1.cell? ⟨w.heap.size,2,none⟩=some (.int .i64 s):=(hb1.cell (p:=⟨w.heap.size,2,none⟩) (by simp)).trans (by simp);have hz1:w.heap.size<w1.heap.size:=by have:=hb1.size;simp at this;omega
   go_wp2_with fail;refine(KC.out _ hv1).mono ?_;rintro e w2⟨rfl,hb2⟩;have hv2:=hv1.trans (hb2.mono hv1.size);have c2:=(hb2.cell (p:=⟨w.heap.size,2,none⟩) hz1).trans c2;go_wp2_with fail;refine(KW.out _ hv2).mono ?_;rintro e w3⟨v,rfl,hv,hb3⟩;go_wp2;go_ret2;exact⟨v,rfl,hv,hv2.trans (hb3.mono hv2.size)⟩
  ·have hM:Cg l m d s=(2,-1):=by rw[Cg,if_pos h1,Hz h2]
   rw[hp] at KP;rw[Hz h2,Ae ea (by decide)] at KC;rw[hM];have HP:=zh (Ae ea (k:=2) (by decide));clear hg hr hn h1 h2 hp hM;go_enter func218,ntmps218;go_wp2_with fail;refine(KP.out _ hb0).mono ?_;rintro e w1⟨v,rfl,hv,hb1⟩;obtain rfl:v=.nilIface:=hv.nil;have hv1:=hb0.trans (hb1.mono hb0.size);have c0:w1.cell? ⟨w.heap.size,0,none⟩=some (.int .i64 m):=(hb1.cell (p:=⟨w.heap.size,0,none⟩) (by simp)).trans (by simp);have c1:w1.cell? ⟨w.heap.size,1,none⟩=some (.int .i64 d):=(hb1.cell (p:=⟨w.heap.size,1,none⟩) (by simp)).trans (by simp);have c2:w1.cell? ⟨w.heap.size,2,none⟩=some (.int .i64 s):=(hb1.cell (p:=⟨w.heap.size,2,none⟩) (by simp)).trans (by simp);go_wp2_with fail;refine(KC.out _ hv1).mono ?_;rintro e w2⟨rfl,hb2⟩;go_wp2;go_ret2;exact⟨_,rfl,by rw[←HP.out];exact Or.inl ⟨rfl,rfl⟩,hv1.trans (hb2.mono hv1.size)⟩
 ·have hM:Cg l m d s=Ay l:=by rw[Cg,if_neg h1]
  rw[hM,if_neg h1];have H1:=zh h1;clear hg hr hn h1 hM;go_enter func218,ntmps218;go_wp2_with fail;refine(KP.out _ hb0).mono ?_;rintro e w1⟨v,rfl,hv,hb1⟩;obtain⟨vt,vx,rfl⟩:=hv.held H1.out;go_wp2;go_ret2;exact⟨_,rfl,hv,hb0.trans (hb1.mono hb0.size)⟩
theorem Kz(W:World)(a b c a' b' c':Int):(binOp .eql 96 (.agg #[.int .i64 a,.int .i64 b,.int .i64 c]) (.agg #[.int .i64 a',.int .i64 b',.int .i64 c'])).run prog W=.ok (.bool (a==a'&&(b==b'&&c==c'))) W:=by
 cases h1:(a==a')<;>cases h2:(b==b')<;>cases h3:(c==c')
 all_goals go_simp
def Ow(who:Int)(m:Nat)(d s:Int)(t:List UInt8):Bool:=decide ((Ak t).1=0∧(Ak t).2.frm=who∧(Ak t).2.mem=((m|||At who:Nat):Int)∧(Ak t).2.mode=d∧(Ak t).2.slot=s)
theorem zA2(ea:Nat→Addr)(a:Option Addr)(n cap:Nat)(l:List Int)(m:Nat)(d s:Int)(t:List UInt8)(w:World)(hg:Bh w ea [1,2,3,4,5,7,8])(hT:Bf w)(hn:l.length=n)(hr:Ac w a (Aa l))(hc:n≤4611686018427387904)(ht:t.length≤4294967280)
 (h:(Cg l m d s).1=0) (hs:s<1000000) (hG:Ow (Am l s.toNat) m d s t=true) :
 Calls prog 184 #[.slice a n cap,.agg #[.int .i64 m,.int .i64 d,.int .i64 s],.string ⟨t.toArray⟩] w fun e w'=>
  e=.returned (.tuple #[.agg #[.int .i64 ((m|||At (Am l s.toNat):Nat):Int),.int .i64 d,.int .i64 (s+1)],.agg #[.int .i64 s,.int .i64 (Am l s.toNat),.bool true,.int .i64 (Ak t).2.value],.nilIface])∧Below w.heap.size w w':=by
 obtain⟨hp,hv,hM,hR⟩:=G0 h;obtain⟨hcm,hvd⟩:=Dz hv;have hmlt:m<65536:=by simp only[Bn,decide_eq_true_eq] at hcm;omega
 have hs0:0≤s:=by simp only[C9,decide_eq_true_eq] at hvd;omega
 have hnd:Aq (Am l s.toNat)=true:=(Ai hp).2.2.2 _ (D0 l _ (Ai hp).2.1);have KR:=zh (fun(W:World) (h:Below w.heap.size w W)=>Fh ea a n cap l m d s W ((hg.below h).sub (by simp)) hn (hr.below h) hc);rw[hM] at KR;simp only[if_true] at KR;have KW:=zh (fun(W:World)=>O0 m d s (Am l s.toNat) W hmlt hnd);have KF:=zh (fun(W:World) (h:Below w.heap.size w W)=>Mf ea t W ((hg.below h).sub (by simp)) (hT.below h) ht);simp only[Ow,decide_eq_true_eq] at hG;obtain⟨g0,g1,g2,g3,g4⟩:=hG;rw[g0,Al] at KF;simp only[Frm.arr,g1,g2,g3,g4] at KF;have hq:=Kz
 have HQ:∀W:World,(binOp .eql 96 (.agg #[.int .i64 ((m|||At (Am l s.toNat):Nat):Int),.int .i64 d,.int .i64 s]) (.agg #[.int .i64 ((m|||At (Am l s.toNat):Nat):Int),.int .i64 d,.int .i64 s])).run prog W=.ok (.bool true) W:=fun W=>by
  rw[Kz];simp
 have hb0:Below w.heap.size w (((w.alloc (.cells #[.int .i64 m,.int .i64 d,.int .i64 s] 96)).alloc (.cells #[.int .i64 0,.int .i64 0,.int .i64 0] 96)).alloc (.cells #[.int .i64 0,.int .i64 0,.bool false,.int .i64 0] 146)):=((zb.alloc zl _).alloc (by simp) _).alloc (by simp;omega) _;have hsl:decide (1000000≤s)=false:=by simpa using hs
 have hw:wrap64 (s+1)=s+1:=by unfold wrap64;omega
 generalize (Ak t).2.value=val at *;generalize Am l s.toNat=who at *;generalize m|||At who=M at *
 clear hg hT hn hr h hp hv hM hR hcm hvd hnd g0 g1 g2 g3 g4 hq hs;go_enter func184,ntmps184;go_wp2_with fail;have b0:Af (((w.alloc (.cells #[.int .i64 m,.int .i64 d,.int .i64 s] 96)).alloc (.cells #[.int .i64 0,.int .i64 0,.int .i64 0] 96)).alloc (.cells #[.int .i64 0,.int .i64 0,.bool false,.int .i64 0] 146)) w.heap.size 96 #[.int .i64 m,.int .i64 d,.int .i64 s]:=((Af.new w _ _).alloc _).alloc _
 have b1:Af (((w.alloc (.cells #[.int .i64 m,.int .i64 d,.int .i64 s] 96)).alloc (.cells #[.int .i64 0,.int .i64 0,.int .i64 0] 96)).alloc (.cells #[.int .i64 0,.int .i64 0,.bool false,.int .i64 0] 146)) (w.heap.size+1) 96 #[.int .i64 0,.int .i64 0,.int .i64 0]:=by
  have:=(Af.new (w.alloc (.cells #[.int .i64 m,.int .i64 d,.int .i64 s] 96)) 96 #[.int .i64 0,.int .i64 0,.int .i64 0]).alloc (.cells #[.int .i64 0,.int .i64 0,.bool false,.int .i64 0] 146)
  rwa [World.size_alloc] at this
 have b2:Af (((w.alloc (.cells #[.int .i64 m,.int .i64 d,.int .i64 s] 96)).alloc (.cells #[.int .i64 0,.int .i64 0,.int .i64 0] 96)).alloc (.cells #[.int .i64 0,.int .i64 0,.bool false,.int .i64 0] 146)) (w.heap.size+1+1) 146 #[.int .i64 0,.int .i64 0,.bool false,.int .i64 0]:=by
  have:=Af.new ((w.alloc (.cells #[.int .i64 m,.int .i64 d,.int .i64 s] 96)).alloc (.cells #[.int .i64 0,.int .i64 0,.int .i64 0] 96)) 146 #[.int .i64 0,.int .i64 0,.bool false,.int .i64 0]
  rwa [World.size_alloc,World.size_alloc] at this
 generalize hW0:(((w.alloc (.cells #[.int .i64 m,.int .i64 d,.int .i64 s] 96)).alloc (.cells #[.int .i64 0,.int .i64 0,.int .i64 0] 96)).alloc (.cells #[.int .i64 0,.int .i64 0,.bool false,.int .i64 0] 146))=W0 at *;clear hW0;refine(KR.out _ hb0).mono ?_;rintro e w1⟨v,rfl,hv,hb1⟩;obtain rfl:v=.nilIface:=hv.nil;have hv1:=hb0.trans (hb1.mono hb0.size);have b0:=b0.kept hb1;have b1:=b1.kept hb1;have b2:=b2.kept hb1;have c0:=b0.cell 0 rfl;have c1:=b0.cell 1 rfl;have c2:=b0.cell 2 rfl;have c3:=(b0.alloc (.cells #[.int .i64 s,.int .i64 who,.bool false,.int .i64 0] 146)).cell 0 rfl;have c4:=(b0.alloc (.cells #[.int .i64 s,.int .i64 who,.bool false,.int .i64 0] 146)).cell 1 rfl;have c5:=(b0.alloc (.cells #[.int .i64 s,.int .i64 who,.bool false,.int .i64 0] 146)).cell 2 rfl;clear hb1 hv;go_wp2_with fail;refine(KW.out _).mono ?_;rintro e w2⟨rfl,hb2⟩;have b3:=(Af.new w1 146 #[.int .i64 s,.int .i64 who,.bool false,.int .i64 0]).kept hb2;have hb12:Below w1.heap.size w1 w2:=(zb.alloc zl _).trans (hb2.mono (by simp));have hE:=b2.lt;have b0:=b0.kept hb12;have b1:=b1.kept hb12;have b2:=b2.kept hb12;have hv2:=hv1.trans (hb12.mono hv1.size);clear hb2 hb12 c0 c1 c2 c3 c4 c5;generalize w1.heap.size=E at *;go_wp2_with fail;have hvN:Below w.heap.size w (w2.alloc (.cells #[.int .i64 M,.int .i64 d,.int .i64 s] 96)):=hv2.alloc hv2.size _;refine(KF.out _ hvN).mono ?_;rintro e w3⟨rfl,hb3⟩;have b4:=(Af.new w2 96 #[.int .i64 M,.int .i64 d,.int .i64 s]).kept hb3;have hv3:=hvN.trans (hb3.mono hvN.size);have hN:=b3.lt;have b0:=(b0.alloc _).kept hb3;have b1:=(b1.alloc _).kept hb3;have b2:=(b2.alloc _).kept hb3;have b3:=(b3.alloc _).kept hb3;clear hb3 hvN hv2 hv1;generalize w2.heap.size=N at *;have hF:=b4.lt;have c5:=(b4.alloc (.cells #[.int .i64 who,.int .i64 M,.int .i64 d,.int .i64 s,.int .i64 val] 256)).cell 0 rfl;have c6:=(b4.alloc (.cells #[.int .i64 who,.int .i64 M,.int .i64 d,.int .i64 s,.int .i64 val] 256)).cell 1 rfl;have c7:=(b4.alloc (.cells #[.int .i64 who,.int .i64 M,.int .i64 d,.int .i64 s,.int .i64 val] 256)).cell 2 rfl;go_wp2;have b5:=Af.new w3 256 #[.int .i64 who,.int .i64 M,.int .i64 d,.int .i64 s,.int .i64 val];have b0:=b0.alloc (.cells #[.int .i64 who,.int .i64 M,.int .i64 d,.int .i64 s,.int .i64 val] 256);have b1:=b1.alloc (.cells #[.int .i64 who,.int .i64 M,.int .i64 d,.int .i64 s,.int .i64 val] 256);have b2:=b2.alloc (.cells #[.int .i64 who,.int .i64 M,.int .i64 d,.int .i64 s,.int .i64 val] 256);have b3:=b3.alloc (.cells #[.int .i64 who,.int .i64 M,.int .i64 d,.int .i64 s,.int .i64 val] 256);have b4:=b4.alloc (.cells #[.int .i64 who,.int .i64 M,.int .i64 d,.int .i64 s,.int .i64 val] 256);have hv4:=hv3.alloc hv3.size (.cells #[.int .i64 who,.int .i64 M,.int .i64 d,.int .i64 s,.int .i64 val] 256);generalize hW4:w3.alloc (.cells #[.int .i64 who,.int .i64 M,.int .i64 d,.int .i64 s,.int .i64 val] 256)=W4 at *;clear hW4 c5 c6 c7;have v2:=b5.cell 4 rfl;generalize w3.heap.size=F at *;have hne1:¬(w.heap.size+1=E):=by omega
 have hne2:¬(w.heap.size+1=N):=by omega
 have hne3:¬(w.heap.size+1+1=E):=by omega
 have hne4:¬(w.heap.size+1+1=N):=by omega
 have hne5:¬(E=N):=by omega
 have hne6:¬(E=w.heap.size+1):=by omega
 have hne7:¬(N=w.heap.size+1):=by omega
 have hne8:¬(E=w.heap.size+1+1):=by omega
 have hne9:¬(N=w.heap.size+1+1):=by omega
 have hne0:¬(N=E):=by omega
 have e0:=b1.cell 0 rfl;have e1:=b1.cell 1 rfl;have e2:=b1.cell 2 rfl;have e3:=b2.cell 0 rfl;have e4:=b2.cell 1 rfl;have e5:=b2.cell 2 rfl;have e6:=b2.cell 3 rfl;have d0:=b3.cell 0 rfl;have d1:=b3.cell 1 rfl;have d2:=b3.cell 2 rfl;have d3:=b3.cell 3 rfl;have c0:=b4.cell 0 rfl;have c1:=b4.cell 1 rfl;have c2:=b4.cell 2 rfl;have q0:=b1.frozen 0;have q1:=b1.frozen 1;have q2:=b1.frozen 2;have q3:=b2.frozen 0;have q4:=b2.frozen 1;have q5:=b2.frozen 2;have q6:=b2.frozen 3;have r2:=b3.frozen 2;have r3:=b3.frozen 3;have r4:=b4.frozen 2;have r5:=b4.frozen 0;go_region
 all_goals go_wp2
 all_goals go_region
 all_goals
  go_wp2;refine bodyPost_ret (v:=.tuple #[.agg #[.int .i64 M,.int .i64 d,.int .i64 (s+1)],.agg #[.int .i64 s,.int .i64 who,.bool true,.int .i64 val],.nilIface]) (by simp[results,results184,go_sem,e0,e1,e2,e3,e4,e5,e6]) rfl ?_;refine⟨rfl,?_⟩
  repeat(first|(with_reducible exact hv4)|(with_reducible refine Below.drew ?_)|(with_reducible refine Below.setCell ?_ (by simp<;>omega) _))
theorem zHk(ea:Nat→Addr)(a:Option Addr)(n cap:Nat)(l:List Int)(m:Nat)(d s:Int)(t:List UInt8)(w:World)(hg:Bh w ea [1,2,3,4,5,7,8])(hT:Bf w)(hn:l.length=n)(hr:Ac w a (Aa l))(hc:n≤4611686018427387904)(ht:t.length≤4294967280)
 (h:(Cg l m d s).1=0) (hs:s<1000000) (hG:(Ak t).1≠0) :
 Calls prog 184 #[.slice a n cap,.agg #[.int .i64 m,.int .i64 d,.int .i64 s],.string ⟨t.toArray⟩] w fun e w'=>
  e=.returned (.tuple #[.agg #[.int .i64 ((Fp (m|||At (Am l s.toNat)) (At (Am l s.toNat)):Nat):Int),.int .i64 d,.int .i64 (s+1)],.agg #[.int .i64 s,.int .i64 (Am l s.toNat),.bool false,.int .i64 0],.nilIface])∧Below w.heap.size w w':=by
 obtain⟨hp,hv,hM,hR⟩:=G0 h;obtain⟨hcm,hvd⟩:=Dz hv;have hmlt:m<65536:=by simp only[Bn,decide_eq_true_eq] at hcm;omega
 have hs0:0≤s:=by simp only[C9,decide_eq_true_eq] at hvd;omega
 have hnd:Aq (Am l s.toNat)=true:=(Ai hp).2.2.2 _ (D0 l _ (Ai hp).2.1);have KR:=zh (fun(W:World) (h:Below w.heap.size w W)=>Fh ea a n cap l m d s W ((hg.below h).sub (by simp)) hn (hr.below h) hc);rw[hM] at KR;simp only[if_true] at KR;have KW:=zh (fun(W:World)=>O0 m d s (Am l s.toNat) W hmlt hnd);have KF:=zh (fun(W:World) (h:Below w.heap.size w W)=>Mf ea t W ((hg.below h).sub (by simp)) (hT.below h) ht);rw[Ae ea hG] at KF;simp only[Frm.arr] at KF;clear hG;generalize (Ak t).2.frm=x0 at *;generalize (Ak t).2.mem=x1 at *;generalize (Ak t).2.mode=x2 at *;generalize (Ak t).2.slot=x3 at *;generalize (Ak t).2.value=x4 at *;have hb0:Below w.heap.size w (((w.alloc (.cells #[.int .i64 m,.int .i64 d,.int .i64 s] 96)).alloc (.cells #[.int .i64 0,.int .i64 0,.int .i64 0] 96)).alloc (.cells #[.int .i64 0,.int .i64 0,.bool false,.int .i64 0] 146)):=((zb.alloc zl _).alloc (by simp) _).alloc (by simp;omega) _;have hsl:decide (1000000≤s)=false:=by simpa using hs
 have hw:wrap64 (s+1)=s+1:=by unfold wrap64;omega
 have hbl:=Dx hnd;have hor:m|||At (Am l s.toNat)<65536:=Nat.or_lt_two_pow (n:=16) hmlt hbl
 have hO:=Rc (m|||At (Am l s.toNat)) (At (Am l s.toNat)) (by omega) (by omega);rw[←Wq hnd] at hO;have hw1:¬(Am l s.toNat-1<0):=by simp only[Aq,decide_eq_true_eq] at hnd;omega
 have hw2:1≤Am l s.toNat∧Am l s.toNat≤16:=by simpa only[Aq,decide_eq_true_eq] using hnd
 generalize Am l s.toNat=who at *;generalize hMM:m|||At who=M at *
 generalize Fp M (At who)=M2 at *;clear hMM hg hT hn hr h hp hv hM hR hcm hvd hnd hs hor hbl;go_enter func184,ntmps184;go_wp2_with fail;have b0:Af (((w.alloc (.cells #[.int .i64 m,.int .i64 d,.int .i64 s] 96)).alloc (.cells #[.int .i64 0,.int .i64 0,.int .i64 0] 96)).alloc (.cells #[.int .i64 0,.int .i64 0,.bool false,.int .i64 0] 146)) w.heap.size 96 #[.int .i64 m,.int .i64 d,.int .i64 s]:=((Af.new w _ _).alloc _).alloc _
 have b1:Af (((w.alloc (.cells #[.int .i64 m,.int .i64 d,.int .i64 s] 96)).alloc (.cells #[.int .i64 0,.int .i64 0,.int .i64 0] 96)).alloc (.cells #[.int .i64 0,.int .i64 0,.bool false,.int .i64 0] 146)) (w.heap.size+1) 96 #[.int .i64 0,.int .i64 0,.int .i64 0]:=by
  have:=(Af.new (w.alloc (.cells #[.int .i64 m,.int .i64 d,.int .i64 s] 96)) 96 #[.int .i64 0,.int .i64 0,.int .i64 0]).alloc (.cells #[.int .i64 0,.int .i64 0,.bool false,.int .i64 0] 146)
  rwa [World.size_alloc] at this
 have b2:Af (((w.alloc (.cells #[.int .i64 m,.int .i64 d,.int .i64 s] 96)).alloc (.cells #[.int .i64 0,.int .i64 0,.int .i64 0] 96)).alloc (.cells #[.int .i64 0,.int .i64 0,.bool false,.int .i64 0] 146)) (w.heap.size+1+1) 146 #[.int .i64 0,.int .i64 0,.bool false,.int .i64 0]:=by
  have:=Af.new ((w.alloc (.cells #[.int .i64 m,.int .i64 d,.int .i64 s] 96)).alloc (.cells #[.int .i64 0,.int .i64 0,.int .i64 0] 96)) 146 #[.int .i64 0,.int .i64 0,.bool false,.int .i64 0]
  rwa [World.size_alloc,World.size_alloc] at this
 generalize hW0:(((w.alloc (.cells #[.int .i64 m,.int .i64 d,.int .i64 s] 96)).alloc (.cells #[.int .i64 0,.int .i64 0,.int .i64 0] 96)).alloc (.cells #[.int .i64 0,.int .i64 0,.bool false,.int .i64 0] 146))=W0 at *;clear hW0;refine(KR.out _ hb0).mono ?_;rintro e w1⟨v,rfl,hv,hb1⟩;obtain rfl:v=.nilIface:=hv.nil;have hv1:=hb0.trans (hb1.mono hb0.size);have b0:=b0.kept hb1;have b1:=b1.kept hb1;have b2:=b2.kept hb1;have c0:=b0.cell 0 rfl;have c1:=b0.cell 1 rfl;have c2:=b0.cell 2 rfl;have c3:=(b0.alloc (.cells #[.int .i64 s,.int .i64 who,.bool false,.int .i64 0] 146)).cell 0 rfl;have c4:=(b0.alloc (.cells #[.int .i64 s,.int .i64 who,.bool false,.int .i64 0] 146)).cell 1 rfl;have c5:=(b0.alloc (.cells #[.int .i64 s,.int .i64 who,.bool false,.int .i64 0] 146)).cell 2 rfl;clear hb1 hv;go_wp2_with fail;refine(KW.out _).mono ?_;rintro e w2⟨rfl,hb2⟩;have b3:=(Af.new w1 146 #[.int .i64 s,.int .i64 who,.bool false,.int .i64 0]).kept hb2;have hb12:Below w1.heap.size w1 w2:=(zb.alloc zl _).trans (hb2.mono (by simp));have hE:=b2.lt;have b0:=b0.kept hb12;have b1:=b1.kept hb12;have b2:=b2.kept hb12;have hv2:=hv1.trans (hb12.mono hv1.size);clear hb2 hb12 c0 c1 c2 c3 c4 c5;generalize w1.heap.size=E at *;go_wp2_with fail;have hvN:Below w.heap.size w (w2.alloc (.cells #[.int .i64 M,.int .i64 d,.int .i64 s] 96)):=hv2.alloc hv2.size _;refine(KF.out _ hvN).mono ?_;rintro e w3⟨rfl,hb3⟩;have b4:=(Af.new w2 96 #[.int .i64 M,.int .i64 d,.int .i64 s]).kept hb3;have hv3:=hvN.trans (hb3.mono hvN.size);have hN:=b3.lt;have b0:=(b0.alloc _).kept hb3;have b1:=(b1.alloc _).kept hb3;have b2:=(b2.alloc _).kept hb3;have b3:=(b3.alloc _).kept hb3;clear hb3 hvN hv2 hv1;generalize w2.heap.size=N at *;have hF:=b4.lt;have c5:=(b4.alloc (.cells #[.int .i64 x0,.int .i64 x1,.int .i64 x2,.int .i64 x3,.int .i64 x4] 256)).cell 0 rfl;have c6:=(b4.alloc (.cells #[.int .i64 x0,.int .i64 x1,.int .i64 x2,.int .i64 x3,.int .i64 x4] 256)).cell 1 rfl;have c7:=(b4.alloc (.cells #[.int .i64 x0,.int .i64 x1,.int .i64 x2,.int .i64 x3,.int .i64 x4] 256)).cell 2 rfl;go_wp2;have b5:=Af.new w3 256 #[.int .i64 x0,.int .i64 x1,.int .i64 x2,.int .i64 x3,.int .i64 x4];have b0:=b0.alloc (.cells #[.int .i64 x0,.int .i64 x1,.int .i64 x2,.int .i64 x3,.int .i64 x4] 256);have b1:=b1.alloc (.cells #[.int .i64 x0,.int .i64 x1,.int .i64 x2,.int .i64 x3,.int .i64 x4] 256);have b2:=b2.alloc (.cells #[.int .i64 x0,.int .i64 x1,.int .i64 x2,.int .i64 x3,.int .i64 x4] 256);have b3:=b3.alloc (.cells #[.int .i64 x0,.int .i64 x1,.int .i64 x2,.int .i64 x3,.int .i64 x4] 256);have b4:=b4.alloc (.cells #[.int .i64 x0,.int .i64 x1,.int .i64 x2,.int .i64 x3,.int .i64 x4] 256);have hv4:=hv3.alloc hv3.size (.cells #[.int .i64 x0,.int .i64 x1,.int .i64 x2,.int .i64 x3,.int .i64 x4] 256);generalize hW4:w3.alloc (.cells #[.int .i64 x0,.int .i64 x1,.int .i64 x2,.int .i64 x3,.int .i64 x4] 256)=W4 at *;clear hW4 c5 c6 c7;have v2:=b5.cell 4 rfl;generalize w3.heap.size=F at *;have hne1:¬(w.heap.size+1=E):=by omega
 have hne2:¬(w.heap.size+1=N):=by omega
 have hne3:¬(w.heap.size+1+1=E):=by omega
 have hne4:¬(w.heap.size+1+1=N):=by omega
 have hne5:¬(E=N):=by omega
 have hne6:¬(E=w.heap.size+1):=by omega
 have hne7:¬(N=w.heap.size+1):=by omega
 have hne8:¬(E=w.heap.size+1+1):=by omega
 have hne9:¬(N=w.heap.size+1+1):=by omega
 have hne0:¬(N=E):=by omega
 have e0:=b1.cell 0 rfl;have e1:=b1.cell 1 rfl;have e2:=b1.cell 2 rfl;have e3:=b2.cell 0 rfl;have e4:=b2.cell 1 rfl;have e5:=b2.cell 2 rfl;have e6:=b2.cell 3 rfl;have d0:=b3.cell 0 rfl;have d1:=b3.cell 1 rfl;have d2:=b3.cell 2 rfl;have d3:=b3.cell 3 rfl;have c0:=b4.cell 0 rfl;have c1:=b4.cell 1 rfl;have c2:=b4.cell 2 rfl;have q0:=b1.frozen 0;have q1:=b1.frozen 1;have q2:=b1.frozen 2;have q3:=b2.frozen 0;have q4:=b2.frozen 1;have q5:=b2.frozen 2;have q6:=b2.frozen 3;have r2:=b3.frozen 2;have r3:=b3.frozen 3;have r4:=b4.frozen 2;have r5:=b4.frozen 0;go_region
 all_goals go_wp2
 all_goals go_region
 all_goals
  go_wp2;refine bodyPost_ret (v:=.tuple #[.agg #[.int .i64 M2,.int .i64 d,.int .i64 (s+1)],.agg #[.int .i64 s,.int .i64 who,.bool false,.int .i64 0],.nilIface]) (by simp[results,results184,go_sem,e0,e1,e2,e3,e4,e5,e6]) rfl ?_;refine⟨rfl,?_⟩
  repeat(first|(with_reducible exact hv4)|(with_reducible refine Below.drew ?_)|(with_reducible refine Below.setCell ?_ (by simp<;>omega) _))
theorem Ta(ea:Nat→Addr)(a:Option Addr)(n cap:Nat)(l:List Int)(m:Nat)(d s:Int)(t:List UInt8)(w:World)(hg:Bh w ea [1,2,3,4,5,7,8])(hT:Bf w)(hn:l.length=n)(hr:Ac w a (Aa l))(hc:n≤4611686018427387904)(ht:t.length≤4294967280)
 (h:(Cg l m d s).1=0) (hs:s<1000000) (hG:(Ak t).1=0) (hG2:(Ak t).2.frm≠Am l s.toNat∨(Ak t).2.frm=Am l s.toNat∧¬((Ak t).2.mem=((m|||At (Am l s.toNat):Nat):Int)∧(Ak t).2.mode=d∧(Ak t).2.slot=s)) :
 Calls prog 184 #[.slice a n cap,.agg #[.int .i64 m,.int .i64 d,.int .i64 s],.string ⟨t.toArray⟩] w fun e w'=>
  e=.returned (.tuple #[.agg #[.int .i64 ((Fp (m|||At (Am l s.toNat)) (At (Am l s.toNat)):Nat):Int),.int .i64 d,.int .i64 (s+1)],.agg #[.int .i64 s,.int .i64 (Am l s.toNat),.bool false,.int .i64 0],.nilIface])∧Below w.heap.size w w':=by
 obtain⟨hp,hv,hM,hR⟩:=G0 h;obtain⟨hcm,hvd⟩:=Dz hv;have hmlt:m<65536:=by simp only[Bn,decide_eq_true_eq] at hcm;omega
 have hs0:0≤s:=by simp only[C9,decide_eq_true_eq] at hvd;omega
 have hnd:Aq (Am l s.toNat)=true:=(Ai hp).2.2.2 _ (D0 l _ (Ai hp).2.1);have KR:=zh (fun(W:World) (h:Below w.heap.size w W)=>Fh ea a n cap l m d s W ((hg.below h).sub (by simp)) hn (hr.below h) hc);rw[hM] at KR;simp only[if_true] at KR;have KW:=zh (fun(W:World)=>O0 m d s (Am l s.toNat) W hmlt hnd);have KF:=zh (fun(W:World) (h:Below w.heap.size w W)=>Mf ea t W ((hg.below h).sub (by simp)) (hT.below h) ht);rw[hG,Al] at KF;simp only[Frm.arr] at KF
 have hH:((Ak t).2.frm==Am l s.toNat)=false∨(((Ak t).2.frm==Am l s.toNat)=true∧∀W:World,(binOp .eql 96 (.agg #[.int .i64 (Ak t).2.mem,.int .i64 (Ak t).2.mode,.int .i64 (Ak t).2.slot]) (.agg #[.int .i64 ((m|||At (Am l s.toNat):Nat):Int),.int .i64 d,.int .i64 s])).run prog W=.ok (.bool false) W):=by
  rcases hG2 with hG2|⟨hG2,hG3⟩
  ·exact Or.inl (by simpa using hG2)
  ·refine Or.inr ⟨by simpa using hG2,fun W=>?_⟩
   rw[Kz]
   congr 2
   rw[Bool.eq_false_iff];intro hh;simp only[Bool.and_eq_true,beq_iff_eq] at hh;exact hG3 hh
 clear hG hG2;generalize (Ak t).2.frm=x0 at *;generalize (Ak t).2.mem=x1 at *;generalize (Ak t).2.mode=x2 at *;generalize (Ak t).2.slot=x3 at *;generalize (Ak t).2.value=x4 at *;have hb0:Below w.heap.size w (((w.alloc (.cells #[.int .i64 m,.int .i64 d,.int .i64 s] 96)).alloc (.cells #[.int .i64 0,.int .i64 0,.int .i64 0] 96)).alloc (.cells #[.int .i64 0,.int .i64 0,.bool false,.int .i64 0] 146)):=((zb.alloc zl _).alloc (by simp) _).alloc (by simp;omega) _;have hsl:decide (1000000≤s)=false:=by simpa using hs
 have hw:wrap64 (s+1)=s+1:=by unfold wrap64;omega
 have hbl:=Dx hnd;have hor:m|||At (Am l s.toNat)<65536:=Nat.or_lt_two_pow (n:=16) hmlt hbl
 have hO:=Rc (m|||At (Am l s.toNat)) (At (Am l s.toNat)) (by omega) (by omega);rw[←Wq hnd] at hO;have hw1:¬(Am l s.toNat-1<0):=by simp only[Aq,decide_eq_true_eq] at hnd;omega
 have hw2:1≤Am l s.toNat∧Am l s.toNat≤16:=by simpa only[Aq,decide_eq_true_eq] using hnd
 generalize Am l s.toNat=who at *;generalize hMM:m|||At who=M at *
 generalize Fp M (At who)=M2 at *;clear hMM hg hT hn hr h hp hv hM hR hcm hvd hnd hs hor hbl
 rcases hH with hfb|⟨hfb,HQ⟩
 all_goals
  go_enter func184,ntmps184;go_wp2_with fail;have b0:Af (((w.alloc (.cells #[.int .i64 m,.int .i64 d,.int .i64 s] 96)).alloc (.cells #[.int .i64 0,.int .i64 0,.int .i64 0] 96)).alloc (.cells #[.int .i64 0,.int .i64 0,.bool false,.int .i64 0] 146)) w.heap.size 96 #[.int .i64 m,.int .i64 d,.int .i64 s]:=((Af.new w _ _).alloc _).alloc _
  have b1:Af (((w.alloc (.cells #[.int .i64 m,.int .i64 d,.int .i64 s] 96)).alloc (.cells #[.int .i64 0,.int .i64 0,.int .i64 0] 96)).alloc (.cells #[.int .i64 0,.int .i64 0,.bool false,.int .i64 0] 146)) (w.heap.size+1) 96 #[.int .i64 0,.int .i64 0,.int .i64 0]:=by
   have:=(Af.new (w.alloc (.cells #[.int .i64 m,.int .i64 d,.int .i64 s] 96)) 96 #[.int .i64 0,.int .i64 0,.int .i64 0]).alloc (.cells #[.int .i64 0,.int .i64 0,.bool false,.int .i64 0] 146)
   rwa [World.size_alloc] at this
  have b2:Af (((w.alloc (.cells #[.int .i64 m,.int .i64 d,.int .i64 s] 96)).alloc (.cells #[.int .i64 0,.int .i64 0,.int .i64 0] 96)).alloc (.cells #[.int .i64 0,.int .i64 0,.bool false,.int .i64 0] 146)) (w.heap.size+1+1) 146 #[.int .i64 0,.int .i64 0,.bool false,.int .i64 0]:=by
   have:=Af.new ((w.alloc (.cells #[.int .i64 m,.int .i64 d,.int .i64 s] 96)).alloc (.cells #[.int .i64 0,.int .i64 0,.int .i64 0] 96)) 146 #[.int .i64 0,.int .i64 0,.bool false,.int .i64 0]
   rwa [World.size_alloc,World.size_alloc] at this
  generalize hW0:(((w.alloc (.cells #[.int .i64 m,.int .i64 d,.int .i64 s] 96)).alloc (.cells #[.int .i64 0,.int .i64 0,.int .i64 0] 96)).alloc (.cells #[.int .i64 0,.int .i64 0,.bool false,.int .i64 0] 146))=W0 at *;clear hW0;refine(KR.out _ hb0).mono ?_;rintro e w1⟨v,rfl,hv,hb1⟩;obtain rfl:v=.nilIface:=hv.nil;have hv1:=hb0.trans (hb1.mono hb0.size);have b0:=b0.kept hb1;have b1:=b1.kept hb1;have b2:=b2.kept hb1;have c0:=b0.cell 0 rfl;have c1:=b0.cell 1 rfl;have c2:=b0.cell 2 rfl;have c3:=(b0.alloc (.cells #[.int .i64 s,.int .i64 who,.bool false,.int .i64 0] 146)).cell 0 rfl;have c4:=(b0.alloc (.cells #[.int .i64 s,.int .i64 who,.bool false,.int .i64 0] 146)).cell 1 rfl;have c5:=(b0.alloc (.cells #[.int .i64 s,.int .i64 who,.bool false,.int .i64 0] 146)).cell 2 rfl;clear hb1 hv;go_wp2_with fail;refine(KW.out _).mono ?_;rintro e w2⟨rfl,hb2⟩;have b3:=(Af.new w1 146 #[.int .i64 s,.int .i64 who,.bool false,.int .i64 0]).kept hb2;have hb12:Below w1.heap.size w1 w2:=(zb.alloc zl _).trans (hb2.mono (by simp));have hE:=b2.lt;have b0:=b0.kept hb12;have b1:=b1.kept hb12;have b2:=b2.kept hb12;have hv2:=hv1.trans (hb12.mono hv1.size);clear hb2 hb12 c0 c1 c2 c3 c4 c5;generalize w1.heap.size=E at *;go_wp2_with fail;have hvN:Below w.heap.size w (w2.alloc (.cells #[.int .i64 M,.int .i64 d,.int .i64 s] 96)):=hv2.alloc hv2.size _;refine(KF.out _ hvN).mono ?_;rintro e w3⟨rfl,hb3⟩;have b4:=(Af.new w2 96 #[.int .i64 M,.int .i64 d,.int .i64 s]).kept hb3;have hv3:=hvN.trans (hb3.mono hvN.size);have hN:=b3.lt;have b0:=(b0.alloc _).kept hb3;have b1:=(b1.alloc _).kept hb3;have b2:=(b2.alloc _).kept hb3;have b3:=(b3.alloc _).kept hb3;clear hb3 hvN hv2 hv1;generalize w2.heap.size=N at *;have hF:=b4.lt;have c5:=(b4.alloc (.cells #[.int .i64 x0,.int .i64 x1,.int .i64 x2,.int .i64 x3,.int .i64 x4] 256)).cell 0 rfl;have c6:=(b4.alloc (.cells #[.int .i64 x0,.int .i64 x1,.int .i64 x2,.int .i64 x3,.int .i64 x4] 256)).cell 1 rfl;have c7:=(b4.alloc (.cells #[.int .i64 x0,.int .i64 x1,.int .i64 x2,.int .i64 x3,.int .i64 x4] 256)).cell 2 rfl;go_wp2;have b5:=Af.new w3 256 #[.int .i64 x0,.int .i64 x1,.int .i64 x2,.int .i64 x3,.int .i64 x4];have b0:=b0.alloc (.cells #[.int .i64 x0,.int .i64 x1,.int .i64 x2,.int .i64 x3,.int .i64 x4] 256);have b1:=b1.alloc (.cells #[.int .i64 x0,.int .i64 x1,.int .i64 x2,.int .i64 x3,.int .i64 x4] 256);have b2:=b2.alloc (.cells #[.int .i64 x0,.int .i64 x1,.int .i64 x2,.int .i64 x3,.int .i64 x4] 256);have b3:=b3.alloc (.cells #[.int .i64 x0,.int .i64 x1,.int .i64 x2,.int .i64 x3,.int .i64 x4] 256);have b4:=b4.alloc (.cells #[.int .i64 x0,.int .i64 x1,.int .i64 x2,.int .i64 x3,.int .i64 x4] 256);have hv4:=hv3.alloc hv3.size (.cells #[.int .i64 x0,.int .i64 x1,.int .i64 x2,.int .i64 x3,.int .i64 x4] 256);generalize hW4:w3.alloc (.cells #[.int .i64 x0,.int .i64 x1,.int .i64 x2,.int .i64 x3,.int .i64 x4] 256)=W4 at *;clear hW4 c5 c6 c7;have v2:=b5.cell 4 rfl;generalize w3.heap.size=F at *;have hne1:¬(w.heap.size+1=E):=by omega
  have hne2:¬(w.heap.size+1=N):=by omega
  have hne3:¬(w.heap.size+1+1=E):=by omega
  have hne4:¬(w.heap.size+1+1=N):=by omega
  have hne5:¬(E=N):=by omega
  have hne6:¬(E=w.heap.size+1):=by omega
  have hne7:¬(N=w.heap.size+1):=by omega
  have hne8:¬(E=w.heap.size+1+1):=by omega
  have hne9:¬(N=w.heap.size+1+1):=by omega
  have hne0:¬(N=E):=by omega
  have e0:=b1.cell 0 rfl;have e1:=b1.cell 1 rfl;have e2:=b1.cell 2 rfl;have e3:=b2.cell 0 rfl;have e4:=b2.cell 1 rfl;have e5:=b2.cell 2 rfl;have e6:=b2.cell 3 rfl;have d0:=b3.cell 0 rfl;have d1:=b3.cell 1 rfl;have d2:=b3.cell 2 rfl;have d3:=b3.cell 3 rfl;have c0:=b4.cell 0 rfl;have c1:=b4.cell 1 rfl;have c2:=b4.cell 2 rfl;have q0:=b1.frozen 0;have q1:=b1.frozen 1;have q2:=b1.frozen 2;have q3:=b2.frozen 0;have q4:=b2.frozen 1;have q5:=b2.frozen 2;have q6:=b2.frozen 3;have r2:=b3.frozen 2;have r3:=b3.frozen 3;have r4:=b4.frozen 2;have r5:=b4.frozen 0;go_region
  all_goals go_wp2
  all_goals go_region
  all_goals
   go_wp2;refine bodyPost_ret (v:=.tuple #[.agg #[.int .i64 M2,.int .i64 d,.int .i64 (s+1)],.agg #[.int .i64 s,.int .i64 who,.bool false,.int .i64 0],.nilIface]) (by simp[results,results184,go_sem,e0,e1,e2,e3,e4,e5,e6]) rfl ?_;refine⟨rfl,?_⟩
   repeat(first|(with_reducible exact hv4)|(with_reducible refine Below.drew ?_)|(with_reducible refine Below.setCell ?_ (by simp<;>omega) _))
def Ee(l:List Int)(m d s:Int):Nat×Int:=if (Cg l m d s).1=0 then(if 1000000≤s then(7,-1) else(0,-1)) else Cg l m d s
def Fl(l:List Int)(m d s:Int)(t:List UInt8):Bool:=Ow (Am l s.toNat) m.toNat d s t
def L9(l:List Int)(m d s:Int)(t:List UInt8):Nat:=if Fl l m d s t then m.toNat|||At (Am l s.toNat) else Fp (m.toNat|||At (Am l s.toNat)) (At (Am l s.toNat))
def D3(l:List Int)(m d s:Int)(t:List UInt8):Int×Int×Int:=if (Ee l m d s).1=0 then((L9 l m d s t:Int),d,s+1) else(0,0,0)
def Ff(l:List Int)(m d s:Int)(t:List UInt8):Ent:=if (Ee l m d s).1=0 then⟨s,Am l s.toNat,Fl l m d s t,if Fl l m d s t then(Ak t).2.value else 0⟩ else⟨0,0,false,0⟩
theorem Bg.setAt{ea:Nat→Addr}{w:World}{v:Value}{code:Nat}{pl:Int}{b:Nat}(h:Bg ea w v code pl)(hc:∀t p,w.cell? ⟨b,1,none⟩≠some (.iface t p))(o:Nat)(x:Value) :
 Bg ea (w.setCell ⟨b,o,none⟩ x) v code pl:=by
 rcases h with h|⟨h0,h1,g,rfl,hlt,h2,h3⟩
 ·exact Or.inl h
 ·have hne:b≠g:=by
   rintro rfl;rw[Ae ea h1] at h3;exact hc _ _ h3
  refine Or.inr ⟨h0,h1,g,rfl,by simpa using hlt,?_,?_⟩
  ·exact(World.cell?_setCell_other _ _ _ _ (fun e=>hne (congrArg Addr.block e))).trans h2
  ·exact(World.cell?_setCell_other _ _ _ _ (fun e=>hne (congrArg Addr.block e))).trans h3
theorem Bg.drew{ea:Nat→Addr}{w:World}{v:Value}{code:Nat}{pl:Int}(h:Bg ea w v code pl):Bg ea w.drew v code pl:=h.below zb.drew
theorem zHj(ea:Nat→Addr)(a:Option Addr)(n cap:Nat)(l:List Int)(m d s:Int)(t:List UInt8)(w:World)(hg:Bh w ea [1,2,3,4,5,7,8])(hn:l.length=n)(hr:Ac w a (Aa l))(hc:n≤4611686018427387904)
 (h:(Cg l m d s).1≠0) :
 Calls prog 184 #[.slice a n cap,.agg #[.int .i64 m,.int .i64 d,.int .i64 s],.string ⟨t.toArray⟩] w fun e w'=>
  ∃v,e=.returned (.tuple #[.agg #[.int .i64 0,.int .i64 0,.int .i64 0],.agg #[.int .i64 0,.int .i64 0,.bool false,.int .i64 0],v])∧Bg ea w' v (Cg l m d s).1 (Cg l m d s).2∧Below w.heap.size w w':=by
 have KR:=zh (fun(W:World) (h:Below w.heap.size w W)=>Fh ea a n cap l m d s W ((hg.below h).sub (by simp)) hn (hr.below h) hc);rw[if_neg h] at KR;have hb0:Below w.heap.size w (((w.alloc (.cells #[.int .i64 m,.int .i64 d,.int .i64 s] 96)).alloc (.cells #[.int .i64 0,.int .i64 0,.int .i64 0] 96)).alloc (.cells #[.int .i64 0,.int .i64 0,.bool false,.int .i64 0] 146)):=((zb.alloc zl _).alloc (by simp) _).alloc (by simp;omega) _;have H0:=zh h;clear hg hn hr h;go_enter func184,ntmps184;go_wp2_with fail
 have b1:Af (((w.alloc (.cells #[.int .i64 m,.int .i64 d,.int .i64 s] 96)).alloc (.cells #[.int .i64 0,.int .i64 0,.int .i64 0] 96)).alloc (.cells #[.int .i64 0,.int .i64 0,.bool false,.int .i64 0] 146)) (w.heap.size+1) 96 #[.int .i64 0,.int .i64 0,.int .i64 0]:=by
  have:=(Af.new (w.alloc (.cells #[.int .i64 m,.int .i64 d,.int .i64 s] 96)) 96 #[.int .i64 0,.int .i64 0,.int .i64 0]).alloc (.cells #[.int .i64 0,.int .i64 0,.bool false,.int .i64 0] 146)
  rwa [World.size_alloc] at this
 have b2:Af (((w.alloc (.cells #[.int .i64 m,.int .i64 d,.int .i64 s] 96)).alloc (.cells #[.int .i64 0,.int .i64 0,.int .i64 0] 96)).alloc (.cells #[.int .i64 0,.int .i64 0,.bool false,.int .i64 0] 146)) (w.heap.size+1+1) 146 #[.int .i64 0,.int .i64 0,.bool false,.int .i64 0]:=by
  have:=Af.new ((w.alloc (.cells #[.int .i64 m,.int .i64 d,.int .i64 s] 96)).alloc (.cells #[.int .i64 0,.int .i64 0,.int .i64 0] 96)) 146 #[.int .i64 0,.int .i64 0,.bool false,.int .i64 0]
  rwa [World.size_alloc,World.size_alloc] at this
 generalize hW0:(((w.alloc (.cells #[.int .i64 m,.int .i64 d,.int .i64 s] 96)).alloc (.cells #[.int .i64 0,.int .i64 0,.int .i64 0] 96)).alloc (.cells #[.int .i64 0,.int .i64 0,.bool false,.int .i64 0] 146))=W0 at *;clear hW0;refine(KR.out _ hb0).mono ?_;rintro e w1⟨v,rfl,hv,hb1⟩;obtain⟨vt,vx,rfl⟩:=hv.held H0.out;have hv1:=hb0.trans (hb1.mono hb0.size);have b1:=b1.kept hb1;have b2:=b2.kept hb1;have e0:=b1.cell 0 rfl;have e1:=b1.cell 1 rfl;have e2:=b1.cell 2 rfl;have e3:=b2.cell 0 rfl;have e4:=b2.cell 1 rfl;have e5:=b2.cell 2 rfl;have e6:=b2.cell 3 rfl;have q0:=b1.frozen 0;have q1:=b1.frozen 1;have q2:=b1.frozen 2;have q3:=b2.frozen 0;have q4:=b2.frozen 1;have q5:=b2.frozen 2;have q6:=b2.frozen 3;go_wp2;refine bodyPost_ret (v:=.tuple #[.agg #[.int .i64 0,.int .i64 0,.int .i64 0],.agg #[.int .i64 0,.int .i64 0,.bool false,.int .i64 0],.iface vt vx]) (by simp[results,results184,go_sem,e0,e1,e2,e3,e4,e5,e6]) rfl ?_;refine⟨_,rfl,?_,?_⟩
 ·repeat(first|(with_reducible exact hv)|(with_reducible refine Bg.setAt ?_ (by intro t p;simp[go_sem, *]) _ _))
 ·repeat(first|(with_reducible exact hv1)|(with_reducible refine Below.setCell ?_ (by simp<;>omega) _))
theorem zEb(ea:Nat→Addr)(a:Option Addr)(n cap:Nat)(l:List Int)(m d s:Int)(t:List UInt8)(w:World)(hg:Bh w ea [1,2,3,4,5,7,8])(hn:l.length=n)(hr:Ac w a (Aa l))(hc:n≤4611686018427387904)
 (h:(Cg l m d s).1=0) (hs:1000000≤s) :
 Calls prog 184 #[.slice a n cap,.agg #[.int .i64 m,.int .i64 d,.int .i64 s],.string ⟨t.toArray⟩] w fun e w'=>
  ∃v,e=.returned (.tuple #[.agg #[.int .i64 0,.int .i64 0,.int .i64 0],.agg #[.int .i64 0,.int .i64 0,.bool false,.int .i64 0],v])∧Bg ea w' v 7 (-1)∧Below w.heap.size w w':=by
 have KR:=zh (fun(W:World) (h:Below w.heap.size w W)=>Fh ea a n cap l m d s W ((hg.below h).sub (by simp)) hn (hr.below h) hc);rw[(G0 h).2.2.1] at KR;simp only[if_true] at KR;have HG:=zh (fun(W:World) (h:Below w.heap.size w W)=>hg.below h);have hb0:Below w.heap.size w (((w.alloc (.cells #[.int .i64 m,.int .i64 d,.int .i64 s] 96)).alloc (.cells #[.int .i64 0,.int .i64 0,.int .i64 0] 96)).alloc (.cells #[.int .i64 0,.int .i64 0,.bool false,.int .i64 0] 146)):=((zb.alloc zl _).alloc (by simp) _).alloc (by simp;omega) _;have HP:=zh (Ae ea (k:=7) (by decide));generalize Am l s.toNat=who at *;clear hg hn hr h;go_enter func184,ntmps184;go_wp2_with fail;have b0:Af (((w.alloc (.cells #[.int .i64 m,.int .i64 d,.int .i64 s] 96)).alloc (.cells #[.int .i64 0,.int .i64 0,.int .i64 0] 96)).alloc (.cells #[.int .i64 0,.int .i64 0,.bool false,.int .i64 0] 146)) w.heap.size 96 #[.int .i64 m,.int .i64 d,.int .i64 s]:=((Af.new w _ _).alloc _).alloc _
 have b1:Af (((w.alloc (.cells #[.int .i64 m,.int .i64 d,.int .i64 s] 96)).alloc (.cells #[.int .i64 0,.int .i64 0,.int .i64 0] 96)).alloc (.cells #[.int .i64 0,.int .i64 0,.bool false,.int .i64 0] 146)) (w.heap.size+1) 96 #[.int .i64 0,.int .i64 0,.int .i64 0]:=by
  have:=(Af.new (w.alloc (.cells #[.int .i64 m,.int .i64 d,.int .i64 s] 96)) 96 #[.int .i64 0,.int .i64 0,.int .i64 0]).alloc (.cells #[.int .i64 0,.int .i64 0,.bool false,.int .i64 0] 146)
  rwa [World.size_alloc] at this
 have b2:Af (((w.alloc (.cells #[.int .i64 m,.int .i64 d,.int .i64 s] 96)).alloc (.cells #[.int .i64 0,.int .i64 0,.int .i64 0] 96)).alloc (.cells #[.int .i64 0,.int .i64 0,.bool false,.int .i64 0] 146)) (w.heap.size+1+1) 146 #[.int .i64 0,.int .i64 0,.bool false,.int .i64 0]:=by
  have:=Af.new ((w.alloc (.cells #[.int .i64 m,.int .i64 d,.int .i64 s] 96)).alloc (.cells #[.int .i64 0,.int .i64 0,.int .i64 0] 96)) 146 #[.int .i64 0,.int .i64 0,.bool false,.int .i64 0]
  rwa [World.size_alloc,World.size_alloc] at this
 generalize hW0:(((w.alloc (.cells #[.int .i64 m,.int .i64 d,.int .i64 s] 96)).alloc (.cells #[.int .i64 0,.int .i64 0,.int .i64 0] 96)).alloc (.cells #[.int .i64 0,.int .i64 0,.bool false,.int .i64 0] 146))=W0 at *;clear hW0;refine(KR.out _ hb0).mono ?_;rintro e w1⟨v,rfl,hv,hb1⟩;obtain rfl:v=.nilIface:=hv.nil;have hv1:=hb0.trans (hb1.mono hb0.size);have b1:=b1.kept hb1;have b2:=b2.kept hb1;have c2:=(b0.kept hb1).cell 2 rfl;have g7:=(HG.out _ hv1).cell 7 (by simp);simp only[gOf] at g7;rw[HP.out] at g7;have e0:=b1.cell 0 rfl;have e1:=b1.cell 1 rfl;have e2:=b1.cell 2 rfl;have e3:=b2.cell 0 rfl;have e4:=b2.cell 1 rfl;have e5:=b2.cell 2 rfl;have e6:=b2.cell 3 rfl;have q0:=b1.frozen 0;have q1:=b1.frozen 1;have q2:=b1.frozen 2;have q3:=b2.frozen 0;have q4:=b2.frozen 1;have q5:=b2.frozen 2;have q6:=b2.frozen 3;go_wp2;refine bodyPost_ret (v:=.tuple #[.agg #[.int .i64 0,.int .i64 0,.int .i64 0],.agg #[.int .i64 0,.int .i64 0,.bool false,.int .i64 0],Bm ea 7]) (by simp[results,results184,go_sem,e0,e1,e2,e3,e4,e5,e6,HP.out]) rfl ?_;refine⟨_,rfl,?_,?_⟩
 ·exact Or.inl ⟨rfl,rfl⟩
 ·repeat(first|(with_reducible exact hv1)|(with_reducible refine Below.setCell ?_ (by simp<;>omega) _))
theorem zHi(ea:Nat→Addr)(a:Option Addr)(n cap:Nat)(l:List Int)(m d s:Int)(t:List UInt8)(w:World)(hg:Bh w ea [1,2,3,4,5,7,8])(hT:Bf w)(hn:l.length=n)(hr:Ac w a (Aa l))(hc:n≤4611686018427387904)(ht:t.length≤4294967280) :
 Calls prog 184 #[.slice a n cap,.agg #[.int .i64 m,.int .i64 d,.int .i64 s],.string ⟨t.toArray⟩] w fun e w'=>
  ∃v,e=.returned (.tuple #[.agg #[.int .i64 (D3 l m d s t).1,.int .i64 (D3 l m d s t).2.1,.int .i64 (D3 l m d s t).2.2],(Ff l m d s t).v,v])∧Bg ea w' v (Ee l m d s).1 (Ee l m d s).2∧Below w.heap.size w w':=by
 by_cases h:(Cg l m d s).1=0
 ·by_cases hs:1000000≤s
  ·have hF:Ee l m d s=(7,-1):=by rw[Ee,if_pos h,if_pos hs]
   have hV:D3 l m d s t=(0,0,0):=by rw[D3,if_neg (by rw[hF];simp)]
   have hE:Ff l m d s t=⟨0,0,false,0⟩:=by rw[Ff,if_neg (by rw[hF];simp)]
   rw[hF,hV,hE];exact zEb ea a n cap l m d s t w hg hn hr hc h hs
  ·have hF:Ee l m d s=(0,-1):=by rw[Ee,if_pos h,if_neg hs]
   obtain⟨k,rfl⟩:∃k:Nat,m=k:=by
    obtain⟨hcm,_⟩:=Dz (G0 h).2.1;simp only[Bn,decide_eq_true_eq] at hcm;exact⟨m.toNat,by omega⟩
   have hV:D3 l k d s t=((L9 l k d s t:Int),d,s+1):=by rw[D3,if_pos (by rw[hF])]
   have hE:Ff l k d s t=⟨s,Am l s.toNat,Fl l k d s t,if Fl l k d s t then(Ak t).2.value else 0⟩:=by rw[Ff,if_pos (by rw[hF])]
   rw[hF,hV,hE]
   cases hok:Fl l k d s t
   ·have hM:L9 l k d s t=Fp (k|||At (Am l s.toNat)) (At (Am l s.toNat)):=by rw[L9,hok];rfl
    rw[hM]
    have hcase:(Ak t).1≠0∨((Ak t).1=0∧(Ak t).2.frm≠Am l s.toNat)∨((Ak t).1=0∧(Ak t).2.frm=Am l s.toNat∧¬((Ak t).2.mem=((k|||At (Am l s.toNat):Nat):Int)∧(Ak t).2.mode=d∧(Ak t).2.slot=s)):=by
     by_cases h1:(Ak t).1=0
     ·by_cases h2:(Ak t).2.frm=Am l s.toNat
      ·refine .inr (.inr ⟨h1,h2,fun h3=>?_⟩)
       rw[Fl,Ow,decide_eq_false_iff_not] at hok;exact hok ⟨h1,h2,h3⟩
      ·exact .inr (.inl ⟨h1,h2⟩)
     ·exact .inl h1
    rcases hcase with h1|⟨h1,h2⟩|⟨h1,h2,h3⟩
    ·refine(zHk ea a n cap l k d s t w hg hT hn hr hc ht h (by omega) h1).mono ?_
     rintro e w'⟨rfl,hb⟩;exact⟨_,rfl,Or.inl ⟨rfl,(Al ea).symm⟩,hb⟩
    ·refine(Ta ea a n cap l k d s t w hg hT hn hr hc ht h (by omega) h1 (Or.inl h2)).mono ?_
     rintro e w'⟨rfl,hb⟩;exact⟨_,rfl,Or.inl ⟨rfl,(Al ea).symm⟩,hb⟩
    ·refine(Ta ea a n cap l k d s t w hg hT hn hr hc ht h (by omega) h1 (Or.inr ⟨h2,h3⟩)).mono ?_
     rintro e w'⟨rfl,hb⟩;exact⟨_,rfl,Or.inl ⟨rfl,(Al ea).symm⟩,hb⟩
   ·have hM:L9 l k d s t=k|||At (Am l s.toNat):=by rw[L9,hok];rfl
    rw[hM];refine(zA2 ea a n cap l k d s t w hg hT hn hr hc ht h (by omega) hok).mono ?_;rintro e w'⟨rfl,hb⟩;exact⟨_,rfl,Or.inl ⟨rfl,(Al ea).symm⟩,hb⟩
 ·have hF:Ee l m d s=Cg l m d s:=by rw[Ee,if_neg h]
  have hV:D3 l m d s t=(0,0,0):=by rw[D3,if_neg (by rw[hF];exact h)]
  have hE:Ff l m d s t=⟨0,0,false,0⟩:=by rw[Ff,if_neg (by rw[hF];exact h)]
  rw[hF,hV,hE];exact zHj ea a n cap l m d s t w hg hn hr hc h
def Ft(_l:List Int)(m d s node value:Int):Frm:=⟨node,((m.toNat|||At node:Nat):Int),d,s,value⟩
def Fd(l:List Int)(m d s node value:Int):Nat×Int:=if (Cg l m d s).1=0 then(if Am l s.toNat=node then(A8 (Ft l m d s node value),-1) else(9,-1)) else Cg l m d s
def Ei(l:List Int)(m d s node value:Int):List UInt8:=if (Cg l m d s).1=0∧Am l s.toNat=node then Ly (Ft l m d s node value) else[]
theorem zHe(ea:Nat→Addr)(a:Option Addr)(n cap:Nat)(l:List Int)(m d s node value:Int)(w:World)(hg:Bh w ea [2,3,4,5,7,9])(hT:Bf w)(hn:l.length=n)(hr:Ac w a (Aa l))(hc:n≤4611686018427387904) :
 Calls prog 182 #[.slice a n cap,.agg #[.int .i64 m,.int .i64 d,.int .i64 s],.int .i64 node,.int .i64 value] w fun e w'=>
  ∃v,e=.returned (.tuple #[.string ⟨(Ei l m d s node value).toArray⟩,v])∧Bg ea w' v (Fd l m d s node value).1 (Fd l m d s node value).2∧Below w.heap.size w w':=by
 have KR:=zh (fun(W:World) (h:Below w.heap.size w W)=>Fh ea a n cap l m d s W ((hg.below h).sub (by simp)) hn (hr.below h) hc);have hb0:Below w.heap.size w (w.alloc (.cells #[.int .i64 m,.int .i64 d,.int .i64 s] 96)):=zb.alloc zl _;have hb1':=hb0
 by_cases h:(Cg l m d s).1=0
 ·rw[(G0 h).2.2.1] at KR
  simp only[if_true] at KR
  by_cases hw:Am l s.toNat=node
  ·have hF:Fd l m d s node value=(A8 (Ft l m d s node value),-1):=by rw[Fd,if_pos h,if_pos hw]
   have hT':Ei l m d s node value=Ly (Ft l m d s node value):=by rw[Ei,if_pos ⟨h,hw⟩]
   obtain⟨hp,hv,_,_⟩:=G0 h;obtain⟨hcm,hvd⟩:=Dz hv;have hnd:Aq node=true:=by rw[←hw];exact(Ai hp).2.2.2 _ (D0 l _ (Ai hp).2.1)
   obtain⟨k,rfl⟩:∃k:Nat,m=k:=by
    simp only[Bn,decide_eq_true_eq] at hcm;exact⟨m.toNat,by omega⟩
   have hk:k<65536:=by simp only[Bn,decide_eq_true_eq] at hcm;omega
   have KW:=zh (fun(W:World)=>O0 k d s node W hk hnd);have KM:=zh (fun(W:World) (h:Below w.heap.size w W)=>zGe ea node ((k|||At node:Nat):Int) d s value W ((hg.below h).sub (by simp)) (hT.below h));have hfr:Ft l k d s node value=⟨node,((k|||At node:Nat):Int),d,s,value⟩:=rfl;rw[hF,hT',hfr];rw[hw] at KR;generalize k|||At node=M at *
   generalize Ly ⟨node,(M:Int),d,s,value⟩=tx at *;generalize A8 ⟨node,(M:Int),d,s,value⟩=fe at *;clear hg hT hn hr h hw hF hT' hp hv hcm hvd hnd hfr;go_enter func182,ntmps182;go_wp2_with fail;refine(KR.out _ hb0).mono ?_;rintro e w1⟨v,rfl,hv,hb1⟩;obtain rfl:v=.nilIface:=hv.nil;have hv1:=hb0.trans (hb1.mono hb0.size);have b0:=(Af.new w 96 #[.int .i64 k,.int .i64 d,.int .i64 s]).kept hb1;have c0:=b0.cell 0 rfl;have c1:=b0.cell 1 rfl;have c2:=b0.cell 2 rfl;go_wp2_with fail;refine(KW.out _).mono ?_;rintro e w2⟨rfl,hb2⟩;have hv2:=hv1.trans (hb2.mono hv1.size);go_wp2_with fail;refine(KM.out _ hv2).mono ?_;rintro e w3⟨rfl,hb3⟩;go_wp2;go_ret2;exact⟨_,rfl,Or.inl ⟨rfl,rfl⟩,hv2.trans (hb3.mono hv2.size)⟩
  ·have hF:Fd l m d s node value=(9,-1):=by rw[Fd,if_pos h,if_neg hw]
   have hT':Ei l m d s node value=[]:=by rw[Ei,if_neg (fun e=>hw e.2)]
   rw[hF,hT'];have HG:=zh (fun(W:World) (h:Below w.heap.size w W)=>hg.below h);have hwb:(Am l s.toNat != node)=true:=by simpa using hw
   generalize Am l s.toNat=who at *;clear hg hT hn hr h hw hF hT';go_enter func182,ntmps182;go_wp2_with fail;refine(KR.out _ hb0).mono ?_;rintro e w1⟨v,rfl,hv,hb1⟩;obtain rfl:v=.nilIface:=hv.nil;have hv1:=hb0.trans (hb1.mono hb0.size);have g9:=(HG.out _ hv1).cell 9 (by simp);simp only[gOf] at g9;go_wp2;go_region
   all_goals
    go_wp2;go_ret2;exact⟨_,rfl,Or.inl ⟨rfl,rfl⟩,hv1.drew⟩
 ·have hF:Fd l m d s node value=Cg l m d s:=by rw[Fd,if_neg h]
  have hT':Ei l m d s node value=[]:=by rw[Ei,if_neg (fun e=>h e.1)]
  rw[hF,hT'];rw[if_neg h] at KR;have H0:=zh h;clear hg hT hn hr h hF hT';go_enter func182,ntmps182;go_wp2_with fail;refine(KR.out _ hb0).mono ?_;rintro e w1⟨v,rfl,hv,hb1⟩;obtain⟨vt,vx,rfl⟩:=hv.held H0.out;go_wp2;go_ret2;exact⟨_,rfl,hv,hb0.trans (hb1.mono hb0.size)⟩
end Go.Proofs.YtppfkokfnoeopaaGreatDoor
