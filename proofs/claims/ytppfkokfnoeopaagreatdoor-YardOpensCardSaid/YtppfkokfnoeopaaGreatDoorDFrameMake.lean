/- A part of a proof. -/
import Derived.Deep.RegionHeld3
import Derived.RegionTactic
import Derived.Test.YtppfkokfnoeopaaGreatDoorDCrewRead
namespace Go.Proofs.YtppfkokfnoeopaaGreatDoor
open Go.RowKit
structure Frm where
 frm:Int
 mem:Int
 mode:Int
 slot:Int
 value:Int
 deriving DecidableEq,Inhabited
def Frm.arr(f:Frm):Array Value:=#[.int .i64 f.frm,.int .i64 f.mem,.int .i64 f.mode,.int .i64 f.slot,.int .i64 f.value]
def viewB(mode slot:Int):Bool:=decide (0≤mode∧mode≤3∧0≤slot∧slot≤1000000)
def frameE(f:Frm):Nat:=if nodeB f.frm then(if crewB f.mem then(if hasB f.mem f.frm then(if viewB f.mode f.slot&&numB f.value then 0 else 2) else 3) else 2) else 4
theorem frameE_zero{f:Frm}(h:frameE f=0):nodeB f.frm=true∧crewB f.mem=true∧hasB f.mem f.frm=true∧viewB f.mode f.slot=true∧numB f.value=true:=by
 unfold frameE at h
 split at h
 ·split at h
  ·split at h
   ·split at h
    ·rename_i h1 h2 h3 h4;rw[Bool.and_eq_true] at h4;exact⟨h1,h2,h3,h4.1,h4.2⟩
    ·omega
   ·omega
  ·omega
 ·omega
set_option maxHeartbeats 1600000 in
theorem frameCheck_any(ea:Nat→Addr)(f1 f2 f3 f4 f5:Int)(w:World)(hg:Glob w ea [2,3,4]) :
 Calls Tryz.prog 225 #[.agg #[.int .i64 f1,.int .i64 f2,.int .i64 f3,.int .i64 f4,.int .i64 f5]] w fun e w'=>e=.returned (errV ea (frameE ⟨f1,f2,f3,f4,f5⟩))∧Below w.heap.size w w':=by
 have hb0:Below w.heap.size w (w.alloc (.cells #[.int .i64 f1,.int .i64 f2,.int .i64 f3,.int .i64 f4,.int .i64 f5] 256)):=(Below.refl _ _).alloc (Nat.le_refl _) _;have hgb:=hg.below hb0;have g2:=hgb.cell 2 (by simp);have g3:=hgb.cell 3 (by simp);have g4:=hgb.cell 4 (by simp);simp only[gOf] at g2 g3 g4;have KN:=Lib.hid (fun W=>node_any f1 W);have KC:=Lib.hid (crewCheck_any ea f2 _ (hgb.sub (by simp)));have KH:=Lib.hid (has_any ea f2 f1 _ (hgb.sub (by simp)));clear hg hgb
 cases h1:nodeB f1
 ·have HF:Hid (frameE ⟨f1,f2,f3,f4,f5⟩=4):=by unfold Hid;simp only[frameE,h1];rfl
  rw[h1] at KN;clear h1;go_enter Tryz.func225,Tryz.ntmps225;go_wp2_with (go_at_call 154;refine(KN.out _).mono ?_;rintro e w'⟨rfl,rfl⟩);go_ret;exact⟨by rw[HF.out];rfl,hb0⟩
 ·rw[h1] at KN
  cases h2:crewB f2
  ·have HF:Hid (frameE ⟨f1,f2,f3,f4,f5⟩=2):=by unfold Hid;simp only[frameE,h1,h2];rfl
   have HE:=Lib.hid (errV_pos ea (k:=2) (by decide));rw[show errV ea (crewE f2)=.iface 346 (.pointer (some (ea 2))) by rw[crewE,h2];exact errV_pos ea (by decide)] at KC;clear h1 h2;go_enter Tryz.func225,Tryz.ntmps225
   go_wp2_with (first
    | (go_at_call 154;refine(KN.out _).mono ?_;rintro e w'⟨rfl,rfl⟩)
    | (go_at_call 126;refine KC.out.mono ?_;rintro e w'⟨rfl,rfl⟩))
   go_ret;exact⟨by rw[HF.out,HE.out];rfl,hb0⟩
  ·rw[show errV ea (crewE f2)=.nilIface by rw[crewE,h2];exact errV_zero ea] at KC
   cases h3:hasB f2 f1
   ·have HF:Hid (frameE ⟨f1,f2,f3,f4,f5⟩=3):=by unfold Hid;simp only[frameE,h1,h2,h3];rfl
    rw[h3] at KH;clear h1 h2 h3;go_enter Tryz.func225,Tryz.ntmps225
    go_wp2_with (first
     | (go_at_call 154;refine(KN.out _).mono ?_;rintro e w'⟨rfl,rfl⟩)
     | (go_at_call 126;refine KC.out.mono ?_;rintro e w'⟨rfl,rfl⟩)
     | (go_at_call 171;refine KH.out.mono ?_;rintro e w'⟨rfl,rfl⟩))
    go_ret;exact⟨by rw[HF.out];rfl,hb0⟩
   ·have HB:Hid ((f3<0∨4≤f3∨f4<0∨1000000<f4∨f5 < -1048576∨1048576<f5)→frameE ⟨f1,f2,f3,f4,f5⟩=2):=by
     unfold Hid;intro h;simp only[frameE,h1,h2,h3,if_true];rw[if_neg];simp only[viewB,numB,Bool.and_eq_true,decide_eq_true_eq];omega
    have HO:Hid (¬(f3<0∨4≤f3∨f4<0∨1000000<f4∨f5 < -1048576∨1048576<f5)→frameE ⟨f1,f2,f3,f4,f5⟩=0):=by
     unfold Hid;intro h;simp only[frameE,h1,h2,h3,if_true];rw[if_pos];simp only[viewB,numB,Bool.and_eq_true,decide_eq_true_eq];omega
    have HZ:=Lib.hid (errV_zero ea);rw[h3] at KH;clear h1 h2 h3;go_enter Tryz.func225,Tryz.ntmps225
    go_wp2_with (first
     | (go_at_call 154;refine(KN.out _).mono ?_;rintro e w'⟨rfl,rfl⟩)
     | (go_at_call 126;refine KC.out.mono ?_;rintro e w'⟨rfl,rfl⟩)
     | (go_at_call 171;refine KH.out.mono ?_;rintro e w'⟨rfl,rfl⟩))
    all_goals
     go_ret
     first
      | exact⟨by rw[HB.out (by omega)];rfl,hb0⟩
      | exact⟨by rw[HO.out (by omega),HZ.out];rfl,hb0⟩
def sumStep(n:Nat)(b:UInt8):Nat:=(n*257+b.toNat+1)%65521
def sumF(l:List UInt8):Nat:=l.foldl sumStep 1
theorem sumFold_lt(l:List UInt8):∀n,n<65521→l.foldl sumStep n<65521:=by
 induction l with
 | nil=>intro n h;exact h
 | cons b r ih=>intro n _;exact ih _ (Nat.mod_lt _ (by decide))
theorem sumF_lt(l:List UInt8):sumF l<65521:=sumFold_lt l 1 (by decide)
theorem sum_any(l:List UInt8)(w:World)(hl:l.length≤4294967280) :
 Calls Tryz.prog 223 #[.string ⟨l.toArray⟩] w fun e w'=>e=.returned (.int .i64 (sumF l))∧w=w':=by
 go_enter Tryz.func223,Tryz.ntmps223;go_wp2;go_loop [3,7] (fun t i=>∃k:Nat,k≤l.length∧i=.int .i64 k∧t=.int .i64 (sumF (l.take k))) (fun _ i=>l.length-(intOf i).toNat)
 case atStart=>exact⟨0,Nat.zero_le _,rfl,rfl⟩
 case round=>
  obtain⟨k,hk,rfl,rfl⟩:=hrel
  by_cases hlt:k<l.length
  ·have hs:sumF (l.take (k+1))=(sumF (l.take k)*257+l[k].toNat+1)%65521:=by rw[List.take_succ_eq_append_getElem hlt,sumF,List.foldl_append];rfl
   have hlt1:=sumF_lt (l.take k);have hu:l[k].toNat<256:=UInt8.toNat_lt _;have hx:(⟨l.toArray⟩:ByteArray)[k]'(by simpa[ByteArray.size] using hlt)=l[k]:=rfl;have HS:Hid (((sumF (l.take (k+1)):Nat):Int)=(((sumF (l.take k):Nat):Int)*257+(l[k].toNat:Int)+1)%65521):=by unfold Hid;rw[hs];omega
   clear hs;generalize sumF (l.take k)=n at *;generalize l[k]=y at *;go_wp2;go_round
   case rel=>exact⟨k+1,by omega,by go_num,by rw[HS.out]⟩
   case measure=>simp[intOf];omega
  ·obtain rfl:k=l.length:=by omega
   rw[List.take_length];go_wp2;go_ret;exact⟨rfl,rfl⟩
theorem natural_any(l:List UInt8)(w:World)(hT:TxtEnv w)(hl:l.length≤4294967280) :
 Calls Tryz.prog 222 #[.string ⟨l.toArray⟩] w fun e w'=>e=.returned (.tuple #[.int .i64 (numN l),.bool (numIs l&&decide (0≤numN l))])∧Below w.heap.size w w':=by
 have K:=Lib.hid (number_any l w hT hl);clear hT
 cases h:numIs l
 ·rw[h] at K
  clear h;generalize numN l=n at *;go_enter Tryz.func222,Tryz.ntmps222;go_wp2_with fail;refine K.out.mono ?_;rintro e w1⟨rfl,hb⟩;go_wp2;go_ret2;exact⟨by simp,hb⟩
 ·rw[h] at K
  clear h;generalize numN l=n at *
  by_cases h0:0≤n
  ·have hd:decide (0≤n)=true:=by simpa using h0
   go_enter Tryz.func222,Tryz.ntmps222;go_wp2_with fail;refine K.out.mono ?_;rintro e w1⟨rfl,hb⟩;go_wp2;go_ret2;exact⟨by simp[h0],hb⟩
  ·have hd:decide (0≤n)=false:=by simpa using h0
   go_enter Tryz.func222,Tryz.ntmps222;go_wp2_with fail;refine K.out.mono ?_;rintro e w1⟨rfl,hb⟩;go_wp2;go_ret2;exact⟨by simp[h0],hb⟩
def frameW(f:Frm):List (List UInt8):=[[102,114,97,109,101],Lib.itoa f.frm,textF f.mem,Lib.itoa f.mode,Lib.itoa f.slot,Lib.itoa f.value]
def frameBody(f:Frm):List UInt8:=joinL 32 (frameW f)
def frameT(f:Frm):List UInt8:=frameBody f++32::Lib.itoa (sumF (frameBody f))
def makeF(f:Frm):List UInt8:=if frameE f=0 then frameT f else[]
theorem textF_len(c:Int):(textF c).length≤352:=by
 unfold textF
 split
 ·split
  ·decide
  ·refine Nat.le_trans (join_short ((listTo c 16).map Lib.itoa) (fun x hx=>?_)) (by have:=listTo_length c 16;simp;omega)
   obtain⟨y,hy,rfl⟩:=List.mem_map.1 hx;have:=listTo_mem c 16 (Nat.le_refl _) y hy;exact Lib.itoa_length_le y (by omega) (by omega)
 ·decide
theorem frameBody_len{f:Frm}(h:frameE f=0):(frameBody f).length≤1000:=by
 obtain⟨h1,h2,h3,h4,h5⟩:=frameE_zero h;simp only[nodeB,viewB,numB,decide_eq_true_eq] at h1 h4 h5;have l1:=Lib.itoa_length_le f.frm (by omega) (by omega);have l2:=textF_len f.mem;have l3:=Lib.itoa_length_le f.mode (by omega) (by omega);have l4:=Lib.itoa_length_le f.slot (by omega) (by omega);have l5:=Lib.itoa_length_le f.value (by omega) (by omega);simp only[frameBody,frameW,joinL,List.length_append,List.length_cons,List.length_nil];omega
set_option maxRecDepth 400000 in
set_option maxHeartbeats 3200000 in
theorem make_ok(ea:Nat→Addr)(f1 f2 f3 f4 f5:Int)(w:World)(hg:Glob w ea [2,3,4])(hT:TxtEnv w)(h:frameE ⟨f1,f2,f3,f4,f5⟩=0) :
 Calls Tryz.prog 219 #[.agg #[.int .i64 f1,.int .i64 f2,.int .i64 f3,.int .i64 f4,.int .i64 f5]] w fun e w'=>e=.returned (.tuple #[.string ⟨(frameT ⟨f1,f2,f3,f4,f5⟩).toArray⟩,.nilIface])∧Below w.heap.size w w':=by
 have hb0:Below w.heap.size w (w.alloc (.cells #[.int .i64 f1,.int .i64 f2,.int .i64 f3,.int .i64 f4,.int .i64 f5] 256)):=(Below.refl _ _).alloc (Nat.le_refl _) _;have KC:=Lib.hid (frameCheck_any ea f1 f2 f3 f4 f5 _ (hg.below hb0));have HG:=Lib.hid (fun(W:World) (h:Below w.heap.size w W)=>show Glob W ea [2] from(hg.below h).sub (by simp));have HT:=Lib.hid (fun(W:World) (h:Below w.heap.size w W)=>hT.below h);have hlen:=frameBody_len h;have hsm:=sumF_lt (frameBody ⟨f1,f2,f3,f4,f5⟩);obtain⟨h1,h2,h3,h4,h5⟩:=frameE_zero h;simp only[nodeB,viewB,numB,decide_eq_true_eq] at h1 h4 h5;rw[h,errV_zero] at KC;have HFT:Hid (frameT ⟨f1,f2,f3,f4,f5⟩=frameBody ⟨f1,f2,f3,f4,f5⟩++32::Lib.itoa (sumF (frameBody ⟨f1,f2,f3,f4,f5⟩))):=rfl;have hj:Lib.join (frameW ⟨f1,f2,f3,f4,f5⟩) [32]=frameBody ⟨f1,f2,f3,f4,f5⟩:=join_joinL 32 _;have KJ:=Lib.hid (fun(W:World)=>join_any (some ⟨W.heap.size,0,none⟩) 6 6 (frameW ⟨f1,f2,f3,f4,f5⟩) [32] (W.alloc (.cells (encTexts (frameW ⟨f1,f2,f3,f4,f5⟩)).toArray 9)) rfl (RowAt.new_at W _ _ _ rfl) (Nat.le_refl _) (by rw[hj];omega) (by omega));rw[hj] at KJ;have KI:=Lib.hid (fun(n:Int) (W:World) (hb:Below w.heap.size w W) (hn : -9223372036854775808≤n∧n≤9223372036854775807)=>itoa_any n W (HT.out W hb) hn);have KT:=Lib.hid (fun(W:World) (hb:Below w.heap.size w W)=>text_any ea f2 W (HG.out W hb));have KS:=Lib.hid (fun(W:World)=>sum_any (frameBody ⟨f1,f2,f3,f4,f5⟩) W (by omega));generalize frameBody ⟨f1,f2,f3,f4,f5⟩=body at *;generalize sumF body=sm at *;have n1 : -9223372036854775808≤f1∧f1≤9223372036854775807:=by omega
 have n3 : -9223372036854775808≤f3∧f3≤9223372036854775807:=by omega
 have n4 : -9223372036854775808≤f4∧f4≤9223372036854775807:=by omega
 have n5 : -9223372036854775808≤f5∧f5≤9223372036854775807:=by omega
 have N1:=Lib.hid n1;have N3:=Lib.hid n3;have N4:=Lib.hid n4;have N5:=Lib.hid n5;clear hg hT h hj h1 h2 h3 h4 h5 n1 n3 n4 n5;go_enter Tryz.func219,Tryz.ntmps219;go_wp2_with fail;refine KC.out.mono ?_;rintro e w1⟨rfl,hb1⟩;have k0:w1.drew.cell? ⟨w.heap.size,0,none⟩=some (.int .i64 f1):=(hb1.cell (p:=⟨w.heap.size,0,none⟩) (by simp)).trans (by simp);have k1:w1.drew.cell? ⟨w.heap.size,1,none⟩=some (.int .i64 f2):=(hb1.cell (p:=⟨w.heap.size,1,none⟩) (by simp)).trans (by simp);have k2:w1.drew.cell? ⟨w.heap.size,2,none⟩=some (.int .i64 f3):=(hb1.cell (p:=⟨w.heap.size,2,none⟩) (by simp)).trans (by simp);have k3:w1.drew.cell? ⟨w.heap.size,3,none⟩=some (.int .i64 f4):=(hb1.cell (p:=⟨w.heap.size,3,none⟩) (by simp)).trans (by simp);have k4:w1.drew.cell? ⟨w.heap.size,4,none⟩=some (.int .i64 f5):=(hb1.cell (p:=⟨w.heap.size,4,none⟩) (by simp)).trans (by simp);have hz1:w.heap.size<w1.drew.heap.size:=by have:=hb1.size;simp at this;exact this
 have hv1:Below w.heap.size w w1.drew:=(hb0.trans (hb1.mono (by simp))).drew;have A1:=Lib.hid (KI.out f1 w1.drew hv1 N1.out);clear hb1 hb0;go_wp2
 go_region_held3 (fun w'=>w'.cell? ⟨w.heap.size,0,none⟩=some (.int .i64 f1)∧w'.cell? ⟨w.heap.size,1,none⟩=some (.int .i64 f2)∧w'.cell? ⟨w.heap.size,2,none⟩=some (.int .i64 f3)∧w'.cell? ⟨w.heap.size,3,none⟩=some (.int .i64 f4)∧w'.cell? ⟨w.heap.size,4,none⟩=some (.int .i64 f5)) (go_keep)
  (first
   | (go_at_call 46;(with_reducible refine A1.out.mono ?_);rintro e w2⟨rfl,hb2⟩;have hv2:=hv1.trans (hb2.mono hv1.size);have k0:=(hb2.cell (p:=⟨w.heap.size,0,none⟩) hz1).trans k0;have k1:=(hb2.cell (p:=⟨w.heap.size,1,none⟩) hz1).trans k1;have k2:=(hb2.cell (p:=⟨w.heap.size,2,none⟩) hz1).trans k2;have k3:=(hb2.cell (p:=⟨w.heap.size,3,none⟩) hz1).trans k3;have k4:=(hb2.cell (p:=⟨w.heap.size,4,none⟩) hz1).trans k4;have hz2:=Nat.lt_of_lt_of_le hz1 hb2.size;have A2:=Lib.hid (KT.out w2 hv2);clear hb2)
   | (go_at_call 74;(with_reducible refine A2.out.mono ?_);rintro e w3⟨rfl,hb2⟩;have hv3:=hv2.trans (hb2.mono hv2.size);have k0:=(hb2.cell (p:=⟨w.heap.size,0,none⟩) hz2).trans k0;have k1:=(hb2.cell (p:=⟨w.heap.size,1,none⟩) hz2).trans k1;have k2:=(hb2.cell (p:=⟨w.heap.size,2,none⟩) hz2).trans k2;have k3:=(hb2.cell (p:=⟨w.heap.size,3,none⟩) hz2).trans k3;have k4:=(hb2.cell (p:=⟨w.heap.size,4,none⟩) hz2).trans k4;have hz3:=Nat.lt_of_lt_of_le hz2 hb2.size;have A3:=Lib.hid (KI.out f3 w3 hv3 N3.out);clear hb2)
   | (go_at_call 46;(with_reducible refine A3.out.mono ?_);rintro e w4⟨rfl,hb2⟩;have hv4:=hv3.trans (hb2.mono hv3.size);have k0:=(hb2.cell (p:=⟨w.heap.size,0,none⟩) hz3).trans k0;have k1:=(hb2.cell (p:=⟨w.heap.size,1,none⟩) hz3).trans k1;have k2:=(hb2.cell (p:=⟨w.heap.size,2,none⟩) hz3).trans k2;have k3:=(hb2.cell (p:=⟨w.heap.size,3,none⟩) hz3).trans k3;have k4:=(hb2.cell (p:=⟨w.heap.size,4,none⟩) hz3).trans k4;have hz4:=Nat.lt_of_lt_of_le hz3 hb2.size;have A4:=Lib.hid (KI.out f4 w4 hv4 N4.out);clear hb2)
   | (go_at_call 46;(with_reducible refine A4.out.mono ?_);rintro e w5⟨rfl,hb2⟩;have hv5:=hv4.trans (hb2.mono hv4.size);have k0:=(hb2.cell (p:=⟨w.heap.size,0,none⟩) hz4).trans k0;have k1:=(hb2.cell (p:=⟨w.heap.size,1,none⟩) hz4).trans k1;have k2:=(hb2.cell (p:=⟨w.heap.size,2,none⟩) hz4).trans k2;have k3:=(hb2.cell (p:=⟨w.heap.size,3,none⟩) hz4).trans k3;have k4:=(hb2.cell (p:=⟨w.heap.size,4,none⟩) hz4).trans k4;have hz5:=Nat.lt_of_lt_of_le hz4 hb2.size;have A5:=Lib.hid (KI.out f5 w5 hv5 N5.out);clear hb2)
   | (go_at_call 46;(with_reducible refine A5.out.mono ?_);rintro e w6⟨rfl,hb2⟩;have hv6:=hv5.trans (hb2.mono hv5.size);have k0:=(hb2.cell (p:=⟨w.heap.size,0,none⟩) hz5).trans k0;have k1:=(hb2.cell (p:=⟨w.heap.size,1,none⟩) hz5).trans k1;have k2:=(hb2.cell (p:=⟨w.heap.size,2,none⟩) hz5).trans k2;have k3:=(hb2.cell (p:=⟨w.heap.size,3,none⟩) hz5).trans k3;have k4:=(hb2.cell (p:=⟨w.heap.size,4,none⟩) hz5).trans k4;clear hb2))
 clear k0 k1 k2 k3 k4 A1 A2 A3 A4 A5;go_wp2_with fail;refine(KJ.out w6).mono ?_;rintro e w7⟨rfl,hb7⟩;have hv7:Below w.heap.size w w7:=(hv6.alloc hv6.size _).trans (hb7.mono (by have:=hv6.size;simp;omega));go_wp2_with fail;refine(KS.out _).mono ?_;rintro e w8⟨rfl,rfl⟩;go_wp2_with fail;refine(KI.out _ _ hv7 (by omega)).mono ?_;rintro e w9⟨rfl,hb9⟩;have hsl:=Lib.itoa_length_le (sm:Int) (by omega) (by omega);generalize Lib.itoa (sm:Int)=si at *;have c1:=ba_append body [32];have c2:=ba_append (body++[32]) si;go_wp2;go_ret2;exact⟨by rw[HFT.out];simp,hv7.trans (hb9.mono hv7.size)⟩
theorem make_any(ea:Nat→Addr)(f1 f2 f3 f4 f5:Int)(w:World)(hg:Glob w ea [2,3,4])(hT:TxtEnv w) :
 Calls Tryz.prog 219 #[.agg #[.int .i64 f1,.int .i64 f2,.int .i64 f3,.int .i64 f4,.int .i64 f5]] w fun e w'=>e=.returned (.tuple #[.string ⟨(makeF ⟨f1,f2,f3,f4,f5⟩).toArray⟩,errV ea (frameE ⟨f1,f2,f3,f4,f5⟩)])∧Below w.heap.size w w':=by
 by_cases h:frameE ⟨f1,f2,f3,f4,f5⟩=0
 ·rw[makeF,if_pos h,h,errV_zero]
  exact make_ok ea f1 f2 f3 f4 f5 w hg hT h
 ·have hb0:Below w.heap.size w (w.alloc (.cells #[.int .i64 f1,.int .i64 f2,.int .i64 f3,.int .i64 f4,.int .i64 f5] 256)):=(Below.refl _ _).alloc (Nat.le_refl _) _
  have KC:=Lib.hid (frameCheck_any ea f1 f2 f3 f4 f5 _ (hg.below hb0));have HE:=Lib.hid (errV_pos ea h);rw[HE.out] at KC;rw[makeF,if_neg h,HE.out];clear hg hT h;go_enter Tryz.func219,Tryz.ntmps219;go_wp2_with fail;refine KC.out.mono ?_;rintro e w1⟨rfl,hb1⟩;go_wp2;go_ret2;exact⟨rfl,hb0.trans (hb1.mono (by simp))⟩
end Go.Proofs.YtppfkokfnoeopaaGreatDoor
