/- A part of a proof. -/
import Derived.Lib.Split
import Derived.Lib.SplitLaws
import Derived.Lib.LastIndexByte
import Derived.Test.YtppfkokfnoeopaaGreatDoorDFrameMake
namespace Go.Proofs.YtppfkokfnoeopaaGreatDoor
open Go.RowKit
theorem index_one(c:UInt8):∀l:List UInt8,Lib.index l [c]=Lib.indexByte l c
 | []=>rfl
 | b::l=>by
  rw[Lib.index,Lib.indexByte,index_one c l];have:([c]:List UInt8).isPrefixOf (b::l)=(b==c):=by simp[List.isPrefixOf,Bool.beq_comm]
  rw[this]
theorem splitK_cut(c:UInt8):∀(k:Nat) (l:List UInt8),(cutL c l).length≤k+1→Lib.splitK [c] 0 k l=cutL c l
 | 0,l,h=>by
  have hge:=Lib.indexByte_ge l c
  by_cases hi:Lib.indexByte l c=-1
  ·rw[cutL_miss c l hi];rfl
  ·exfalso
   obtain⟨_,h2⟩:=cutL_hit c l (Lib.indexByte l c).toNat (by omega);have:=List.length_pos_iff.2 (cutL_ne c (l.drop ((Lib.indexByte l c).toNat+1)));rw[h2,List.length_cons] at h;omega
 | k+1,l,h=>by
  have hge:=Lib.indexByte_ge l c;rw[Lib.splitK,index_one]
  by_cases hi:Lib.indexByte l c=-1
  ·rw[if_pos (by simp[hi]),cutL_miss c l hi]
  ·obtain⟨_,h2⟩:=cutL_hit c l (Lib.indexByte l c).toNat (by omega)
   rw[if_neg (by simp[hi]),h2,Nat.add_zero,List.length_singleton,splitK_cut c k _ (by rw[h2,List.length_cons] at h;omega)]
theorem count_cut(c:UInt8):∀l:List UInt8,Lib.count l [c]+1=(cutL c l).length
 | []=>rfl
 | b::l=>by
  have ih:=count_cut c l;rw[cutL]
  by_cases hb:b=c
  ·subst hb
   rw[Lib.count_cons_eq,if_pos (by simp),List.length_cons];omega
  ·rw[Lib.count_cons_ne b c l hb,if_neg (by simpa using hb),ih]
   split
   ·rename_i h;exact absurd h (cutL_ne c l)
   ·rename_i h;rw[h];rfl
theorem splitB_cut(c:UInt8)(l:List UInt8):(Lib.splitB ⟨#[c]⟩ 0 (Lib.countB ⟨l.toArray⟩ ⟨#[c]⟩) ⟨l.toArray⟩).map Value.string=encTexts (cutL c l):=by
 have h1:=Lib.splitB_data ⟨#[c]⟩ 0 (Lib.countB ⟨l.toArray⟩ ⟨#[c]⟩) ⟨l.toArray⟩;have h2:Lib.splitK [c] 0 (Lib.countB ⟨l.toArray⟩ ⟨#[c]⟩) l=cutL c l:=splitK_cut c _ l (by rw[←count_cut c l];exact Nat.le_refl _);have h3:(Lib.splitB ⟨#[c]⟩ 0 (Lib.countB ⟨l.toArray⟩ ⟨#[c]⟩) ⟨l.toArray⟩).map (·.data.toList)=cutL c l:=h1.trans h2;rw[←h3,encTexts,List.map_map];exact List.map_congr_left fun x _=>by simp
theorem split_any(c:UInt8)(l:List UInt8)(w:World)(hT:TxtEnv w)(hl:l.length≤4294967280) :
 Calls Tryz.prog 32 #[.string ⟨l.toArray⟩,.string ⟨#[c]⟩] w fun e w'=>e=.returned (.slice (some ⟨w.heap.size,0,none⟩) (cutL c l).length (cutL c l).length)∧w'=w.alloc (.cells (encTexts (cutL c l)).toArray 9):=by
 obtain⟨m,_,hm⟩:=hT.mx;have h:=Tryz.strings_Split ⟨l.toArray⟩ ⟨#[c]⟩ m w (by simp[ByteArray.size];omega) hm (by simp[ByteArray.size]);rw[splitB_cut,show Lib.countB ⟨l.toArray⟩ ⟨#[c]⟩+1=(cutL c l).length from count_cut c l] at h;exact h
theorem lastIndex_tail(c:UInt8)(a b:List UInt8)(hb:c∉b):Lib.lastIndexByte ⟨(a++c::b).toArray⟩ (c.toNat:Int)=a.length:=by
 have hat:∀j,j<(a++c::b).length→((⟨(a++c::b).toArray⟩:ByteArray).data[j]!)=(a++c::b).getD j 0:=fun j hj=>by
  show(a++c::b).toArray[j]! = _
  rw[getElem!_pos _ j (by simpa using hj),List.getD_eq_getElem?_getD,List.getElem?_eq_getElem hj];simp
 have hsz:(⟨(a++c::b).toArray⟩:ByteArray).size=(a++c::b).length:=by simp[ByteArray.size]
 have hl:(a++c::b).length=a.length+1+b.length:=by simp;omega
 have hmid:(a++c::b).getD a.length 0=c:=by simp[List.getD_eq_getElem?_getD]
 rcases Lib.lastIndexByte_spec ⟨(a++c::b).toArray⟩ (c.toNat:Int) with⟨_,h⟩|⟨i,hi,e,h1,h2⟩
 ·exact absurd (by rw[hat _ (by omega),hmid]) (h a.length (by rw[hsz];omega))
 ·rw[hsz] at hi h2
  rw[e]
  by_cases hlt:i<a.length
  ·exact absurd (by rw[hat _ (by omega),hmid]) (h2 a.length hlt (by omega))
  ·by_cases hgt:a.length<i
   ·exfalso
    rw[hat i hi] at h1
    have:(a++c::b).getD i 0=b.getD (i-a.length-1) 0:=by
     rw[List.getD_eq_getElem?_getD,List.getElem?_append_right (by omega),List.getElem?_cons,if_neg (by omega),List.getD_eq_getElem?_getD]
    rw[this] at h1;have hc:b.getD (i-a.length-1) 0=c:=UInt8.toNat_inj.1 (by omega);rw[List.getD_eq_getElem?_getD,List.getElem?_eq_getElem (by omega),Option.getD_some] at hc;exact hb (hc▸List.getElem_mem _)
   ·omega
theorem lastIndexByte_any(c:Int)(l:List UInt8)(w:World)(hl:l.length≤4294967280) :
 Calls Tryz.prog 224 #[.string ⟨l.toArray⟩,.int .u8 c] w fun e w'=>e=.returned (.int .i64 (Lib.lastIndexByte ⟨l.toArray⟩ c))∧w=w':=
 (Tryz.strings_LastIndexByte ⟨l.toArray⟩ c (by simp[ByteArray.size];omega) w).mono fun _ _ h=>⟨h.1,h.2.symm⟩
def Frm0:Frm:=⟨0,0,0,0,0⟩
def natB(l:List UInt8):Bool:=numIs l&&decide (0≤numN l)
def wordsB(w1 w2 w3 w4 w5 w6:List UInt8):Bool:=natB w1&&(readF w2).isSome&&natB w3&&natB w4&&numIs w5&&natB w6
def frmOf(w1 w2 w3 w4 w5:List UInt8):Frm:=⟨numN w1,(((readF w2).getD 0:Nat):Int),numN w3,numN w4,numN w5⟩
def readW(w0 w1 w2 w3 w4 w5 w6:List UInt8):Nat×Frm:=
 if w0=[102,114,97,109,101] then(if wordsB w1 w2 w3 w4 w5 w6 then(if ((sumF (joinL 32 [w0,w1,w2,w3,w4,w5]):Nat):Int)=numN w6 then
  (if frameE (frmOf w1 w2 w3 w4 w5)=0 then(0,frmOf w1 w2 w3 w4 w5) else(frameE (frmOf w1 w2 w3 w4 w5),Frm0)) else(8,Frm0)) else(1,Frm0)) else(1,Frm0)
def readL:List (List UInt8)→Nat×Frm
 | [w0,w1,w2,w3,w4,w5,w6]=>readW w0 w1 w2 w3 w4 w5 w6
 | _=>(1,Frm0)
def frameF(s:List UInt8):Nat×Frm:=if 100<s.length then(2,Frm0) else readL (cutL 32 s)
theorem readL_seven{l:List (List UInt8)}(h:l.length=7):∃w0 w1 w2 w3 w4 w5 w6,l=[w0,w1,w2,w3,w4,w5,w6]:=by
 match l,h with
 | [w0,w1,w2,w3,w4,w5,w6],_=>exact⟨w0,w1,w2,w3,w4,w5,w6,rfl⟩
theorem readL_other{l:List (List UInt8)}(h:l.length≠7):readL l=(1,Frm0):=by
 unfold readL
 split
 ·exact absurd rfl h
 ·rfl
def Five(W:World)(b:Nat)(x0 x1 x2 x3 x4:Int):Prop:=W.heap[b]?=some (.cells #[.int .i64 x0,.int .i64 x1,.int .i64 x2,.int .i64 x3,.int .i64 x4] 256)
theorem Five.kept{W W':World}{b:Nat}{x0 x1 x2 x3 x4:Int}(h:Five W b x0 x1 x2 x3 x4)(hb:Below W.heap.size W W'):Five W' b x0 x1 x2 x3 x4:=(hb.block b (Array.getElem?_eq_some_iff.1 h).1).trans h
theorem Five.lt{W:World}{b:Nat}{x0 x1 x2 x3 x4:Int}(h:Five W b x0 x1 x2 x3 x4):b<W.heap.size:=(Array.getElem?_eq_some_iff.1 h).1
theorem Five.cells{W:World}{b:Nat}{x0 x1 x2 x3 x4:Int}(h:Five W b x0 x1 x2 x3 x4) :
 W.cell? ⟨b,0,none⟩=some (.int .i64 x0)∧W.cell? ⟨b,1,none⟩=some (.int .i64 x1)∧W.cell? ⟨b,2,none⟩=some (.int .i64 x2)∧W.cell? ⟨b,3,none⟩=some (.int .i64 x3)∧W.cell? ⟨b,4,none⟩=some (.int .i64 x4)
 ∧W.frozen? ⟨b,0,none⟩=false∧W.frozen? ⟨b,1,none⟩=false∧W.frozen? ⟨b,2,none⟩=false∧W.frozen? ⟨b,3,none⟩=false∧W.frozen? ⟨b,4,none⟩=false:=by
 have h':W.heap[b]?=some (.cells #[.int .i64 x0,.int .i64 x1,.int .i64 x2,.int .i64 x3,.int .i64 x4] 256):=h;refine⟨?_,?_,?_,?_,?_,?_,?_,?_,?_,?_⟩<;>simp[World.cell?,World.frozen?,h']
theorem five_new(w:World)(x0 x1 x2 x3 x4:Int):Five (w.alloc (.cells #[.int .i64 x0,.int .i64 x1,.int .i64 x2,.int .i64 x3,.int .i64 x4] 256)) w.heap.size x0 x1 x2 x3 x4:=World.alloc_heap_new w _
set_option maxRecDepth 400000 in
set_option maxHeartbeats 1600000 in
theorem fread_long(ea:Nat→Addr)(s:List UInt8)(w:World)(hg:Glob w ea [2])(hs:100<s.length)(hs2:s.length≤4294967280) :
 Calls Tryz.prog 185 #[.string ⟨s.toArray⟩] w fun e w'=>e=.returned (.tuple #[.agg #[.int .i64 0,.int .i64 0,.int .i64 0,.int .i64 0,.int .i64 0],errV ea 2])∧Below w.heap.size w w':=by
 have g2:=hg.cell 2 (by simp);have z2:=hg.lt 2 (by simp);simp only[gOf] at g2 z2;have hn1:¬(0=w.heap.size):=by omega
 have hn2:¬(w.heap.size=0):=by omega
 clear hg;go_enter Tryz.func185,Tryz.ntmps185;go_wp2;go_region
 all_goals
  go_wp2;refine bodyPost_ret (v:=.tuple #[.agg #[.int .i64 0,.int .i64 0,.int .i64 0,.int .i64 0,.int .i64 0],errV ea 2]) (by simp[results,Tryz.results185,go_sem]) rfl ?_;exact⟨rfl,((Below.refl _ _).alloc (Nat.le_refl _) _).drew⟩
theorem zero_below{B:Nat}{w W:World}(h:Below B w W):Below B w (((((W.setCell ⟨B,0,none⟩ (.int .i64 0)).setCell ⟨B,1,none⟩ (.int .i64 0)).setCell ⟨B,2,none⟩ (.int .i64 0)).setCell ⟨B,3,none⟩ (.int .i64 0)).setCell ⟨B,4,none⟩ (.int .i64 0)):=
 ((((h.setCell (p:=⟨B,0,none⟩) (Nat.le_refl _) _).setCell (p:=⟨B,1,none⟩) (Nat.le_refl _) _).setCell (p:=⟨B,2,none⟩) (Nat.le_refl _) _).setCell (p:=⟨B,3,none⟩) (Nat.le_refl _) _).setCell (p:=⟨B,4,none⟩) (Nat.le_refl _) _
set_option maxRecDepth 400000 in
set_option maxHeartbeats 3200000 in
theorem fread_split(ea:Nat→Addr)(s:List UInt8)(w:World)(hg:Glob w ea [1])(hT:TxtEnv w)(hs:s.length≤100)(h:(cutL 32 s).length≠7∨(cutL 32 s).getD 0 []≠[102,114,97,109,101]) :
 Calls Tryz.prog 185 #[.string ⟨s.toArray⟩] w fun e w'=>e=.returned (.tuple #[.agg #[.int .i64 0,.int .i64 0,.int .i64 0,.int .i64 0,.int .i64 0],errV ea 1])∧Below w.heap.size w w':=by
 have hb0:Below w.heap.size w (w.alloc (.cells #[.int .i64 0,.int .i64 0,.int .i64 0,.int .i64 0,.int .i64 0] 256)):=(Below.refl _ _).alloc (Nat.le_refl _) _;have KS:=Lib.hid (split_any 32 s _ (hT.below hb0) (by omega));have g1:=hg.cell 1 (by simp);have z1:=hg.lt 1 (by simp);simp only[gOf] at g1 z1;have hn1:¬(1=w.heap.size):=by omega
 have hn2:¬(w.heap.size=1):=by omega
 have hrow:=RowAt.new_at (w.alloc (.cells #[.int .i64 0,.int .i64 0,.int .i64 0,.int .i64 0,.int .i64 0] 256)) (encTexts (cutL 32 s)) 9 _ rfl;rw[World.size_alloc] at hrow;clear hg hT hb0
 by_cases h7:(cutL 32 s).length=7
 ·have hw0:=h.resolve_left (by simpa using h7)
  have d0:=hrow.cell (i:=0) (v:=.string ⟨((cutL 32 s).getD 0 []).toArray⟩) (by rw[encTexts,List.getElem?_map,List.getD_eq_getElem?_getD,List.getElem?_eq_getElem (by omega)];rfl);generalize (cutL 32 s).getD 0 []=x at *;rw[h7] at KS;have hx:(x==[102,114,97,109,101])=false:=by simpa using hw0
  simp only[Nat.add_zero] at d0;clear hrow h h7 hw0;go_enter Tryz.func185,Tryz.ntmps185;go_wp2_with fail;refine KS.out.mono ?_;rintro e w1⟨rfl,hw1⟩;rw[World.size_alloc];rw[←hw1] at d0;have hbl:Below w.heap.size w w1:=by rw[hw1];exact((Below.refl _ _).alloc (Nat.le_refl _) _).alloc (by simp) _
  have hF:Five w1 w.heap.size 0 0 0 0 0:=by rw[hw1];exact(five_new w 0 0 0 0 0).kept ((Below.refl _ _).alloc (Nat.le_refl _) _)
  have g1:=(hbl.cell (p:=⟨1,0,none⟩) z1).trans g1;obtain⟨k0,k1,k2,k3,k4,f0,f1,f2,f3,f4⟩:=hF.cells;clear hF hw1;go_wp2;go_region
  all_goals
   go_wp2;refine bodyPost_ret (v:=.tuple #[.agg #[.int .i64 0,.int .i64 0,.int .i64 0,.int .i64 0,.int .i64 0],errV ea 1]) (by simp[results,Tryz.results185,go_sem,k0,k1,k2,k3,k4]) rfl ?_;exact⟨rfl,by first|exact(zero_below hbl).drew|exact zero_below hbl.drew|exact hbl.drew⟩
 ·have h7':((((cutL 32 s).length:Nat):Int) != 7)=true:=by simp;omega
  generalize (cutL 32 s).length=n at *;clear hrow h;go_enter Tryz.func185,Tryz.ntmps185;go_wp2_with fail;refine KS.out.mono ?_;rintro e w1⟨rfl,hw1⟩;rw[World.size_alloc];have hbl:Below w.heap.size w w1:=by rw[hw1];exact((Below.refl _ _).alloc (Nat.le_refl _) _).alloc (by simp) _
  have hF:Five w1 w.heap.size 0 0 0 0 0:=by rw[hw1];exact(five_new w 0 0 0 0 0).kept ((Below.refl _ _).alloc (Nat.le_refl _) _)
  have g1:=(hbl.cell (p:=⟨1,0,none⟩) z1).trans g1;obtain⟨k0,k1,k2,k3,k4,f0,f1,f2,f3,f4⟩:=hF.cells;clear hF hw1;go_wp2;go_region
  all_goals
   go_wp2;refine bodyPost_ret (v:=.tuple #[.agg #[.int .i64 0,.int .i64 0,.int .i64 0,.int .i64 0,.int .i64 0],errV ea 1]) (by simp[results,Tryz.results185,go_sem,k0,k1,k2,k3,k4]) rfl ?_;exact⟨rfl,by first|exact(zero_below hbl).drew|exact zero_below hbl.drew|exact hbl.drew⟩
set_option maxRecDepth 400000 in
set_option maxHeartbeats 6400000 in
theorem fread_bad(ea:Nat→Addr)(s:List UInt8)(w0 w1 w2 w3 w4 w5 w6:List UInt8)(w:World)(hg:Glob w ea [1,2,3,4,8])(hT:TxtEnv w)(hs:s.length≤100)(hc:cutL 32 s=[w0,w1,w2,w3,w4,w5,w6])(hw0:w0=[102,114,97,109,101])
 (hb:(natB w1=false∧readF w2=none)∨(natB w1=false∧∃c,readF w2=some c)∨(natB w1=true∧readF w2=none)∨(natB w1=true∧(∃c,readF w2=some c)∧(natB w3=false∨natB w3=true∧(natB w4=false∨natB w4=true∧(numIs w5=false∨numIs w5=true∧natB w6=false))))) :
 Calls Tryz.prog 185 #[.string ⟨s.toArray⟩] w fun e w'=>e=.returned (.tuple #[.agg #[.int .i64 0,.int .i64 0,.int .i64 0,.int .i64 0,.int .i64 0],errV ea 1])∧Below w.heap.size w w':=by
 have hb0:Below w.heap.size w (w.alloc (.cells #[.int .i64 0,.int .i64 0,.int .i64 0,.int .i64 0,.int .i64 0] 256)):=(Below.refl _ _).alloc (Nat.le_refl _) _;have KS:=Lib.hid (split_any 32 s _ (hT.below hb0) (by omega));rw[hc] at KS;have HG:=Lib.hid (fun(W:World) (h:Below w.heap.size w W)=>hg.below h);have HT:=Lib.hid (fun(W:World) (h:Below w.heap.size w W)=>hT.below h);have z1:=hg.lt 1 (by simp);have z8:=hg.lt 8 (by simp);simp only[gOf] at z1 z8;have hn1:¬(1=w.heap.size):=by omega
 have hn2:¬(w.heap.size=1):=by omega
 have hn3:¬(7=w.heap.size):=by omega
 have hn4:¬(w.heap.size=7):=by omega
 clear z1 z8;have hwl:∀x∈[w0,w1,w2,w3,w4,w5,w6],x.length≤4294967280:=fun x hx=>by have:=cutL_piece 32 s x (by rw[hc];exact hx);omega
 have K1:=Lib.hid (fun(W:World) (h:Below w.heap.size w W)=>natural_any w1 W (HT.out W h) (hwl w1 (by simp)));have K2:=Lib.hid (fun(W:World) (h:Below w.heap.size w W)=>read_any ea w2 W (hwl w2 (by simp)) ((HG.out W h).sub (by simp)) (HT.out W h));have K3:=Lib.hid (fun(W:World) (h:Below w.heap.size w W)=>natural_any w3 W (HT.out W h) (hwl w3 (by simp)));have K4:=Lib.hid (fun(W:World) (h:Below w.heap.size w W)=>natural_any w4 W (HT.out W h) (hwl w4 (by simp)));have K5:=Lib.hid (fun(W:World) (h:Below w.heap.size w W)=>number_any w5 W (HT.out W h) (hwl w5 (by simp)));have K6:=Lib.hid (fun(W:World) (h:Below w.heap.size w W)=>natural_any w6 W (HT.out W h) (hwl w6 (by simp)));have hrow:=RowAt.new_at (w.alloc (.cells #[.int .i64 0,.int .i64 0,.int .i64 0,.int .i64 0,.int .i64 0] 256)) (encTexts [w0,w1,w2,w3,w4,w5,w6]) 9 _ rfl;rw[World.size_alloc] at hrow
 change Hid (∀(W:World),Below w.heap.size w W→Calls Tryz.prog _ _ W fun e w'=>e=.returned (.tuple #[.int .i64 (numN w1),.bool (natB w1)])∧Below W.heap.size W w') at K1
 change Hid (∀(W:World),Below w.heap.size w W→Calls Tryz.prog _ _ W fun e w'=>e=.returned (.tuple #[.int .i64 (numN w3),.bool (natB w3)])∧Below W.heap.size W w') at K3
 change Hid (∀(W:World),Below w.heap.size w W→Calls Tryz.prog _ _ W fun e w'=>e=.returned (.tuple #[.int .i64 (numN w4),.bool (natB w4)])∧Below W.heap.size W w') at K4
 change Hid (∀(W:World),Below w.heap.size w W→Calls Tryz.prog _ _ W fun e w'=>e=.returned (.tuple #[.int .i64 (numN w6),.bool (natB w6)])∧Below W.heap.size W w') at K6
 generalize natB w1=b1 at *;generalize readF w2=o at *;generalize natB w3=b3 at *;generalize natB w4=b4 at *;generalize numIs w5=b5 at *;generalize natB w6=b6 at *;subst hw0;clear hg hT hwl;generalize numN w1=n1 at *;generalize numN w3=n3 at *;generalize numN w4=n4 at *;generalize numN w5=n5 at *;generalize numN w6=n6 at *
 rcases hb with⟨rfl,rfl⟩|⟨rfl,c,rfl⟩|⟨rfl,rfl⟩|⟨rfl,⟨c,rfl⟩,rfl|⟨rfl,rfl|⟨rfl,rfl|⟨rfl,rfl⟩⟩⟩⟩
 all_goals
  first|rw[readV,errV_pos ea (by decide)] at K2|rw[readV] at K2
  go_enter Tryz.func185,Tryz.ntmps185;go_wp2_with fail;refine KS.out.mono ?_;rintro e v1⟨rfl,hw1⟩;rw[World.size_alloc];rw[←hw1] at hrow;have hv1:Below w.heap.size w v1:=by rw[hw1];exact((Below.refl _ _).alloc (Nat.le_refl _) _).alloc (by simp) _
  have hF:Five v1 w.heap.size 0 0 0 0 0:=by rw[hw1];exact(five_new w 0 0 0 0 0).kept ((Below.refl _ _).alloc (Nat.le_refl _) _)
  have HF:=Lib.hid hF;clear hw1 hF hc;have d0:v1.cell? ⟨w.heap.size+1,0,none⟩=some (.string ⟨#[102,114,97,109,101]⟩):=hrow.cell (i:=0) rfl;have d1:v1.cell? ⟨w.heap.size+1,1,none⟩=some (.string ⟨w1.toArray⟩):=by have:=hrow.cell (i:=1) (v:=.string ⟨w1.toArray⟩) rfl;simpa using this
  have HR:=Lib.hid hrow;clear hrow;go_wp2_with fail;refine(K1.out _ hv1).mono ?_;rintro e v2⟨rfl,hb2⟩;have HR:=Lib.hid (HR.out.below hb2);have HF:=Lib.hid (HF.out.kept hb2);have hv2:=hv1.trans (hb2.mono hv1.size);clear hb2;have d2:v2.cell? ⟨w.heap.size+1,2,none⟩=some (.string ⟨w2.toArray⟩):=by have:=HR.out.cell (i:=2) (v:=.string ⟨w2.toArray⟩) rfl;simpa using this
  go_wp2_with fail;refine(K2.out _ hv2).mono ?_;rintro e v3⟨rfl,hb3⟩;have HR:=Lib.hid (HR.out.below hb3);have HF:=Lib.hid (HF.out.kept hb3);have hv3:=hv2.trans (hb3.mono hv2.size);clear hb3;have d3:v3.cell? ⟨w.heap.size+1,3,none⟩=some (.string ⟨w3.toArray⟩):=by have:=HR.out.cell (i:=3) (v:=.string ⟨w3.toArray⟩) rfl;simpa using this
  go_wp2_with fail;refine(K3.out _ hv3).mono ?_;rintro e v4⟨rfl,hb4⟩;have HR:=Lib.hid (HR.out.below hb4);have HF:=Lib.hid (HF.out.kept hb4);have hv4:=hv3.trans (hb4.mono hv3.size);clear hb4;have d4:v4.cell? ⟨w.heap.size+1,4,none⟩=some (.string ⟨w4.toArray⟩):=by have:=HR.out.cell (i:=4) (v:=.string ⟨w4.toArray⟩) rfl;simpa using this
  go_wp2_with fail;refine(K4.out _ hv4).mono ?_;rintro e v5⟨rfl,hb5⟩;have HR:=Lib.hid (HR.out.below hb5);have HF:=Lib.hid (HF.out.kept hb5);have hv5:=hv4.trans (hb5.mono hv4.size);clear hb5;have d5:v5.cell? ⟨w.heap.size+1,5,none⟩=some (.string ⟨w5.toArray⟩):=by have:=HR.out.cell (i:=5) (v:=.string ⟨w5.toArray⟩) rfl;simpa using this
  go_wp2_with fail;refine(K5.out _ hv5).mono ?_;rintro e v6⟨rfl,hb6⟩;have HR:=Lib.hid (HR.out.below hb6);have HF:=Lib.hid (HF.out.kept hb6);have hv6:=hv5.trans (hb6.mono hv5.size);clear hb6;have d6:v6.cell? ⟨w.heap.size+1,6,none⟩=some (.string ⟨w6.toArray⟩):=by have:=HR.out.cell (i:=6) (v:=.string ⟨w6.toArray⟩) rfl;simpa using this
  go_wp2_with fail;refine(K6.out _ hv6).mono ?_;rintro e v7⟨rfl,hb7⟩;have HR:=Lib.hid (HR.out.below hb7);have HF:=Lib.hid (HF.out.kept hb7);have hv7:=hv6.trans (hb7.mono hv6.size);clear hb7;clear HR K1 K2 K3 K4 K5 K6 KS d0 d1 d2 d3 d4 d5 d6 hv1 hv2 hv3 hv4 hv5 hv6;have g1:=(HG.out _ hv7).cell 1 (by simp);simp only[gOf] at g1;obtain⟨k0,k1,k2,k3,k4,f0,f1,f2,f3,f4⟩:=HF.out.cells;go_wp2;go_region
  all_goals
   go_wp2;refine bodyPost_ret (v:=.tuple #[.agg #[.int .i64 0,.int .i64 0,.int .i64 0,.int .i64 0,.int .i64 0],errV ea 1]) (by simp[results,Tryz.results185,go_sem,k0,k1,k2,k3,k4]) rfl ?_;exact⟨rfl,by first|exact(zero_below hv7).drew|exact zero_below hv7.drew|exact hv7.drew⟩
set_option maxRecDepth 400000 in
set_option maxHeartbeats 3200000 in
theorem fread_words(ea:Nat→Addr)(s:List UInt8)(w0 w1 w2 w3 w4 w5 w6:List UInt8)(w:World)(hg:Glob w ea [1,2,3,4,8])(hT:TxtEnv w)(hs:s.length≤100)(hc:cutL 32 s=[w0,w1,w2,w3,w4,w5,w6])(hw0:w0=[102,114,97,109,101])(h1:natB w1=true)(c:Nat)(h2:readF w2=some c)(h3:natB w3=true)(h4:natB w4=true)(h5:numIs w5=true)(h6:natB w6=true) :
 Calls Tryz.prog 185 #[.string ⟨s.toArray⟩] w fun e w'=>e=.returned (.tuple #[.agg (readW w0 w1 w2 w3 w4 w5 w6).2.arr,errV ea (readW w0 w1 w2 w3 w4 w5 w6).1])∧Below w.heap.size w w':=by
 have hb0:Below w.heap.size w (w.alloc (.cells #[.int .i64 0,.int .i64 0,.int .i64 0,.int .i64 0,.int .i64 0] 256)):=(Below.refl _ _).alloc (Nat.le_refl _) _;have KS:=Lib.hid (split_any 32 s _ (hT.below hb0) (by omega));rw[hc] at KS;have HG:=Lib.hid (fun(W:World) (h:Below w.heap.size w W)=>hg.below h);have HT:=Lib.hid (fun(W:World) (h:Below w.heap.size w W)=>hT.below h);have z1:=hg.lt 1 (by simp);have z8:=hg.lt 8 (by simp);simp only[gOf] at z1 z8;have hn1:¬(1=w.heap.size):=by omega
 have hn2:¬(w.heap.size=1):=by omega
 have hn3:¬(7=w.heap.size):=by omega
 have hn4:¬(w.heap.size=7):=by omega
 clear z1 z8;have hwl:∀x∈[w0,w1,w2,w3,w4,w5,w6],x.length≤4294967280:=fun x hx=>by have:=cutL_piece 32 s x (by rw[hc];exact hx);omega
 have K1:=Lib.hid (fun(W:World) (h:Below w.heap.size w W)=>natural_any w1 W (HT.out W h) (hwl w1 (by simp)));have K2:=Lib.hid (fun(W:World) (h:Below w.heap.size w W)=>read_any ea w2 W (hwl w2 (by simp)) ((HG.out W h).sub (by simp)) (HT.out W h));have K3:=Lib.hid (fun(W:World) (h:Below w.heap.size w W)=>natural_any w3 W (HT.out W h) (hwl w3 (by simp)));have K4:=Lib.hid (fun(W:World) (h:Below w.heap.size w W)=>natural_any w4 W (HT.out W h) (hwl w4 (by simp)));have K5:=Lib.hid (fun(W:World) (h:Below w.heap.size w W)=>number_any w5 W (HT.out W h) (hwl w5 (by simp)));have K6:=Lib.hid (fun(W:World) (h:Below w.heap.size w W)=>natural_any w6 W (HT.out W h) (hwl w6 (by simp)));have hrow:=RowAt.new_at (w.alloc (.cells #[.int .i64 0,.int .i64 0,.int .i64 0,.int .i64 0,.int .i64 0] 256)) (encTexts [w0,w1,w2,w3,w4,w5,w6]) 9 _ rfl;rw[World.size_alloc] at hrow
 change Hid (∀(W:World),Below w.heap.size w W→Calls Tryz.prog _ _ W fun e w'=>e=.returned (.tuple #[.int .i64 (numN w1),.bool (natB w1)])∧Below W.heap.size W w') at K1
 change Hid (∀(W:World),Below w.heap.size w W→Calls Tryz.prog _ _ W fun e w'=>e=.returned (.tuple #[.int .i64 (numN w3),.bool (natB w3)])∧Below W.heap.size W w') at K3
 change Hid (∀(W:World),Below w.heap.size w W→Calls Tryz.prog _ _ W fun e w'=>e=.returned (.tuple #[.int .i64 (numN w4),.bool (natB w4)])∧Below W.heap.size W w') at K4
 change Hid (∀(W:World),Below w.heap.size w W→Calls Tryz.prog _ _ W fun e w'=>e=.returned (.tuple #[.int .i64 (numN w6),.bool (natB w6)])∧Below W.heap.size W w') at K6
 rw[h1] at K1;rw[h2,readV] at K2;rw[h3] at K3;rw[h4] at K4;rw[h5] at K5;rw[h6] at K6
 have hjn:s=joinL 32 [w0,w1,w2,w3,w4,w5]++32::w6:=by
  have:=joinL_cutL 32 s;rw[hc] at this;rw[←this];simp[joinL]
 have hw6:(32:UInt8)∉w6:=cutL_free 32 s w6 (by rw[hc];simp);have hlast:=lastIndex_tail 32 (joinL 32 [w0,w1,w2,w3,w4,w5]) w6 hw6;rw[←hjn] at hlast;have hsl:s.length=(joinL 32 [w0,w1,w2,w3,w4,w5]).length+1+w6.length:=by rw[hjn];simp;omega
 have hext:=ba_take s (joinL 32 [w0,w1,w2,w3,w4,w5]).length;rw[show s.take (joinL 32 [w0,w1,w2,w3,w4,w5]).length=joinL 32 [w0,w1,w2,w3,w4,w5] by rw[hjn];exact List.take_left' rfl] at hext;have KL:=Lib.hid (fun(W:World)=>lastIndexByte_any 32 s W (by omega));rw[show Lib.lastIndexByte ⟨s.toArray⟩ 32=((joinL 32 [w0,w1,w2,w3,w4,w5]).length:Int) from hlast] at KL;have KM:=Lib.hid (fun(W:World)=>sum_any (joinL 32 [w0,w1,w2,w3,w4,w5]) W (by omega))
 have HV:Hid (readW w0 w1 w2 w3 w4 w5 w6=if ((sumF (joinL 32 [w0,w1,w2,w3,w4,w5]):Nat):Int)=numN w6 then(if frameE ⟨numN w1,c,numN w3,numN w4,numN w5⟩=0 then(0,⟨numN w1,c,numN w3,numN w4,numN w5⟩) else(frameE ⟨numN w1,c,numN w3,numN w4,numN w5⟩,Frm0)) else(8,Frm0)):=by
  unfold Hid;rw[readW,if_pos hw0,if_pos (by simp[wordsB,h1,h2,h3,h4,h5,h6]),frmOf,h2];rfl
 generalize readW w0 w1 w2 w3 w4 w5 w6=rv at *;have HX:=Lib.hid hext;generalize joinL 32 [w0,w1,w2,w3,w4,w5]=body at *;generalize sumF body=sm at *;clear hjn hw6 hlast hext h1 h2 h3 h4 h5 h6;subst hw0;clear hg hT hwl;generalize numN w1=n1 at *;generalize numN w3=n3 at *;generalize numN w4=n4 at *;generalize numN w5=n5 at *;generalize numN w6=n6 at *;go_enter Tryz.func185,Tryz.ntmps185;go_wp2_with fail;refine KS.out.mono ?_;rintro e v1⟨rfl,hw1⟩;rw[World.size_alloc];rw[←hw1] at hrow;have hv1:Below w.heap.size w v1:=by rw[hw1];exact((Below.refl _ _).alloc (Nat.le_refl _) _).alloc (by simp) _
 have hF:Five v1 w.heap.size 0 0 0 0 0:=by rw[hw1];exact(five_new w 0 0 0 0 0).kept ((Below.refl _ _).alloc (Nat.le_refl _) _)
 have HF:=Lib.hid hF;clear hw1 hF hc;have d0:v1.cell? ⟨w.heap.size+1,0,none⟩=some (.string ⟨#[102,114,97,109,101]⟩):=hrow.cell (i:=0) rfl;have d1:v1.cell? ⟨w.heap.size+1,1,none⟩=some (.string ⟨w1.toArray⟩):=by have:=hrow.cell (i:=1) (v:=.string ⟨w1.toArray⟩) rfl;simpa using this
 have HR:=Lib.hid hrow;clear hrow;go_wp2_with fail;refine(K1.out _ hv1).mono ?_;rintro e v2⟨rfl,hb2⟩;have HR:=Lib.hid (HR.out.below hb2);have HF:=Lib.hid (HF.out.kept hb2);have hv2:=hv1.trans (hb2.mono hv1.size);clear hb2;have d2:v2.cell? ⟨w.heap.size+1,2,none⟩=some (.string ⟨w2.toArray⟩):=by have:=HR.out.cell (i:=2) (v:=.string ⟨w2.toArray⟩) rfl;simpa using this
 go_wp2_with fail;refine(K2.out _ hv2).mono ?_;rintro e v3⟨rfl,hb3⟩;have HR:=Lib.hid (HR.out.below hb3);have HF:=Lib.hid (HF.out.kept hb3);have hv3:=hv2.trans (hb3.mono hv2.size);clear hb3;have d3:v3.cell? ⟨w.heap.size+1,3,none⟩=some (.string ⟨w3.toArray⟩):=by have:=HR.out.cell (i:=3) (v:=.string ⟨w3.toArray⟩) rfl;simpa using this
 go_wp2_with fail;refine(K3.out _ hv3).mono ?_;rintro e v4⟨rfl,hb4⟩;have HR:=Lib.hid (HR.out.below hb4);have HF:=Lib.hid (HF.out.kept hb4);have hv4:=hv3.trans (hb4.mono hv3.size);clear hb4;have d4:v4.cell? ⟨w.heap.size+1,4,none⟩=some (.string ⟨w4.toArray⟩):=by have:=HR.out.cell (i:=4) (v:=.string ⟨w4.toArray⟩) rfl;simpa using this
 go_wp2_with fail;refine(K4.out _ hv4).mono ?_;rintro e v5⟨rfl,hb5⟩;have HR:=Lib.hid (HR.out.below hb5);have HF:=Lib.hid (HF.out.kept hb5);have hv5:=hv4.trans (hb5.mono hv4.size);clear hb5;have d5:v5.cell? ⟨w.heap.size+1,5,none⟩=some (.string ⟨w5.toArray⟩):=by have:=HR.out.cell (i:=5) (v:=.string ⟨w5.toArray⟩) rfl;simpa using this
 go_wp2_with fail;refine(K5.out _ hv5).mono ?_;rintro e v6⟨rfl,hb6⟩;have HR:=Lib.hid (HR.out.below hb6);have HF:=Lib.hid (HF.out.kept hb6);have hv6:=hv5.trans (hb6.mono hv5.size);clear hb6;have d6:v6.cell? ⟨w.heap.size+1,6,none⟩=some (.string ⟨w6.toArray⟩):=by have:=HR.out.cell (i:=6) (v:=.string ⟨w6.toArray⟩) rfl;simpa using this
 go_wp2_with fail;refine(K6.out _ hv6).mono ?_;rintro e v7⟨rfl,hb7⟩;have HR:=Lib.hid (HR.out.below hb7);have HF:=Lib.hid (HF.out.kept hb7);have hv7:=hv6.trans (hb7.mono hv6.size);clear hb7;clear HR K1 K2 K3 K4 K5 K6 KS d0 d1 d2 d3 d4 d5 d6 hv1 hv2 hv3 hv4 hv5 hv6;have q0:(0:Int)≤(body.length:Int):=by omega
 have q1:(body.length:Int)≤(s.length:Int):=by omega
 go_wp2_with fail;refine(KL.out _).mono ?_;rintro e v8⟨rfl,rfl⟩;have hext:=HX.out;go_wp2_with fail;refine(KM.out _).mono ?_;rintro e v8⟨rfl,rfl⟩;clear hext
 by_cases hsm:(sm:Int)=n6
 ·have hq:((sm:Int) != n6)=false:=by simpa using hsm
  have HW:Hid (rv=if frameE ⟨n1,c,n3,n4,n5⟩=0 then(0,⟨n1,c,n3,n4,n5⟩) else(frameE ⟨n1,c,n3,n4,n5⟩,Frm0)):=by unfold Hid;rw[HV.out,if_pos hsm]
  have hvA:Below w.heap.size w (v7.alloc (.cells #[.int .i64 n1,.int .i64 c,.int .i64 n3,.int .i64 n4,.int .i64 n5] 256)):=hv7.alloc hv7.size _;have KC:=Lib.hid (frameCheck_any ea n1 c n3 n4 n5 _ ((HG.out _ hvA).sub (by simp)));have hF2:=five_new v7 n1 c n3 n4 n5;have HF2:=Lib.hid hF2;have HFA:=Lib.hid (HF.out.kept ((Below.refl v7.heap.size v7).alloc (Nat.le_refl _) (.cells #[.int .i64 n1,.int .i64 c,.int .i64 n3,.int .i64 n4,.int .i64 n5] 256)));clear hF2 hsm HV
  by_cases hfe:frameE ⟨n1,c,n3,n4,n5⟩=0
  ·have HY:Hid (rv=(0,⟨n1,c,n3,n4,n5⟩)):=by unfold Hid;rw[HW.out,if_pos hfe]
   have HZ:=Lib.hid (errV_zero ea);rw[hfe,HZ.out] at KC;clear hfe HW;go_wp2_with fail;refine KC.out.mono ?_;rintro e v8⟨rfl,hb8⟩;have hv8:=hvA.trans (hb8.mono hvA.size);obtain⟨k0,k1,k2,k3,k4,f0,f1,f2,f3,f4⟩:=(HFA.out.kept hb8).cells;obtain⟨m0,m1,m2,m3,m4,_,_,_,_,_⟩:=(HF2.out.kept hb8).cells;clear hvA hb8;go_wp2;refine bodyPost_ret (v:=.tuple #[.agg #[.int .i64 n1,.int .i64 c,.int .i64 n3,.int .i64 n4,.int .i64 n5],.nilIface]) (by simp[results,Tryz.results185,go_sem,k0,k1,k2,k3,k4]) rfl ?_;rw[HY.out];exact⟨by rw[HZ.out];rfl,((((hv8.setCell (p:=⟨w.heap.size,0,none⟩) (Nat.le_refl _) _).setCell (p:=⟨w.heap.size,1,none⟩) (Nat.le_refl _) _).setCell (p:=⟨w.heap.size,2,none⟩) (Nat.le_refl _) _).setCell (p:=⟨w.heap.size,3,none⟩) (Nat.le_refl _) _).setCell (p:=⟨w.heap.size,4,none⟩) (Nat.le_refl _) _⟩
  ·have HY:Hid (rv=(frameE ⟨n1,c,n3,n4,n5⟩,Frm0)):=by unfold Hid;rw[HW.out,if_neg hfe]
   have HE:=Lib.hid (errV_pos ea hfe);rw[HE.out] at KC;clear hfe HW;go_wp2_with fail;refine KC.out.mono ?_;rintro e v8⟨rfl,hb8⟩;have hv8:=hvA.trans (hb8.mono hvA.size);obtain⟨k0,k1,k2,k3,k4,f0,f1,f2,f3,f4⟩:=(HFA.out.kept hb8).cells;clear hvA hb8;go_wp2;refine bodyPost_ret (v:=.tuple #[.agg #[.int .i64 0,.int .i64 0,.int .i64 0,.int .i64 0,.int .i64 0],.iface 346 (.pointer (some (ea (frameE ⟨n1,c,n3,n4,n5⟩))))]) (by simp[results,Tryz.results185,go_sem,k0,k1,k2,k3,k4]) rfl ?_;rw[HY.out];exact⟨by rw[HE.out];rfl,zero_below hv8⟩
 ·have hq:((sm:Int) != n6)=true:=by simpa using hsm
  have HY:Hid (rv=(8,Frm0)):=by unfold Hid;rw[HV.out,if_neg hsm]
  have g8:=(HG.out _ hv7).cell 8 (by simp);simp only[gOf] at g8;obtain⟨k0,k1,k2,k3,k4,f0,f1,f2,f3,f4⟩:=HF.out.cells;clear hsm HV;go_wp2;go_region
  all_goals
   go_wp2;refine bodyPost_ret (v:=.tuple #[.agg #[.int .i64 0,.int .i64 0,.int .i64 0,.int .i64 0,.int .i64 0],errV ea 8]) (by simp[results,Tryz.results185,go_sem,k0,k1,k2,k3,k4]) rfl ?_;rw[HY.out];exact⟨rfl,by first|exact(zero_below hv7).drew|exact zero_below hv7.drew|exact hv7.drew⟩
theorem fread_any(ea:Nat→Addr)(s:List UInt8)(w:World)(hg:Glob w ea [1,2,3,4,8])(hT:TxtEnv w)(hs2:s.length≤4294967280) :
 Calls Tryz.prog 185 #[.string ⟨s.toArray⟩] w fun e w'=>e=.returned (.tuple #[.agg (frameF s).2.arr,errV ea (frameF s).1])∧Below w.heap.size w w':=by
 by_cases h100:100<s.length
 ·rw[frameF,if_pos h100];exact fread_long ea s w (hg.sub (by simp)) h100 hs2
 ·rw[frameF,if_neg h100]
  by_cases h7:(cutL 32 s).length=7
  ·obtain⟨w0,w1,w2,w3,w4,w5,w6,hc⟩:=readL_seven h7
   rw[hc,readL];have hs:s.length≤100:=by omega
   have bad:readW w0 w1 w2 w3 w4 w5 w6=(1,Frm0)→Calls Tryz.prog 185 #[.string ⟨s.toArray⟩] w (fun e w'=>e=.returned (.tuple #[.agg #[.int .i64 0,.int .i64 0,.int .i64 0,.int .i64 0,.int .i64 0],errV ea 1])∧Below w.heap.size w w')→
    Calls Tryz.prog 185 #[.string ⟨s.toArray⟩] w fun e w'=>e=.returned (.tuple #[.agg (readW w0 w1 w2 w3 w4 w5 w6).2.arr,errV ea (readW w0 w1 w2 w3 w4 w5 w6).1])∧Below w.heap.size w w':=fun e h=>by rw[e];exact h
   by_cases hw0:w0=[102,114,97,109,101]
   ·by_cases hwb:wordsB w1 w2 w3 w4 w5 w6=true
    ·simp only[wordsB,Bool.and_eq_true] at hwb
     obtain⟨⟨⟨⟨⟨h1,h2⟩,h3⟩,h4⟩,h5⟩,h6⟩:=hwb;obtain⟨c,h2⟩:=Option.isSome_iff_exists.1 h2;exact fread_words ea s w0 w1 w2 w3 w4 w5 w6 w hg hT hs hc hw0 h1 c h2 h3 h4 h5 h6
    ·refine bad (by rw[readW,if_pos hw0,if_neg hwb]) (fread_bad ea s w0 w1 w2 w3 w4 w5 w6 w hg hT hs hc hw0 ?_)
     revert hwb;unfold wordsB
     cases natB w1<;>cases readF w2<;>cases natB w3<;>cases natB w4<;>cases numIs w5<;>cases natB w6<;>simp
   ·exact bad (by rw[readW,if_neg hw0]) (fread_split ea s w (hg.sub (by simp)) hT hs (Or.inr (by rw[hc];exact hw0)))
  ·rw[readL_other h7]
   exact fread_split ea s w (hg.sub (by simp)) hT (by omega) (Or.inl h7)
end Go.Proofs.YtppfkokfnoeopaaGreatDoor
