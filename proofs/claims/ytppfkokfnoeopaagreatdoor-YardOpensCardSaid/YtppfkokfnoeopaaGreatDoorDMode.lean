/- A part of a proof. -/
import Derived.Maps.Own
import Derived.Maps.OwnOps
import Derived.Maps.Views
import Derived.DeepKeys4
import Derived.StillTailTactics
import Derived.Maps.AppendAt
import Derived.Test.YtppfkokfnoeopaaGreatDoorDLib
namespace Go.Proofs.YtppfkokfnoeopaaGreatDoor
open Go.RowKit Go.Maps
def pairC(p:Int×Int):List Value:=[.int .i64 p.1,.int .i64 p.2]
theorem pairC_len(p:Int×Int):(pairC p).length=2:=rfl
def encPairs(l:List (Int×Int)):List Value:=l.flatMap pairC
theorem RowAt.pair{w:World}{a:Option Addr}{l:List (Int×Int)}(h:RowAt w a (encPairs l))(k:Nat)(hk:k<l.length) :
 ∃b off,a=some ⟨b,off,none⟩∧b<w.heap.size∧w.cell? ⟨b,off+k*2,none⟩=some (.int .i64 l[k].1)∧w.cell? ⟨b,off+k*2+1,none⟩=some (.int .i64 l[k].2):=by
 obtain⟨b,off,e,hlt,hc⟩:=h.flat 2 pairC_len (by omega) k hk;exact⟨b,off,e,hlt,by simpa using hc 0 _ rfl,hc 1 _ rfl⟩
theorem pairC_one(p:Int×Int):∀u∈pairC p,u.oneCell'=true:=by
 intro u hu;simp[pairC] at hu;rcases hu with rfl|rfl<;>rfl
theorem encPairs_snoc(xs:List (Int×Int))(p:Int×Int):encPairs (xs++[p])=encPairs xs++pairC p:=by simp[encPairs]
def pairV(a b:Int):Value:=.agg #[.int .i64 a,.int .i64 b]
def modeB(n:Int):Bool:=decide (0≤n∧n<4)
def pairB(p:Int×Int):Bool:=modeB p.1&&modeB p.2
theorem keyedPair:Keyed Tryz.prog 176:=Keyed.of_law (deep_law_laid (m:=9999) (by kernel_rfl) (by omega) (of_decide_eq_true (by kernel_rfl)) (by kernel_rfl) (by kernel_rfl))
theorem zeroBool(w:World):(zeroValue 4).run Tryz.prog w=.ok (.bool false) w:=by kernel_rfl
noncomputable def keyL(a b:Int):Lit:=(keyOf Tryz.prog 176 (pairV a b)).getD (.bool false)
theorem key_all:((List.range 4).all fun a=>(List.range 4).all fun b=>(keyOf Tryz.prog 176 (pairV (a:Int) (b:Int))).isSome)=true:=by kernel_rfl
theorem key_at{a b:Int}(ha:modeB a=true)(hb:modeB b=true):keyOf Tryz.prog 176 (pairV a b)=some (keyL a b):=by
 simp only[modeB,decide_eq_true_eq] at ha hb;obtain⟨m,rfl⟩:∃m:Nat,a=m:=⟨a.toNat,by omega⟩
 obtain⟨k,rfl⟩:∃k:Nat,b=k:=⟨b.toNat,by omega⟩
 have h1:=List.all_eq_true.1 (List.all_eq_true.1 key_all m (List.mem_range.2 (by omega))) k (List.mem_range.2 (by omega));rw[keyL]
 cases h:keyOf Tryz.prog 176 (pairV (m:Int) (k:Int)) with
 | none=>rw[h] at h1;simp at h1
 | some x=>rfl
attribute [irreducible] keyL
set_option maxRecDepth 100000 in
theorem key_lit{a b:Int}(ha:modeB a=true)(hb:modeB b=true):WideAt.IsKeyLit (keyL a b):=by
 have h:=keyedPair.key (v:=pairV a b) (l:=keyL a b) (key_at ha hb);exact h
theorem key_inj{a b c d:Int}(ha:modeB a=true)(hb:modeB b=true)(hc:modeB c=true)(hd:modeB d=true)(h:keyL a b=keyL c d):a=c∧b=d:=by
 have h1:=key_at ha hb;have h2:=key_at hc hd;rw[←h] at h2;have e:=keyedPair.inj h1 h2;simpa[pairV] using e
noncomputable def mapD(l:List (Int×Int)):DataW Unit:=l.foldl (fun D p=>D.put (keyL p.1 p.2) (.lit (.bool true))) (.map [])
theorem mapD_snoc(l:List (Int×Int))(p:Int×Int):mapD (l++[p])=(mapD l).put (keyL p.1 p.2) (.lit (.bool true)):=by simp[mapD]
theorem at_fold(a b:Int)(ha:modeB a=true)(hb:modeB b=true):∀(l:List (Int×Int)) (D:DataW Unit),IsMap D→(∀p∈l,pairB p=true)→
 (l.foldl (fun D p=>D.put (keyL p.1 p.2) (.lit (.bool true))) D).atKey (keyL a b) (.lit (.bool false))=if (a,b)∈l then .lit (.bool true) else D.atKey (keyL a b) (.lit (.bool false))
 | [],D,_,_=>by simp
 | p::r,D,hD,hl=>by
  have hp:=hl p (by simp);simp only[pairB,Bool.and_eq_true] at hp;have hD':IsMap (D.put (keyL p.1 p.2) (.lit (.bool true))):=by obtain⟨es,rfl⟩:=hD;exact⟨_,rfl⟩
  rw[List.foldl_cons,at_fold a b ha hb r _ hD' (fun q hq=>hl q (List.mem_cons_of_mem _ hq))]
  by_cases hr:(a,b)∈r
  ·rw[if_pos hr,if_pos (List.mem_cons_of_mem _ hr)]
  ·rw[if_neg hr]
   by_cases he:(a,b)=p
   ·subst he
    rw[if_pos (by simp)];exact atKey_put_same hD (key_lit ha hb) _ _
   ·rw[if_neg (by simp[he,hr])]
    refine atKey_put_other (fun e=>he ?_) _ _;obtain⟨e1,e2⟩:=key_inj ha hb hp.1 hp.2 e;exact Prod.ext e1 e2
theorem mapD_at{l:List (Int×Int)}(hl:∀p∈l,pairB p=true){a b:Int}(ha:modeB a=true)(hb:modeB b=true):(mapD l).atKey (keyL a b) (.lit (.bool false))=.lit (.bool (decide ((a,b)∈l))):=by
 rw[mapD,at_fold a b ha hb l _ ⟨[],rfl⟩ hl]
 by_cases h:(a,b)∈l
 ·rw[if_pos h,decide_eq_true h]
 ·rw[if_neg h,decide_eq_false h];rfl
def PairMap(w:World)(mb:Nat)(l:List (Int×Int)):Prop:=∃n,n≤l.length∧w.ownsMap Tryz.prog 176 (plainElem Tryz.prog 4) mb n (mapD l)
theorem plainBool_inv{P:Program}{e:TypeId}(he:P.underlying e=some .bool){v:Value}{d:DataW Unit}{ps:List MemPlace}(h:plainElem P e v=some (d,ps)):∃x,v=.bool x∧d=.lit (.bool x):=by
 cases v<;>simp[plainElem,he] at h
 exact⟨_,rfl,h.1.symm⟩
set_option maxRecDepth 100000 in
theorem pairMap_look{w:World}{mb:Nat}{l:List (Int×Int)}(h:PairMap w mb l)(hl:∀p∈l,pairB p=true){a b:Int}(ha:modeB a=true)(hb:modeB b=true) :
 (Instr.lookup 208 (.map (some mb)) (pairV a b) false).run Tryz.prog w=.ok (.bool (decide ((a,b)∈l))) w:=by
 obtain⟨n,_,h⟩:=h;obtain⟨v,ps,hrun,hv⟩:=h.lookup keyedPair Tryz.underlying208 (zeroBool w) (plainElem_bool Tryz.underlying4 false) (key_at ha hb);rw[mapD_at hl ha hb] at hv;obtain⟨x,rfl,hx⟩:=plainBool_inv Tryz.underlying4 hv;have hx':decide ((a,b)∈l)=x:=by simpa using hx
 rw[hrun,hx']
theorem PairMap.kept{w w':World}{mb:Nat}{l:List (Int×Int)}(h:PairMap w mb l){row:Option Nat}(hg:w.grownBy w' row)(hne:some mb≠row):PairMap w' mb l:=by
 obtain⟨n,hle,h⟩:=h;exact⟨n,hle,h.kept hg hne⟩
theorem PairMap.lt{w:World}{mb:Nat}{l:List (Int×Int)}(h:PairMap w mb l):mb<w.heap.size:=by
 obtain⟨n,hle,h⟩:=h;exact h.lt
theorem mode_any(n:Int)(w:World):Calls Tryz.prog 165 #[.int .i64 n] w fun e w'=>e=.returned (.bool (modeB n))∧w=w':=by
 by_cases h0:0≤n
 ·by_cases h1:n<4
  ·have hm:=Lib.hid (show modeB n=true by simp[modeB,h0,h1])
   go_enter Tryz.func165,Tryz.ntmps165;go_wp2;go_ret;exact⟨ret_bool hm.out.symm,rfl⟩
  ·have hm:=Lib.hid (show modeB n=false by simp[modeB];omega)
   have hd:decide (n<4)=false:=by simpa using h1
   go_enter Tryz.func165,Tryz.ntmps165;go_wp2;go_ret;exact⟨ret_bool hm.out.symm,rfl⟩
 ·have hm:=Lib.hid (show modeB n=false by simp[modeB];omega)
  have hd:decide (0≤n)=false:=by simpa using h0
  go_enter Tryz.func165,Tryz.ntmps165;go_wp2;go_ret;exact⟨ret_bool hm.out.symm,rfl⟩
def BoardM(w:World)(b mb:Nat)(l:List (Int×Int))(now asked:Int):Prop:=
 w.heap[b]?=some (.cells #[.map (some mb),.int .i64 now,.int .i64 asked] 210 (0,0))∧mb≠b∧PairMap w mb l
def BoardAt(w:World)(b:Nat)(l:List (Int×Int))(now asked:Int):Prop:=∃mb,BoardM w b mb l now asked
theorem BoardM.drewN{w:World}{b mb:Nat}{l:List (Int×Int)}{now asked:Int}(h:BoardM w b mb l now asked)(n:Nat):BoardM (w.drewN n) b mb l now asked:=h
theorem BoardM.kept{w w':World}{b mb:Nat}{l:List (Int×Int)}{now asked:Int}(h:BoardM w b mb l now asked){row:Option Nat}(hg:w.grownBy w' row)(hb:some b≠row)(hm:some mb≠row):BoardM w' b mb l now asked:=
 ⟨(hg.block b (Array.getElem?_eq_some_iff.1 h.1).1 hb).trans h.1,h.2.1,h.2.2.kept hg hm⟩
theorem BoardAt.lt{w:World}{b:Nat}{l:List (Int×Int)}{now asked:Int}(h:BoardAt w b l now asked):b<w.heap.size:=by
 obtain⟨mb,h,_⟩:=h;exact(Array.getElem?_eq_some_iff.1 h).1
theorem BoardAt.below{w w':World}{b:Nat}{l:List (Int×Int)}{now asked:Int}(h:BoardAt w b l now asked)(hb:Below w.heap.size w w'):BoardAt w' b l now asked:=by
 obtain⟨mb,h1,h2,h3⟩:=h;exact⟨mb,(hb.block b (Array.getElem?_eq_some_iff.1 h1).1).trans h1,h2,h3.kept (below_grows hb none) (by simp)⟩
theorem BoardAt.drewN{w:World}{b:Nat}{l:List (Int×Int)}{now asked:Int}(h:BoardAt w b l now asked)(n:Nat):BoardAt (w.drewN n) b l now asked:=h
theorem PairMap.drewN{w:World}{mb:Nat}{l:List (Int×Int)}(h:PairMap w mb l)(n:Nat):PairMap (w.drewN n) mb l:=h
def turnNow(now asked:Int):Int:=if 0≤asked then asked else now
theorem turn_m(b mb:Nat)(l:List (Int×Int))(now asked:Int)(w:World)(h:BoardM w b mb l now asked)(hk:asked=-1∨0≤asked) :
 Calls Tryz.prog 227 #[.pointer (some ⟨b,0,none⟩)] w fun e w'=>e=.returned (.int .i64 (turnNow now asked))∧BoardM w' b mb l (turnNow now asked) (-1)∧w.grownBy w' (some b)∧Below b w w'∧w'.heap.size=w.heap.size:=by
 obtain⟨h1,h2,h3⟩:=h;have c1:w.cell? ⟨b,1,none⟩=some (.int .i64 now):=cell_of_row w b 1 _ _ _ h1;have c2:w.cell? ⟨b,2,none⟩=some (.int .i64 asked):=cell_of_row w b 2 _ _ _ h1;have f1:w.frozen? ⟨b,1,none⟩=false:=frozen_of_row w b 1 _ _ h1;have f2:w.frozen? ⟨b,2,none⟩=false:=frozen_of_row w b 2 _ _ h1;have H1:=Lib.hid h1;clear h1
 by_cases hq:0≤asked
 ·have ht:=Lib.hid (show turnNow now asked=asked by rw[turnNow,if_pos hq])
  have d2:(w.setCell ⟨b,1,none⟩ (.int .i64 asked)).cell? ⟨b,2,none⟩=some (.int .i64 asked):=by go_simp
  have hB:BoardM ((w.setCell ⟨b,1,none⟩ (.int .i64 asked)).setCell ⟨b,2,none⟩ (.int .i64 (-1))) b mb l asked (-1):=by
   refine⟨?_,h2,(h3.kept (setCell_grows _ _ _ _) (by simp[h2])).kept (setCell_grows _ _ _ _) (by simp[h2])⟩;rw[heap_setCell_same _ b 2 _ _ _ (heap_setCell_same w b 1 _ _ _ H1.out)];rfl
  have HB:=Lib.hid hB;clear hB;go_enter Tryz.func227,Tryz.ntmps227;go_wp2;go_ret;rw[ht.out];exact⟨rfl,HB.out,(setCell_grows _ _ _ _).trans (setCell_grows _ _ _ _),((Below.refl _ _).setCell (by simp) _).setCell (by simp) _,by simp⟩
 ·have ht:=Lib.hid (show turnNow now asked=now by rw[turnNow,if_neg hq])
  obtain rfl:asked=-1:=by omega
  have hB:=Lib.hid (show BoardM w b mb l now (-1) from⟨H1.out,h2,h3⟩);go_enter Tryz.func227,Tryz.ntmps227;go_wp2;go_ret;rw[ht.out];exact⟨rfl,hB.out,World.grownBy.refl _ _,Below.refl _ _,rfl⟩
def askE(l:List (Int×Int))(now asked to:Int):Nat:=if modeB to=false then 2 else if 0≤asked then 6 else if (now,to)∈l then 0 else 3
def askTo(l:List (Int×Int))(now asked to:Int):Int:=if askE l now asked to=0 then to else asked
theorem askTo_ok{l:List (Int×Int)}{now asked to:Int}(h:askE l now asked to=0):askTo l now asked to=to:=if_pos h
theorem askTo_no{l:List (Int×Int)}{now asked to:Int}{c:Nat}(h:askE l now asked to=c+1):askTo l now asked to=asked:=if_neg (by omega)
set_option maxRecDepth 100000 in
set_option maxHeartbeats 800000 in
theorem ask_m(ea:Nat→Addr)(b mb:Nat)(l:List (Int×Int))(now asked to:Int)(w:World)(hg:Glob w ea [2,6,3])(h:BoardM w b mb l now asked)(hl:∀p∈l,pairB p=true)(hn:modeB now=true)(hk:asked=-1∨0≤asked) :
 Calls Tryz.prog 142 #[.pointer (some ⟨b,0,none⟩),.int .i64 to] w fun e w'=>e=.returned (errV ea (askE l now asked to))∧BoardM w' b mb l now (askTo l now asked to)∧w.grownBy w' (some b)∧Below b w w'∧w'.heap.size=w.heap.size:=by
 have g2:=hg.cell 2 (by simp);have g6:=hg.cell 6 (by simp);have g3:=hg.cell 3 (by simp);simp only[gOf] at g2 g6 g3;have HB:=Lib.hid h;obtain⟨h1,h2,h3⟩:=h;have c0:w.cell? ⟨b,0,none⟩=some (.map (some mb)):=cell_of_row w b 0 _ _ _ h1;have c1:w.cell? ⟨b,1,none⟩=some (.int .i64 now):=cell_of_row w b 1 _ _ _ h1;have c2:w.cell? ⟨b,2,none⟩=some (.int .i64 asked):=cell_of_row w b 2 _ _ _ h1;have f2:w.frozen? ⟨b,2,none⟩=false:=frozen_of_row w b 2 _ _ h1;have H1:=Lib.hid h1;clear h1
 cases hm:modeB to
 ·have HA:=Lib.hid (show askE l now asked to=2 by rw[askE,if_pos hm])
  have HM:=Lib.hid hm;clear hm hk;go_enter Tryz.func142,Tryz.ntmps142;go_wp2_with (go_at_call 165;refine(mode_any _ _).mono ?_;rintro e w1⟨rfl,rfl⟩;rw[HM.out]);go_ret;rw[HA.out,askTo_no HA.out];exact⟨rfl,HB.out,World.grownBy.refl _ _,Below.refl _ _,rfl⟩
 ·have HM:=Lib.hid hm
  by_cases hq:0≤asked
  ·have HA:=Lib.hid (show askE l now asked to=6 by rw[askE,if_neg (by simp[hm]),if_pos hq])
   clear hm hk;go_enter Tryz.func142,Tryz.ntmps142;go_wp2_with (go_at_call 165;refine(mode_any _ _).mono ?_;rintro e w1⟨rfl,rfl⟩;rw[HM.out]);go_ret;rw[HA.out,askTo_no HA.out];exact⟨rfl,HB.out,World.grownBy.refl _ _,Below.refl _ _,rfl⟩
  ·obtain rfl:asked=-1:=by omega
   have hlk:∀n:Nat,(Instr.lookup 208 (.map (some mb)) (.agg #[.int .i64 now,.int .i64 to]) false).run Tryz.prog (w.drewN n)=.ok (.bool (decide ((now,to)∈l))) (w.drewN n):=fun n=>pairMap_look (h3.drewN n) hl hn hm
   by_cases hin:(now,to)∈l
   ·have HA:=Lib.hid (show askE l now (-1) to=0 by rw[askE,if_neg (by simp[hm]),if_neg (by omega),if_pos hin])
    rw[decide_eq_true hin] at hlk
    have hS:∀n:Nat,BoardM ((w.drewN n).setCell ⟨b,2,none⟩ (.int .i64 to)) b mb l now to:=fun n=>by
     refine⟨?_,h2,(h3.drewN n).kept (setCell_grows _ _ _ _) (by simp[h2])⟩;have h1':(w.drewN n).heap[b]?=some (.cells #[.map (some mb),.int .i64 now,.int .i64 (-1)] 210 (0,0)):=H1.out;rw[heap_setCell_same _ b 2 _ _ _ h1'];rfl
    have HS:=Lib.hid hS;clear hm hk hin hS;go_enter Tryz.func142,Tryz.ntmps142;go_wp2_with (go_at_call 165;refine(mode_any _ _).mono ?_;rintro e w1⟨rfl,rfl⟩;rw[HM.out]);go_quiet (fail);go_wp2;go_ret;rw[HA.out,askTo_ok HA.out];exact⟨(nil_errV ea rfl)▸rfl,HS.out _,(below_grows (below_drewN (Below.refl _ _) _) _).trans (setCell_grows _ _ _ _),((below_drewN (Below.refl _ _) _)).setCell (by simp) _,by simp⟩
   ·have HA:=Lib.hid (show askE l now (-1) to=3 by rw[askE,if_neg (by simp[hm]),if_neg (by omega),if_neg hin])
    rw[decide_eq_false hin] at hlk;clear hm hk hin;go_enter Tryz.func142,Tryz.ntmps142;go_wp2_with (go_at_call 165;refine(mode_any _ _).mono ?_;rintro e w1⟨rfl,rfl⟩;rw[HM.out]);go_quiet (fail);go_wp2;go_ret;rw[HA.out,askTo_no HA.out];exact⟨rfl,HB.out.drewN _,below_grows (below_drewN (Below.refl _ _) _) _,below_drewN (Below.refl _ _) _,rfl⟩
end Go.Proofs.YtppfkokfnoeopaaGreatDoor
