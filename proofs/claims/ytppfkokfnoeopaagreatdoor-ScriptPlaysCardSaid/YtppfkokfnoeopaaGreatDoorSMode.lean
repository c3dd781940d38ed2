/- A part of a proof. -/
import Derived.Maps.Own
import Derived.Maps.OwnOps
import Derived.Maps.Views
import Derived.DeepKeys4
import Derived.StillTailTactics
import Derived.Maps.AppendAt
import Derived.Test.YtppfkokfnoeopaaGreatDoorSLib
set_option maxRecDepth 400000
set_option maxHeartbeats 6400000
namespace Go.Proofs.YtppfkokfnoeopaaGreatDoor
open Go.RowKit Go.Maps Go.Proofs.Tryz
def Sk(p:Int×Int):List Value:=[.int .i64 p.1,.int .i64 p.2]
theorem zDf(p:Int×Int):(Sk p).length=2:=rfl
def E9(l:List (Int×Int)):List Value:=l.flatMap Sk
theorem Ac.pair{w:World}{a:Option Addr}{l:List (Int×Int)}(h:Ac w a (E9 l))(k:Nat)(hk:k<l.length) :
 ∃b off,a=some ⟨b,off,none⟩∧b<w.heap.size∧w.cell? ⟨b,off+k*2,none⟩=some (.int .i64 l[k].1)∧w.cell? ⟨b,off+k*2+1,none⟩=some (.int .i64 l[k].2):=by
 obtain⟨b,off,e,hlt,hc⟩:=h.flat 2 zDf (by omega) k hk;exact⟨b,off,e,hlt,by simpa using hc 0 _ rfl,hc 1 _ rfl⟩
theorem zDg(p:Int×Int):∀u∈Sk p,u.oneCell'=true:=by
 intro u hu;simp[Sk] at hu;rcases hu with rfl|rfl<;>rfl
theorem Ts(xs:List (Int×Int))(p:Int×Int):E9 (xs++[p])=E9 xs++Sk p:=by simp[E9]
def Sl(a b:Int):Value:=.agg #[.int .i64 a,.int .i64 b]
def Dj(n:Int):Bool:=decide (0≤n∧n<4)
def G2(p:Int×Int):Bool:=Dj p.1&&Dj p.2
theorem Mj:Keyed prog 176:=Keyed.of_law (deep_law_laid (m:=9999) (by kernel_rfl) (by omega) (of_decide_eq_true (by kernel_rfl)) (by kernel_rfl) (by kernel_rfl))
theorem zHs(w:World):(zeroValue 4).run prog w=.ok (.bool false) w:=by kernel_rfl
noncomputable def Oc(a b:Int):Lit:=(keyOf prog 176 (Sl a b)).getD (.bool false)
theorem zIb:((List.range 4).all fun a=>(List.range 4).all fun b=>(keyOf prog 176 (Sl (a:Int) (b:Int))).isSome)=true:=by kernel_rfl
theorem Rz{a b:Int}(ha:Dj a=true)(hb:Dj b=true):keyOf prog 176 (Sl a b)=some (Oc a b):=by
 simp only[Dj,decide_eq_true_eq] at ha hb;obtain⟨m,rfl⟩:∃m:Nat,a=m:=⟨a.toNat,by omega⟩
 obtain⟨k,rfl⟩:∃k:Nat,b=k:=⟨b.toNat,by omega⟩
 have h1:=List.all_eq_true.1 (List.all_eq_true.1 zIb m (List.mem_range.2 (by omega))) k (List.mem_range.2 (by omega));rw[Oc]
 cases h:keyOf prog 176 (Sl (m:Int) (k:Int)) with
 | none=>rw[h] at h1;simp at h1
 | some x=>rfl
attribute [irreducible] Oc
theorem zId{a b:Int}(ha:Dj a=true)(hb:Dj b=true):WideAt.IsKeyLit (Oc a b):=by
 have h:=Mj.key (v:=Sl a b) (l:=Oc a b) (Rz ha hb);exact h
theorem zIc{a b c d:Int}(ha:Dj a=true)(hb:Dj b=true)(hc:Dj c=true)(hd:Dj d=true)(h:Oc a b=Oc c d):a=c∧b=d:=by
 have h1:=Rz ha hb;have h2:=Rz hc hd;rw[←h] at h2;have e:=Mj.inj h1 h2;simpa[Sl] using e
noncomputable def zC2(l:List (Int×Int)):DataW Unit:=l.foldl (fun D p=>D.put (Oc p.1 p.2) (.lit (.bool true))) (.map [])
theorem zC3(l:List (Int×Int))(p:Int×Int):zC2 (l++[p])=(zC2 l).put (Oc p.1 p.2) (.lit (.bool true)):=by simp[zC2]
theorem zBg(a b:Int)(ha:Dj a=true)(hb:Dj b=true):∀(l:List (Int×Int)) (D:DataW Unit),IsMap D→(∀p∈l,G2 p=true)→
 (l.foldl (fun D p=>D.put (Oc p.1 p.2) (.lit (.bool true))) D).atKey (Oc a b) (.lit (.bool false))=if (a,b)∈l then .lit (.bool true) else D.atKey (Oc a b) (.lit (.bool false))
 | [],D,_,_=>by simp
 | p::r,D,hD,hl=>by
  have hp:=hl p (by simp);simp only[G2,Bool.and_eq_true] at hp;have hD':IsMap (D.put (Oc p.1 p.2) (.lit (.bool true))):=by obtain⟨es,rfl⟩:=hD;exact⟨_,rfl⟩
  rw[List.foldl_cons,zBg a b ha hb r _ hD' (fun q hq=>hl q (List.mem_cons_of_mem _ hq))]
  by_cases hr:(a,b)∈r
  ·rw[if_pos hr,if_pos (List.mem_cons_of_mem _ hr)]
  ·rw[if_neg hr]
   by_cases he:(a,b)=p
   ·subst he
    rw[if_pos (by simp)];exact atKey_put_same hD (zId ha hb) _ _
   ·rw[if_neg (by simp[he,hr])]
    refine atKey_put_other (fun e=>he ?_) _ _;obtain⟨e1,e2⟩:=zIc ha hb hp.1 hp.2 e;exact Prod.ext e1 e2
theorem zIi{l:List (Int×Int)}(hl:∀p∈l,G2 p=true){a b:Int}(ha:Dj a=true)(hb:Dj b=true):(zC2 l).atKey (Oc a b) (.lit (.bool false))=.lit (.bool (decide ((a,b)∈l))):=by
 rw[zC2,zBg a b ha hb l _ ⟨[],rfl⟩ hl]
 by_cases h:(a,b)∈l
 ·rw[if_pos h,decide_eq_true h]
 ·rw[if_neg h,decide_eq_false h];rfl
def D6(w:World)(mb:Nat)(l:List (Int×Int)):Prop:=∃n,n≤l.length∧w.ownsMap prog 176 (plainElem prog 4) mb n (zC2 l)
theorem T8{P:Program}{e:TypeId}(he:P.underlying e=some .bool){v:Value}{d:DataW Unit}{ps:List MemPlace}(h:plainElem P e v=some (d,ps)):∃x,v=.bool x∧d=.lit (.bool x):=by
 cases v<;>simp[plainElem,he] at h
 exact⟨_,rfl,h.1.symm⟩
theorem Wf{w:World}{mb:Nat}{l:List (Int×Int)}(h:D6 w mb l)(hl:∀p∈l,G2 p=true){a b:Int}(ha:Dj a=true)(hb:Dj b=true) :
 (Instr.lookup 208 (.map (some mb)) (Sl a b) false).run prog w=.ok (.bool (decide ((a,b)∈l))) w:=by
 obtain⟨n,_,h⟩:=h;obtain⟨v,ps,hrun,hv⟩:=h.lookup Mj underlying208 (zHs w) (plainElem_bool underlying4 false) (Rz ha hb);rw[zIi hl ha hb] at hv;obtain⟨x,rfl,hx⟩:=T8 underlying4 hv;have hx':decide ((a,b)∈l)=x:=by simpa using hx
 rw[hrun,hx']
theorem D6.kept{w w':World}{mb:Nat}{l:List (Int×Int)}(h:D6 w mb l){row:Option Nat}(hg:w.grownBy w' row)(hne:some mb≠row):D6 w' mb l:=by
 obtain⟨n,hle,h⟩:=h;exact⟨n,hle,h.kept hg hne⟩
theorem D6.lt{w:World}{mb:Nat}{l:List (Int×Int)}(h:D6 w mb l):mb<w.heap.size:=by
 obtain⟨n,hle,h⟩:=h;exact h.lt
theorem Gd(n:Int)(w:World):Calls prog 165 #[.int .i64 n] w fun e w'=>e=.returned (.bool (Dj n))∧w=w':=by
 by_cases h0:0≤n
 ·by_cases h1:n<4
  ·have hm:=zh (show Dj n=true by simp[Dj,h0,h1])
   go_enter func165,ntmps165;go_wp2;go_ret;exact⟨Ca hm.out.symm,rfl⟩
  ·have hm:=zh (show Dj n=false by simp[Dj];omega)
   have hd:decide (n<4)=false:=by simpa using h1
   go_enter func165,ntmps165;go_wp2;go_ret;exact⟨Ca hm.out.symm,rfl⟩
 ·have hm:=zh (show Dj n=false by simp[Dj];omega)
  have hd:decide (0≤n)=false:=by simpa using h0
  go_enter func165,ntmps165;go_wp2;go_ret;exact⟨Ca hm.out.symm,rfl⟩
def Eb(w:World)(b mb:Nat)(l:List (Int×Int))(now asked:Int):Prop:=
 w.heap[b]?=some (.cells #[.map (some mb),.int .i64 now,.int .i64 asked] 210 (0,0))∧mb≠b∧D6 w mb l
def Gu(w:World)(b:Nat)(l:List (Int×Int))(now asked:Int):Prop:=∃mb,Eb w b mb l now asked
theorem Eb.drewN{w:World}{b mb:Nat}{l:List (Int×Int)}{now asked:Int}(h:Eb w b mb l now asked)(n:Nat):Eb (w.drewN n) b mb l now asked:=h
theorem Eb.kept{w w':World}{b mb:Nat}{l:List (Int×Int)}{now asked:Int}(h:Eb w b mb l now asked){row:Option Nat}(hg:w.grownBy w' row)(hb:some b≠row)(hm:some mb≠row):Eb w' b mb l now asked:=
 ⟨(hg.block b (Array.getElem?_eq_some_iff.1 h.1).1 hb).trans h.1,h.2.1,h.2.2.kept hg hm⟩
theorem Gu.lt{w:World}{b:Nat}{l:List (Int×Int)}{now asked:Int}(h:Gu w b l now asked):b<w.heap.size:=by
 obtain⟨mb,h,_⟩:=h;exact(Array.getElem?_eq_some_iff.1 h).1
theorem Gu.below{w w':World}{b:Nat}{l:List (Int×Int)}{now asked:Int}(h:Gu w b l now asked)(hb:Below w.heap.size w w'):Gu w' b l now asked:=by
 obtain⟨mb,h1,h2,h3⟩:=h;exact⟨mb,(hb.block b (Array.getElem?_eq_some_iff.1 h1).1).trans h1,h2,h3.kept (Bw hb none) (by simp)⟩
theorem Gu.drewN{w:World}{b:Nat}{l:List (Int×Int)}{now asked:Int}(h:Gu w b l now asked)(n:Nat):Gu (w.drewN n) b l now asked:=h
theorem D6.drewN{w:World}{mb:Nat}{l:List (Int×Int)}(h:D6 w mb l)(n:Nat):D6 (w.drewN n) mb l:=h
def Hp(now asked:Int):Int:=if 0≤asked then asked else now
theorem zJ6(b mb:Nat)(l:List (Int×Int))(now asked:Int)(w:World)(h:Eb w b mb l now asked)(hk:asked=-1∨0≤asked) :
 Calls prog 227 #[.pointer (some ⟨b,0,none⟩)] w fun e w'=>e=.returned (.int .i64 (Hp now asked))∧Eb w' b mb l (Hp now asked) (-1)∧w.grownBy w' (some b)∧Below b w w'∧w'.heap.size=w.heap.size:=by
 obtain⟨h1,h2,h3⟩:=h;have c1:w.cell? ⟨b,1,none⟩=some (.int .i64 now):=cell_of_row w b 1 _ _ _ h1;have c2:w.cell? ⟨b,2,none⟩=some (.int .i64 asked):=cell_of_row w b 2 _ _ _ h1;have f1:w.frozen? ⟨b,1,none⟩=false:=frozen_of_row w b 1 _ _ h1;have f2:w.frozen? ⟨b,2,none⟩=false:=frozen_of_row w b 2 _ _ h1;have H1:=zh h1;clear h1
 by_cases hq:0≤asked
 ·have ht:=zh (show Hp now asked=asked by rw[Hp,if_pos hq])
  have d2:(w.setCell ⟨b,1,none⟩ (.int .i64 asked)).cell? ⟨b,2,none⟩=some (.int .i64 asked):=by go_simp
  have hB:Eb ((w.setCell ⟨b,1,none⟩ (.int .i64 asked)).setCell ⟨b,2,none⟩ (.int .i64 (-1))) b mb l asked (-1):=by
   refine⟨?_,h2,(h3.kept (Br _ _ _ _) (by simp[h2])).kept (Br _ _ _ _) (by simp[h2])⟩;rw[heap_setCell_same _ b 2 _ _ _ (heap_setCell_same w b 1 _ _ _ H1.out)];rfl
  have HB:=zh hB;clear hB;go_enter func227,ntmps227;go_wp2;go_ret;rw[ht.out];exact⟨rfl,HB.out,(Br _ _ _ _).trans (Br _ _ _ _),(zb.setCell (by simp) _).setCell (by simp) _,by simp⟩
 ·have ht:=zh (show Hp now asked=now by rw[Hp,if_neg hq])
  obtain rfl:asked=-1:=by omega
  have hB:=zh (show Eb w b mb l now (-1) from⟨H1.out,h2,h3⟩);go_enter func227,ntmps227;go_wp2;go_ret;rw[ht.out];exact⟨rfl,hB.out,World.grownBy.refl _ _,Below.refl _ _,rfl⟩
def Kg(l:List (Int×Int))(now asked to:Int):Nat:=if Dj to=false then 2 else if 0≤asked then 6 else if (now,to)∈l then 0 else 3
def Re(l:List (Int×Int))(now asked to:Int):Int:=if Kg l now asked to=0 then to else asked
theorem zE4{l:List (Int×Int)}{now asked to:Int}(h:Kg l now asked to=0):Re l now asked to=to:=if_pos h
theorem Rf{l:List (Int×Int)}{now asked to:Int}{c:Nat}(h:Kg l now asked to=c+1):Re l now asked to=asked:=if_neg (by omega)
theorem zJ9(ea:Nat→Addr)(b mb:Nat)(l:List (Int×Int))(now asked to:Int)(w:World)(hg:Bh w ea [2,6,3])(h:Eb w b mb l now asked)(hl:∀p∈l,G2 p=true)(hn:Dj now=true)(hk:asked=-1∨0≤asked) :
 Calls prog 142 #[.pointer (some ⟨b,0,none⟩),.int .i64 to] w fun e w'=>e=.returned (Bm ea (Kg l now asked to))∧Eb w' b mb l now (Re l now asked to)∧w.grownBy w' (some b)∧Below b w w'∧w'.heap.size=w.heap.size:=by
 have g2:=hg.cell 2 (by simp);have g6:=hg.cell 6 (by simp);have g3:=hg.cell 3 (by simp);simp only[gOf] at g2 g6 g3;have HB:=zh h;obtain⟨h1,h2,h3⟩:=h;have c0:w.cell? ⟨b,0,none⟩=some (.map (some mb)):=cell_of_row w b 0 _ _ _ h1;have c1:w.cell? ⟨b,1,none⟩=some (.int .i64 now):=cell_of_row w b 1 _ _ _ h1;have c2:w.cell? ⟨b,2,none⟩=some (.int .i64 asked):=cell_of_row w b 2 _ _ _ h1;have f2:w.frozen? ⟨b,2,none⟩=false:=frozen_of_row w b 2 _ _ h1;have H1:=zh h1;clear h1
 cases hm:Dj to
 ·have HA:=zh (show Kg l now asked to=2 by rw[Kg,if_pos hm])
  have HM:=zh hm;clear hm hk;go_enter func142,ntmps142;go_wp2_with (go_at_call 165;refine(Gd _ _).mono ?_;rintro e w1⟨rfl,rfl⟩;rw[HM.out]);go_ret;rw[HA.out,Rf HA.out];exact⟨rfl,HB.out,World.grownBy.refl _ _,Below.refl _ _,rfl⟩
 ·have HM:=zh hm
  by_cases hq:0≤asked
  ·have HA:=zh (show Kg l now asked to=6 by rw[Kg,if_neg (by simp[hm]),if_pos hq])
   clear hm hk;go_enter func142,ntmps142;go_wp2_with (go_at_call 165;refine(Gd _ _).mono ?_;rintro e w1⟨rfl,rfl⟩;rw[HM.out]);go_ret;rw[HA.out,Rf HA.out];exact⟨rfl,HB.out,World.grownBy.refl _ _,Below.refl _ _,rfl⟩
  ·obtain rfl:asked=-1:=by omega
   have hlk:∀n:Nat,(Instr.lookup 208 (.map (some mb)) (.agg #[.int .i64 now,.int .i64 to]) false).run prog (w.drewN n)=.ok (.bool (decide ((now,to)∈l))) (w.drewN n):=fun n=>Wf (h3.drewN n) hl hn hm
   by_cases hin:(now,to)∈l
   ·have HA:=zh (show Kg l now (-1) to=0 by rw[Kg,if_neg (by simp[hm]),if_neg (by omega),if_pos hin])
    rw[decide_eq_true hin] at hlk
    have hS:∀n:Nat,Eb ((w.drewN n).setCell ⟨b,2,none⟩ (.int .i64 to)) b mb l now to:=fun n=>by
     refine⟨?_,h2,(h3.drewN n).kept (Br _ _ _ _) (by simp[h2])⟩;have h1':(w.drewN n).heap[b]?=some (.cells #[.map (some mb),.int .i64 now,.int .i64 (-1)] 210 (0,0)):=H1.out;rw[heap_setCell_same _ b 2 _ _ _ h1'];rfl
    have HS:=zh hS;clear hm hk hin hS;go_enter func142,ntmps142;go_wp2_with (go_at_call 165;refine(Gd _ _).mono ?_;rintro e w1⟨rfl,rfl⟩;rw[HM.out]);go_quiet (fail);go_wp2;go_ret;rw[HA.out,zE4 HA.out];exact⟨(Lz ea rfl)▸rfl,HS.out _,(Bw (Ab zb _) _).trans (Br _ _ _ _),((Ab zb _)).setCell (by simp) _,by simp⟩
   ·have HA:=zh (show Kg l now (-1) to=3 by rw[Kg,if_neg (by simp[hm]),if_neg (by omega),if_neg hin])
    rw[decide_eq_false hin] at hlk;clear hm hk hin;go_enter func142,ntmps142;go_wp2_with (go_at_call 165;refine(Gd _ _).mono ?_;rintro e w1⟨rfl,rfl⟩;rw[HM.out]);go_quiet (fail);go_wp2;go_ret;rw[HA.out,Rf HA.out];exact⟨rfl,HB.out.drewN _,Bw (Ab zb _) _,Ab zb _,rfl⟩
end Go.Proofs.YtppfkokfnoeopaaGreatDoor
