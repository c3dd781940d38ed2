/- A part of a proof. -/
import Derived.WalkSpells
import Derived.RegionTactic
import Derived.Test.YtppfkokfnoeopaaGreatDoorSClique
set_option maxRecDepth 400000
set_option maxHeartbeats 6400000
namespace Go.Proofs.YtppfkokfnoeopaaGreatDoor
open Go.RowKit Go.Proofs.Tryz
theorem M9:(prog.info? 146).map (fun i=>(i.zero,i.size,i.bytes))=some (some (.agg #[.int .i64 0,.int .i64 0,.bool false,.int .i64 0]),4,32):=by kernel_rfl
theorem P0(es:List Ent):∀u∈Av es,u.oneCell'=true:=by
 intro u hu;obtain⟨e,_,h⟩:=List.mem_flatMap.1 hu;exact Ent.one e u h
theorem Gv(a:Option Addr)(n cap:Nat)(es:List Ent)(w:World)(hn:es.length=n)(hr:Ac w a (Av es))(hc:n≤4398046511104) :
 Calls prog 84 #[.slice a n cap] w fun e w'=>∃a' cap',e=.returned (.slice a' n cap')∧w'.ownsRow w.heap.size 146 4 (.slice a' n cap') n (Av es)∧Below w.heap.size w w':=by
 have HN:=zh hn;obtain⟨i0,hi,hz0,hz1,hz2⟩:=info_parts M9;have hi':=zh hi;have hz0':=zh hz0;have hz1':=zh hz1;have hz2':=zh hz2;clear hi hz0 hz1 hz2 hn;have hq:=fun(W:World) (a:Option Addr) (l c:Nat)=>Lib.run_eql_slice_nil (P:=prog) W 97 146 a l c 0 0 underlying97
 cases a with
 | none=>
  have hnil:es=[]:=by
   rcases hr with h|⟨b,off,h,_⟩
   ·have:=E8 es;rw[h] at this;exact List.eq_nil_of_length_eq_zero (by simp at this;omega)
   ·cases h
  have h0:n=0:=by have:=HN.out;rw[hnil] at this;exact this.symm
  subst h0;have HNIL:=zh hnil;clear hnil;go_enter func84,ntmps84;go_wp2;go_ret;exact⟨none,0,rfl,by rw[HNIL.out];exact World.ownsRow_nil _ _ _ _,Below.refl _ _⟩
 | some ad=>
  have hown:(w.alloc (.cells #[] 146)).ownsRow w.heap.size 146 4 (.slice (some ⟨w.heap.size,0,none⟩) 0 0) 0 []:=World.ownsRow_made w #[] 0 zl (by simp[maxLen]) rfl;go_enter func84,ntmps84;go_wp2_with (at_builtin;refine Ag _ rfl (.tmp 5) (.tmp 6) 97 rfl w.heap.size 146 i0 _ 4 32 underlying97 hi'.out hz0'.out hz1'.out hz2'.out rfl (by decide) (.slice (some ⟨w.heap.size,0,none⟩) 0 0) 0 [] rfl ?_ _ n cap (Av es) rfl (by rw[E8,HN.out]) ?_ ?_ ?_ ?_ ?_ ?_;exact hown;exact hr.below (zb.alloc zl _);exact P0 _;unfold maxLen;omega;omega;(simp);intro v1 w5 ho1 hg1 hq hm1;clear hq hm1);go_ret;obtain⟨a',cap',rfl⟩:=Aj ho1;rw[List.nil_append,Nat.zero_add] at ho1;refine⟨a',cap',by simp,ho1,(zb.alloc zl _).grown hg1 (by simp) (fun j e=>?_)⟩;simp[Value.ownBlock] at e;omega
theorem Tn(a:Option Addr)(n cap:Nat)(es:List Ent)(w:World)(hn:es.length=n)(hr:Ac w a (Av es))(hc:n≤4398046511104) :
 Calls prog 84 #[.slice a n cap] w fun e w'=>∃a' cap',e=.returned (.slice a' n cap')∧Ac w' a' (Av es)∧n≤cap'∧Below w.heap.size w w':=
 (Gv a n cap es w hn hr hc).mono fun _ _ ⟨a',cap',h1,h2,h3⟩=>⟨a',cap',h1,(Ac.owned h2).1,(Ac.owned h2).2.2.1,h3⟩
theorem L1{w w1:World}{x y:Value}{t:TypeId}(hb:Below (w.alloc (.cells #[x,y] t)).heap.size (w.alloc (.cells #[x,y] t)) w1) :
 w1.cell? ⟨w.heap.size,0,none⟩=some x∧w1.cell? ⟨w.heap.size,1,none⟩=some y∧w1.frozen? ⟨w.heap.size,0,none⟩=false∧w1.frozen? ⟨w.heap.size,1,none⟩=false∧w.heap.size<w1.heap.size∧Below w.heap.size w w1:=
 ⟨(hb.cell (p:=⟨w.heap.size,0,none⟩) (by simp)).trans (by simp),(hb.cell (p:=⟨w.heap.size,1,none⟩) (by simp)).trans (by simp),
   (hb.frozen (p:=⟨w.heap.size,0,none⟩) (by simp)).trans (by simp),(hb.frozen (p:=⟨w.heap.size,1,none⟩) (by simp)).trans (by simp),
   by have:=hb.size;simp at this;omega,(zb.alloc zl _).trans (hb.mono (by simp))⟩
theorem Ar{w W w':World}(h:Below w.heap.size w W)(h2:Below W.heap.size W w'):Below w.heap.size w w':=h.trans (h2.mono h.size)
theorem zAj{w w1:World}{o:Obj}(hb:Below (w.alloc o).heap.size (w.alloc o) w1):Below w.heap.size w w1:=(zb.alloc zl _).trans (hb.mono (by simp))
theorem Qd{w w1:World}{b:Nat}{x y:Value}(hb:Below w.heap.size w w1)(hlt:b<w.heap.size)(c0:w.cell? ⟨b,0,none⟩=some x)(c1:w.cell? ⟨b,1,none⟩=some y)
 (f0:w.frozen? ⟨b,0,none⟩=false) (f1:w.frozen? ⟨b,1,none⟩=false) :
 w1.cell? ⟨b,0,none⟩=some x∧w1.cell? ⟨b,1,none⟩=some y∧w1.frozen? ⟨b,0,none⟩=false∧w1.frozen? ⟨b,1,none⟩=false∧b<w1.heap.size:=
 ⟨(hb.cell (p:=⟨b,0,none⟩) hlt).trans c0,(hb.cell (p:=⟨b,1,none⟩) hlt).trans c1,(hb.frozen (p:=⟨b,0,none⟩) hlt).trans f0,(hb.frozen (p:=⟨b,1,none⟩) hlt).trans f1,Nat.lt_of_lt_of_le hlt hb.size⟩
theorem zG7{w1:World}{b:Nat}{x0 y0:Value}(z1:b<w1.heap.size)(c0:w1.cell? ⟨b,0,none⟩=some x0)(c1:w1.cell? ⟨b,1,none⟩=some y0) :
 (∀x y o,(((w1.setCell ⟨b,0,none⟩ x).setCell ⟨b,1,none⟩ y).alloc o).cell? ⟨b,0,none⟩=some x)∧(∀x y o,(((w1.setCell ⟨b,0,none⟩ x).setCell ⟨b,1,none⟩ y).alloc o).cell? ⟨b,1,none⟩=some y):=by
 refine⟨fun x y o=>?_,fun x y o=>?_⟩
 ·rw[World.cell?_alloc_lt _ _ ⟨b,0,none⟩ (by simpa using z1)];go_simp
 ·rw[World.cell?_alloc_lt _ _ ⟨b,1,none⟩ (by simpa using z1)];go_simp
theorem Cu(c:Int)(w:World):Calls prog 118 #[.int .i64 c] w fun e w'=>e=.returned (.agg #[.int .i64 c,.int .i64 (-1)])∧Below w.heap.size w w':=by
 go_enter func118,ntmps118;go_wp2;exact bodyPost_ret (v:=.agg #[.int .i64 c,.int .i64 (-1)]) (by simp[results,results118,go_sem]) rfl ⟨rfl,zb.alloc zl _⟩
theorem Jz(w:World):Calls prog 64 #[] w fun e w'=>e=.returned (.agg #[.int .i64 0,.int .i64 (-1)])∧Below w.heap.size w w':=by
 go_enter func64,ntmps64;go_wp2;exact bodyPost_ret (v:=.agg #[.int .i64 0,.int .i64 (-1)]) (by simp[results,results64,go_sem]) rfl ⟨rfl,zb.alloc zl _⟩
theorem Au(n:Int)(w:World):Calls prog 119 #[.int .i64 n] w fun e w'=>e=.returned (.bool (Aq n))∧w=w':=by
 go_enter func119,ntmps119;go_wp2
 all_goals(go_ret;exact⟨Ca (by simp[Aq];try omega),rfl⟩)
end Go.Proofs.YtppfkokfnoeopaaGreatDoor
