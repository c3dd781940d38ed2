/- A part of a proof. -/
import Derived.WalkSpells
import Derived.RegionTactic
import Derived.Test.YtppfkokfnoeopaaGreatDoorDClique
namespace Go.Proofs.YtppfkokfnoeopaaGreatDoor
open Go.RowKit
theorem info_entry:(Tryz.prog.info? 146).map (fun i=>(i.zero,i.size,i.bytes))=some (some (.agg #[.int .i64 0,.int .i64 0,.bool false,.int .i64 0]),4,32):=by kernel_rfl
theorem encEnts_one(es:List Ent):∀u∈encEnts es,u.oneCell'=true:=by
 intro u hu;obtain⟨e,_,h⟩:=List.mem_flatMap.1 hu;exact Ent.one e u h
set_option maxRecDepth 100000 in
set_option maxHeartbeats 400000 in
theorem cloneEnts_own(a:Option Addr)(n cap:Nat)(es:List Ent)(w:World)(hn:es.length=n)(hr:RowAt w a (encEnts es))(hc:n≤4398046511104) :
 Calls Tryz.prog 84 #[.slice a n cap] w fun e w'=>∃a' cap',e=.returned (.slice a' n cap')∧w'.ownsRow w.heap.size 146 4 (.slice a' n cap') n (encEnts es)∧Below w.heap.size w w':=by
 have HN:=Lib.hid hn;obtain⟨i0,hi,hz0,hz1,hz2⟩:=info_parts info_entry;have hi':=Lib.hid hi;have hz0':=Lib.hid hz0;have hz1':=Lib.hid hz1;have hz2':=Lib.hid hz2;clear hi hz0 hz1 hz2 hn;have hq:=fun(W:World) (a:Option Addr) (l c:Nat)=>Lib.run_eql_slice_nil (P:=Tryz.prog) W 97 146 a l c 0 0 Tryz.underlying97
 cases a with
 | none=>
  have hnil:es=[]:=by
   rcases hr with h|⟨b,off,h,_⟩
   ·have:=encEnts_length es;rw[h] at this;exact List.eq_nil_of_length_eq_zero (by simp at this;omega)
   ·cases h
  have h0:n=0:=by have:=HN.out;rw[hnil] at this;exact this.symm
  subst h0;have HNIL:=Lib.hid hnil;clear hnil;go_enter Tryz.func84,Tryz.ntmps84;go_wp2;go_ret;exact⟨none,0,rfl,by rw[HNIL.out];exact World.ownsRow_nil _ _ _ _,Below.refl _ _⟩
 | some ad=>
  have hown:(w.alloc (.cells #[] 146)).ownsRow w.heap.size 146 4 (.slice (some ⟨w.heap.size,0,none⟩) 0 0) 0 []:=World.ownsRow_made w #[] 0 (Nat.le_refl _) (by simp[maxLen]) rfl;go_enter Tryz.func84,Tryz.ntmps84;go_wp2_with (at_builtin;refine wpList_append2 _ rfl (.tmp 5) (.tmp 6) 97 rfl w.heap.size 146 i0 _ 4 32 Tryz.underlying97 hi'.out hz0'.out hz1'.out hz2'.out rfl (by decide) (.slice (some ⟨w.heap.size,0,none⟩) 0 0) 0 [] rfl ?_ _ n cap (encEnts es) rfl (by rw[encEnts_length,HN.out]) ?_ ?_ ?_ ?_ ?_ ?_;exact hown;exact hr.below ((Below.refl _ _).alloc (Nat.le_refl _) _);exact encEnts_one _;unfold maxLen;omega;omega;(simp);intro v1 w5 ho1 hg1 hq hm1;clear hq hm1);go_ret;obtain⟨a',cap',rfl⟩:=owned_shape ho1;rw[List.nil_append,Nat.zero_add] at ho1;refine⟨a',cap',by simp,ho1,((Below.refl _ _).alloc (Nat.le_refl _) _).grown hg1 (by simp) (fun j e=>?_)⟩;simp[Value.ownBlock] at e;omega
theorem cloneEnts_any(a:Option Addr)(n cap:Nat)(es:List Ent)(w:World)(hn:es.length=n)(hr:RowAt w a (encEnts es))(hc:n≤4398046511104) :
 Calls Tryz.prog 84 #[.slice a n cap] w fun e w'=>∃a' cap',e=.returned (.slice a' n cap')∧RowAt w' a' (encEnts es)∧n≤cap'∧Below w.heap.size w w':=
 (cloneEnts_own a n cap es w hn hr hc).mono fun _ _ ⟨a',cap',h1,h2,h3⟩=>⟨a',cap',h1,(RowAt.owned h2).1,(RowAt.owned h2).2.2.1,h3⟩
def entEq(e f:Ent):Bool:=decide (e=f)
theorem entEq_mk(e f:Ent):entEq e f=(e.slot==f.slot&&(e.frm==f.frm&&(e.heard==f.heard&&e.value==f.value))):=by
 obtain⟨a,b,c,d⟩:=e;obtain⟨a',b',c',d'⟩:=f;rw[Bool.eq_iff_iff];simp[entEq]
set_option maxRecDepth 100000 in
theorem run_ent_neq(W:World)(e f:Ent):(binOp .neq 146 e.v f.v).run Tryz.prog W=.ok (.bool (!entEq e f)) W:=by
 rw[entEq_mk];unfold Ent.v
 cases h1:(e.slot==f.slot)<;>cases h2:(e.frm==f.frm)<;>cases h3:(e.heard==f.heard)<;>cases h4:(e.value==f.value)
 all_goals go_simp
set_option maxRecDepth 100000 in
set_option maxHeartbeats 800000 in
theorem sameEnts_any(a a2:Option Addr)(n cap n2 cap2:Nat)(es fs:List Ent)(w:World)(hn:es.length=n)(hr:RowAt w a (encEnts es))(hn2:fs.length=n2)(hr2:RowAt w a2 (encEnts fs))(hc:n≤4611686018427387904) :
 Calls Tryz.prog 61 #[.slice a n cap,.slice a2 n2 cap2] w fun e w'=>e=.returned (.bool (decide (es=fs)))∧Below w.heap.size w w':=by
 by_cases hl:n=n2
 ·subst hl
  have hq:((n:Int) != (n:Int))=false:=by simp
  have HN:=Lib.hid hn;have HN2:=Lib.hid hn2;clear hn hn2;go_enter Tryz.func61,Tryz.ntmps61;go_wp2;go_loopw [5] (fun i wr=>∃k:Nat,k≤n∧i=.int .i64 k∧Hid (es.take k=fs.take k)∧Below w.heap.size w wr) (fun i _=>n-(intOf i).toNat)
  case atStart=>exact⟨0,Nat.zero_le _,rfl,rfl,Below.refl _ _⟩
  case round=>
   obtain⟨k,hk,rfl,HK,hb⟩:=hrel
   by_cases hlt:k<n
   ·have hk1:k<es.length:=by have:=HN.out;omega
    have hk2:k<fs.length:=by have:=HN2.out;omega
    obtain⟨b,off,rfl,hbl,c0,c1,c2,c3⟩:=(hr.below hb).ent k hk1;obtain⟨b',off',rfl,hbl',d0,d1,d2,d3⟩:=(hr2.below hb).ent k hk2;have ht1:=Lib.hid (List.take_succ_eq_append_getElem hk1);have ht2:=Lib.hid (List.take_succ_eq_append_getElem hk2);have hi0:(0:Int)≤(k:Int):=by omega
    have hi1:(k:Int)<(n:Int):=by omega
    by_cases he:es[k]=fs[k]
    ·have HS:Hid (es.take (k+1)=fs.take (k+1)):=by unfold Hid at HK ⊢;rw[ht1.out,ht2.out,HK,he]
     rw[←he] at d0 d1 d2 d3;clear ht1 ht2 he;generalize es[k]=e at *;go_wp2;go_quiet (fail);go_wp2;go_roundw
     case rel=>exact⟨k+1,by omega,by go_num,HS,below_drewN hb _⟩
     case measure=>simp[intOf];omega
    ·have HS:Hid (es≠fs):=by unfold Hid;intro e;subst e;exact he rfl
     have HE:=Lib.hid he;clear ht1 ht2 he;generalize es[k]=e at *;generalize fs[k]=f at *
     have hne:∀W:World,(binOp .neq 146 (.agg #[.int .i64 e.slot,.int .i64 e.frm,.bool e.heard,.int .i64 e.value]) (.agg #[.int .i64 f.slot,.int .i64 f.frm,.bool f.heard,.int .i64 f.value])).run Tryz.prog W=.ok (.bool true) W:=fun W=>by
      have h1:=run_ent_neq W e f;rw[show entEq e f=false from decide_eq_false HE.out] at h1;exact h1
     go_wp2;go_quiet (fail);go_wp2;go_ret;exact⟨ret_bool (by simp[HS.out]),below_drewN hb _⟩
   ·have HS:Hid (es=fs):=by
     unfold Hid at HK ⊢;have h1:=HN.out;have h2:=HN2.out
     rwa [List.take_of_length_le (by omega),List.take_of_length_le (by omega)] at HK
    go_wp2;go_ret;exact⟨ret_bool (by simp[HS.out]),hb⟩
 ·have hq:((n:Int) != (n2:Int))=true:=by simp;omega
  have HS:Hid (es≠fs):=by unfold Hid;intro e;subst e;omega
  clear hl;go_enter Tryz.func61,Tryz.ntmps61;go_wp2;go_ret;exact⟨ret_bool (by simp[HS.out]),Below.refl _ _⟩
theorem own2{w w1:World}{x y:Value}{t:TypeId}(hb:Below (w.alloc (.cells #[x,y] t)).heap.size (w.alloc (.cells #[x,y] t)) w1) :
 w1.cell? ⟨w.heap.size,0,none⟩=some x∧w1.cell? ⟨w.heap.size,1,none⟩=some y∧w1.frozen? ⟨w.heap.size,0,none⟩=false∧w1.frozen? ⟨w.heap.size,1,none⟩=false∧w.heap.size<w1.heap.size∧Below w.heap.size w w1:=
 ⟨(hb.cell (p:=⟨w.heap.size,0,none⟩) (by simp)).trans (by simp),(hb.cell (p:=⟨w.heap.size,1,none⟩) (by simp)).trans (by simp),
   (hb.frozen (p:=⟨w.heap.size,0,none⟩) (by simp)).trans (by simp),(hb.frozen (p:=⟨w.heap.size,1,none⟩) (by simp)).trans (by simp),
   by have:=hb.size;simp at this;omega,((Below.refl _ _).alloc (Nat.le_refl _) _).trans (hb.mono (by simp))⟩
theorem onto{w W w':World}(h:Below w.heap.size w W)(h2:Below W.heap.size W w'):Below w.heap.size w w':=h.trans (h2.mono h.size)
theorem past{w w1:World}{o:Obj}(hb:Below (w.alloc o).heap.size (w.alloc o) w1):Below w.heap.size w w1:=((Below.refl _ _).alloc (Nat.le_refl _) _).trans (hb.mono (by simp))
theorem keep2{w w1:World}{b:Nat}{x y:Value}(hb:Below w.heap.size w w1)(hlt:b<w.heap.size)(c0:w.cell? ⟨b,0,none⟩=some x)(c1:w.cell? ⟨b,1,none⟩=some y)
 (f0:w.frozen? ⟨b,0,none⟩=false) (f1:w.frozen? ⟨b,1,none⟩=false) :
 w1.cell? ⟨b,0,none⟩=some x∧w1.cell? ⟨b,1,none⟩=some y∧w1.frozen? ⟨b,0,none⟩=false∧w1.frozen? ⟨b,1,none⟩=false∧b<w1.heap.size:=
 ⟨(hb.cell (p:=⟨b,0,none⟩) hlt).trans c0,(hb.cell (p:=⟨b,1,none⟩) hlt).trans c1,(hb.frozen (p:=⟨b,0,none⟩) hlt).trans f0,(hb.frozen (p:=⟨b,1,none⟩) hlt).trans f1,Nat.lt_of_lt_of_le hlt hb.size⟩
theorem res2{w1:World}{b:Nat}{x0 y0:Value}(z1:b<w1.heap.size)(c0:w1.cell? ⟨b,0,none⟩=some x0)(c1:w1.cell? ⟨b,1,none⟩=some y0) :
 (∀x y o,(((w1.setCell ⟨b,0,none⟩ x).setCell ⟨b,1,none⟩ y).alloc o).cell? ⟨b,0,none⟩=some x)∧(∀x y o,(((w1.setCell ⟨b,0,none⟩ x).setCell ⟨b,1,none⟩ y).alloc o).cell? ⟨b,1,none⟩=some y):=by
 refine⟨fun x y o=>?_,fun x y o=>?_⟩
 ·rw[World.cell?_alloc_lt _ _ ⟨b,0,none⟩ (by simpa using z1)];go_simp
 ·rw[World.cell?_alloc_lt _ _ ⟨b,1,none⟩ (by simpa using z1)];go_simp
theorem bare_any(c:Int)(w:World):Calls Tryz.prog 118 #[.int .i64 c] w fun e w'=>e=.returned (.agg #[.int .i64 c,.int .i64 (-1)])∧Below w.heap.size w w':=by
 go_enter Tryz.func118,Tryz.ntmps118;go_wp2;exact bodyPost_ret (v:=.agg #[.int .i64 c,.int .i64 (-1)]) (by simp[results,Tryz.results118,go_sem]) rfl ⟨rfl,(Below.refl _ _).alloc (Nat.le_refl _) _⟩
theorem fine_any(w:World):Calls Tryz.prog 64 #[] w fun e w'=>e=.returned (.agg #[.int .i64 0,.int .i64 (-1)])∧Below w.heap.size w w':=by
 go_enter Tryz.func64,Tryz.ntmps64;go_wp2;exact bodyPost_ret (v:=.agg #[.int .i64 0,.int .i64 (-1)]) (by simp[results,Tryz.results64,go_sem]) rfl ⟨rfl,(Below.refl _ _).alloc (Nat.le_refl _) _⟩
theorem isNode_any(n:Int)(w:World):Calls Tryz.prog 119 #[.int .i64 n] w fun e w'=>e=.returned (.bool (nodeB n))∧w=w':=by
 go_enter Tryz.func119,Tryz.ntmps119;go_wp2
 all_goals(go_ret;exact⟨ret_bool (by simp[nodeB];try omega),rfl⟩)
end Go.Proofs.YtppfkokfnoeopaaGreatDoor
