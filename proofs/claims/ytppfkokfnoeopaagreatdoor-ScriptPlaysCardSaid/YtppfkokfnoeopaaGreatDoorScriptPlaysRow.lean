/- ScriptPlays: for every input the law returns true, and its arguments read as they did; the row, and the card that ties its listed variables. No condition. -/
import Derived.Test.YtppfkokfnoeopaaGreatDoorRows
import Derived.Test.YtppfkokfnoeopaaGreatDoorCards
import Derived.Test.YtppfkokfnoeopaaGreatDoorTie
import Derived.SevenTiedAt
import Derived.Lay
import Derived.Test.YtppfkokfnoeopaaGreatDoorSScrP
import Derived.Test.YtppfkokfnoeopaaGreatDoorSWrap
namespace Go.Proofs.YtppfkokfnoeopaaGreatDoor.lawScriptPlays
open Go.ChangeShapes Go.WideShapes Go.ChangeAt Go.WideMaps Go.WideElems Go.RowKit
theorem own:ownKnob Tryz.prog.godebug=none:=by kernel_rfl
noncomputable def plainL : List (String × DataW Unit) := [("math/bits.deBruijn32tab", Rows.laid_math_bits_deBruijn32tab), ("math/bits.deBruijn64tab", Rows.laid_math_bits_deBruijn64tab), ("internal/strconv.uint64pow10", Rows.laid_internal_strconv_uint64pow10), ("unicode/utf8.acceptRanges", Rows.laid_unicode_utf8_acceptRanges), ("bargelock/api.ErrText", Rows.laid_bargelock_api_ErrText), ("bargelock/api.ErrBound", Rows.laid_bargelock_api_ErrBound), ("bargelock/api.ErrShape", Rows.laid_bargelock_api_ErrShape), ("bargelock/api.ErrNode", Rows.laid_bargelock_api_ErrNode), ("bargelock/api.ErrNone", Rows.laid_bargelock_api_ErrNone), ("bargelock/api.ErrExist", Rows.laid_bargelock_api_ErrExist), ("bargelock/api.ErrFull", Rows.laid_bargelock_api_ErrFull), ("bargelock/api.ErrSum", Rows.laid_bargelock_api_ErrSum), ("bargelock/api.ErrLate", Rows.laid_bargelock_api_ErrLate), ("bargelock/api.ErrGap", Rows.laid_bargelock_api_ErrGap), ("bargelock/api.ErrOff", Rows.laid_bargelock_api_ErrOff), ("strconv.ErrRange", Rows.laid_strconv_ErrRange), ("strconv.ErrSyntax", Rows.laid_strconv_ErrSyntax), ("unicode/utf8.first", Rows.laid_unicode_utf8_first)]
noncomputable def doorW(os:Os):World:=(World.doorLaid Tryz.prog 288 os).layVars Tryz.prog plainL
theorem door_met(os:Os)(args:Array Value):laidMetH Tryz.prog Rows.scriptPlaysRow.laid ((doorW os).forCall (fun _ _=>0) ⟨#[],args,[]⟩).memory:=by
 refine laidMetH_of_parts3 (fuel:=8) ?_ (by kernel_rfl) (by kernel_rfl);have e0:(Rows.scriptPlaysRow.laid.filter fun x=>x.2.handleName?.isNone)=plainL:=by kernel_rfl
 rw[e0];have e1:(plainL.filter fun x=>(plainL.map (·.1)).contains x.1)=plainL:=List.filter_eq_self.2 fun x hx=>List.contains_iff_mem.2 (List.mem_map.2 ⟨x,hx,rfl⟩)
 have e2:(plainL.filter fun x=>!(plainL.map (·.1)).contains x.1)=[]:=List.filter_eq_nil_iff.2 fun x hx=>by rw[List.contains_iff_mem.2 (List.mem_map.2 ⟨x,hx,rfl⟩)];simp
 have h:laidMet Tryz.prog plainL (doorW os):=laidMet_layVars (w0:=World.doorLaid Tryz.prog 288 os) (plainL.map (·.1)) [] (by rw[e1];rfl) (by rw[e1];kernel_rfl) (by rw[e1];kernel_rfl) (by rw[e2];exact LaidIn.none);exact h.of_heap (by simp[World.memory,World.forCall,Input.heap])
theorem of_laid{W:World}(h:laidMetH Tryz.prog Rows.scriptPlaysRow.laid W):(∃ea,E6 W ea∧Kd Dl ea W)∧(W.ShapedOpen Tryz.prog→Bf W):=by
 have h' : laidMet Tryz.prog [("math/bits.deBruijn32tab", Rows.laid_math_bits_deBruijn32tab), ("math/bits.deBruijn64tab", Rows.laid_math_bits_deBruijn64tab), ("internal/strconv.uint64pow10", Rows.laid_internal_strconv_uint64pow10), ("unicode/utf8.acceptRanges", Rows.laid_unicode_utf8_acceptRanges), ("bargelock/api.ErrText", Rows.laid_bargelock_api_ErrText), ("bargelock/api.ErrBound", Rows.laid_bargelock_api_ErrBound), ("bargelock/api.ErrShape", Rows.laid_bargelock_api_ErrShape), ("bargelock/api.ErrNode", Rows.laid_bargelock_api_ErrNode), ("bargelock/api.ErrNone", Rows.laid_bargelock_api_ErrNone), ("bargelock/api.ErrExist", Rows.laid_bargelock_api_ErrExist), ("bargelock/api.ErrFull", Rows.laid_bargelock_api_ErrFull), ("bargelock/api.ErrSum", Rows.laid_bargelock_api_ErrSum), ("bargelock/api.ErrLate", Rows.laid_bargelock_api_ErrLate), ("bargelock/api.ErrGap", Rows.laid_bargelock_api_ErrGap), ("bargelock/api.ErrOff", Rows.laid_bargelock_api_ErrOff), ("strconv.ErrRange", Rows.laid_strconv_ErrRange), ("strconv.ErrSyntax", Rows.laid_strconv_ErrSyntax), ("unicode/utf8.first", Rows.laid_unicode_utf8_first)] W ∧ handlesMet Tryz.prog [("errors.errorType", Rows.laid_errors_errorType)] W := h;have hE:=Zw h'.2;have h:=h'.1;have h:=h.tail;have h:=h.tail;have hT:=zDh h;have h:=h.tail;have h:=h.tail;obtain⟨a0,l0,c0,b0,s0⟩:=Ej (g:=1) (by kernel_rfl) (by kernel_rfl) h;have h:=h.tail;obtain⟨a1,l1,c1,b1,s1⟩:=Ej (g:=0) (by kernel_rfl) (by kernel_rfl) h;have h:=h.tail;obtain⟨a2,l2,c2,b2,s2⟩:=Ej (g:=2) (by kernel_rfl) (by kernel_rfl) h;have h:=h.tail;obtain⟨a3,l3,c3,b3,s3⟩:=Ej (g:=4) (by kernel_rfl) (by kernel_rfl) h;have h:=h.tail;obtain⟨a4,l4,c4,b4,s4⟩:=Ej (g:=5) (by kernel_rfl) (by kernel_rfl) h;have h:=h.tail;obtain⟨a5,l5,c5,b5,s5⟩:=Ej (g:=6) (by kernel_rfl) (by kernel_rfl) h;have h:=h.tail;obtain⟨a6,l6,c6,b6,s6⟩:=Ej (g:=3) (by kernel_rfl) (by kernel_rfl) h;have h:=h.tail;obtain⟨a7,l7,c7,b7,s7⟩:=Ej (g:=7) (by kernel_rfl) (by kernel_rfl) h;have h:=h.tail;obtain⟨a8,l8,c8,b8,s8⟩:=Ej (g:=8) (by kernel_rfl) (by kernel_rfl) h;have h:=h.tail;obtain⟨a9,l9,c9,b9,s9⟩:=Ej (g:=9) (by kernel_rfl) (by kernel_rfl) h;have h:=h.tail;obtain⟨a10,l10,c10,b10,s10⟩:=Ej (g:=10) (by kernel_rfl) (by kernel_rfl) h;have h:=h.tail;obtain⟨ar,lr,cr⟩:=M3 (g:=17) (by kernel_rfl) (by kernel_rfl) h;have h:=h.tail;obtain⟨ay,ly,cy⟩:=M3 (g:=16) (by kernel_rfl) (by kernel_rfl) h;refine⟨?_,fun hsh=>zEg hT ⟨_,_,ly,cy⟩ ⟨_,_,lr,cr⟩ hsh⟩;refine⟨fun k=>if k=1 then a0 else if k=2 then a1 else if k=3 then a2 else if k=4 then a3 else if k=5 then a4 else if k=6 then a5 else if k=7 then a6 else if k=8 then a7 else if k=9 then a8 else if k=10 then a9 else if k=11 then a10 else a0,zF5 hE (fun k hk=>?_)⟩;simp only[List.mem_cons,List.not_mem_nil,or_false] at hk
 rcases hk with rfl|rfl|rfl|rfl|rfl|rfl|rfl|rfl|rfl|rfl|rfl
 ·exact⟨l0,by simpa[gOf] using c0,by simpa using b0,by simpa[Dl] using s0⟩
 ·exact⟨l1,by simpa[gOf] using c1,by simpa using b1,by simpa[Dl] using s1⟩
 ·exact⟨l2,by simpa[gOf] using c2,by simpa using b2,by simpa[Dl] using s2⟩
 ·exact⟨l3,by simpa[gOf] using c3,by simpa using b3,by simpa[Dl] using s3⟩
 ·exact⟨l4,by simpa[gOf] using c4,by simpa using b4,by simpa[Dl] using s4⟩
 ·exact⟨l5,by simpa[gOf] using c5,by simpa using b5,by simpa[Dl] using s5⟩
 ·exact⟨l6,by simpa[gOf] using c6,by simpa using b6,by simpa[Dl] using s6⟩
 ·exact⟨l7,by simpa[gOf] using c7,by simpa using b7,by simpa[Dl] using s7⟩
 ·exact⟨l8,by simpa[gOf] using c8,by simpa using b8,by simpa[Dl] using s8⟩
 ·exact⟨l9,by simpa[gOf] using c9,by simpa using b9,by simpa[Dl] using s9⟩
 ·exact⟨l10,by simpa[gOf] using c10,by simpa using b10,by simpa[Dl] using s10⟩
set_option maxRecDepth 100000 in
theorem lifted(os:Os)(started:os.Started)(H:Type)(enc:TypeId×Value→H) :
 ReturnsInHanded {} Tryz.checked os 5 .any (fun w args=>(Rows.scriptPlaysSpec.pre enc Tryz.prog Tryz.f5 [] false w args∧laidMetH Tryz.prog Rows.scriptPlaysRow.laid w)∧sizedMet enc Tryz.prog Tryz.f5 (OpenSpec.ofChange Rows.scriptPlaysSpec) false w args)
  (Rows.scriptPlaysSpec.post enc Tryz.prog Tryz.f5 false true false false):=by
 refine Tt (C:=Tryz.checked) (X:=fun w _=>laidMetH Tryz.prog Rows.scriptPlaysRow.laid w) (fun _ _ _ hh h=>h.of_heap hh) own started (by kernel_rfl) Tryz.func5
  (ChangeSpec.witness_shaped (enc:=enc) (C:=Tryz.checked) (os:=os) (X:=fun w _=>laidMetH Tryz.prog Rows.scriptPlaysRow.laid w) false (doorW os) #[.slice none 0 0] 8 ((World.layVars_os _ _ _).trans rfl) (World.shaped_of_ZipB (by kernel_rfl) (by kernel_rfl)) (by kernel_rfl) (by kernel_rfl) (by kernel_rfl) (door_met os _)) ?_
 intro W base args ds gs before hval0 hW hsz hL hsh;have hval:∀(j:Nat) t v,Tryz.f5.params[j]?=some t→args[j]?=some v→Value.okWide Tryz.prog W .any base t v:=hval0
 have hW':=hW;obtain⟨p,q,hA0,hV,rfl,hfz,hnd⟩:=hW;have hA:DataW.TrodAll enc Tryz.prog W 0 (fun _=>true) true Tryz.f5.params.toList args.toList ds p:=hA0;rw[Tryz.params5] at hA hval;obtain⟨v0,vs0,d0,ds0,p0,q0,hargs,rfl,rfl,h0,r0⟩:=trodAll_cons hA;obtain⟨rfl,rfl,rfl⟩:=trodAll_nil r0;obtain rfl:args=#[v0]:=by cases args;simp_all
 obtain⟨rfl,rfl⟩:=trodVars_none hV;have hAll:=hA;obtain⟨a0,n0,c0,rfl⟩:=okWide_slice Tryz.underlying22 (hval 0 22 v0 rfl rfl);obtain⟨fu0,hf0⟩:=h0;obtain⟨l0,hn0,hr0,hc0,hm0,hwf0,hd0⟩:=Yh Tryz.underlying22 hf0
 have hb0:n0≤4611686018427387904:=by
  rcases hd0 with⟨_,e⟩|⟨el,sp,e1,e2⟩
  ·omega
  ·have e1':d0=.slice el sp:=e1
   have:=sized_slice hsz (j:=0) (t:=22) rfl (by rw[e1'];rfl) Tryz.underlying22;have hby:Tryz.prog.bytesOf 9=16:=by kernel_rfl
   have hz:(el.length+sp.length)*16≤reachBytes:=by rw[←hby];exact this
   have:=reachBytes_lt;omega
 obtain⟨⟨ea,hg⟩,hT⟩:=of_laid hL;have hT:=hT hsh;refine(Po ea a0 n0 c0 l0 W hg hT hn0 hr0 hc0 hb0).mono fun e W' ⟨he,hb⟩=>?_
 subst he;exact⟨_,rfl,zGa (s:=Rows.scriptPlaysSpec) rfl rfl rfl (by as_aux_lemma=>kernel_rfl) hW' hb⟩
theorem and_t{a b:Bool}(ha:a=true)(hb:b=true):(a&&b)=true:=by rw[ha,hb];rfl
set_option maxHeartbeats 40000000 in
theorem closedF:joinedFacts Tryz.prog 5 Tryz.f5 Rows.scriptPlaysSpec Rows.scriptPlaysRow=true:=by
 unfold joinedFacts
 repeat' with_reducible refine and_t ?_ ?_
 all_goals as_aux_lemma=>kernel_rfl
theorem holds:Rows.ScriptPlaysSaid:=
 OpenClaim.holds_of_wide 5 Tryz.f5 rfl rfl rfl rfl rfl rfl rfl ⟨rfl,rfl,rfl,rfl,rfl⟩ rfl rfl rfl rfl rfl (by as_aux_lemma=>kernel_rfl) Tryz.func5 closedF
  (of_decide_eq_true (by kernel_rfl)) (by unfold Func.isWrapper;rw[if_neg (of_decide_eq_false (by kernel_rfl))];exact⟨rfl,rfl⟩)
  (fun os started H enc _=>lifted os started H enc)
theorem proved:Rows.ScriptPlaysCardSaid:=
 Claim7.holds_tied_plain_at .later [] _ _ _ _
  holds (fun _ h=>by cases h) (by as_aux_lemma=>kernel_rfl) (fun _ h=>by cases h) scriptPlays_row_tie rfl ⟨rfl,rfl⟩ (by as_aux_lemma=>kernel_rfl) rfl
  (fun f fn hf hfn=>by
   obtain rfl : f = 5 := Option.some.inj ((show Tryz.prog.funcNamed "bargelock/bargelocklaw4.ScriptPlays" = some 5 by as_aux_lemma => kernel_rfl).symm.trans hf) |>.symm
   obtain rfl:fn=Tryz.f5:=(Option.some.inj (Tryz.func5.symm.trans hfn)).symm
   exact⟨by as_aux_lemma=>kernel_rfl,fun j t ht=>by
    rw[Tryz.params5] at ht;have hm:t∈[22]:=by simpa using Array.mem_of_getElem? ht
    have hall:([22].all fun u=>!Tryz.prog.wantsStandIn u)=true:=by as_aux_lemma=>kernel_rfl
    exact(show Tryz.prog.wantsStandIn t=false by simpa using List.all_eq_true.1 hall t hm)⟩)
  (by as_aux_lemma=>kernel_rfl)
#print axioms proved
end Go.Proofs.YtppfkokfnoeopaaGreatDoor.lawScriptPlays
