/- A part of a proof. -/
import Derived.Handed
import Derived.Shelf.Vars
import Derived.Lib.LaidTab
import Derived.Test.YtppfkokfnoeopaaGreatDoorRows
import Derived.Test.YtppfkokfnoeopaaGreatDoorSLaid
import Derived.Test.YtppfkokfnoeopaaGreatDoorSTxt
set_option maxRecDepth 400000
set_option maxHeartbeats 6400000
namespace Go.Proofs.YtppfkokfnoeopaaGreatDoor
open Go.RowKit Go.Proofs.Tryz
section
variable {H:Type} {enc:TypeId×Value→H}
theorem Tt{a:Assume}{C:Checked}{os:Os}{f:FuncId}{fn:Func}{s:ChangeSpec}{conds:List PathCond}{apart fresh handsOn again:Bool}{X:World→Array Value→Prop}
 (hX:∀(w w':World) (args:Array Value),w.heap=w'.heap→X w args→X w' args) (own:ownKnob C.prog.godebug=none) (started:os.Started) (noInit:C.prog.inits.idxOf? f=none) (hfn:C.prog.funcs[f]?=some fn)
 (witness:∃(w:World) (tape:Tape) (i:Input),w.os=os∧(w.forCall tape i).Shaped C.prog∧i.vars=[]∧Input.okWide C.prog (w.forCall tape i) .any w.heap.size f i ∧
  ((s.pre enc C.prog fn conds apart (w.forCall tape i).memory i.args∧X (w.forCall tape i).memory i.args)∧sizedMet enc C.prog fn (OpenSpec.ofChange s) apart (w.forCall tape i).memory i.args)∧a.holds C.prog (lone (Frame.enter C.prog f i.args .normal) [] (w.forCall tape i)))
 (walk:∀(W:World) (base:Nat) (args:Array Value) (ds gs:List (DataW H)) (before:List MemPlace),
  (∀(j:Nat) t v,fn.params[j]?=some t→args[j]?=some v→Value.okWide C.prog W .any base t v)→DataW.Whole enc C.prog fn.params.toList s.vars apart W args.toList ds gs before→
  (DataW.weightsEach C.prog (fn.params.toList++s.plain.varTypes C.prog) (ds++gs)).all (·≤reachBytes)=true→X W args→W.ShapedOpen C.prog→
  Calls C.prog f args W fun e W'=>∃v,e=.returned v∧s.post enc C.prog fn apart fresh handsOn again W args v W') :
 ReturnsInHanded a C os f .any (fun w args=>(s.pre enc C.prog fn conds apart w args∧X w args)∧sizedMet enc C.prog fn (OpenSpec.ofChange s) apart w args) (s.post enc C.prog fn apart fresh handsOn again):=by
 refine returnsInHanded_of_calls own started noInit witness fun w tape i _ hsh _ hok hpre _=>?_
 obtain⟨_,_,_,fn',hfn',_,_,_,_,hval⟩:=hok;obtain rfl:fn'=fn:=Option.some.inj (hfn'.symm.trans hfn);obtain⟨⟨⟨ds,gs,before,hw,_⟩,hx⟩,hz⟩:=hpre;have hw':=DataW.Whole.of_heap (w':=w.forCall tape i) (by rfl) hw;refine(walk (w.forCall tape i) w.heap.size i.args ds gs before hval hw' (hz.weights hw) (hX _ _ _ (by rfl) hx) hsh).mono fun e W' h=>?_
 obtain⟨v,rfl,hp⟩:=h;exact ChangeSpec.post_blind hp
end
theorem X9{W:World}(h:W.ShapedOpen prog):∃m,12<W.heap.size∧W.cell? ⟨12,0,none⟩=some (.int .i64 m):=by
 obtain⟨m,hm⟩:=cell_of_shapedOpen_int (g:=12) h (of_decide_eq_true (by kernel_rfl)) (t:=3) (zero:=#[.int .i64 0]) (by kernel_rfl) rfl (by kernel_rfl) (by kernel_rfl) underlying3;exact⟨m,World.block_lt_of_cell? W ⟨12,0,none⟩ hm,hm⟩
theorem zDh {W : World} {r : List (String × DataW Unit)} (h : laidMet prog (("internal/strconv.uint64pow10", Rows.laid_internal_strconv_uint64pow10) :: r) W) : Lib.TabIs prog W "internal/strconv.uint64pow10" .u64 Lib.pow10Tab :=
 Lib.tabIs_of_head (g := 13) (t := 298) (e := 270) (n := 20) (by kernel_rfl) (by kernel_rfl) underlying298 underlying270 (by kernel_rfl) (by kernel_rfl) (show laidMet prog (("internal/strconv.uint64pow10", Lib.tabData .u64 Lib.pow10Tab) :: r) W from h)
theorem zEg {W : World} (ht : Lib.TabIs prog W "internal/strconv.uint64pow10" .u64 Lib.pow10Tab)
 (hs:∃t p,16<W.heap.size∧W.cell? ⟨16,0,none⟩=some (.iface t p)) (hr:∃t p,17<W.heap.size∧W.cell? ⟨17,0,none⟩=some (.iface t p)) (hsh:W.ShapedOpen prog):Bf W:=
 ⟨ht,hs,hr,X9 hsh⟩
end Go.Proofs.YtppfkokfnoeopaaGreatDoor
