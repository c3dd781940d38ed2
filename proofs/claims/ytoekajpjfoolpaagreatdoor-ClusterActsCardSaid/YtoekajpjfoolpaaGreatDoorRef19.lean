/- the stages of a region that calls StepOf and boxes its three results. -/
import Derived.Test.YtoekajpjfoolpaaGreatDoorRefEnd
import Derived.Test.YtoekajpjfoolpaaGreatDoorAnyInv
import Derived.BigQuiet
import Derived.Deep.QuietTactic
import Derived.Test.YtoekajpjfoolpaaGreatDoorFoldPlain
namespace Go.Proofs.YtoekajpjfoolpaaGreatDoor
open Go.RowKit

/-- A box that a region makes: its block, made behind W0; what it holds when it is done. -/
def Bx (W0 w : World) (v : Value) (t : TypeId) (n : Nat) (done : Bool) (val : Array Value) : Prop := ∃ b cs, v = .pointer (some ⟨b, 0, none⟩) ∧ W0.heap.size ≤ b ∧ Blok w b t cs ∧ cs.size = n ∧ (done = true → cs = val)
theorem Bx.below {W0 w w' : World} {v : Value} {t : TypeId} {n : Nat} {d : Bool} {val : Array Value} (h : Bx W0 w v t n d val) (hb : Below w.heap.size w w') : Bx W0 w' v t n d val := by
  obtain ⟨b, cs, h1, h2, h3, h4⟩ := h
  exact ⟨b, cs, h1, h2, h3.kept hb, h4⟩
theorem Bx.fr {W0 w w' : World} {v : Value} {t t' : TypeId} {n b' : Nat} {d : Bool} {val cs' : Array Value} (h : Bx W0 w v t n d val) (hf : Fr (fun j => j = b') w w') (hb : Blok w b' t' cs') (ht : t ≠ t') : Bx W0 w' v t n d val := by
  obtain ⟨b, cs, h1, h2, h3, h4⟩ := h
  refine ⟨b, cs, h1, h2, (hf.block b h3.lt (fun e => ?_)).trans h3, h4⟩
  subst e
  have hb' : some (Obj.cells cs t (0, 0)) = some (Obj.cells cs' t' (0, 0)) := (show w.heap[b]? = _ from h3).symm.trans (show w.heap[b]? = _ from hb)
  injection hb' with hb'; injection hb' with _ e; exact ht e
theorem Bx.new {W0 w : World} (t : TypeId) (cs : Array Value) {n : Nat} {d : Bool} {val : Array Value} (hb : W0.heap.size ≤ w.heap.size) (hn : cs.size = n) (hd : d = false) : Bx W0 (w.alloc (.cells cs t)) (.pointer (some ⟨w.heap.size, 0, none⟩)) t n d val :=
  ⟨_, cs, rfl, hb, Blok.new w t cs, hn, fun h => by rw [hd] at h; cases h⟩
theorem Bx.done {W0 w : World} {v : Value} {t : TypeId} {n : Nat} {d d' : Bool} {val : Array Value} (h : Bx W0 w v t n d val) (hd : d' = d) : Bx W0 w v t n d' val := by subst hd; exact h
/-- The stages: the call, its three results, their three boxes. -/
structure J19 (W0 : World) (T xv xe xf : Value) (Va Ea Fa : Array Value) (up : Nat → Bool) (u : Nat → Value) (w : World) : Prop where
  low : Below W0.heap.size W0 w
  call : up 13 = true → u 133 = T
  mv : up 14 = true → u 119 = T
  x0 : up 15 = true → u 134 = xv
  x1 : up 16 = true → u 135 = xe
  x2 : up 17 = true → u 136 = xf
  a0 : up 18 = true → Bx W0 w (u 14) 84 3 (up 21) Va
  a1 : up 19 = true → Bx W0 w (u 15) 91 4 (up 22) Ea
  a2 : up 20 = true → Bx W0 w (u 16) 33 2 (up 23) Fa
  o0 : up 21 = true → up 18 = true
  o1 : up 22 = true → up 19 = true
  o2 : up 23 = true → up 20 = true
section
variable {W0 : World} {T xv xe xf : Value} {Va Ea Fa : Array Value} {up : Nat → Bool} {u : Nat → Value} {w w' : World}
theorem upB_ne {up : Nat → Bool} {i j : Nat} (h : j ≠ i) : upB up i j = up j := if_neg h
theorem upB_same {up : Nat → Bool} {i : Nat} : upB up i i = true := if_pos rfl
theorem J19.s13 (h : J19 W0 T xv xe xf Va Ea Fa up u w) (hb : Below w.heap.size w w') : J19 W0 T xv xe xf Va Ea Fa (upB up 13) (upd u 133 T) w' :=
  ⟨h.low.trans (hb.mono h.low.size), fun _ => upd_same _ _ _, fun q => h.mv q, fun q => h.x0 q, fun q => h.x1 q, fun q => h.x2 q, fun q => (h.a0 q).below hb, fun q => (h.a1 q).below hb, fun q => (h.a2 q).below hb, h.o0, h.o1, h.o2⟩
theorem J19.s14 (h : J19 W0 T xv xe xf Va Ea Fa up u w) (h13 : up 13 = true) : J19 W0 T xv xe xf Va Ea Fa (upB up 14) (upd u 119 (u 133)) w :=
  ⟨h.low, h.call, fun _ => (upd_same _ _ _).trans (h.call h13), h.x0, h.x1, h.x2, h.a0, h.a1, h.a2, h.o0, h.o1, h.o2⟩
theorem J19.s15 (h : J19 W0 T xv xe xf Va Ea Fa up u w) : J19 W0 T xv xe xf Va Ea Fa (upB up 15) (upd u 134 xv) w :=
  ⟨h.low, h.call, h.mv, fun _ => upd_same _ _ _, h.x1, h.x2, h.a0, h.a1, h.a2, h.o0, h.o1, h.o2⟩
theorem J19.s16 (h : J19 W0 T xv xe xf Va Ea Fa up u w) : J19 W0 T xv xe xf Va Ea Fa (upB up 16) (upd u 135 xe) w :=
  ⟨h.low, h.call, h.mv, h.x0, fun _ => upd_same _ _ _, h.x2, h.a0, h.a1, h.a2, h.o0, h.o1, h.o2⟩
theorem J19.s17 (h : J19 W0 T xv xe xf Va Ea Fa up u w) : J19 W0 T xv xe xf Va Ea Fa (upB up 17) (upd u 136 xf) w :=
  ⟨h.low, h.call, h.mv, h.x0, h.x1, fun _ => upd_same _ _ _, h.a0, h.a1, h.a2, h.o0, h.o1, h.o2⟩
theorem notyet {p q : Bool} (h : q = true → p = true) (hp : p = false) : q = false := by
  cases q
  · rfl
  · rw [h rfl] at hp; cases hp
theorem J19.s18 (h : J19 W0 T xv xe xf Va Ea Fa up u w) (hun : up 18 = false) (cs : Array Value) (hn : cs.size = 3) : J19 W0 T xv xe xf Va Ea Fa (upB up 18) (upd u 14 (.pointer (some ⟨w.heap.size, 0, none⟩))) (w.alloc (.cells cs 84)) := by
  have hb : Below w.heap.size w (w.alloc (.cells cs 84)) := (Below.refl _ _).alloc (Nat.le_refl _) _
  exact ⟨h.low.trans (hb.mono h.low.size), h.call, h.mv, h.x0, h.x1, h.x2, fun _ => by rw [upd_same]; exact Bx.new _ cs h.low.size hn (notyet h.o0 hun), fun q => (h.a1 q).below hb, fun q => (h.a2 q).below hb, fun _ => upB_same, h.o1, h.o2⟩
theorem J19.s19 (h : J19 W0 T xv xe xf Va Ea Fa up u w) (hun : up 19 = false) (cs : Array Value) (hn : cs.size = 4) : J19 W0 T xv xe xf Va Ea Fa (upB up 19) (upd u 15 (.pointer (some ⟨w.heap.size, 0, none⟩))) (w.alloc (.cells cs 91)) := by
  have hb : Below w.heap.size w (w.alloc (.cells cs 91)) := (Below.refl _ _).alloc (Nat.le_refl _) _
  exact ⟨h.low.trans (hb.mono h.low.size), h.call, h.mv, h.x0, h.x1, h.x2, fun q => (h.a0 q).below hb, fun _ => by rw [upd_same]; exact Bx.new _ cs h.low.size hn (notyet h.o1 hun), fun q => (h.a2 q).below hb, h.o0, fun _ => upB_same, h.o2⟩
theorem J19.s20 (h : J19 W0 T xv xe xf Va Ea Fa up u w) (hun : up 20 = false) (cs : Array Value) (hn : cs.size = 2) : J19 W0 T xv xe xf Va Ea Fa (upB up 20) (upd u 16 (.pointer (some ⟨w.heap.size, 0, none⟩))) (w.alloc (.cells cs 33)) := by
  have hb : Below w.heap.size w (w.alloc (.cells cs 33)) := (Below.refl _ _).alloc (Nat.le_refl _) _
  exact ⟨h.low.trans (hb.mono h.low.size), h.call, h.mv, h.x0, h.x1, h.x2, fun q => (h.a0 q).below hb, fun q => (h.a1 q).below hb, fun _ => by rw [upd_same]; exact Bx.new _ cs h.low.size hn (notyet h.o2 hun), h.o0, h.o1, fun _ => upB_same⟩
theorem J19.s21 {b : Nat} (h : J19 W0 T xv xe xf Va Ea Fa up u w) (h18 : up 18 = true) (hu : u 14 = .pointer (some ⟨b, 0, none⟩)) (hf : Fr (fun j => j = b) w w') (hw : Blok w' b 84 Va) (hn : Va.size = 3) : J19 W0 T xv xe xf Va Ea Fa (upB up 21) u w' := by
  obtain ⟨b', cs, e, hb, hB, _, _⟩ := h.a0 h18
  rw [hu] at e
  obtain rfl : b = b' := by injection e with e; injection e with e; injection e
  exact ⟨h.low.trans (hf.below (B := W0.heap.size) h.low.size (fun j e => by omega)), h.call, h.mv, h.x0, h.x1, h.x2, fun _ => ⟨b, Va, hu, hb, hw, hn, fun _ => rfl⟩, fun q => (h.a1 q).fr hf hB (by decide), fun q => (h.a2 q).fr hf hB (by decide), fun _ => h18, h.o1, h.o2⟩
theorem J19.s22 {b : Nat} (h : J19 W0 T xv xe xf Va Ea Fa up u w) (h19 : up 19 = true) (hu : u 15 = .pointer (some ⟨b, 0, none⟩)) (hf : Fr (fun j => j = b) w w') (hw : Blok w' b 91 Ea) (hn : Ea.size = 4) : J19 W0 T xv xe xf Va Ea Fa (upB up 22) u w' := by
  obtain ⟨b', cs, e, hb, hB, _, _⟩ := h.a1 h19
  rw [hu] at e
  obtain rfl : b = b' := by injection e with e; injection e with e; injection e
  exact ⟨h.low.trans (hf.below (B := W0.heap.size) h.low.size (fun j e => by omega)), h.call, h.mv, h.x0, h.x1, h.x2, fun q => (h.a0 q).fr hf hB (by decide), fun _ => ⟨b, Ea, hu, hb, hw, hn, fun _ => rfl⟩, fun q => (h.a2 q).fr hf hB (by decide), h.o0, fun _ => h19, h.o2⟩
theorem J19.s23 {b : Nat} (h : J19 W0 T xv xe xf Va Ea Fa up u w) (h20 : up 20 = true) (hu : u 16 = .pointer (some ⟨b, 0, none⟩)) (hf : Fr (fun j => j = b) w w') (hw : Blok w' b 33 Fa) (hn : Fa.size = 2) : J19 W0 T xv xe xf Va Ea Fa (upB up 23) u w' := by
  obtain ⟨b', cs, e, hb, hB, _, _⟩ := h.a2 h20
  rw [hu] at e
  obtain rfl : b = b' := by injection e with e; injection e with e; injection e
  exact ⟨h.low.trans (hf.below (B := W0.heap.size) h.low.size (fun j e => by omega)), h.call, h.mv, h.x0, h.x1, h.x2, fun q => (h.a0 q).fr hf hB (by decide), fun q => (h.a1 q).fr hf hB (by decide), fun _ => ⟨b, Fa, hu, hb, hw, hn, fun _ => rfl⟩, h.o0, h.o1, fun _ => h20⟩
theorem J19.fin0 (h : J19 W0 T xv xe xf Va Ea Fa up u w) (h18 : up 18 = true) (h21 : up 21 = true) : ∃ b : Nat, u 14 = .pointer (some ⟨b, 0, none⟩) ∧ W0.heap.size ≤ b ∧ Blok w b 84 Va := by
  obtain ⟨b, cs, h1, h2, h3, _, h5⟩ := h.a0 h18
  rw [h5 h21] at h3
  exact ⟨b, h1, h2, h3⟩
theorem J19.fin1 (h : J19 W0 T xv xe xf Va Ea Fa up u w) (h19 : up 19 = true) (h22 : up 22 = true) : ∃ b : Nat, u 15 = .pointer (some ⟨b, 0, none⟩) ∧ W0.heap.size ≤ b ∧ Blok w b 91 Ea := by
  obtain ⟨b, cs, h1, h2, h3, _, h5⟩ := h.a1 h19
  rw [h5 h22] at h3
  exact ⟨b, h1, h2, h3⟩
end
def op19_0 : Oper := { dst := some 120, op := Op.move (Operand.tmp 0), type := 31, pos := "yards.go:148", after := #[], guard := none }
def op19_1 : Oper := { dst := some 121, op := Op.nilCheck (Operand.tmp 120), type := 0, pos := "yards.go:148", after := #[{ on := 0, ground := Ground.data }], guard := none }
def op19_2 : Oper := { dst := some 122, op := Op.fieldAddr 111 (Operand.tmp 121) 0, type := 0, pos := "yards.go:148", after := #[{ on := 1, ground := Ground.data }], guard := none }
def op19_3 : Oper := { dst := some 123, op := Op.load 22 (Operand.tmp 122), type := 22, pos := "yards.go:148", after := #[{ on := 2, ground := Ground.data }], guard := none }
def op19_4 : Oper := { dst := some 124, op := Op.move (Operand.tmp 0), type := 31, pos := "yards.go:148", after := #[], guard := none }
def op19_5 : Oper := { dst := some 125, op := Op.nilCheck (Operand.tmp 124), type := 0, pos := "yards.go:148", after := #[{ on := 4, ground := Ground.data }], guard := none }
def op19_6 : Oper := { dst := some 126, op := Op.fieldAddr 111 (Operand.tmp 125) 4, type := 0, pos := "yards.go:148", after := #[{ on := 5, ground := Ground.data }], guard := none }
def op19_7 : Oper := { dst := some 127, op := Op.load 109 (Operand.tmp 126), type := 109, pos := "yards.go:148", after := #[{ on := 6, ground := Ground.data }], guard := none }
def op19_8 : Oper := { dst := some 128, op := Op.move (Operand.tmp 11), type := 3, pos := "yards.go:148", after := #[], guard := none }
def op19_9 : Oper := { dst := some 129, op := Op.indexAddr 109 (Operand.tmp 127) (Operand.tmp 128), type := 0, pos := "yards.go:148", after := #[{ on := 7, ground := Ground.data }, { on := 8, ground := Ground.data }], guard := none }
def op19_10 : Oper := { dst := some 130, op := Op.fieldAddr 114 (Operand.tmp 129) 3, type := 0, pos := "yards.go:148", after := #[{ on := 9, ground := Ground.data }], guard := none }
def op19_11 : Oper := { dst := some 131, op := Op.load 84 (Operand.tmp 130), type := 84, pos := "yards.go:148", after := #[{ on := 10, ground := Ground.data }], guard := none }
def op19_12 : Oper := { dst := some 132, op := Op.move (Operand.tmp 12), type := 9, pos := "yards.go:148", after := #[], guard := none }
def op19_13 : Oper := { dst := some 133, op := Op.call { callee := Callee.value (Operand.func 120), args := #[Operand.tmp 123, Operand.tmp 131, Operand.tmp 132], argTypes := #[22, 84, 9] }, type := 190, pos := "yards.go:148", after := #[{ on := 3, ground := Ground.data }, { on := 11, ground := Ground.data }, { on := 12, ground := Ground.data }], guard := none }
def op19_14 : Oper := { dst := some 119, op := Op.move (Operand.tmp 133), type := 190, pos := "yards.go:148", after := #[{ on := 13, ground := Ground.data }], guard := none }
def op19_15 : Oper := { dst := some 134, op := Op.extract (Operand.tmp 119) 0, type := 84, pos := "yards.go:148", after := #[{ on := 14, ground := Ground.data }], guard := none }
def op19_16 : Oper := { dst := some 135, op := Op.extract (Operand.tmp 119) 1, type := 91, pos := "yards.go:148", after := #[{ on := 14, ground := Ground.data }, { on := 21, ground := Ground.gcOnly Departure.lateStores }], guard := none }
def op19_17 : Oper := { dst := some 136, op := Op.extract (Operand.tmp 119) 2, type := 33, pos := "yards.go:148", after := #[{ on := 14, ground := Ground.data }, { on := 22, ground := Ground.gcOnly Departure.lateStores }], guard := none }
def op19_18 : Oper := { dst := some 14, op := Op.alloc 84, type := 0, pos := "yards.go:148", after := #[], guard := none }
def op19_19 : Oper := { dst := some 15, op := Op.alloc 91, type := 0, pos := "yards.go:148", after := #[], guard := none }
def op19_20 : Oper := { dst := some 16, op := Op.alloc 33, type := 0, pos := "yards.go:148", after := #[], guard := none }
def op19_21 : Oper := { dst := none, op := Op.store 84 (Operand.tmp 14) (Operand.tmp 134), type := 0, pos := "yards.go:148", after := #[{ on := 18, ground := Ground.data }, { on := 15, ground := Ground.data }, { on := 13, ground := Ground.chain }, { on := 0, ground := Ground.phase }, { on := 1, ground := Ground.phase }, { on := 2, ground := Ground.phase }, { on := 3, ground := Ground.phase }, { on := 4, ground := Ground.phase }, { on := 5, ground := Ground.phase }, { on := 6, ground := Ground.phase }, { on := 7, ground := Ground.phase }, { on := 8, ground := Ground.phase }, { on := 9, ground := Ground.phase }, { on := 10, ground := Ground.phase }, { on := 11, ground := Ground.phase }, { on := 12, ground := Ground.phase }, { on := 13, ground := Ground.phase }, { on := 14, ground := Ground.phase }, { on := 15, ground := Ground.phase }, { on := 16, ground := Ground.textOnly Departure.lateStores }, { on := 17, ground := Ground.textOnly Departure.lateStores }, { on := 18, ground := Ground.phase }, { on := 19, ground := Ground.phase }, { on := 20, ground := Ground.phase }], guard := none }
def op19_22 : Oper := { dst := none, op := Op.store 91 (Operand.tmp 15) (Operand.tmp 135), type := 0, pos := "yards.go:148", after := #[{ on := 19, ground := Ground.data }, { on := 16, ground := Ground.data }, { on := 21, ground := Ground.chain }, { on := 0, ground := Ground.phase }, { on := 1, ground := Ground.phase }, { on := 2, ground := Ground.phase }, { on := 3, ground := Ground.phase }, { on := 4, ground := Ground.phase }, { on := 5, ground := Ground.phase }, { on := 6, ground := Ground.phase }, { on := 7, ground := Ground.phase }, { on := 8, ground := Ground.phase }, { on := 9, ground := Ground.phase }, { on := 10, ground := Ground.phase }, { on := 11, ground := Ground.phase }, { on := 12, ground := Ground.phase }, { on := 13, ground := Ground.phase }, { on := 14, ground := Ground.phase }, { on := 15, ground := Ground.phase }, { on := 16, ground := Ground.phase }, { on := 17, ground := Ground.textOnly Departure.lateStores }, { on := 18, ground := Ground.phase }, { on := 19, ground := Ground.phase }, { on := 20, ground := Ground.phase }, { on := 21, ground := Ground.phase }], guard := none }
def op19_23 : Oper := { dst := none, op := Op.store 33 (Operand.tmp 16) (Operand.tmp 136), type := 0, pos := "yards.go:148", after := #[{ on := 20, ground := Ground.data }, { on := 17, ground := Ground.data }, { on := 22, ground := Ground.chain }, { on := 0, ground := Ground.phase }, { on := 1, ground := Ground.phase }, { on := 2, ground := Ground.phase }, { on := 3, ground := Ground.phase }, { on := 4, ground := Ground.phase }, { on := 5, ground := Ground.phase }, { on := 6, ground := Ground.phase }, { on := 7, ground := Ground.phase }, { on := 8, ground := Ground.phase }, { on := 9, ground := Ground.phase }, { on := 10, ground := Ground.phase }, { on := 11, ground := Ground.phase }, { on := 12, ground := Ground.phase }, { on := 13, ground := Ground.phase }, { on := 14, ground := Ground.phase }, { on := 15, ground := Ground.phase }, { on := 16, ground := Ground.phase }, { on := 17, ground := Ground.phase }, { on := 18, ground := Ground.phase }, { on := 19, ground := Ground.phase }, { on := 20, ground := Ground.phase }, { on := 21, ground := Ground.phase }, { on := 22, ground := Ground.phase }], guard := none }
def ops19 : Array Oper := #[op19_0, op19_1, op19_2, op19_3, op19_4, op19_5, op19_6, op19_7, op19_8, op19_9, op19_10, op19_11, op19_12, op19_13, op19_14, op19_15, op19_16, op19_17, op19_18, op19_19, op19_20, op19_21, op19_22, op19_23]
attribute [local irreducible] Oper.wp
def F19 (pa : Option Addr) (pn pc : Nat) (vm vd vs : Int) (heard : List UInt8) (A : Act) : Prop := A.tmps.size = 260 ∧ A.eval (.tmp 123) = .slice pa pn pc ∧ A.eval (.tmp 131) = .agg #[.int .i64 vm, .int .i64 vd, .int .i64 vs] ∧ A.eval (.tmp 132) = .string ⟨heard.toArray⟩
set_option maxRecDepth 100000 in
set_option maxHeartbeats 1600000 in
theorem arm19_13 {Q : Exit → Act → World → Prop} {pa : Option Addr} {pn pc : Nat} {vm vd vs : Int} {heard : List UInt8} {V : Int × Int × Int} {E : Ent} {w : World} {A : Act} (hA : F19 pa pn pc vm vd vs heard A) (K5 : ∀ W : World, Below w.heap.size w W → Calls Tryz.prog 120 #[.slice pa pn pc, .agg #[.int .i64 vm, .int .i64 vd, .int .i64 vs], .string ⟨heard.toArray⟩] W fun e w' => e = .returned (.tuple #[.agg #[.int .i64 V.1, .int .i64 V.2.1, .int .i64 V.2.2], E.v, .agg #[.int .i64 0, .int .i64 (-1)]]) ∧ Below W.heap.size W w') {up : Nat → Bool} {u : Nat → Value} {w' : World} (_hd : ∀ e ∈ op19_13.after, Region.binds .any e = true → up e.on = true) (hJ : J19 w (.tuple #[.agg #[.int .i64 V.1, .int .i64 V.2.1, .int .i64 V.2.2], E.v, .agg #[.int .i64 0, .int .i64 (-1)]]) (.agg #[.int .i64 V.1, .int .i64 V.2.1, .int .i64 V.2.2]) E.v (.agg #[.int .i64 0, .int .i64 (-1)]) #[.int .i64 V.1, .int .i64 V.2.1, .int .i64 V.2.2] #[.int .i64 E.slot, .int .i64 E.frm, .bool E.heard, .int .i64 E.value] #[.int .i64 0, .int .i64 (-1)] up u w') :
    if Region.wanted op19_13 (yielded ops19 (putF A [133, 119, 134, 135, 136, 14, 15, 16] u).tmps) = true then Oper.wp Tryz.prog op19_13 (putF A [133, 119, 134, 135, 136, 14, 15, 16] u) w' (fun a' w'' => ∃ u', a' = putF A [133, 119, 134, 135, 136, 14, 15, 16] u' ∧ J19 w (.tuple #[.agg #[.int .i64 V.1, .int .i64 V.2.1, .int .i64 V.2.2], E.v, .agg #[.int .i64 0, .int .i64 (-1)]]) (.agg #[.int .i64 V.1, .int .i64 V.2.1, .int .i64 V.2.2]) E.v (.agg #[.int .i64 0, .int .i64 (-1)]) #[.int .i64 V.1, .int .i64 V.2.1, .int .i64 V.2.2] #[.int .i64 E.slot, .int .i64 E.frm, .bool E.heard, .int .i64 E.value] #[.int .i64 0, .int .i64 (-1)] (upB up 13) u' w'') Q else ∃ u', (putF A [133, 119, 134, 135, 136, 14, 15, 16] u).put op19_13.dst undef = putF A [133, 119, 134, 135, 136, 14, 15, 16] u' ∧ J19 w (.tuple #[.agg #[.int .i64 V.1, .int .i64 V.2.1, .int .i64 V.2.2], E.v, .agg #[.int .i64 0, .int .i64 (-1)]]) (.agg #[.int .i64 V.1, .int .i64 V.2.1, .int .i64 V.2.2]) E.v (.agg #[.int .i64 0, .int .i64 (-1)]) #[.int .i64 V.1, .int .i64 V.2.1, .int .i64 V.2.2] #[.int .i64 E.slot, .int .i64 E.frm, .bool E.heard, .int .i64 E.value] #[.int .i64 0, .int .i64 (-1)] (upB up 13) u' w' := by
  have e1 : (putF A [133, 119, 134, 135, 136, 14, 15, 16] u).eval (.tmp 123) = .slice pa pn pc := (putF_out (by decide) (by decide)).trans hA.2.1
  have e2 : (putF A [133, 119, 134, 135, 136, 14, 15, 16] u).eval (.tmp 131) = .agg #[.int .i64 vm, .int .i64 vd, .int .i64 vs] := (putF_out (by decide) (by decide)).trans hA.2.2.1
  have e3 : (putF A [133, 119, 134, 135, 136, 14, 15, 16] u).eval (.tmp 132) = .string ⟨heard.toArray⟩ := (putF_out (by decide) (by decide)).trans hA.2.2.2
  refine up_call rfl rfl (by decide) (by decide) (f := 120) (args := #[.slice pa pn pc, .agg #[.int .i64 vm, .int .i64 vd, .int .i64 vs], .string ⟨heard.toArray⟩]) (by simp only [Act.eval, Array.getD_eq_getD_getElem?] at e1 e2 e3; unfold op19_13; go_simp) ?_
  refine (K5 w' hJ.low).mono ?_
  rintro e w7 ⟨rfl, hb7⟩
  exact ⟨_, rfl, hJ.s13 hb7⟩
set_option maxRecDepth 100000 in
set_option maxHeartbeats 1600000 in
theorem arm19_14 {Q : Exit → Act → World → Prop} {pa : Option Addr} {pn pc : Nat} {vm vd vs : Int} {heard : List UInt8} {V : Int × Int × Int} {E : Ent} {w : World} {A : Act} (hA : F19 pa pn pc vm vd vs heard A) {up : Nat → Bool} {u : Nat → Value} {w' : World} (hd : ∀ e ∈ op19_14.after, Region.binds .any e = true → up e.on = true) (hJ : J19 w (.tuple #[.agg #[.int .i64 V.1, .int .i64 V.2.1, .int .i64 V.2.2], E.v, .agg #[.int .i64 0, .int .i64 (-1)]]) (.agg #[.int .i64 V.1, .int .i64 V.2.1, .int .i64 V.2.2]) E.v (.agg #[.int .i64 0, .int .i64 (-1)]) #[.int .i64 V.1, .int .i64 V.2.1, .int .i64 V.2.2] #[.int .i64 E.slot, .int .i64 E.frm, .bool E.heard, .int .i64 E.value] #[.int .i64 0, .int .i64 (-1)] up u w') :
    if Region.wanted op19_14 (yielded ops19 (putF A [133, 119, 134, 135, 136, 14, 15, 16] u).tmps) = true then Oper.wp Tryz.prog op19_14 (putF A [133, 119, 134, 135, 136, 14, 15, 16] u) w' (fun a' w'' => ∃ u', a' = putF A [133, 119, 134, 135, 136, 14, 15, 16] u' ∧ J19 w (.tuple #[.agg #[.int .i64 V.1, .int .i64 V.2.1, .int .i64 V.2.2], E.v, .agg #[.int .i64 0, .int .i64 (-1)]]) (.agg #[.int .i64 V.1, .int .i64 V.2.1, .int .i64 V.2.2]) E.v (.agg #[.int .i64 0, .int .i64 (-1)]) #[.int .i64 V.1, .int .i64 V.2.1, .int .i64 V.2.2] #[.int .i64 E.slot, .int .i64 E.frm, .bool E.heard, .int .i64 E.value] #[.int .i64 0, .int .i64 (-1)] (upB up 14) u' w'') Q else ∃ u', (putF A [133, 119, 134, 135, 136, 14, 15, 16] u).put op19_14.dst undef = putF A [133, 119, 134, 135, 136, 14, 15, 16] u' ∧ J19 w (.tuple #[.agg #[.int .i64 V.1, .int .i64 V.2.1, .int .i64 V.2.2], E.v, .agg #[.int .i64 0, .int .i64 (-1)]]) (.agg #[.int .i64 V.1, .int .i64 V.2.1, .int .i64 V.2.2]) E.v (.agg #[.int .i64 0, .int .i64 (-1)]) #[.int .i64 V.1, .int .i64 V.2.1, .int .i64 V.2.2] #[.int .i64 E.slot, .int .i64 E.frm, .bool E.heard, .int .i64 E.value] #[.int .i64 0, .int .i64 (-1)] (upB up 14) u' w' := by
  have d13 : up 13 = true := hd ⟨13, .data⟩ (by unfold op19_14; simp) rfl
  have e1 : (putF A [133, 119, 134, 135, 136, 14, 15, 16] u).eval (.tmp 133) = u 133 := putF_in (by decide) (by decide) (by rw [hA.1]; decide)
  exact up_value rfl rfl (by decide) (by decide) (by simp only [Act.eval, Array.getD_eq_getD_getElem?] at e1; unfold op19_14; go_simp) (hJ.s14 d13)
set_option maxRecDepth 100000 in
set_option maxHeartbeats 1600000 in
theorem arm19_15 {Q : Exit → Act → World → Prop} {pa : Option Addr} {pn pc : Nat} {vm vd vs : Int} {heard : List UInt8} {V : Int × Int × Int} {E : Ent} {w : World} {A : Act} (hA : F19 pa pn pc vm vd vs heard A) {up : Nat → Bool} {u : Nat → Value} {w' : World} (hd : ∀ e ∈ op19_15.after, Region.binds .any e = true → up e.on = true) (hJ : J19 w (.tuple #[.agg #[.int .i64 V.1, .int .i64 V.2.1, .int .i64 V.2.2], E.v, .agg #[.int .i64 0, .int .i64 (-1)]]) (.agg #[.int .i64 V.1, .int .i64 V.2.1, .int .i64 V.2.2]) E.v (.agg #[.int .i64 0, .int .i64 (-1)]) #[.int .i64 V.1, .int .i64 V.2.1, .int .i64 V.2.2] #[.int .i64 E.slot, .int .i64 E.frm, .bool E.heard, .int .i64 E.value] #[.int .i64 0, .int .i64 (-1)] up u w') :
    if Region.wanted op19_15 (yielded ops19 (putF A [133, 119, 134, 135, 136, 14, 15, 16] u).tmps) = true then Oper.wp Tryz.prog op19_15 (putF A [133, 119, 134, 135, 136, 14, 15, 16] u) w' (fun a' w'' => ∃ u', a' = putF A [133, 119, 134, 135, 136, 14, 15, 16] u' ∧ J19 w (.tuple #[.agg #[.int .i64 V.1, .int .i64 V.2.1, .int .i64 V.2.2], E.v, .agg #[.int .i64 0, .int .i64 (-1)]]) (.agg #[.int .i64 V.1, .int .i64 V.2.1, .int .i64 V.2.2]) E.v (.agg #[.int .i64 0, .int .i64 (-1)]) #[.int .i64 V.1, .int .i64 V.2.1, .int .i64 V.2.2] #[.int .i64 E.slot, .int .i64 E.frm, .bool E.heard, .int .i64 E.value] #[.int .i64 0, .int .i64 (-1)] (upB up 15) u' w'') Q else ∃ u', (putF A [133, 119, 134, 135, 136, 14, 15, 16] u).put op19_15.dst undef = putF A [133, 119, 134, 135, 136, 14, 15, 16] u' ∧ J19 w (.tuple #[.agg #[.int .i64 V.1, .int .i64 V.2.1, .int .i64 V.2.2], E.v, .agg #[.int .i64 0, .int .i64 (-1)]]) (.agg #[.int .i64 V.1, .int .i64 V.2.1, .int .i64 V.2.2]) E.v (.agg #[.int .i64 0, .int .i64 (-1)]) #[.int .i64 V.1, .int .i64 V.2.1, .int .i64 V.2.2] #[.int .i64 E.slot, .int .i64 E.frm, .bool E.heard, .int .i64 E.value] #[.int .i64 0, .int .i64 (-1)] (upB up 15) u' w' := by
  have d14 : up 14 = true := hd ⟨14, .data⟩ (by unfold op19_15; simp) rfl
  have e1 : (putF A [133, 119, 134, 135, 136, 14, 15, 16] u).eval (.tmp 119) = _ := (putF_in (by decide) (by decide) (by rw [hA.1]; decide)).trans (hJ.mv d14)
  refine up_value (I := J19 w (.tuple #[.agg #[.int .i64 V.1, .int .i64 V.2.1, .int .i64 V.2.2], E.v, .agg #[.int .i64 0, .int .i64 (-1)]]) (.agg #[.int .i64 V.1, .int .i64 V.2.1, .int .i64 V.2.2]) E.v (.agg #[.int .i64 0, .int .i64 (-1)]) #[.int .i64 V.1, .int .i64 V.2.1, .int .i64 V.2.2] #[.int .i64 E.slot, .int .i64 E.frm, .bool E.heard, .int .i64 E.value] #[.int .i64 0, .int .i64 (-1)]) (v := (.agg #[.int .i64 V.1, .int .i64 V.2.1, .int .i64 V.2.2])) rfl rfl (by decide) (by decide) ?_ hJ.s15
  simp only [Act.eval, Array.getD_eq_getD_getElem?] at e1
  unfold op19_15
  go_simp
set_option maxRecDepth 100000 in
set_option maxHeartbeats 1600000 in
theorem arm19_16 {Q : Exit → Act → World → Prop} {pa : Option Addr} {pn pc : Nat} {vm vd vs : Int} {heard : List UInt8} {V : Int × Int × Int} {E : Ent} {w : World} {A : Act} (hA : F19 pa pn pc vm vd vs heard A) {up : Nat → Bool} {u : Nat → Value} {w' : World} (hd : ∀ e ∈ op19_16.after, Region.binds .any e = true → up e.on = true) (hJ : J19 w (.tuple #[.agg #[.int .i64 V.1, .int .i64 V.2.1, .int .i64 V.2.2], E.v, .agg #[.int .i64 0, .int .i64 (-1)]]) (.agg #[.int .i64 V.1, .int .i64 V.2.1, .int .i64 V.2.2]) E.v (.agg #[.int .i64 0, .int .i64 (-1)]) #[.int .i64 V.1, .int .i64 V.2.1, .int .i64 V.2.2] #[.int .i64 E.slot, .int .i64 E.frm, .bool E.heard, .int .i64 E.value] #[.int .i64 0, .int .i64 (-1)] up u w') :
    if Region.wanted op19_16 (yielded ops19 (putF A [133, 119, 134, 135, 136, 14, 15, 16] u).tmps) = true then Oper.wp Tryz.prog op19_16 (putF A [133, 119, 134, 135, 136, 14, 15, 16] u) w' (fun a' w'' => ∃ u', a' = putF A [133, 119, 134, 135, 136, 14, 15, 16] u' ∧ J19 w (.tuple #[.agg #[.int .i64 V.1, .int .i64 V.2.1, .int .i64 V.2.2], E.v, .agg #[.int .i64 0, .int .i64 (-1)]]) (.agg #[.int .i64 V.1, .int .i64 V.2.1, .int .i64 V.2.2]) E.v (.agg #[.int .i64 0, .int .i64 (-1)]) #[.int .i64 V.1, .int .i64 V.2.1, .int .i64 V.2.2] #[.int .i64 E.slot, .int .i64 E.frm, .bool E.heard, .int .i64 E.value] #[.int .i64 0, .int .i64 (-1)] (upB up 16) u' w'') Q else ∃ u', (putF A [133, 119, 134, 135, 136, 14, 15, 16] u).put op19_16.dst undef = putF A [133, 119, 134, 135, 136, 14, 15, 16] u' ∧ J19 w (.tuple #[.agg #[.int .i64 V.1, .int .i64 V.2.1, .int .i64 V.2.2], E.v, .agg #[.int .i64 0, .int .i64 (-1)]]) (.agg #[.int .i64 V.1, .int .i64 V.2.1, .int .i64 V.2.2]) E.v (.agg #[.int .i64 0, .int .i64 (-1)]) #[.int .i64 V.1, .int .i64 V.2.1, .int .i64 V.2.2] #[.int .i64 E.slot, .int .i64 E.frm, .bool E.heard, .int .i64 E.value] #[.int .i64 0, .int .i64 (-1)] (upB up 16) u' w' := by
  have d14 : up 14 = true := hd ⟨14, .data⟩ (by unfold op19_16; simp) rfl
  have e1 : (putF A [133, 119, 134, 135, 136, 14, 15, 16] u).eval (.tmp 119) = _ := (putF_in (by decide) (by decide) (by rw [hA.1]; decide)).trans (hJ.mv d14)
  refine up_value (I := J19 w (.tuple #[.agg #[.int .i64 V.1, .int .i64 V.2.1, .int .i64 V.2.2], E.v, .agg #[.int .i64 0, .int .i64 (-1)]]) (.agg #[.int .i64 V.1, .int .i64 V.2.1, .int .i64 V.2.2]) E.v (.agg #[.int .i64 0, .int .i64 (-1)]) #[.int .i64 V.1, .int .i64 V.2.1, .int .i64 V.2.2] #[.int .i64 E.slot, .int .i64 E.frm, .bool E.heard, .int .i64 E.value] #[.int .i64 0, .int .i64 (-1)]) (v := E.v) rfl rfl (by decide) (by decide) ?_ hJ.s16
  simp only [Act.eval, Array.getD_eq_getD_getElem?] at e1
  unfold op19_16
  go_simp
set_option maxRecDepth 100000 in
set_option maxHeartbeats 1600000 in
theorem arm19_17 {Q : Exit → Act → World → Prop} {pa : Option Addr} {pn pc : Nat} {vm vd vs : Int} {heard : List UInt8} {V : Int × Int × Int} {E : Ent} {w : World} {A : Act} (hA : F19 pa pn pc vm vd vs heard A) {up : Nat → Bool} {u : Nat → Value} {w' : World} (hd : ∀ e ∈ op19_17.after, Region.binds .any e = true → up e.on = true) (hJ : J19 w (.tuple #[.agg #[.int .i64 V.1, .int .i64 V.2.1, .int .i64 V.2.2], E.v, .agg #[.int .i64 0, .int .i64 (-1)]]) (.agg #[.int .i64 V.1, .int .i64 V.2.1, .int .i64 V.2.2]) E.v (.agg #[.int .i64 0, .int .i64 (-1)]) #[.int .i64 V.1, .int .i64 V.2.1, .int .i64 V.2.2] #[.int .i64 E.slot, .int .i64 E.frm, .bool E.heard, .int .i64 E.value] #[.int .i64 0, .int .i64 (-1)] up u w') :
    if Region.wanted op19_17 (yielded ops19 (putF A [133, 119, 134, 135, 136, 14, 15, 16] u).tmps) = true then Oper.wp Tryz.prog op19_17 (putF A [133, 119, 134, 135, 136, 14, 15, 16] u) w' (fun a' w'' => ∃ u', a' = putF A [133, 119, 134, 135, 136, 14, 15, 16] u' ∧ J19 w (.tuple #[.agg #[.int .i64 V.1, .int .i64 V.2.1, .int .i64 V.2.2], E.v, .agg #[.int .i64 0, .int .i64 (-1)]]) (.agg #[.int .i64 V.1, .int .i64 V.2.1, .int .i64 V.2.2]) E.v (.agg #[.int .i64 0, .int .i64 (-1)]) #[.int .i64 V.1, .int .i64 V.2.1, .int .i64 V.2.2] #[.int .i64 E.slot, .int .i64 E.frm, .bool E.heard, .int .i64 E.value] #[.int .i64 0, .int .i64 (-1)] (upB up 17) u' w'') Q else ∃ u', (putF A [133, 119, 134, 135, 136, 14, 15, 16] u).put op19_17.dst undef = putF A [133, 119, 134, 135, 136, 14, 15, 16] u' ∧ J19 w (.tuple #[.agg #[.int .i64 V.1, .int .i64 V.2.1, .int .i64 V.2.2], E.v, .agg #[.int .i64 0, .int .i64 (-1)]]) (.agg #[.int .i64 V.1, .int .i64 V.2.1, .int .i64 V.2.2]) E.v (.agg #[.int .i64 0, .int .i64 (-1)]) #[.int .i64 V.1, .int .i64 V.2.1, .int .i64 V.2.2] #[.int .i64 E.slot, .int .i64 E.frm, .bool E.heard, .int .i64 E.value] #[.int .i64 0, .int .i64 (-1)] (upB up 17) u' w' := by
  have d14 : up 14 = true := hd ⟨14, .data⟩ (by unfold op19_17; simp) rfl
  have e1 : (putF A [133, 119, 134, 135, 136, 14, 15, 16] u).eval (.tmp 119) = _ := (putF_in (by decide) (by decide) (by rw [hA.1]; decide)).trans (hJ.mv d14)
  refine up_value (I := J19 w (.tuple #[.agg #[.int .i64 V.1, .int .i64 V.2.1, .int .i64 V.2.2], E.v, .agg #[.int .i64 0, .int .i64 (-1)]]) (.agg #[.int .i64 V.1, .int .i64 V.2.1, .int .i64 V.2.2]) E.v (.agg #[.int .i64 0, .int .i64 (-1)]) #[.int .i64 V.1, .int .i64 V.2.1, .int .i64 V.2.2] #[.int .i64 E.slot, .int .i64 E.frm, .bool E.heard, .int .i64 E.value] #[.int .i64 0, .int .i64 (-1)]) (v := (.agg #[.int .i64 0, .int .i64 (-1)])) rfl rfl (by decide) (by decide) ?_ hJ.s17
  simp only [Act.eval, Array.getD_eq_getD_getElem?] at e1
  unfold op19_17
  go_simp
set_option maxRecDepth 100000 in
set_option maxHeartbeats 1600000 in
theorem arm19_18 {Q : Exit → Act → World → Prop} {pa : Option Addr} {pn pc : Nat} {vm vd vs : Int} {heard : List UInt8} {V : Int × Int × Int} {E : Ent} {w : World} {A : Act} (_hA : F19 pa pn pc vm vd vs heard A) {up : Nat → Bool} {u : Nat → Value} {w' : World} (hun : up 18 = false) (_hd : ∀ e ∈ op19_18.after, Region.binds .any e = true → up e.on = true) (hJ : J19 w (.tuple #[.agg #[.int .i64 V.1, .int .i64 V.2.1, .int .i64 V.2.2], E.v, .agg #[.int .i64 0, .int .i64 (-1)]]) (.agg #[.int .i64 V.1, .int .i64 V.2.1, .int .i64 V.2.2]) E.v (.agg #[.int .i64 0, .int .i64 (-1)]) #[.int .i64 V.1, .int .i64 V.2.1, .int .i64 V.2.2] #[.int .i64 E.slot, .int .i64 E.frm, .bool E.heard, .int .i64 E.value] #[.int .i64 0, .int .i64 (-1)] up u w') :
    if Region.wanted op19_18 (yielded ops19 (putF A [133, 119, 134, 135, 136, 14, 15, 16] u).tmps) = true then Oper.wp Tryz.prog op19_18 (putF A [133, 119, 134, 135, 136, 14, 15, 16] u) w' (fun a' w'' => ∃ u', a' = putF A [133, 119, 134, 135, 136, 14, 15, 16] u' ∧ J19 w (.tuple #[.agg #[.int .i64 V.1, .int .i64 V.2.1, .int .i64 V.2.2], E.v, .agg #[.int .i64 0, .int .i64 (-1)]]) (.agg #[.int .i64 V.1, .int .i64 V.2.1, .int .i64 V.2.2]) E.v (.agg #[.int .i64 0, .int .i64 (-1)]) #[.int .i64 V.1, .int .i64 V.2.1, .int .i64 V.2.2] #[.int .i64 E.slot, .int .i64 E.frm, .bool E.heard, .int .i64 E.value] #[.int .i64 0, .int .i64 (-1)] (upB up 18) u' w'') Q else ∃ u', (putF A [133, 119, 134, 135, 136, 14, 15, 16] u).put op19_18.dst undef = putF A [133, 119, 134, 135, 136, 14, 15, 16] u' ∧ J19 w (.tuple #[.agg #[.int .i64 V.1, .int .i64 V.2.1, .int .i64 V.2.2], E.v, .agg #[.int .i64 0, .int .i64 (-1)]]) (.agg #[.int .i64 V.1, .int .i64 V.2.1, .int .i64 V.2.2]) E.v (.agg #[.int .i64 0, .int .i64 (-1)]) #[.int .i64 V.1, .int .i64 V.2.1, .int .i64 V.2.2] #[.int .i64 E.slot, .int .i64 E.frm, .bool E.heard, .int .i64 E.value] #[.int .i64 0, .int .i64 (-1)] (upB up 18) u' w' := by
  exact up_value rfl rfl (by decide) (by decide) (by unfold op19_18; go_simp) (hJ.s18 hun #[.int .i64 0, .int .i64 0, .int .i64 0] rfl)
set_option maxRecDepth 100000 in
set_option maxHeartbeats 1600000 in
theorem arm19_19 {Q : Exit → Act → World → Prop} {pa : Option Addr} {pn pc : Nat} {vm vd vs : Int} {heard : List UInt8} {V : Int × Int × Int} {E : Ent} {w : World} {A : Act} (_hA : F19 pa pn pc vm vd vs heard A) {up : Nat → Bool} {u : Nat → Value} {w' : World} (hun : up 19 = false) (_hd : ∀ e ∈ op19_19.after, Region.binds .any e = true → up e.on = true) (hJ : J19 w (.tuple #[.agg #[.int .i64 V.1, .int .i64 V.2.1, .int .i64 V.2.2], E.v, .agg #[.int .i64 0, .int .i64 (-1)]]) (.agg #[.int .i64 V.1, .int .i64 V.2.1, .int .i64 V.2.2]) E.v (.agg #[.int .i64 0, .int .i64 (-1)]) #[.int .i64 V.1, .int .i64 V.2.1, .int .i64 V.2.2] #[.int .i64 E.slot, .int .i64 E.frm, .bool E.heard, .int .i64 E.value] #[.int .i64 0, .int .i64 (-1)] up u w') :
    if Region.wanted op19_19 (yielded ops19 (putF A [133, 119, 134, 135, 136, 14, 15, 16] u).tmps) = true then Oper.wp Tryz.prog op19_19 (putF A [133, 119, 134, 135, 136, 14, 15, 16] u) w' (fun a' w'' => ∃ u', a' = putF A [133, 119, 134, 135, 136, 14, 15, 16] u' ∧ J19 w (.tuple #[.agg #[.int .i64 V.1, .int .i64 V.2.1, .int .i64 V.2.2], E.v, .agg #[.int .i64 0, .int .i64 (-1)]]) (.agg #[.int .i64 V.1, .int .i64 V.2.1, .int .i64 V.2.2]) E.v (.agg #[.int .i64 0, .int .i64 (-1)]) #[.int .i64 V.1, .int .i64 V.2.1, .int .i64 V.2.2] #[.int .i64 E.slot, .int .i64 E.frm, .bool E.heard, .int .i64 E.value] #[.int .i64 0, .int .i64 (-1)] (upB up 19) u' w'') Q else ∃ u', (putF A [133, 119, 134, 135, 136, 14, 15, 16] u).put op19_19.dst undef = putF A [133, 119, 134, 135, 136, 14, 15, 16] u' ∧ J19 w (.tuple #[.agg #[.int .i64 V.1, .int .i64 V.2.1, .int .i64 V.2.2], E.v, .agg #[.int .i64 0, .int .i64 (-1)]]) (.agg #[.int .i64 V.1, .int .i64 V.2.1, .int .i64 V.2.2]) E.v (.agg #[.int .i64 0, .int .i64 (-1)]) #[.int .i64 V.1, .int .i64 V.2.1, .int .i64 V.2.2] #[.int .i64 E.slot, .int .i64 E.frm, .bool E.heard, .int .i64 E.value] #[.int .i64 0, .int .i64 (-1)] (upB up 19) u' w' := by
  exact up_value rfl rfl (by decide) (by decide) (by unfold op19_19; go_simp) (hJ.s19 hun #[.int .i64 0, .int .i64 0, .bool false, .int .i64 0] rfl)
set_option maxRecDepth 100000 in
set_option maxHeartbeats 1600000 in
theorem arm19_20 {Q : Exit → Act → World → Prop} {pa : Option Addr} {pn pc : Nat} {vm vd vs : Int} {heard : List UInt8} {V : Int × Int × Int} {E : Ent} {w : World} {A : Act} (_hA : F19 pa pn pc vm vd vs heard A) {up : Nat → Bool} {u : Nat → Value} {w' : World} (hun : up 20 = false) (_hd : ∀ e ∈ op19_20.after, Region.binds .any e = true → up e.on = true) (hJ : J19 w (.tuple #[.agg #[.int .i64 V.1, .int .i64 V.2.1, .int .i64 V.2.2], E.v, .agg #[.int .i64 0, .int .i64 (-1)]]) (.agg #[.int .i64 V.1, .int .i64 V.2.1, .int .i64 V.2.2]) E.v (.agg #[.int .i64 0, .int .i64 (-1)]) #[.int .i64 V.1, .int .i64 V.2.1, .int .i64 V.2.2] #[.int .i64 E.slot, .int .i64 E.frm, .bool E.heard, .int .i64 E.value] #[.int .i64 0, .int .i64 (-1)] up u w') :
    if Region.wanted op19_20 (yielded ops19 (putF A [133, 119, 134, 135, 136, 14, 15, 16] u).tmps) = true then Oper.wp Tryz.prog op19_20 (putF A [133, 119, 134, 135, 136, 14, 15, 16] u) w' (fun a' w'' => ∃ u', a' = putF A [133, 119, 134, 135, 136, 14, 15, 16] u' ∧ J19 w (.tuple #[.agg #[.int .i64 V.1, .int .i64 V.2.1, .int .i64 V.2.2], E.v, .agg #[.int .i64 0, .int .i64 (-1)]]) (.agg #[.int .i64 V.1, .int .i64 V.2.1, .int .i64 V.2.2]) E.v (.agg #[.int .i64 0, .int .i64 (-1)]) #[.int .i64 V.1, .int .i64 V.2.1, .int .i64 V.2.2] #[.int .i64 E.slot, .int .i64 E.frm, .bool E.heard, .int .i64 E.value] #[.int .i64 0, .int .i64 (-1)] (upB up 20) u' w'') Q else ∃ u', (putF A [133, 119, 134, 135, 136, 14, 15, 16] u).put op19_20.dst undef = putF A [133, 119, 134, 135, 136, 14, 15, 16] u' ∧ J19 w (.tuple #[.agg #[.int .i64 V.1, .int .i64 V.2.1, .int .i64 V.2.2], E.v, .agg #[.int .i64 0, .int .i64 (-1)]]) (.agg #[.int .i64 V.1, .int .i64 V.2.1, .int .i64 V.2.2]) E.v (.agg #[.int .i64 0, .int .i64 (-1)]) #[.int .i64 V.1, .int .i64 V.2.1, .int .i64 V.2.2] #[.int .i64 E.slot, .int .i64 E.frm, .bool E.heard, .int .i64 E.value] #[.int .i64 0, .int .i64 (-1)] (upB up 20) u' w' := by
  exact up_value rfl rfl (by decide) (by decide) (by unfold op19_20; go_simp) (hJ.s20 hun #[.int .i64 0, .int .i64 0] rfl)
set_option maxRecDepth 100000 in
set_option maxHeartbeats 1600000 in
theorem arm19_21 {Q : Exit → Act → World → Prop} {pa : Option Addr} {pn pc : Nat} {vm vd vs : Int} {heard : List UInt8} {V : Int × Int × Int} {E : Ent} {w : World} {A : Act} (hA : F19 pa pn pc vm vd vs heard A) {up : Nat → Bool} {u : Nat → Value} {w' : World} (hd : ∀ e ∈ op19_21.after, Region.binds .any e = true → up e.on = true) (hJ : J19 w (.tuple #[.agg #[.int .i64 V.1, .int .i64 V.2.1, .int .i64 V.2.2], E.v, .agg #[.int .i64 0, .int .i64 (-1)]]) (.agg #[.int .i64 V.1, .int .i64 V.2.1, .int .i64 V.2.2]) E.v (.agg #[.int .i64 0, .int .i64 (-1)]) #[.int .i64 V.1, .int .i64 V.2.1, .int .i64 V.2.2] #[.int .i64 E.slot, .int .i64 E.frm, .bool E.heard, .int .i64 E.value] #[.int .i64 0, .int .i64 (-1)] up u w') :
    if Region.wanted op19_21 (yielded ops19 (putF A [133, 119, 134, 135, 136, 14, 15, 16] u).tmps) = true then Oper.wp Tryz.prog op19_21 (putF A [133, 119, 134, 135, 136, 14, 15, 16] u) w' (fun a' w'' => ∃ u', a' = putF A [133, 119, 134, 135, 136, 14, 15, 16] u' ∧ J19 w (.tuple #[.agg #[.int .i64 V.1, .int .i64 V.2.1, .int .i64 V.2.2], E.v, .agg #[.int .i64 0, .int .i64 (-1)]]) (.agg #[.int .i64 V.1, .int .i64 V.2.1, .int .i64 V.2.2]) E.v (.agg #[.int .i64 0, .int .i64 (-1)]) #[.int .i64 V.1, .int .i64 V.2.1, .int .i64 V.2.2] #[.int .i64 E.slot, .int .i64 E.frm, .bool E.heard, .int .i64 E.value] #[.int .i64 0, .int .i64 (-1)] (upB up 21) u' w'') Q else ∃ u', (putF A [133, 119, 134, 135, 136, 14, 15, 16] u).put op19_21.dst undef = putF A [133, 119, 134, 135, 136, 14, 15, 16] u' ∧ J19 w (.tuple #[.agg #[.int .i64 V.1, .int .i64 V.2.1, .int .i64 V.2.2], E.v, .agg #[.int .i64 0, .int .i64 (-1)]]) (.agg #[.int .i64 V.1, .int .i64 V.2.1, .int .i64 V.2.2]) E.v (.agg #[.int .i64 0, .int .i64 (-1)]) #[.int .i64 V.1, .int .i64 V.2.1, .int .i64 V.2.2] #[.int .i64 E.slot, .int .i64 E.frm, .bool E.heard, .int .i64 E.value] #[.int .i64 0, .int .i64 (-1)] (upB up 21) u' w' := by
  have d18 : up 18 = true := hd ⟨18, .data⟩ (by unfold op19_21; simp) rfl
  have d15 : up 15 = true := hd ⟨15, .data⟩ (by unfold op19_21; simp) rfl
  obtain ⟨b, cs, hu, hb, hB, hsz, _⟩ := hJ.a0 d18
  have e1 : (putF A [133, 119, 134, 135, 136, 14, 15, 16] u).eval (.tmp 14) = .pointer (some ⟨b, 0, none⟩) := (putF_in (by decide) (by decide) (by rw [hA.1]; decide)).trans hu
  have e2 : (putF A [133, 119, 134, 135, 136, 14, 15, 16] u).eval (.tmp 134) = _ := (putF_in (by decide) (by decide) (by rw [hA.1]; decide)).trans (hJ.x0 d15)
  obtain ⟨x0, x1, x2, rfl⟩ : ∃ x0 x1 x2, cs = #[x0, x1, x2] := by
    obtain ⟨l⟩ := cs
    match l, hsz with
    | [y0, y1, y2], _ => exact ⟨y0, y1, y2, rfl⟩
  have q0 := hB.cell 0 rfl
  have q1 := hB.cell 1 rfl
  have q2 := hB.cell 2 rfl
  have qf := hB.frozen
  have hW : Blok (((w'.setCell ⟨b, 0, none⟩ (.int .i64 V.1)).setCell ⟨b, 1, none⟩ (.int .i64 V.2.1)).setCell ⟨b, 2, none⟩ (.int .i64 V.2.2)) b 84 #[.int .i64 V.1, .int .i64 V.2.1, .int .i64 V.2.2] := by have h := (((hB.set 0 (.int .i64 V.1)).set 1 (.int .i64 V.2.1)).set 2 (.int .i64 V.2.2)); simpa using h
  have hF9 : Fr (fun j => j = b) w' (((w'.setCell ⟨b, 0, none⟩ (.int .i64 V.1)).setCell ⟨b, 1, none⟩ (.int .i64 V.2.1)).setCell ⟨b, 2, none⟩ (.int .i64 V.2.2)) := (((Fr.refl (fun j => j = b) w').setCell (p := ⟨b, 0, none⟩) (Or.inl rfl) (.int .i64 V.1)).setCell (p := ⟨b, 1, none⟩) (Or.inl rfl) (.int .i64 V.2.1)).setCell (p := ⟨b, 2, none⟩) (Or.inl rfl) (.int .i64 V.2.2)
  clear hB
  exact up_skip rfl rfl (by simp only [Act.eval, Array.getD_eq_getD_getElem?] at e1 e2; unfold op19_21; go_simp) (hJ.s21 d18 hu hF9 hW rfl)
set_option maxRecDepth 100000 in
set_option maxHeartbeats 1600000 in
theorem arm19_22 {Q : Exit → Act → World → Prop} {pa : Option Addr} {pn pc : Nat} {vm vd vs : Int} {heard : List UInt8} {V : Int × Int × Int} {E : Ent} {w : World} {A : Act} (hA : F19 pa pn pc vm vd vs heard A) {up : Nat → Bool} {u : Nat → Value} {w' : World} (hd : ∀ e ∈ op19_22.after, Region.binds .any e = true → up e.on = true) (hJ : J19 w (.tuple #[.agg #[.int .i64 V.1, .int .i64 V.2.1, .int .i64 V.2.2], E.v, .agg #[.int .i64 0, .int .i64 (-1)]]) (.agg #[.int .i64 V.1, .int .i64 V.2.1, .int .i64 V.2.2]) E.v (.agg #[.int .i64 0, .int .i64 (-1)]) #[.int .i64 V.1, .int .i64 V.2.1, .int .i64 V.2.2] #[.int .i64 E.slot, .int .i64 E.frm, .bool E.heard, .int .i64 E.value] #[.int .i64 0, .int .i64 (-1)] up u w') :
    if Region.wanted op19_22 (yielded ops19 (putF A [133, 119, 134, 135, 136, 14, 15, 16] u).tmps) = true then Oper.wp Tryz.prog op19_22 (putF A [133, 119, 134, 135, 136, 14, 15, 16] u) w' (fun a' w'' => ∃ u', a' = putF A [133, 119, 134, 135, 136, 14, 15, 16] u' ∧ J19 w (.tuple #[.agg #[.int .i64 V.1, .int .i64 V.2.1, .int .i64 V.2.2], E.v, .agg #[.int .i64 0, .int .i64 (-1)]]) (.agg #[.int .i64 V.1, .int .i64 V.2.1, .int .i64 V.2.2]) E.v (.agg #[.int .i64 0, .int .i64 (-1)]) #[.int .i64 V.1, .int .i64 V.2.1, .int .i64 V.2.2] #[.int .i64 E.slot, .int .i64 E.frm, .bool E.heard, .int .i64 E.value] #[.int .i64 0, .int .i64 (-1)] (upB up 22) u' w'') Q else ∃ u', (putF A [133, 119, 134, 135, 136, 14, 15, 16] u).put op19_22.dst undef = putF A [133, 119, 134, 135, 136, 14, 15, 16] u' ∧ J19 w (.tuple #[.agg #[.int .i64 V.1, .int .i64 V.2.1, .int .i64 V.2.2], E.v, .agg #[.int .i64 0, .int .i64 (-1)]]) (.agg #[.int .i64 V.1, .int .i64 V.2.1, .int .i64 V.2.2]) E.v (.agg #[.int .i64 0, .int .i64 (-1)]) #[.int .i64 V.1, .int .i64 V.2.1, .int .i64 V.2.2] #[.int .i64 E.slot, .int .i64 E.frm, .bool E.heard, .int .i64 E.value] #[.int .i64 0, .int .i64 (-1)] (upB up 22) u' w' := by
  have d19 : up 19 = true := hd ⟨19, .data⟩ (by unfold op19_22; simp) rfl
  have d16 : up 16 = true := hd ⟨16, .data⟩ (by unfold op19_22; simp) rfl
  obtain ⟨b, cs, hu, hb, hB, hsz, _⟩ := hJ.a1 d19
  have e1 : (putF A [133, 119, 134, 135, 136, 14, 15, 16] u).eval (.tmp 15) = .pointer (some ⟨b, 0, none⟩) := (putF_in (by decide) (by decide) (by rw [hA.1]; decide)).trans hu
  have e2 : (putF A [133, 119, 134, 135, 136, 14, 15, 16] u).eval (.tmp 135) = _ := (putF_in (by decide) (by decide) (by rw [hA.1]; decide)).trans (hJ.x1 d16)
  obtain ⟨x0, x1, x2, x3, rfl⟩ : ∃ x0 x1 x2 x3, cs = #[x0, x1, x2, x3] := by
    obtain ⟨l⟩ := cs
    match l, hsz with
    | [y0, y1, y2, y3], _ => exact ⟨y0, y1, y2, y3, rfl⟩
  have q0 := hB.cell 0 rfl
  have q1 := hB.cell 1 rfl
  have q2 := hB.cell 2 rfl
  have q3 := hB.cell 3 rfl
  have qf := hB.frozen
  have hW : Blok ((((w'.setCell ⟨b, 0, none⟩ (.int .i64 E.slot)).setCell ⟨b, 1, none⟩ (.int .i64 E.frm)).setCell ⟨b, 2, none⟩ (.bool E.heard)).setCell ⟨b, 3, none⟩ (.int .i64 E.value)) b 91 #[.int .i64 E.slot, .int .i64 E.frm, .bool E.heard, .int .i64 E.value] := by have h := ((((hB.set 0 (.int .i64 E.slot)).set 1 (.int .i64 E.frm)).set 2 (.bool E.heard)).set 3 (.int .i64 E.value)); simpa using h
  have hF9 : Fr (fun j => j = b) w' ((((w'.setCell ⟨b, 0, none⟩ (.int .i64 E.slot)).setCell ⟨b, 1, none⟩ (.int .i64 E.frm)).setCell ⟨b, 2, none⟩ (.bool E.heard)).setCell ⟨b, 3, none⟩ (.int .i64 E.value)) := ((((Fr.refl (fun j => j = b) w').setCell (p := ⟨b, 0, none⟩) (Or.inl rfl) (.int .i64 E.slot)).setCell (p := ⟨b, 1, none⟩) (Or.inl rfl) (.int .i64 E.frm)).setCell (p := ⟨b, 2, none⟩) (Or.inl rfl) (.bool E.heard)).setCell (p := ⟨b, 3, none⟩) (Or.inl rfl) (.int .i64 E.value)
  clear hB
  exact up_skip rfl rfl (by unfold Ent.v at e2; simp only [Act.eval, Array.getD_eq_getD_getElem?] at e1 e2; unfold op19_22; go_simp) (hJ.s22 d19 hu hF9 hW rfl)
set_option maxRecDepth 100000 in
set_option maxHeartbeats 1600000 in
theorem arm19_23 {Q : Exit → Act → World → Prop} {pa : Option Addr} {pn pc : Nat} {vm vd vs : Int} {heard : List UInt8} {V : Int × Int × Int} {E : Ent} {w : World} {A : Act} (hA : F19 pa pn pc vm vd vs heard A) {up : Nat → Bool} {u : Nat → Value} {w' : World} (hd : ∀ e ∈ op19_23.after, Region.binds .any e = true → up e.on = true) (hJ : J19 w (.tuple #[.agg #[.int .i64 V.1, .int .i64 V.2.1, .int .i64 V.2.2], E.v, .agg #[.int .i64 0, .int .i64 (-1)]]) (.agg #[.int .i64 V.1, .int .i64 V.2.1, .int .i64 V.2.2]) E.v (.agg #[.int .i64 0, .int .i64 (-1)]) #[.int .i64 V.1, .int .i64 V.2.1, .int .i64 V.2.2] #[.int .i64 E.slot, .int .i64 E.frm, .bool E.heard, .int .i64 E.value] #[.int .i64 0, .int .i64 (-1)] up u w') :
    if Region.wanted op19_23 (yielded ops19 (putF A [133, 119, 134, 135, 136, 14, 15, 16] u).tmps) = true then Oper.wp Tryz.prog op19_23 (putF A [133, 119, 134, 135, 136, 14, 15, 16] u) w' (fun a' w'' => ∃ u', a' = putF A [133, 119, 134, 135, 136, 14, 15, 16] u' ∧ J19 w (.tuple #[.agg #[.int .i64 V.1, .int .i64 V.2.1, .int .i64 V.2.2], E.v, .agg #[.int .i64 0, .int .i64 (-1)]]) (.agg #[.int .i64 V.1, .int .i64 V.2.1, .int .i64 V.2.2]) E.v (.agg #[.int .i64 0, .int .i64 (-1)]) #[.int .i64 V.1, .int .i64 V.2.1, .int .i64 V.2.2] #[.int .i64 E.slot, .int .i64 E.frm, .bool E.heard, .int .i64 E.value] #[.int .i64 0, .int .i64 (-1)] (upB up 23) u' w'') Q else ∃ u', (putF A [133, 119, 134, 135, 136, 14, 15, 16] u).put op19_23.dst undef = putF A [133, 119, 134, 135, 136, 14, 15, 16] u' ∧ J19 w (.tuple #[.agg #[.int .i64 V.1, .int .i64 V.2.1, .int .i64 V.2.2], E.v, .agg #[.int .i64 0, .int .i64 (-1)]]) (.agg #[.int .i64 V.1, .int .i64 V.2.1, .int .i64 V.2.2]) E.v (.agg #[.int .i64 0, .int .i64 (-1)]) #[.int .i64 V.1, .int .i64 V.2.1, .int .i64 V.2.2] #[.int .i64 E.slot, .int .i64 E.frm, .bool E.heard, .int .i64 E.value] #[.int .i64 0, .int .i64 (-1)] (upB up 23) u' w' := by
  have d20 : up 20 = true := hd ⟨20, .data⟩ (by unfold op19_23; simp) rfl
  have d17 : up 17 = true := hd ⟨17, .data⟩ (by unfold op19_23; simp) rfl
  obtain ⟨b, cs, hu, hb, hB, hsz, _⟩ := hJ.a2 d20
  have e1 : (putF A [133, 119, 134, 135, 136, 14, 15, 16] u).eval (.tmp 16) = .pointer (some ⟨b, 0, none⟩) := (putF_in (by decide) (by decide) (by rw [hA.1]; decide)).trans hu
  have e2 : (putF A [133, 119, 134, 135, 136, 14, 15, 16] u).eval (.tmp 136) = _ := (putF_in (by decide) (by decide) (by rw [hA.1]; decide)).trans (hJ.x2 d17)
  obtain ⟨x0, x1, rfl⟩ : ∃ x0 x1, cs = #[x0, x1] := by
    obtain ⟨l⟩ := cs
    match l, hsz with
    | [y0, y1], _ => exact ⟨y0, y1, rfl⟩
  have q0 := hB.cell 0 rfl
  have q1 := hB.cell 1 rfl
  have qf := hB.frozen
  have hW : Blok ((w'.setCell ⟨b, 0, none⟩ (.int .i64 0)).setCell ⟨b, 1, none⟩ (.int .i64 (-1))) b 33 #[.int .i64 0, .int .i64 (-1)] := by have h := ((hB.set 0 (.int .i64 0)).set 1 (.int .i64 (-1))); simpa using h
  have hF9 : Fr (fun j => j = b) w' ((w'.setCell ⟨b, 0, none⟩ (.int .i64 0)).setCell ⟨b, 1, none⟩ (.int .i64 (-1))) := ((Fr.refl (fun j => j = b) w').setCell (p := ⟨b, 0, none⟩) (Or.inl rfl) (.int .i64 0)).setCell (p := ⟨b, 1, none⟩) (Or.inl rfl) (.int .i64 (-1))
  clear hB
  exact up_skip rfl rfl (by simp only [Act.eval, Array.getD_eq_getD_getElem?] at e1 e2; unfold op19_23; go_simp) (hJ.s23 d20 hu hF9 hW rfl)
/-- The whole region, its reading done. -/
theorem region19 {Q : Exit → Act → World → Prop} {S : World → Prop} {pa : Option Addr} {pn pc : Nat} {vm vd vs : Int} {heard : List UInt8} {V : Int × Int × Int} {E : Ent} {w : World} {A : Act} {l : Array Bool} {fuel : Nat} (hA : F19 pa pn pc vm vd vs heard A) (hl : l.size = 24) (hlf : lefts l ≤ fuel) (h13 : (List.range 24).all (fun j => l.getD j true == decide (j < 13)) = true)
    (K5 : ∀ W : World, Below w.heap.size w W → Calls Tryz.prog 120 #[.slice pa pn pc, .agg #[.int .i64 vm, .int .i64 vd, .int .i64 vs], .string ⟨heard.toArray⟩] W fun e w' => e = .returned (.tuple #[.agg #[.int .i64 V.1, .int .i64 V.2.1, .int .i64 V.2.2], E.v, .agg #[.int .i64 0, .int .i64 (-1)]]) ∧ Below W.heap.size W w')
    (hS : ∀ w', Below w.heap.size w w' → S w')
    (h0 : ∀ (b14 b15 : Nat) (v16 : Value) (w' : World), w.heap.size ≤ b14 → w.heap.size ≤ b15 → Blok w' b14 84 #[.int .i64 V.1, .int .i64 V.2.1, .int .i64 V.2.2] → Blok w' b15 91 #[.int .i64 E.slot, .int .i64 E.frm, .bool E.heard, .int .i64 E.value] → Below w.heap.size w w' → Q .normal ((((((((A.put (some 133) (.tuple #[.agg #[.int .i64 V.1, .int .i64 V.2.1, .int .i64 V.2.2], E.v, .agg #[.int .i64 0, .int .i64 (-1)]])).put (some 119) (.tuple #[.agg #[.int .i64 V.1, .int .i64 V.2.1, .int .i64 V.2.2], E.v, .agg #[.int .i64 0, .int .i64 (-1)]])).put (some 134) (.agg #[.int .i64 V.1, .int .i64 V.2.1, .int .i64 V.2.2])).put (some 135) E.v).put (some 136) (.agg #[.int .i64 0, .int .i64 (-1)])).put (some 14) (.pointer (some ⟨b14, 0, none⟩))).put (some 15) (.pointer (some ⟨b15, 0, none⟩))).put (some 16) v16) w') : wpAnyH Tryz.prog .any ops19 Q S fuel l A w := by
  have hg : ∀ j, j < 24 → l.getD j true = decide (j < 13) := fun j hj => by
    have := List.all_eq_true.1 h13 j (List.mem_range.2 hj)
    simpa using this
  have hf : ∀ i, 13 ≤ i → i < 24 → ¬ (l.getD i false = true) := fun i h1 h2 => by
    rw [← getD_two (by rw [hl]; exact h2), hg i h2]
    simp; omega
  refine wpAnyH_up (I := J19 w (.tuple #[.agg #[.int .i64 V.1, .int .i64 V.2.1, .int .i64 V.2.2], E.v, .agg #[.int .i64 0, .int .i64 (-1)]]) (.agg #[.int .i64 V.1, .int .i64 V.2.1, .int .i64 V.2.2]) E.v (.agg #[.int .i64 0, .int .i64 (-1)]) #[.int .i64 V.1, .int .i64 V.2.1, .int .i64 V.2.2] #[.int .i64 E.slot, .int .i64 E.frm, .bool E.heard, .int .i64 E.value] #[.int .i64 0, .int .i64 (-1)]) (F19 pa pn pc vm vd vs heard) [133, 119, 134, 135, 136, 14, 15, 16] [13, 14, 15, 16, 17, 18, 19, 20, 21, 22, 23] (by kernel_rfl) (by kernel_rfl) (by rw [hA.1]; rfl) hA hl hlf (fun j hj => ?_) ?_ (fun up u w' hJ => hS w' hJ.low) (fun A hA => StepsUp.cons (o := op19_13) (by kernel_rfl) (fun up u w' _ hd hJ => arm19_13 hA K5 hd hJ) (StepsUp.cons (o := op19_14) (by kernel_rfl) (fun up u w' _ hd hJ => arm19_14 hA hd hJ) (StepsUp.cons (o := op19_15) (by kernel_rfl) (fun up u w' _ hd hJ => arm19_15 hA hd hJ) (StepsUp.cons (o := op19_16) (by kernel_rfl) (fun up u w' _ hd hJ => arm19_16 hA hd hJ) (StepsUp.cons (o := op19_17) (by kernel_rfl) (fun up u w' _ hd hJ => arm19_17 hA hd hJ) (StepsUp.cons (o := op19_18) (by kernel_rfl) (fun up u w' hun hd hJ => arm19_18 hA hun hd hJ) (StepsUp.cons (o := op19_19) (by kernel_rfl) (fun up u w' hun hd hJ => arm19_19 hA hun hd hJ) (StepsUp.cons (o := op19_20) (by kernel_rfl) (fun up u w' hun hd hJ => arm19_20 hA hun hd hJ) (StepsUp.cons (o := op19_21) (by kernel_rfl) (fun up u w' _ hd hJ => arm19_21 hA hd hJ) (StepsUp.cons (o := op19_22) (by kernel_rfl) (fun up u w' _ hd hJ => arm19_22 hA hd hJ) (StepsUp.cons (o := op19_23) (by kernel_rfl) (fun up u w' _ hd hJ => arm19_23 hA hd hJ) (StepsUp.nil)))))))))))) (fun up u w' hup hJ => ?_)
  · by_cases h : j < 24
    · rw [hg j h]
      simp only [List.mem_cons, List.not_mem_nil, or_false, not_or] at hj
      exact decide_eq_true (by omega)
    · rw [Array.getD_eq_getD_getElem?, Array.getElem?_eq_none (by omega)]; rfl
  · exact ⟨Below.refl _ _, fun h => absurd h (hf 13 (by omega) (by omega)), fun h => absurd h (hf 14 (by omega) (by omega)), fun h => absurd h (hf 15 (by omega) (by omega)), fun h => absurd h (hf 16 (by omega) (by omega)), fun h => absurd h (hf 17 (by omega) (by omega)), fun h => absurd h (hf 18 (by omega) (by omega)), fun h => absurd h (hf 19 (by omega) (by omega)), fun h => absurd h (hf 20 (by omega) (by omega)), fun h => absurd h (hf 21 (by omega) (by omega)), fun h => absurd h (hf 22 (by omega) (by omega)), fun h => absurd h (hf 23 (by omega) (by omega))⟩
  · obtain ⟨b14, hu14, hz14, hB14⟩ := hJ.fin0 (hup 18 (by simp)) (hup 21 (by simp))
    obtain ⟨b15, hu15, hz15, hB15⟩ := hJ.fin1 (hup 19 (by simp)) (hup 22 (by simp))
    have h := h0 b14 b15 (u 16) w' hz14 hz15 hB14 hB15 hJ.low
    have e : putF A [133, 119, 134, 135, 136, 14, 15, 16] u = (((((((((A.put (some 133) (.tuple #[.agg #[.int .i64 V.1, .int .i64 V.2.1, .int .i64 V.2.2], E.v, .agg #[.int .i64 0, .int .i64 (-1)]])).put (some 119) (.tuple #[.agg #[.int .i64 V.1, .int .i64 V.2.1, .int .i64 V.2.2], E.v, .agg #[.int .i64 0, .int .i64 (-1)]])).put (some 134) (.agg #[.int .i64 V.1, .int .i64 V.2.1, .int .i64 V.2.2])).put (some 135) E.v).put (some 136) (.agg #[.int .i64 0, .int .i64 (-1)])).put (some 14) (.pointer (some ⟨b14, 0, none⟩))).put (some 15) (.pointer (some ⟨b15, 0, none⟩))).put (some 16) (u 16))) := by
      simp only [putF, List.foldl_cons, List.foldl_nil, hJ.call (hup 13 (by simp)), hJ.mv (hup 14 (by simp)), hJ.x0 (hup 15 (by simp)), hJ.x1 (hup 16 (by simp)), hJ.x2 (hup 17 (by simp)), hu14, hu15]
    rw [e]
    exact h
end Go.Proofs.YtoekajpjfoolpaaGreatDoor
