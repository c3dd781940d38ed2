/- A range over a function whose iterator keeps its state in a box of its own (strings.SplitSeq): the loop's law. No program in sight. -/
import Derived.RangeFuncNested
import Derived.RangeFuncFrom
import Derived.RangeFuncBox
import Derived.Test.YtgghnncgeogemaaGreatDoorLib
namespace Go.Proofs.YtgghnncgeogemaaGreatDoor
open Go.RowKit

/-- What abides new blocks, and whatever is done to block Bs. -/
def AbidesBox {β : Type} (Bs : Option Nat) (J : β → World → Prop) : Prop := ∀ s W W' row, J s W → W.grownBy W' row → (∀ r, row = some r → Bs = some r) → J s W'

/-- An iterator that keeps its state in block Bs: all of S, or a part of which Sp is true. -/
def SeqBox {α : Type} (F : Fence) (n : Nat) (P : Program) (g : Nat) (lb : Array Value) (encs : α → Array Value) (Kp : World → World → Prop) (S Sp : List α → Prop) (Bs : Option Nat) (w : World) : Prop :=
  ∀ (l : Nat) (J Jx : List α → World → Prop) (W : World), Below w.heap.size w W → AbidesBox Bs J → AbidesBox Bs Jx →
    (∀ pre x W1, J pre W1 → Sp (pre ++ [x]) → YieldAt F (n - 1) P l (encs x) W1 fun e W' =>
      (e = .returned (.bool true) ∧ J (pre ++ [x]) W' ∧ Kp W1 W') ∨ (e = .returned (.bool false) ∧ Jx (pre ++ [x]) W')) →
    J [] W →
    CallsIn F n P g (#[.func (.yield l) #[] #[]] ++ lb) W fun e W' => (∃ v, e = .returned v) ∧ ((∃ xs, S xs ∧ J xs W') ∨ (∃ pre, Sp pre ∧ Jx pre W'))

theorem grown_other {W W' : World} {row Bs : Option Nat} {k : Nat} {o : Obj} (hg : W.grownBy W' row) (hr : ∀ r, row = some r → Bs = some r) (hne : Bs ≠ some k) (hk : W.heap[k]? = some o) : W'.heap[k]? = some o :=
  (hg.block k (Array.getElem?_eq_some_iff.1 hk).1 (fun e => hne (hr k e.symm))).trans hk

/-- The record of the loop l, and the block for the rounds' deferred calls, as they stand between two rounds. -/
def BookAt (l D : Nat) (r : Loop) (W : World) : Prop := W.heap[l]? = some (.loop r) ∧ W.heap[D]? = some (.deferred (some []))
theorem BookAt.grown {l D : Nat} {r : Loop} {W W' : World} {row Bs : Option Nat} (h : BookAt l D r W) (hg : W.grownBy W' row) (hr : ∀ q, row = some q → Bs = some q) (h1 : Bs ≠ some l) (h2 : Bs ≠ some D) : BookAt l D r W' :=
  ⟨grown_other hg hr h1 h.1, grown_other hg hr h2 h.2⟩
theorem BookAt.kept {l D B : Nat} {r : Loop} {W W' : World} (h : BookAt l D r W) (hk : KeepsFrom B W W') (h1 : B ≤ l) (h2 : B ≤ D) : BookAt l D r W' :=
  ⟨hk.same l _ h1 h.1 rfl, hk.same D _ h2 h.2 rfl⟩

variable {F : Fence} {n : Nat} {P : Program}

/-- The loop's law. -/
theorem wpIn_rangeFunc_box {α : Type} {g : Operand} {ps : Array Tmp} {assign body : Code} {Q : Exit → Act → World → Prop} {a : Act} {w : World}
    (hro : F.round = none) (h1 : 1 ≤ n) {gf : Nat} {lb : Array Value} (hg : a.eval g = .func (.func gf) #[] lb) (hFg : F.fn gf) (eg : ∀ args w, (callFunc gf args).run P w = .ok (.enter gf args) w)
    {encs : α → Array Value} {Kp : World → World → Prop} {S Sp : List α → Prop} {Bs : Option Nat} (hseq : SeqBox F (n - 1) P gf lb encs Kp S Sp Bs w) (hBs : ∀ b, Bs = some b → b < w.heap.size)
    (hKt : ∀ {A B C : World}, Kp A B → Kp B C → Kp A C) (hKb : ∀ (W : World) (l : Nat) (o o' : Obj), w.heap.size ≤ l → W.heap[l]? = some o → o.isCells = false → o.isWalk = false → Kp W (W.putObj l o')) (hps : ∀ x, (encs x).size = ps.size)
    (I : List α → World → Prop) (Ix : Code → List α → World → Prop) (hI : OwnFrom w.heap.size I) (hIx : ∀ c, OwnFrom w.heap.size (Ix c)) (hIb : AbidesBox Bs I) (hIxb : ∀ c, AbidesBox Bs (Ix c)) (h0 : I [] w)
    (Ax : α → Act → World → Prop) (hAx : ∀ x a', OwnFrom w.heap.size (fun (_ : Unit) W => Ax x a' W))
    (hassign : ∀ (l : Nat) (pre : List α) (x : α) (W : World) (K : Act → World → Prop), I pre W → (∀ a' W', KeepsFrom w.heap.size W W' → Kp W W' → I pre W' → Ax x a' W' → K a' W') →
      assign.wpIn (F.inRound l) (n - 1 - 1) P (Exit.then K (fun _ _ _ => False)) { tmps := (ps.zip (encs x)).foldl (fun t (p, v) => t.setIfInBounds p v) a.tmps, defers := [] } W)
    (hbody : ∀ (l : Nat) (pre : List α) (x : α) (a' : Act) (W : World), I pre W → Ax x a' W → Sp (pre ++ [x]) → body.wpIn (F.inRound l) (n - 1 - 1) P (ownPostG w.heap.size Kp I Ix (pre ++ [x]) W) a' W)
    (hdone : ∀ (D : Nat) (xs : List α) (W : World), w.heap.size ≤ D → S xs → I xs W → W.heap[D]? = some (.deferred (some [])) → Q .normal { a with defers := { target := .collected D, args := #[] } :: a.defers } W)
    (hstop : ∀ (D : Nat) (c : Code) (pre : List α) (W : World), w.heap.size ≤ D → Sp pre → Ix c pre W → W.heap[D]? = some (.deferred (some [])) → c.wpIn F n P Q { a with defers := { target := .collected D, args := #[] } :: a.defers } W) :
    (Code.rangeFunc g ps assign body).wpIn F n P Q a w := by
  refine wpIn_rangeFunc fun fn hfn => ?_
  rw [hro]
  let D := w.heap.size
  let l := w.heap.size + 1
  let rec0 : LoopState → Option Code → Loop := fun st pe => { state := st, pending := pe, fn, tmps := a.tmps, params := ps, assign, body, defers := D }
  let W1 := (w.alloc (.deferred (some []))).alloc (.loop (rec0 .ready none))
  have hbook : BookAt l D (rec0 .ready none) W1 := by
    refine ⟨?_, ?_⟩
    · have := World.alloc_heap_new (w.alloc (.deferred (some []))) (.loop (rec0 .ready none))
      rwa [World.size_alloc] at this
    · exact (Below.heap_alloc _ _ _ (by simp [D])).trans (World.alloc_heap_new w _)
  have hI1 : I [] W1 := hI.alloc _ (hI.alloc _ h0)
  have hb1 : Below w.heap.size w W1 := ((Below.refl _ w).alloc (Nat.le_refl _) _).alloc (by simp) _
  have hl : Bs ≠ some l := fun e => by have := hBs _ e; omega
  have hD : Bs ≠ some D := fun e => by have := hBs _ e; omega
  refine ⟨l, [{ target := .collected D, args := #[] }], W1, { target := .fn (.func gf) lb, args := #[.func (.yield l) #[] #[]] }, W1, gf, #[.func (.yield l) #[] #[]] ++ lb, W1, run_enterLoop_outer _ _ _ _ _, ?_, ?_, ?_, fun _ => h1, ?_⟩
  · simp only [resolve, hg]; simp [go_sem]
  · intro f' hf'; simp [Target.leads] at hf'; subst hf'; exact hFg
  · simp [invoke, go_sem, eg]
  refine (hseq l (fun pre W => I pre W ∧ BookAt l D (rec0 .ready none) W) (fun pre W => ∃ c, Ix c pre W ∧ BookAt l D (rec0 .done (some c)) W) W1 hb1
    (fun s A B row hs hg' hr => ⟨hIb s A B row hs.1 hg' hr, hs.2.grown hg' hr hl hD⟩)
    (fun s A B row ⟨c, hc, hk⟩ hg' hr => ⟨c, hIxb c s A B row hc hg' hr, hk.grown hg' hr hl hD⟩) ?_ ⟨hI1, hbook⟩).mono ?_
  · rintro pre x W ⟨hi, hk⟩ hlen
    refine ⟨fn, _, assign, body, run_yield (P := P) (args := encs x) hk.1 (hps x), roundIn_of_wpIn hfn (hassign _ pre x W _ hi ?_)⟩
    intro a' Wa hkfa hkpa hia hax
    have hka : BookAt l D (rec0 .ready none) Wa := hk.kept hkfa (by show w.heap.size ≤ w.heap.size + 1; omega) (Nat.le_refl _)
    have hlt : l < Wa.heap.size := (Array.getElem?_eq_some_iff.1 hka.1).1
    have hle : w.heap.size ≤ l := by show w.heap.size ≤ w.heap.size + 1; omega
    have hne : D ≠ l := by show w.heap.size ≠ w.heap.size + 1; omega
    have hbusy : BookAt l D { rec0 .ready none with state := .busy } (Wa.putObj l (.loop { rec0 .ready none with state := .busy })) := ⟨World.putObj_heap_same hlt, (World.putObj_heap_other hne).trans hka.2⟩
    refine ⟨_, run_beginRound hka.1 rfl, wpIn_mono (hbody _ pre x a' _ (hI.putObj _ hia hle hka.1 rfl) ((hAx x a').putObj (s := ()) _ hax hle hka.1 rfl) hlen) ?_⟩
    have hw2 : Kp Wa (Wa.putObj l (.loop { rec0 .ready none with state := .busy })) := hKb _ _ _ _ hle hka.1 rfl rfl
    have hend : ∀ (jump : Option Code) (W3 : World), KeepsFrom w.heap.size (Wa.putObj l (.loop { rec0 .ready none with state := .busy })) W3 →
        (Instr.endRound l jump).run P W3 = .ok (.bool jump.isNone) (W3.putObj l (.loop (rec0 (if jump.isNone then .ready else .done) jump))) ∧ W3.heap[l]? = some (.loop { rec0 .ready none with state := .busy })
          ∧ BookAt l D (rec0 (if jump.isNone then .ready else .done) jump) (W3.putObj l (.loop (rec0 (if jump.isNone then .ready else .done) jump))) := fun jump W3 hk3 => by
      have hb3 := hbusy.kept hk3 hle (Nat.le_refl _)
      exact ⟨run_endRound (P := P) jump hb3.1, hb3.1, World.putObj_heap_same (Array.getElem?_eq_some_iff.1 hb3.1).1, (World.putObj_heap_other hne).trans hb3.2⟩
    rintro e a3 W3 hp
    have leave : ∀ c : Code, KeepsFrom w.heap.size (Wa.putObj l (.loop { rec0 .ready none with state := .busy })) W3 → Ix c (pre ++ [x]) W3 →
        ∃ c', Ix c' (pre ++ [x]) (W3.putObj l (.loop (rec0 .done (some c)))) ∧ BookAt l D (rec0 .done (some c')) (W3.putObj l (.loop (rec0 .done (some c)))) := fun c hk3 hi3 => by
      obtain ⟨_, hl3, hb3⟩ := hend (some c) W3 hk3
      exact ⟨c, (hIx c).putObj _ hi3 hle hl3 rfl, hb3⟩
    cases e with
    | normal =>
      obtain ⟨hr, hl3, hb3⟩ := hend none W3 hp.1
      exact ⟨_, _, hr, .inl ⟨rfl, ⟨hI.putObj _ hp.2.2 hle hl3 rfl, hb3⟩, hKt hkpa (hKt (hKt hw2 hp.2.1) (hKb _ _ _ _ hle hl3 rfl rfl))⟩⟩
    | ret => exact ⟨_, _, (hend (some .ret) W3 hp.1).1, .inr ⟨rfl, leave _ hp.1 hp.2⟩⟩
    | exit id => exact ⟨_, _, (hend (some (.exit id)) W3 hp.1).1, .inr ⟨rfl, leave _ hp.1 hp.2⟩⟩
    | goto t => exact ⟨_, _, (hend (some (.goto t)) W3 hp.1).1, .inr ⟨rfl, leave _ hp.1 hp.2⟩⟩
    | panic ch => exact hp.elim
    | outgrown => exact hp.elim
  · have hle : w.heap.size ≤ l := by show w.heap.size ≤ w.heap.size + 1; omega
    have hne : D ≠ l := by show w.heap.size ≠ w.heap.size + 1; omega
    rintro e W2 ⟨⟨v, rfl⟩, (⟨xs, hS, hi, hk⟩ | ⟨pre, hSp, c, hi, hk⟩)⟩
    · exact ⟨none, _, run_endLoop (P := P) hk.1 (by simp [rec0]), hdone _ xs _ (Nat.le_refl _) hS (hI.putObj _ hi hle hk.1 rfl) ((World.putObj_heap_other hne).trans hk.2)⟩
    · exact ⟨some c, _, run_endLoop (P := P) hk.1 (by simp [rec0]), hstop _ c pre _ (Nat.le_refl _) hSp ((hIx c).putObj _ hi hle hk.1 rfl) ((World.putObj_heap_other hne).trans hk.2)⟩
end Go.Proofs.YtgghnncgeogemaaGreatDoor
