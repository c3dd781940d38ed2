/- a region that draws its order, by what holds at every stage. No program in sight. -/
import Derived.Test.YtoekajpjfoolpaaGreatDoorLib
import Derived.OrdersHeld
import Derived.RegionTactic
namespace Go.Proofs.YtoekajpjfoolpaaGreatDoor
open Go.RowKit

section
variable {P : Program} {ops : Array Oper} {Q : Exit → Act → World → Prop} {md : Region.Mode}
/-- How many have not come up. -/
def lefts (l : Array Bool) : Nat := l.toList.countP (fun b => !b)
theorem lefts_set {l : Array Bool} {i : Nat} (h : l.getD i true = false) : lefts (l.setIfInBounds i true) + 1 = lefts l := by
  have hi : i < l.size := by
    rcases Nat.lt_or_ge i l.size with h' | h'
    · exact h'
    · rw [Array.getD_eq_getD_getElem?, Array.getElem?_eq_none h'] at h; simp at h
  have hv : l.toList[i]'(by simpa using hi) = false := by simpa [hi] using h
  unfold lefts
  have h0 : 0 < l.toList.countP (fun b => !b) := List.countP_pos_iff.2 ⟨_, List.getElem_mem (by simpa using hi), by rw [hv]; rfl⟩
  have h1 := List.countP_set (p := fun b : Bool => !b) (l := l.toList) (i := i) (a := true) (by simpa using hi)
  rw [hv] at h1
  rw [Array.toList_setIfInBounds, h1]
  simp only [Bool.not_false, Bool.not_true, if_true]
  simp only [Bool.false_eq_true, if_false]
  omega
/-- What holds at the beginning, and is kept by every operation that may come up, holds at the end. -/
theorem wpAny_inv {I : Array Bool → Act → World → Prop} (h0 : ∀ listed a w, I listed a w → Region.ready md ops listed = [] → Q .normal a w)
    (h1 : ∀ listed a w i, I listed a w → i ∈ Region.ready md ops listed → wpOp P ops Q i (fun a' w' => I (listed.setIfInBounds i true) a' w') a w) :
    ∀ (fuel : Nat) (listed : Array Bool) (a : Act) (w : World), lefts listed ≤ fuel → I listed a w → wpAny P md ops Q fuel listed a w
  | 0, listed, a, w, hl, h => by
    have hr : Region.ready md ops listed = [] := by
      refine List.eq_nil_iff_forall_not_mem.2 fun i hi => ?_
      have := lefts_set (mem_ready.1 hi).1
      omega
    exact ⟨hr, h0 listed a w h hr⟩
  | fuel + 1, listed, a, w, hl, h => by
    refine ⟨fun hr => h0 listed a w h hr, fun i hi => ?_⟩
    refine wpOp_mono (fun a' w' h' => wpAny_inv h0 h1 fuel _ a' w' ?_ h') (h1 listed a w i h hi)
    have := lefts_set (mem_ready.1 hi).1
    omega
/-- Some slots of a frame, as they are. -/
def putF (A : Act) (ts : List Nat) (u : Nat → Value) : Act := ts.foldl (fun b t => b.put (some t) (u t)) A
/-- One of them anew. -/
def upd (u : Nat → Value) (t : Nat) (v : Value) : Nat → Value := fun k => if k = t then v else u k
theorem upd_same (u : Nat → Value) (t : Nat) (v : Value) : upd u t v t = v := if_pos rfl
theorem upd_ne (u : Nat → Value) {t k : Nat} (v : Value) (h : k ≠ t) : upd u t v k = u k := if_neg h
theorem put_put (A : Act) (t : Nat) (v x : Value) : (A.put (some t) v).put (some t) x = A.put (some t) x := by
  simp [Act.put]
theorem putF_put : ∀ (ts : List Nat) (A : Act) (u : Nat → Value) (t : Nat) (v : Value), t ∉ ts → (putF A ts u).put (some t) v = putF (A.put (some t) v) ts u
  | [], _, _, _, _, _ => rfl
  | x :: r, A, u, t, v, h => by
    rw [List.mem_cons, not_or] at h
    show (putF (A.put (some x) (u x)) r u).put (some t) v = putF ((A.put (some t) v).put (some x) (u x)) r u
    rw [putF_put r _ u t v h.2, Act.put_comm A (x := some t) (y := some x) v (u x) (fun d hd e => h.1 (by injection hd with hd; injection e with e; omega))]
theorem putF_congr : ∀ (ts : List Nat) (A : Act) (u v : Nat → Value), (∀ t ∈ ts, u t = v t) → putF A ts u = putF A ts v
  | [], _, _, _, _ => rfl
  | x :: r, A, u, v, h => by
    show putF (A.put (some x) (u x)) r u = putF (A.put (some x) (v x)) r v
    rw [h x (by simp)]
    exact putF_congr r _ u v (fun t ht => h t (List.mem_cons_of_mem _ ht))
theorem putF_upd : ∀ (ts : List Nat) (A : Act) (u : Nat → Value) (t : Nat) (v : Value), ts.Nodup → t ∈ ts → (putF A ts u).put (some t) v = putF A ts (upd u t v)
  | [], _, _, _, _, _, h => by cases h
  | x :: r, A, u, t, v, hn, h => by
    rw [List.nodup_cons] at hn
    show (putF (A.put (some x) (u x)) r u).put (some t) v = putF (A.put (some x) (upd u t v x)) r (upd u t v)
    by_cases e : t = x
    · subst e
      rw [putF_put r _ u t v hn.1, put_put, upd_same]
      exact putF_congr r _ _ _ (fun k hk => (upd_ne u v (fun e => hn.1 (by subst e; exact hk))).symm)
    · rw [upd_ne u v (Ne.symm e), putF_upd r _ u t v hn.2 ((List.mem_cons.1 h).resolve_left e)]
theorem putF_size : ∀ (ts : List Nat) (A : Act) (u : Nat → Value), (putF A ts u).tmps.size = A.tmps.size
  | [], _, _ => rfl
  | x :: r, A, u => by
    show (putF (A.put (some x) (u x)) r u).tmps.size = _
    rw [putF_size r]; simp [Act.put]
theorem eval_put_tmp (A : Act) (t k : Nat) (v : Value) : (A.put (some t) v).eval (.tmp k) = if k = t ∧ t < A.tmps.size then v else A.eval (.tmp k) := by
  simp only [Act.put, Act.eval]
  by_cases e : k = t
  · subst e
    by_cases h : k < A.tmps.size
    · simp [h]
    · simp [h]
  · simp [e, Ne.symm e, Array.getElem?_setIfInBounds_ne]
theorem putF_eval : ∀ (ts : List Nat) (A : Act) (u : Nat → Value) (k : Nat), ts.Nodup → (putF A ts u).eval (.tmp k) = if k ∈ ts ∧ k < A.tmps.size then u k else A.eval (.tmp k)
  | [], _, _, _, _ => by simp [putF]
  | x :: r, A, u, k, hn => by
    rw [List.nodup_cons] at hn
    show (putF (A.put (some x) (u x)) r u).eval (.tmp k) = _
    rw [putF_eval r _ u k hn.2, eval_put_tmp]
    have hs : (A.put (some x) (u x)).tmps.size = A.tmps.size := by simp [Act.put]
    rw [hs]
    by_cases e : k = x
    · subst e; simp [hn.1]
    · simp [e]
/-- A slot of these. -/
theorem putF_in {ts : List Nat} {A : Act} {u : Nat → Value} {k : Nat} (hn : ts.Nodup) (hk : k ∈ ts) (hs : k < A.tmps.size) : (putF A ts u).eval (.tmp k) = u k := by
  rw [putF_eval ts A u k hn, if_pos ⟨hk, hs⟩]
/-- Another slot. -/
theorem putF_out {ts : List Nat} {A : Act} {u : Nat → Value} {k : Nat} (hn : ts.Nodup) (hk : k ∉ ts) : (putF A ts u).eval (.tmp k) = A.eval (.tmp k) := by
  rw [putF_eval ts A u k hn, if_neg (fun h => hk h.1)]
/-- The slots as they stand. -/
theorem putF_self : ∀ (ts : List Nat) (A : Act), (∀ t ∈ ts, t < A.tmps.size) → putF A ts (fun k => A.eval (.tmp k)) = A
  | [], _, _ => rfl
  | x :: r, A, h => by
    show putF (A.put (some x) (A.eval (.tmp x))) r _ = A
    have e : A.put (some x) (A.eval (.tmp x)) = A := by
      have hx := h x (by simp)
      cases A with
      | mk t d =>
        simp only [Act.put, Act.eval]
        congr 1
        refine Array.ext (by simp) (fun i h1 h2 => ?_)
        rw [Array.getElem_setIfInBounds]
        split
        · rename_i e; subst e; simp
        · rfl
    rw [e]
    exact putF_self r A (fun t ht => h t (List.mem_cons_of_mem _ ht))
variable {S : World → Prop}
/-- The way to every end: what is kept by each of those that are left holds at the end. -/
theorem wpAnyH_inv {I : Array Bool → (Nat → Value) → World → Prop} {A : Act} {ts rest : List Nat}
    (hS : ∀ l u w, I l u w → S w)
    (h0 : ∀ l u w, (∀ j, j ∉ rest → l.getD j true = true) → Region.ready md ops l = [] → I l u w → Q .normal (putF A ts u) w)
    (h1 : ∀ i ∈ rest, ∀ l u w o, ops[i]? = some o → (∀ j, j ∉ rest → l.getD j true = true) → l.getD i true = false → (∀ e ∈ o.after, Region.binds md e = true → l.getD e.on false = true) → I l u w →
      if Region.wanted o (yielded ops (putF A ts u).tmps) = true then Oper.wp P o (putF A ts u) w (fun a' w' => ∃ u', a' = putF A ts u' ∧ I (l.setIfInBounds i true) u' w') Q else ∃ u', (putF A ts u).put o.dst undef = putF A ts u' ∧ I (l.setIfInBounds i true) u' w) :
    ∀ (fuel : Nat) (l : Array Bool) (u : Nat → Value) (w : World), lefts l ≤ fuel → (∀ j, j ∉ rest → l.getD j true = true) → I l u w → wpAnyH P md ops Q S fuel l (putF A ts u) w
  | 0, l, u, w, hl, hj, h => by
    have hr : Region.ready md ops l = [] := by
      refine List.eq_nil_iff_forall_not_mem.2 fun i hi => ?_
      have := lefts_set (mem_ready.1 hi).1
      omega
    exact ⟨hr, h0 l u w hj hr h⟩
  | fuel + 1, l, u, w, hl, hj, h => by
    refine ⟨fun hr => h0 l u w hj hr h, fun i hi => ?_⟩
    obtain ⟨hun, o, ho, hall⟩ := mem_ready.1 hi
    have hir : i ∈ rest := Classical.byContradiction fun hx => by rw [hj i hx] at hun; cases hun
    have hstep := h1 i hir l u w o ho hj hun hall h
    have hlf := lefts_set hun
    have hj' : ∀ j, j ∉ rest → (l.setIfInBounds i true).getD j true = true := fun j hjr => by
      rw [getD_set_ne true (fun e => hjr (by rw [← e]; exact hir))]; exact hj j hjr
    have fin : ∀ a' w', (∃ u', a' = putF A ts u' ∧ I (l.setIfInBounds i true) u' w') → S w' ∧ wpAnyH P md ops Q S fuel (l.setIfInBounds i true) a' w' := by
      rintro a' w' ⟨u', rfl, hI⟩
      exact ⟨hS _ _ _ hI, wpAnyH_inv hS h0 h1 fuel _ u' w' (by omega) hj' hI⟩
    refine wpOp_step ho (fun K' hK => ?_)
    split
    · rename_i hw
      rw [if_pos hw] at hstep
      exact Oper.wp_mono (fun a' w' hx => hK a' w' (fin a' w' hx)) hstep
    · rename_i hw
      rw [if_neg hw] at hstep
      exact hK _ _ (fin _ _ hstep)
/-- Nothing is left that could come up: who waits for nobody has come up. -/
theorem ready_nil {l : Array Bool} (h : Region.ready md ops l = []) {i : Nat} {o : Oper} (ho : ops[i]? = some o) (hd : ∀ e ∈ o.after, Region.binds md e = true → l.getD e.on false = true) : l.getD i true = true := by
  cases hl : l.getD i true
  · have : i ∈ Region.ready md ops l := mem_ready.2 ⟨hl, o, ho, hd⟩
    rw [h] at this; cases this
  · rfl
theorem getD_two {l : Array Bool} {i : Nat} (h : i < l.size) : l.getD i true = l.getD i false := by simp [h]
theorem getD_now {l : Array Bool} {i : Nat} (h : l.getD i true = false) : (l.setIfInBounds i true).getD i false = true := by
  have hi : i < l.size := by
    rcases Nat.lt_or_ge i l.size with h' | h'
    · exact h'
    · rw [Array.getD_eq_getD_getElem?, Array.getElem?_eq_none h'] at h; simp at h
  simp [hi]
/-- Number i has come up, too. -/
def upB (up : Nat → Bool) (i : Nat) : Nat → Bool := fun j => if j = i then true else up j
theorem upB_set {l : Array Bool} {i : Nat} (h : l.getD i true = false) : (fun j => (l.setIfInBounds i true).getD j false) = upB (fun j => l.getD j false) i := by
  funext j
  unfold upB
  by_cases e : j = i
  · subst e; rw [if_pos rfl]; exact getD_now h
  · rw [if_neg e]; exact getD_set_ne false (Ne.symm e)
/-- Each waits for earlier ones alone. -/
def early (md : Region.Mode) (ops : Array Oper) : Bool := (List.range ops.size).all fun i => match ops[i]? with | some o => o.after.all fun e => !Region.binds md e || decide (e.on < i) | none => true
theorem early_spec (h : early md ops = true) {i : Nat} {o : Oper} (ho : ops[i]? = some o) : ∀ e ∈ o.after, Region.binds md e = true → e.on < i := by
  have hi : i < ops.size := (Array.getElem?_eq_some_iff.1 ho).1
  have h1 := List.all_eq_true.1 h i (List.mem_range.2 hi)
  rw [ho] at h1
  intro e he hb
  have h2 := (Array.all_eq_true_iff_forall_mem.1 h1) e he
  rw [hb] at h2
  simpa using h2
theorem all_up {l : Array Bool} (hs : l.size = ops.size) (he : early md ops = true) (hr : Region.ready md ops l = []) : ∀ n i, i < n → i < ops.size → l.getD i false = true
  | 0, i, h, _ => absurd h (Nat.not_lt_zero _)
  | n + 1, i, h, hi => by
    by_cases e : i < n
    · exact all_up hs he hr n i e hi
    · have ho : ops[i]? = some ops[i] := Array.getElem?_eq_getElem hi
      rw [← getD_two (by rw [hs]; exact hi)]
      refine ready_nil hr ho (fun x hx hb => ?_)
      have hlt := early_spec he ho x hx hb
      exact all_up hs he hr n x.on (by omega) (by omega)
/-- What each of those that are left has to keep. -/
def StepsUp (P : Program) (md : Region.Mode) (ops : Array Oper) (Q : Exit → Act → World → Prop) (I : (Nat → Bool) → (Nat → Value) → World → Prop) (ts : List Nat) (A : Act) (rest : List Nat) : Prop :=
  ∀ i ∈ rest, ∀ up u w o, ops[i]? = some o → up i = false → (∀ e ∈ o.after, Region.binds md e = true → up e.on = true) → I up u w →
    if Region.wanted o (yielded ops (putF A ts u).tmps) = true then Oper.wp P o (putF A ts u) w (fun a' w' => ∃ u', a' = putF A ts u' ∧ I (upB up i) u' w') Q else ∃ u', (putF A ts u).put o.dst undef = putF A ts u' ∧ I (upB up i) u' w
theorem StepsUp.nil {I : (Nat → Bool) → (Nat → Value) → World → Prop} {ts : List Nat} {A : Act} : StepsUp P md ops Q I ts A [] := fun _ h => by cases h
theorem StepsUp.cons {I : (Nat → Bool) → (Nat → Value) → World → Prop} {ts : List Nat} {A : Act} {rest : List Nat} {i : Nat} {o : Oper} (ho : ops[i]? = some o)
    (h : ∀ up u w, up i = false → (∀ e ∈ o.after, Region.binds md e = true → up e.on = true) → I up u w →
      if Region.wanted o (yielded ops (putF A ts u).tmps) = true then Oper.wp P o (putF A ts u) w (fun a' w' => ∃ u', a' = putF A ts u' ∧ I (upB up i) u' w') Q else ∃ u', (putF A ts u).put o.dst undef = putF A ts u' ∧ I (upB up i) u' w)
    (hs : StepsUp P md ops Q I ts A rest) : StepsUp P md ops Q I ts A (i :: rest) := fun j hj up u w o' ho' hun hd hI => by
  rcases List.mem_cons.1 hj with rfl | hj
  · rw [ho] at ho'
    obtain rfl := Option.some.inj ho'
    exact h up u w hun hd hI
  · exact hs j hj up u w o' ho' hun hd hI
/-- The same, with the frame behind a few facts, and what has come up as a function. -/
theorem wpAnyH_up {I : (Nat → Bool) → (Nat → Value) → World → Prop} {A : Act} (F : Act → Prop) (ts rest : List Nat) {l : Array Bool} {w : World} {fuel : Nat}
    (he : early md ops = true) (hrs : rest.all (fun i => decide (i < ops.size)) = true) (hA : ts.all (fun t => decide (t < A.tmps.size)) = true) (hF : F A) (hl : l.size = ops.size) (hlf : lefts l ≤ fuel)
    (hj : ∀ j, j ∉ rest → l.getD j true = true) (hI : I (fun j => l.getD j false) (fun k => A.eval (.tmp k)) w)
    (hS : ∀ up u w, I up u w → S w)
    (h1 : ∀ A, F A → StepsUp P md ops Q I ts A rest)
    (h0 : ∀ up u w, (∀ i ∈ rest, up i = true) → I up u w → Q .normal (putF A ts u) w) : wpAnyH P md ops Q S fuel l A w := by
  have hself : putF A ts (fun k => A.eval (.tmp k)) = A := putF_self ts A (fun t ht => of_decide_eq_true (List.all_eq_true.1 hA t ht))
  have main := wpAnyH_inv (P := P) (Q := Q) (md := md) (ops := ops) (S := S) (I := fun l u w => l.size = ops.size ∧ I (fun j => l.getD j false) u w) (A := A) (ts := ts) (rest := rest)
    (fun l u w h => hS _ _ _ h.2)
    (fun l u w _ hr h => h0 _ u w (fun i hi => all_up h.1 he hr (i + 1) i (by omega) (of_decide_eq_true (List.all_eq_true.1 hrs i hi))) h.2)
    (fun i hi l u w o ho _ hun hall h => by
      have hs := h1 A hF i hi (fun j => l.getD j false) u w o ho (by
        have : i < l.size := by rw [h.1]; exact (Array.getElem?_eq_some_iff.1 ho).1
        rw [← getD_two this]; exact hun) hall h.2
      have hup := upB_set hun
      have fin : ∀ (a' : Act) (w' : World), (∃ u', a' = putF A ts u' ∧ I (upB (fun j => l.getD j false) i) u' w') → ∃ u', a' = putF A ts u' ∧ (l.setIfInBounds i true).size = ops.size ∧ I (fun j => (l.setIfInBounds i true).getD j false) u' w' := by
        rintro a' w' ⟨u', e, hx⟩
        exact ⟨u', e, by simpa using h.1, by rw [hup]; exact hx⟩
      split at hs
      · rename_i hw
        rw [if_pos hw]
        exact Oper.wp_mono (fun a' w' hx => fin a' w' hx) hs
      · rename_i hw
        rw [if_neg hw]
        exact fin _ _ hs)
    fuel l (fun k => A.eval (.tmp k)) w hlf hj ⟨hl, hI⟩
  rw [hself] at main
  exact main
/-- An operation that yields a value into one of the slots. -/
theorem up_value {I : (Nat → Bool) → (Nat → Value) → World → Prop} {A : Act} {ts : List Nat} {o : Oper} {up : Nat → Bool} {u : Nat → Value} {w w' : World} {i d : Nat} {v : Value} (hg : o.guard = none) (hd : o.dst = some d) (hdt : d ∈ ts) (hn : ts.Nodup) (hrun : (execOp (putF A ts u).eval o).run P w = .ok (.value v) w') (hI : I (upB up i) (upd u d v) w') :
    if Region.wanted o (yielded ops (putF A ts u).tmps) = true then Oper.wp P o (putF A ts u) w (fun a' w' => ∃ u', a' = putF A ts u' ∧ I (upB up i) u' w') Q else ∃ u', (putF A ts u).put o.dst undef = putF A ts u' ∧ I (upB up i) u' w := by
  rw [if_pos (by unfold Region.wanted; rw [hg])]
  unfold Oper.wp
  rw [hrun, Oper.upon_value, hd]
  exact ⟨_, putF_upd ts A u d v hn hdt, hI⟩
/-- An operation that only turns the world. -/
theorem up_skip {I : (Nat → Bool) → (Nat → Value) → World → Prop} {A : Act} {ts : List Nat} {o : Oper} {up : Nat → Bool} {u : Nat → Value} {w w' : World} {i : Nat} (hg : o.guard = none) (hd : o.dst = none) (hrun : (execOp (putF A ts u).eval o).run P w = .ok .skip w') (hI : I (upB up i) u w') :
    if Region.wanted o (yielded ops (putF A ts u).tmps) = true then Oper.wp P o (putF A ts u) w (fun a' w' => ∃ u', a' = putF A ts u' ∧ I (upB up i) u' w') Q else ∃ u', (putF A ts u).put o.dst undef = putF A ts u' ∧ I (upB up i) u' w := by
  rw [if_pos (by unfold Region.wanted; rw [hg])]
  unfold Oper.wp
  rw [hrun, Oper.upon_skip, hd]
  exact ⟨u, rfl, hI⟩
/-- A call. -/
theorem up_call {I : (Nat → Bool) → (Nat → Value) → World → Prop} {A : Act} {ts : List Nat} {o : Oper} {up : Nat → Bool} {u : Nat → Value} {w : World} {i d : Nat} {f : FuncId} {args : Array Value} (hg : o.guard = none) (hd : o.dst = some d) (hdt : d ∈ ts) (hn : ts.Nodup) (hrun : (execOp (putF A ts u).eval o).run P w = .ok (.enter f args) w) (hc : Calls P f args w fun e w' => ∃ v, e = .returned v ∧ I (upB up i) (upd u d v) w') :
    if Region.wanted o (yielded ops (putF A ts u).tmps) = true then Oper.wp P o (putF A ts u) w (fun a' w' => ∃ u', a' = putF A ts u' ∧ I (upB up i) u' w') Q else ∃ u', (putF A ts u).put o.dst undef = putF A ts u' ∧ I (upB up i) u' w := by
  rw [if_pos (by unfold Region.wanted; rw [hg])]
  unfold Oper.wp
  rw [hrun, Oper.upon_enter, hd]
  refine hc.mono ?_
  rintro e w' ⟨v, rfl, hI⟩
  exact ⟨_, putF_upd ts A u d v hn hdt, hI⟩
/-- The same, the operation read out of the list. -/
theorem StepsUp.step {I : (Nat → Bool) → (Nat → Value) → World → Prop} {ts : List Nat} {A : Act} {rest : List Nat} {i : Nat} (hi : decide (i < ops.size) = true)
    (h : ∀ up u w, up i = false → (∀ e ∈ (ops[i]'(of_decide_eq_true hi)).after, Region.binds md e = true → up e.on = true) → I up u w →
      if Region.wanted (ops[i]'(of_decide_eq_true hi)) (yielded ops (putF A ts u).tmps) = true then Oper.wp P (ops[i]'(of_decide_eq_true hi)) (putF A ts u) w (fun a' w' => ∃ u', a' = putF A ts u' ∧ I (upB up i) u' w') Q else ∃ u', (putF A ts u).put (ops[i]'(of_decide_eq_true hi)).dst undef = putF A ts u' ∧ I (upB up i) u' w)
    (hs : StepsUp P md ops Q I ts A rest) : StepsUp P md ops Q I ts A (i :: rest) :=
  StepsUp.cons (Array.getElem?_eq_getElem (of_decide_eq_true hi)) h hs
/-- What is asked at the end, without its text. -/
theorem wpAnyH_gen {fuel : Nat} {l : Array Bool} {A : Act} {w : World} (h : ∀ Q0 : Exit → Act → World → Prop, (∀ a w, Q0 .normal a w → Q .normal a w) → wpAnyH P md ops Q0 S fuel l A w) : wpAnyH P md ops Q S fuel l A w := h Q (fun _ _ x => x)
end
end Go.Proofs.YtoekajpjfoolpaaGreatDoor
