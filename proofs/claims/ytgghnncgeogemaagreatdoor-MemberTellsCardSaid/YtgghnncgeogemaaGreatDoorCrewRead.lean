/- crew.Read. -/
import Derived.Test.YtgghnncgeogemaaGreatDoorSplitSeq
import Derived.Test.YtgghnncgeogemaaGreatDoorTxt
import Derived.Test.YtgghnncgeogemaaGreatDoorCrewIter
namespace Go.Proofs.YtgghnncgeogemaaGreatDoor
open Go.RowKit Go.Shelf

attribute [local go_sem] Oper.semAt_some

/-- The node that a word is, if it is one beyond the last. -/
def readOk (x : List UInt8) (last : Int) : Option Int := match numF x with
  | some n => if nodeB n = true ∧ last < n then some n else none
  | none => none
def readStep (st : Option (Nat × Int)) (x : List UInt8) : Option (Nat × Int) := st.bind fun p => (readOk x p.2).map fun n => (p.1 ||| bitOf n, n)
def readAcc (l : List (List UInt8)) : Option (Nat × Int) := l.foldl readStep (some (0, 0))
/-- crew.Read: the crew of a text; none: it is none. -/
def readF (s : List UInt8) : Option Nat := if s = [45] then some 0 else (readAcc (cutL 44 s)).map (·.1)
theorem readAcc_snoc (l : List (List UInt8)) (x : List UInt8) : readAcc (l ++ [x]) = readStep (readAcc l) x := by simp [readAcc]
theorem readAcc_none : ∀ (r : List (List UInt8)) {l : List (List UInt8)}, readAcc l = none → readAcc (l ++ r) = none
  | [], l, h => by simpa using h
  | x :: r, l, h => by
    rw [show l ++ x :: r = (l ++ [x]) ++ r by simp]
    exact readAcc_none r (by rw [readAcc_snoc, h]; rfl)
theorem readOk_some {x : List UInt8} {last n : Int} (h : readOk x last = some n) : x = Lib.itoa n ∧ nodeB n = true ∧ last < n := by
  unfold readOk at h
  split at h
  · rename_i m hm
    split at h
    · rename_i hc
      injection h with h
      subst h
      exact ⟨((numF_iff x m).1 hm).1, hc⟩
    · cases h
  · cases h
theorem readOk_of {x : List UInt8} {last n : Int} (h : x = Lib.itoa n) (hn : nodeB n = true) (hl : last < n) : readOk x last = some n := by
  have hn' := hn
  simp only [nodeB, decide_eq_true_eq] at hn'
  have : numF x = some n := (numF_iff x n).2 ⟨h, by omega, by omega⟩
  unfold readOk; rw [this]; simp only; rw [if_pos ⟨hn, hl⟩]

/-- What crew.Read answers. -/
def readV (ea : Nat → Addr) : Option Nat → Value
  | some c => .tuple #[.int .i64 c, .nilIface]
  | none => .tuple #[.int .i64 0, errV ea 1]

/-- A round's steps: what lay below n₀, what is no cells, and the iterator's boxes lie as they lay. -/
structure Rd (n₀ b0 : Nat) (W W' : World) : Prop where
  others : KeepsOthers W W'
  below : Below n₀ W W'
  boxes : ∀ j, j < 3 → W'.heap[b0 + j]? = W.heap[b0 + j]?
theorem Rd.refl (n₀ b0 : Nat) (W : World) : Rd n₀ b0 W W := ⟨KeepsOthers.refl _, Below.refl _ _, fun _ _ => rfl⟩
theorem Rd.trans {n₀ b0 : Nat} {A B C : World} (h : Rd n₀ b0 A B) (k : Rd n₀ b0 B C) : Rd n₀ b0 A C := ⟨h.others.trans k.others, h.below.trans k.below, fun j hj => (k.boxes j hj).trans (h.boxes j hj)⟩
theorem Rd.call {n₀ b0 : Nat} {A B : World} (h : Below A.heap.size A B) (h1 : n₀ ≤ A.heap.size) (h2 : b0 + 3 ≤ A.heap.size) : Rd n₀ b0 A B :=
  ⟨⟨h.size, fun k o hk _ => (h.block k (Array.getElem?_eq_some_iff.1 hk).1).trans hk⟩, h.mono h1, fun j hj => h.block _ (by omega)⟩
theorem Rd.set {n₀ b0 : Nat} (A : World) (b : Nat) (v : Value) (h1 : n₀ ≤ b) (h2 : b < b0 ∨ b0 + 3 ≤ b) : Rd n₀ b0 A (A.setCell ⟨b, 0, none⟩ v) :=
  ⟨KeepsOthers.setCell _ _ _, (Below.refl _ _).setCell (p := ⟨b, 0, none⟩) h1 _, fun j hj => Below.heap_setCell _ _ _ _ (by simp; omega)⟩
theorem Rd.drew {n₀ b0 : Nat} (A : World) : Rd n₀ b0 A A.drew := ⟨KeepsOthers.drew _, (Below.refl _ _).drew, fun _ _ => rfl⟩
theorem Rd.keepB {n₀ b0 : Nat} {A B : World} (h : Rd n₀ b0 A B) : KeepB n₀ b0 A B := ⟨h.below, h.boxes⟩
theorem boxed_call {A B : World} {b : Nat} {t : TypeId} {v : Value} (h : Boxed A b t v) (hb : Below A.heap.size A B) : Boxed B b t v := (hb.block b h.lt).trans h
theorem boxed_drew {A : World} {b : Nat} {t : TypeId} {v : Value} (h : Boxed A b t v) : Boxed A.drew b t v := h

/-- The loop's boxes between two rounds: the results', the crew's and the last node's. -/
def ReadI (B : Nat) (w : World) (pre : List (List UInt8)) (W : World) : Prop :=
  (∃ (c : Nat) (last : Int), Hid (readAcc pre = some (c, last)) ∧ (c < 65536 ∧ 0 ≤ last ∧ last ≤ 16) ∧ Boxed W (B + 2) 3 (.int .i64 c) ∧ Boxed W (B + 3) 3 (.int .i64 last)) ∧
    Boxed W B 3 (.int .i64 0) ∧ Boxed W (B + 1) 29 .nilIface ∧ Below B w W ∧ B + 7 ≤ W.heap.size
def ReadX (ea : Nat → Addr) (B : Nat) (w : World) (c : Code) (pre : List (List UInt8)) (W : World) : Prop :=
  c = .ret ∧ readAcc pre = none ∧ Boxed W B 3 (.int .i64 0) ∧ Boxed W (B + 1) 29 (.iface 187 (.pointer (some (ea 1)))) ∧ Below B w W
theorem readI_later {B : Nat} {w : World} {pre : List (List UInt8)} {W W' : World} {row : Option Nat} (h : ReadI B w pre W) (hg : W.grownBy W' row) (hr : ∀ r, row = some r → B + 4 ≤ r) : ReadI B w pre W' := by
  obtain ⟨⟨c, last, h1, h2, h3, h4⟩, h5, h6, h7, h8⟩ := h
  have hne : ∀ k, k < B + 4 → some k ≠ row := fun k hk e => by have := hr k e.symm; omega
  exact ⟨⟨c, last, h1, h2, h3.kept hg (hne _ (by omega)), h4.kept hg (hne _ (by omega))⟩, h5.kept hg (hne _ (by omega)), h6.kept hg (hne _ (by omega)), h7.grown hg (by omega) (fun k e => by have := hr k e; omega), Nat.le_trans h8 hg.size⟩
theorem readX_later {ea : Nat → Addr} {B : Nat} {w : World} {c : Code} {pre : List (List UInt8)} {W W' : World} {row : Option Nat} (h : ReadX ea B w c pre W) (hg : W.grownBy W' row) (hr : ∀ r, row = some r → B + 4 ≤ r) : ReadX ea B w c pre W' := by
  obtain ⟨h0, h1, h5, h6, h7⟩ := h
  have hne : ∀ k, k < B + 4 → some k ≠ row := fun k hk e => by have := hr k e.symm; omega
  exact ⟨h0, h1, h5.kept hg (hne _ (by omega)), h6.kept hg (hne _ (by omega)), h7.grown hg (by have := h5.lt; omega) (fun k e => by have := hr k e; omega)⟩

set_option maxRecDepth 100000 in
set_option maxHeartbeats 4000000 in
theorem read_in (ea : Nat → Addr) (s : List UInt8) (w : World) (hs : s.length ≤ 4294967280) (hg : Glob w ea [1]) (hT : TxtEnv w) (hne : s ≠ [45]) :
    CallsIn Fence.wide 3 Tryz.prog 23 #[.string ⟨s.toArray⟩] w fun e W' => e = .returned (readV ea (readF s)) ∧ Below w.heap.size w W' := by
  have HF : Hid (readF s = (readAcc (cutL 44 s)).map (·.1)) := by unfold Hid; rw [readF, if_neg hne]
  have HG := Lib.hid (fun (W : World) (h : Below w.heap.size w W) => hg.below h)
  have HT := Lib.hid (fun (W : World) (h : Below w.heap.size w W) => hT.below h)
  have hgl := hg.lt 1 (by simp)
  simp only [gOf] at hgl
  have hq : (s == [45]) = false := by simpa using hne
  clear hg hT hne
  refine callsIn_of_wp_marks Tryz.func23 rfl trivial ?_ rfl
  simp only [Tryz.ntmps23, List.size_toArray, List.length_cons, List.length_nil, Nat.reduceAdd, Nat.reduceSub, Array.replicate_succ, Array.replicate_zero, List.push_toArray, List.append_toArray, List.nil_append, List.cons_append]
  gi_wp2_with (refine ⟨trivial, ?_⟩; gi_at_call 52; refine (callsIn_wide.2 (splitSeq_any s 44 _)).mono ?_; rintro e w' ⟨rfl, rfl⟩)
  clear hq
  obtain ⟨W0, hW0⟩ : ∃ W0, W0 = (((w.alloc (.cells #[.int .i64 0] 3)).alloc (.cells #[.nilIface] 29)).alloc (.cells #[.int .i64 0] 3)).alloc (.cells #[.int .i64 0] 3) := ⟨_, rfl⟩
  have hz0 : W0.heap.size = w.heap.size + 4 := by rw [hW0]; simp
  have hb0 : Below w.heap.size w W0 := by rw [hW0]; exact ((((Below.refl _ w).alloc (Nat.le_refl _) _).alloc (by simp) _).alloc (by simp; omega) _).alloc (by simp; omega) _
  have hx0 : Boxed W0 w.heap.size 3 (.int .i64 0) := by rw [hW0]; exact (((Boxed.new w _ _).alloc _).alloc _).alloc _
  have hx1 : Boxed W0 (w.heap.size + 1) 29 .nilIface := by
    rw [hW0]; have := ((Boxed.new (w.alloc (.cells #[.int .i64 0] 3)) 29 .nilIface).alloc (.cells #[.int .i64 0] 3)).alloc (.cells #[.int .i64 0] 3)
    rw [World.size_alloc] at this; exact this
  have hx2 : Boxed W0 (w.heap.size + 2) 3 (.int .i64 0) := by
    rw [hW0]; have := (Boxed.new ((w.alloc (.cells #[.int .i64 0] 3)).alloc (.cells #[.nilIface] 29)) 3 (.int .i64 0)).alloc (.cells #[.int .i64 0] 3)
    rw [World.size_alloc, World.size_alloc] at this; exact this
  have hx3 : Boxed W0 (w.heap.size + 3) 3 (.int .i64 0) := by
    rw [hW0]; have := Boxed.new (((w.alloc (.cells #[.int .i64 0] 3)).alloc (.cells #[.nilIface] 29)).alloc (.cells #[.int .i64 0] 3)) 3 (.int .i64 0)
    rw [World.size_alloc, World.size_alloc, World.size_alloc] at this; exact this
  rw [← hW0]
  clear hW0
  have hz1 := splitWorld_size W0 s 44
  have hb1 := splitWorld_below W0 s 44
  have hsp := splitWorld_at W0 s 44
  generalize splitWorld W0 s 44 = W1 at *
  rw [hz0] at hsp
  simp only [Nat.add_assoc, Nat.reduceAdd]
  have hI0 : ReadI w.heap.size w [] W1 := ⟨⟨0, 0, rfl, ⟨by omega, by omega, by omega⟩, boxed_call hx2 hb1, boxed_call hx3 hb1⟩, boxed_call hx0 hb1, boxed_call hx1 hb1, hb0.trans (hb1.mono (by omega)), by omega⟩
  clear hb1 hx0 hx1 hx2 hx3 hb0
  have hz : W1.heap.size = w.heap.size + 7 := by omega
  generalize hB : w.heap.size = B at *
  refine wpIn_rangeFunc_box rfl (by omega) (gf := 100) (lb := #[.pointer (some ⟨B + 5, 0, none⟩), .pointer (some ⟨B + 4, 0, none⟩), .pointer (some ⟨B + 6, 0, none⟩)]) rfl trivial (enters_of Tryz.func100 (by kernel_rfl) rfl)
    (splitSeq_stops 2 (by omega) (B + 4) B 44 s hs W1 (by omega) hsp) (fun b e => by cases e; omega) keepB_t (keepB_b (by omega) (by omega)) (fun _ => rfl)
    (ReadI B w) (ReadX ea B w)
    (fun _ _ _ _ h hg hr => readI_later h hg (fun r e => by have := (hr r e).1; omega)) (fun _ _ _ _ _ h hg hr => readX_later h hg (fun r e => by have := (hr r e).1; omega))
    (fun _ _ _ _ h hg hr => readI_later h hg (fun r e => by have := Option.some.inj (hr r e); omega)) (fun _ _ _ _ _ h hg hr => readX_later h hg (fun r e => by have := Option.some.inj (hr r e); omega)) hI0
    (fun x a' _ => a' = { tmps := #[.string ⟨s.toArray⟩, undef, .pointer (some ⟨B, 0, none⟩), .pointer (some ⟨B + 1, 0, none⟩), .pointer (some ⟨B + 2, 0, none⟩), .pointer (some ⟨B + 3, 0, none⟩), .string ⟨x.toArray⟩, undef, undef, .string ⟨s.toArray⟩, .bool false, .string ⟨s.toArray⟩, .func (.func 100) #[] #[.pointer (some ⟨B + 5, 0, none⟩), .pointer (some ⟨B + 4, 0, none⟩), .pointer (some ⟨B + 6, 0, none⟩)], .string ⟨x.toArray⟩, undef, undef, undef, undef, undef, undef, undef, undef, undef, undef, undef, undef, undef, undef, undef, undef, undef, undef, undef, undef, undef, undef, undef, undef, undef, undef, undef, undef, undef, undef], defers := [] })
    (fun _ _ _ _ _ _ hs _ _ => hs) ?assign ?body ?done ?stop
  case assign =>
    intro l pre x W K hi hK
    gi_wp2
    exact hK _ _ (KeepsFrom.refl _ _) ⟨Below.refl _ _, fun _ _ => rfl⟩ hi rfl
  case body =>
    rintro l pre x a' W hi rfl hpre
    obtain ⟨⟨c, last, hacc, ⟨hc, hl0, hl1⟩, bx2, bx3⟩, bx0, bx1, hbw, hsz⟩ := hi
    have hxl : x.length ≤ 4294967280 := Nat.le_trans (cutL_piece 44 s x (hpre.subset (by simp))) hs
    have hmx : Tryz.prog.follows .mixedOrders = true := by kernel_rfl
    have hn1 : ¬ (1 = B) := by omega
    have hn2 : ¬ (B = 1) := by omega
    have hTW := Lib.hid (HT.out W hbw)
    clear hpre
    by_cases hr : ∃ n, readOk x last = some n
    · obtain ⟨n, hr⟩ := hr
      have HA : Hid (readAcc (pre ++ [x]) = some (c ||| bitOf n, n)) := by unfold Hid; rw [readAcc_snoc, hacc.out, readStep, Option.bind_some, hr]; rfl
      obtain ⟨rfl, hn, hln⟩ := readOk_some hr
      have hbl := bitOf_lt hn
      have hor : c ||| bitOf n < 65536 := Nat.or_lt_two_pow (n := 16) hc hbl
      have hN := hn
      simp only [nodeB, decide_eq_true_eq] at hN
      have KA := Lib.hid (atoi_good (Lib.itoa n) n W hxl (atoiAll_itoa n (by omega) (by omega)))
      have KI := Lib.hid (fun (W' : World) (h : Below W.heap.size W W') => itoa_any n W' (hTW.out.below h) (by omega))
      have KB := Lib.hid (fun (W' : World) => bit_any n W' hn)
      have KN := Lib.hid (fun (W' : World) => node_any n W')
      have hO : bits .or .i64 (c : Int) (bitOf n : Int) = ((c ||| bitOf n : Nat) : Int) := or_nat _ _ (by omega) (by omega)
      rw [hn] at KN
      clear hr hn
      generalize bitOf n = q at *
      generalize Lib.itoa n = x at *
      gi_wp2_with (first
        | (refine ⟨trivial, ?_⟩; gi_at_call 53; refine (CallsIn.inRound l (callsIn_wide.2 KA.out)).mono ?_; rintro e w1 ⟨rfl, hb1⟩)
        | (refine ⟨trivial, ?_⟩; gi_at_call 47; refine (CallsIn.inRound l (callsIn_wide.2 (KI.out _ hb1))).mono ?_; rintro e w2 ⟨rfl, hb2⟩; have hr2 := (Rd.call (n₀ := B) (b0 := B + 4) hb1 (by omega) (by omega)).trans (Rd.call (n₀ := B) (b0 := B + 4) hb2 (by have := hb1.size; omega) (by have := hb1.size; omega)); have bx2 := boxed_call (boxed_call bx2 hb1) hb2; have bx3 := boxed_call (boxed_call bx3 hb1) hb2; have bx0 := boxed_call (boxed_call bx0 hb1) hb2; have bx1 := boxed_call (boxed_call bx1 hb1) hb2; have c2 := bx2.cell; have f2 := bx2.frozen; have c3 := bx3.cell; have f3 := bx3.frozen)
        | (refine ⟨trivial, ?_⟩; gi_at_call 45; refine (CallsIn.inRound l (callsIn_wide.2 (KN.out _))).mono ?_; rintro e w' ⟨rfl, rfl⟩))
      gi_region_with_o (refine ⟨trivial, ?_⟩; gi_at_call 46; refine (CallsIn.inRound l (callsIn_wide.2 (KB.out _))).mono ?_; rintro e w' ⟨rfl, rfl⟩)
      all_goals gi_wp2
      all_goals
        have hR := hr2.trans (((Rd.set w2 (B + 2) (.int .i64 ((c ||| q : Nat) : Int)) (by omega) (by omega)).trans (Rd.set _ (B + 3) (.int .i64 n) (by omega) (by omega))).trans (Rd.drew _))
        exact ⟨hR.others.from _, hR.keepB, ⟨⟨_, n, HA.out, ⟨hor, by omega, by omega⟩, (bx2.set _).other (by omega) _, (bx3.other (by omega) _).set _⟩, (bx0.other (by omega) _).other (by omega) _, (bx1.other (by omega) _).other (by omega) _, hbw.trans hR.below, Nat.le_trans hsz hR.below.size⟩⟩
    · have hrn : readOk x last = none := by
        cases h : readOk x last with
        | none => rfl
        | some n => exact absurd ⟨n, h⟩ hr
      have HA : Hid (readAcc (pre ++ [x]) = none) := by unfold Hid; rw [readAcc_snoc, hacc.out, readStep, Option.bind_some, hrn]; rfl
      have HR := Lib.hid hr
      clear hr hrn
      by_cases hat : ∃ n, Lib.atoiAll x = .ok n
      · obtain ⟨n, hn⟩ := hat
        have hbd := Lib.atoiAll_bounds hn
        have KA := Lib.hid (atoi_good x n W hxl hn)
        have KI := Lib.hid (fun (W' : World) (h : Below W.heap.size W W') => itoa_any n W' (hTW.out.below h) hbd)
        have KN := Lib.hid (fun (W' : World) => node_any n W')
        clear hn
        by_cases hx : Lib.itoa n = x
        · cases hnd : nodeB n
          · rw [hx] at KI
            rw [hnd] at KN
            clear hx hnd
            gi_wp2_with (first
              | (refine ⟨trivial, ?_⟩; gi_at_call 53; refine (CallsIn.inRound l (callsIn_wide.2 KA.out)).mono ?_; rintro e w1 ⟨rfl, hb1⟩)
              | (refine ⟨trivial, ?_⟩; gi_at_call 47; refine (CallsIn.inRound l (callsIn_wide.2 (KI.out _ hb1))).mono ?_; rintro e w2 ⟨rfl, hb2⟩; have hr2 := (Rd.call (n₀ := B) (b0 := B + 4) hb1 (by omega) (by omega)).trans (Rd.call (n₀ := B) (b0 := B + 4) hb2 (by have := hb1.size; omega) (by have := hb1.size; omega)); have bx3 := boxed_call (boxed_call bx3 hb1) hb2; have bx0 := boxed_call (boxed_call bx0 hb1) hb2; have bx1 := boxed_call (boxed_call bx1 hb1) hb2; have c0 := bx0.cell; have f0 := bx0.frozen; have c1 := bx1.cell; have f1 := bx1.frozen; have c3 := bx3.cell; have g1 := (HG.out _ (hbw.trans hr2.below)).cell 1 (by simp); simp only [gOf] at g1; rw [errV_pos ea (by decide)] at g1)
              | (refine ⟨trivial, ?_⟩; gi_at_call 45; refine (CallsIn.inRound l (callsIn_wide.2 (KN.out _))).mono ?_; rintro e w' ⟨rfl, rfl⟩)
              | (refine ⟨trivial, ?_⟩))
            gi_region_o
            all_goals gi_wp2
            all_goals
              first
                | (have hR := hr2.trans (((Rd.set w2 B (.int .i64 0) (by omega) (by omega)).trans (Rd.set _ (B + 1) (.iface 187 (.pointer (some (ea 1)))) (by omega) (by omega))).trans (Rd.drew _)); exact ⟨hR.others.from _, rfl, HA.out, (bx0.set _).other (by omega) _, (bx1.other (by omega) _).set _, hbw.trans hR.below⟩)
                | (have hR := hr2.trans (((Rd.set w2 (B + 1) (.iface 187 (.pointer (some (ea 1)))) (by omega) (by omega)).trans (Rd.set _ B (.int .i64 0) (by omega) (by omega))).trans (Rd.drew _)); exact ⟨hR.others.from _, rfl, HA.out, (bx0.other (by omega) _).set _, (bx1.set _).other (by omega) _, hbw.trans hR.below⟩)
          · have hle : n ≤ last := by
              by_cases hl : last < n
              · exact absurd ⟨n, readOk_of hx.symm hnd hl⟩ HR.out
              · omega
            rw [hx] at KI
            rw [hnd] at KN
            clear hx hnd
            gi_wp2_with (first
              | (refine ⟨trivial, ?_⟩; gi_at_call 53; refine (CallsIn.inRound l (callsIn_wide.2 KA.out)).mono ?_; rintro e w1 ⟨rfl, hb1⟩)
              | (refine ⟨trivial, ?_⟩; gi_at_call 47; refine (CallsIn.inRound l (callsIn_wide.2 (KI.out _ hb1))).mono ?_; rintro e w2 ⟨rfl, hb2⟩; have hr2 := (Rd.call (n₀ := B) (b0 := B + 4) hb1 (by omega) (by omega)).trans (Rd.call (n₀ := B) (b0 := B + 4) hb2 (by have := hb1.size; omega) (by have := hb1.size; omega)); have bx3 := boxed_call (boxed_call bx3 hb1) hb2; have bx0 := boxed_call (boxed_call bx0 hb1) hb2; have bx1 := boxed_call (boxed_call bx1 hb1) hb2; have c0 := bx0.cell; have f0 := bx0.frozen; have c1 := bx1.cell; have f1 := bx1.frozen; have c3 := bx3.cell; have g1 := (HG.out _ (hbw.trans hr2.below)).cell 1 (by simp); simp only [gOf] at g1; rw [errV_pos ea (by decide)] at g1)
              | (refine ⟨trivial, ?_⟩; gi_at_call 45; refine (CallsIn.inRound l (callsIn_wide.2 (KN.out _))).mono ?_; rintro e w' ⟨rfl, rfl⟩)
              | (refine ⟨trivial, ?_⟩))
            gi_region_o
            all_goals gi_wp2
            all_goals
              first
                | (have hR := hr2.trans (((Rd.set w2 B (.int .i64 0) (by omega) (by omega)).trans (Rd.set _ (B + 1) (.iface 187 (.pointer (some (ea 1)))) (by omega) (by omega))).trans (Rd.drew _)); exact ⟨hR.others.from _, rfl, HA.out, (bx0.set _).other (by omega) _, (bx1.other (by omega) _).set _, hbw.trans hR.below⟩)
                | (have hR := hr2.trans (((Rd.set w2 (B + 1) (.iface 187 (.pointer (some (ea 1)))) (by omega) (by omega)).trans (Rd.set _ B (.int .i64 0) (by omega) (by omega))).trans (Rd.drew _)); exact ⟨hR.others.from _, rfl, HA.out, (bx0.other (by omega) _).set _, (bx1.set _).other (by omega) _, hbw.trans hR.below⟩)
        · generalize Lib.itoa n = y at *
          have hyx : (y == x) = false := by simpa using hx
          gi_wp2_with (first
            | (refine ⟨trivial, ?_⟩; gi_at_call 53; refine (CallsIn.inRound l (callsIn_wide.2 KA.out)).mono ?_; rintro e w1 ⟨rfl, hb1⟩)
            | (refine ⟨trivial, ?_⟩; gi_at_call 47; refine (CallsIn.inRound l (callsIn_wide.2 (KI.out _ hb1))).mono ?_; rintro e w2 ⟨rfl, hb2⟩; have hr2 := (Rd.call (n₀ := B) (b0 := B + 4) hb1 (by omega) (by omega)).trans (Rd.call (n₀ := B) (b0 := B + 4) hb2 (by have := hb1.size; omega) (by have := hb1.size; omega)); have bx3 := boxed_call (boxed_call bx3 hb1) hb2; have bx0 := boxed_call (boxed_call bx0 hb1) hb2; have bx1 := boxed_call (boxed_call bx1 hb1) hb2; have c0 := bx0.cell; have f0 := bx0.frozen; have c1 := bx1.cell; have f1 := bx1.frozen; have c3 := bx3.cell; have g1 := (HG.out _ (hbw.trans hr2.below)).cell 1 (by simp); simp only [gOf] at g1; rw [errV_pos ea (by decide)] at g1)
            | (refine ⟨trivial, ?_⟩))
          gi_region_o
          all_goals gi_wp2
          all_goals
            first
              | (have hR := hr2.trans (((Rd.set w2 B (.int .i64 0) (by omega) (by omega)).trans (Rd.set _ (B + 1) (.iface 187 (.pointer (some (ea 1)))) (by omega) (by omega))).trans (Rd.drew _)); exact ⟨hR.others.from _, rfl, HA.out, (bx0.set _).other (by omega) _, (bx1.other (by omega) _).set _, hbw.trans hR.below⟩)
              | (have hR := hr2.trans (((Rd.set w2 (B + 1) (.iface 187 (.pointer (some (ea 1)))) (by omega) (by omega)).trans (Rd.set _ B (.int .i64 0) (by omega) (by omega))).trans (Rd.drew _)); exact ⟨hR.others.from _, rfl, HA.out, (bx0.other (by omega) _).set _, (bx1.set _).other (by omega) _, hbw.trans hR.below⟩)
      · have KA := Lib.hid (atoi_bad x W hTW.out hxl (fun n hn => hat ⟨n, hn⟩))
        clear hat
        gi_wp2_with (first
          | (refine ⟨trivial, ?_⟩; gi_at_call 53; refine (CallsIn.inRound l (callsIn_wide.2 KA.out)).mono ?_; rintro e w2 ⟨⟨m, tt, vv, rfl⟩, hb2⟩; have hr2 := Rd.call (n₀ := B) (b0 := B + 4) hb2 (by omega) (by omega); have bx0 := boxed_call bx0 hb2; have bx1 := boxed_call bx1 hb2; have c0 := bx0.cell; have f0 := bx0.frozen; have c1 := bx1.cell; have f1 := bx1.frozen; have g1 := (HG.out _ (hbw.trans hr2.below)).cell 1 (by simp); simp only [gOf] at g1; rw [errV_pos ea (by decide)] at g1)
          | (refine ⟨trivial, ?_⟩))
        gi_region_o
        all_goals gi_wp2
        all_goals
          first
            | (have hR := hr2.trans (((Rd.set w2 B (.int .i64 0) (by omega) (by omega)).trans (Rd.set _ (B + 1) (.iface 187 (.pointer (some (ea 1)))) (by omega) (by omega))).trans (Rd.drew _)); exact ⟨hR.others.from _, rfl, HA.out, (bx0.set _).other (by omega) _, (bx1.other (by omega) _).set _, hbw.trans hR.below⟩)
            | (have hR := hr2.trans (((Rd.set w2 (B + 1) (.iface 187 (.pointer (some (ea 1)))) (by omega) (by omega)).trans (Rd.set _ B (.int .i64 0) (by omega) (by omega))).trans (Rd.drew _)); exact ⟨hR.others.from _, rfl, HA.out, (bx0.other (by omega) _).set _, (bx1.set _).other (by omega) _, hbw.trans hR.below⟩)
  case done =>
    rintro D ys W hD rfl hi hK
    obtain ⟨⟨c, last, hacc, _, bx2, _⟩, bx0, bx1, hbw, hsz⟩ := hi
    have HR : Hid (readF s = some c) := by unfold Hid; rw [HF.out, hacc.out]; rfl
    have c2 := bx2.cell
    have c0 := bx0.cell
    have f0 := bx0.frozen
    have c1 := bx1.cell
    have f1 := bx1.frozen
    gi_wp2
    have hK' := ((KeepsOthers.setCell W ⟨B, 0, none⟩ (.int .i64 c)).trans (KeepsOthers.setCell _ ⟨B + 1, 0, none⟩ .nilIface)).same D _ hK rfl
    obtain ⟨V, hV⟩ : ∃ V, V = (W.setCell ⟨B, 0, none⟩ (.int .i64 c)).setCell ⟨B + 1, 0, none⟩ .nilIface := ⟨_, rfl⟩
    rw [← hV] at hK' ⊢
    have b0 : Boxed V B 3 (.int .i64 c) := by rw [hV]; exact (bx0.set _).other (by omega) _
    have b1 : Boxed V (B + 1) 29 .nilIface := by rw [hV]; exact (bx1.other (by omega) _).set _
    have hbV : Below B w V := by rw [hV]; exact (hbw.setCell (p := ⟨B, 0, none⟩) (Nat.le_refl _) _).setCell (p := ⟨B + 1, 0, none⟩) (by simp) _
    have p0 := b0.kept (grownBy_putObj' V D (.deferred none)) (fun e => by injection e with e; omega)
    have p1 := b1.kept (grownBy_putObj' V D (.deferred none)) (fun e => by injection e with e; omega)
    have hbF := hbV.trans (belowK_b (n₀ := B) (w := w) (by omega) V D _ (.deferred none) (by omega) hK' rfl rfl)
    refine ⟨by simp, .inl ⟨_, _, rfl, run_takeDeferred hK', ?_⟩⟩
    refine ⟨readV ea (readF s), ?_, rfl, by rw [hB]; exact hbF⟩
    rw [HR.out]
    simp [results, Tryz.results23, go_sem, p0.cell, p1.cell, readV]
  case stop =>
    rintro D c pre W hD hpre ⟨rfl, hacc, bx0, bx1, hbw⟩ hK
    have HR : Hid (readF s = none) := by
      obtain ⟨r, hr⟩ := hpre
      unfold Hid; rw [HF.out, ← hr, readAcc_none r hacc]; rfl
    gi_wp2
    have hK' := hK
    have b0 := bx0
    have b1 := bx1
    have hbV := hbw
    have p0 := b0.kept (grownBy_putObj' W D (.deferred none)) (fun e => by injection e with e; omega)
    have p1 := b1.kept (grownBy_putObj' W D (.deferred none)) (fun e => by injection e with e; omega)
    have hbF := hbV.trans (belowK_b (n₀ := B) (w := w) (by omega) W D _ (.deferred none) (by omega) hK' rfl rfl)
    refine ⟨by simp, .inl ⟨_, _, rfl, run_takeDeferred hK', ?_⟩⟩
    refine ⟨readV ea (readF s), ?_, rfl, by rw [hB]; exact hbF⟩
    rw [HR.out]
    simp [results, Tryz.results23, go_sem, p0.cell, p1.cell, readV, errV_pos ea (k := 1) (by decide)]
theorem read_any (ea : Nat → Addr) (s : List UInt8) (w : World) (hs : s.length ≤ 4294967280) (hg : Glob w ea [1]) (hT : TxtEnv w) :
    Calls Tryz.prog 23 #[.string ⟨s.toArray⟩] w fun e W' => e = .returned (readV ea (readF s)) ∧ Below w.heap.size w W' := by
  by_cases h : s = [45]
  · subst h
    have HR : Hid (readF [45] = some 0) := by unfold Hid; rw [readF, if_pos rfl]
    clear hg hT
    go_enter Tryz.func23, Tryz.ntmps23
    go_wp2
    refine bodyPost_ret (v := .tuple #[.int .i64 0, .nilIface]) (by simp [results, Tryz.results23, go_sem]) rfl ?_
    rw [HR.out]
    exact ⟨rfl, ((Below.refl _ w).alloc (Nat.le_refl _) _).alloc (by simp) _⟩
  · exact callsIn_wide.1 (read_in ea s w hs hg hT h)
end Go.Proofs.YtgghnncgeogemaaGreatDoor
