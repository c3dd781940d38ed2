/- the reference's Board: NewBoard, Ask, Turn. -/
import Derived.Test.YtmikeblbfmfimaaDoorModeNew
import Derived.Test.YtmikeblbfmfimaaDoorRefBase
import Derived.StillTailTactics
namespace Go.Proofs.YtmikeblbfmfimaaDoor
open Go.RowKit

/-- A board of the reference's at block b: where its pairs lie, its mode, what is asked for. -/
def RB (w : World) (b : Nat) (a : Option Addr) (n cap : Nat) (now asked : Int) : Prop :=
  w.heap[b]? = some (.cells #[.slice a n cap, .int .i64 now, .int .i64 asked] 103 (0, 0))
theorem RB.lt {w : World} {b : Nat} {a : Option Addr} {n cap : Nat} {now asked : Int} (h : RB w b a n cap now asked) : b < w.heap.size := (Array.getElem?_eq_some_iff.1 h).1
theorem RB.below {w w' : World} {b : Nat} {a : Option Addr} {n cap : Nat} {now asked : Int} (h : RB w b a n cap now asked) (hb : Below w.heap.size w w') : RB w' b a n cap now asked := (hb.block b h.lt).trans h
theorem RB.kept {w w' : World} {b : Nat} {a : Option Addr} {n cap : Nat} {now asked : Int} (h : RB w b a n cap now asked) {row : Option Nat} (hg : w.grownBy w' row) (hb : some b ≠ row) : RB w' b a n cap now asked := (hg.block b h.lt hb).trans h

theorem refTurn_any (b : Nat) (a : Option Addr) (n cap : Nat) (now asked : Int) (w : World) (h : RB w b a n cap now asked) (hk : asked = -1 ∨ 0 ≤ asked) :
    Calls Tryd.prog 58 #[.pointer (some ⟨b, 0, none⟩)] w fun e w' => e = .returned (.int .i64 (turnNow now asked)) ∧ RB w' b a n cap (turnNow now asked) (-1) ∧ w.grownBy w' (some b) ∧ w'.heap.size = w.heap.size := by
  have c1 : w.cell? ⟨b, 1, none⟩ = some (.int .i64 now) := cell_of_row w b 1 _ _ _ h
  have c2 : w.cell? ⟨b, 2, none⟩ = some (.int .i64 asked) := cell_of_row w b 2 _ _ _ h
  have f1 : w.frozen? ⟨b, 1, none⟩ = false := frozen_of_row w b 1 _ _ h
  have f2 : w.frozen? ⟨b, 2, none⟩ = false := frozen_of_row w b 2 _ _ h
  have H1 := Lib.hid h
  clear h
  by_cases hq : 0 ≤ asked
  · have ht := Lib.hid (show turnNow now asked = asked by rw [turnNow, if_pos hq])
    have d2 : (w.setCell ⟨b, 1, none⟩ (.int .i64 asked)).cell? ⟨b, 2, none⟩ = some (.int .i64 asked) := by go_simp
    have hB : RB ((w.setCell ⟨b, 1, none⟩ (.int .i64 asked)).setCell ⟨b, 2, none⟩ (.int .i64 (-1))) b a n cap asked (-1) := by
      unfold RB
      rw [heap_setCell_same _ b 2 _ _ _ (heap_setCell_same w b 1 _ _ _ H1.out)]; rfl
    have HB := Lib.hid hB
    clear hB
    go_enter Tryd.func58, Tryd.ntmps58
    go_wp2
    go_ret
    rw [ht.out]
    exact ⟨rfl, HB.out, (setCell_grows _ _ _ _).trans (setCell_grows _ _ _ _), by simp⟩
  · have ht := Lib.hid (show turnNow now asked = now by rw [turnNow, if_neg hq])
    obtain rfl : asked = -1 := by omega
    go_enter Tryd.func58, Tryd.ntmps58
    go_wp2
    go_ret
    rw [ht.out]
    exact ⟨rfl, H1.out, World.grownBy.refl _ _, rfl⟩

theorem mem_take_succ {α : Type} (l : List α) (k : Nat) (hk : k < l.length) (p : α) : p ∈ l.take (k + 1) ↔ p ∈ l.take k ∨ p = l[k] := by
  rw [List.take_succ_eq_append_getElem hk, List.mem_append, List.mem_singleton]

set_option maxRecDepth 100000 in
set_option maxHeartbeats 1600000 in
theorem refAsk_any (b : Nat) (a : Option Addr) (n cap : Nat) (l : List (Int × Int)) (now asked to : Int) (w : World) (h : RB w b a n cap now asked) (hn : l.length = n) (hr : RowAt w a (encPairs l)) (hc : n ≤ 1000) (hk : asked = -1 ∨ 0 ≤ asked) :
    Calls Tryd.prog 61 #[.pointer (some ⟨b, 0, none⟩), .int .i64 to] w fun e w' => e = .returned (.int .i64 (askE l now asked to)) ∧ RB w' b a n cap now (askTo l now asked to) ∧ w.grownBy w' (some b) ∧ w'.heap.size = w.heap.size := by
  have c0 : w.cell? ⟨b, 0, none⟩ = some (.slice a n cap) := cell_of_row w b 0 _ _ _ h
  have c1 : w.cell? ⟨b, 1, none⟩ = some (.int .i64 now) := cell_of_row w b 1 _ _ _ h
  have c2 : w.cell? ⟨b, 2, none⟩ = some (.int .i64 asked) := cell_of_row w b 2 _ _ _ h
  have f2 : w.frozen? ⟨b, 2, none⟩ = false := frozen_of_row w b 2 _ _ h
  have hlt0 := h.lt
  have H1 := Lib.hid h
  have HN := Lib.hid hn
  clear h hn
  cases hm : modeB to
  · have HA := Lib.hid (show askE l now asked to = 2 by rw [askE, if_pos hm])
    have hd : to < 0 ∨ 3 < to := by simp [modeB] at hm; omega
    clear hm hk
    go_enter Tryd.func61, Tryd.ntmps61
    go_wp2
    all_goals first
      | omega
      | (go_ret
         rw [HA.out, askTo_no HA.out]
         exact ⟨rfl, H1.out, World.grownBy.refl _ _, rfl⟩)
  · have hm0 : 0 ≤ to := by simp [modeB] at hm; omega
    have hm1 : to ≤ 3 := by simp [modeB] at hm; omega
    by_cases hq : 0 ≤ asked
    · have HA := Lib.hid (show askE l now asked to = 6 by rw [askE, if_neg (by simp [hm]), if_pos hq])
      clear hm hk
      go_enter Tryd.func61, Tryd.ntmps61
      go_wp2
      go_ret
      rw [HA.out, askTo_no HA.out]
      exact ⟨rfl, H1.out, World.grownBy.refl _ _, rfl⟩
    · obtain rfl : asked = -1 := by omega
      have HA0 : Hid ((now, to) ∈ l → askE l now (-1) to = 0) := by unfold Hid; intro hin; rw [askE, if_neg (by simp [hm]), if_neg (by omega), if_pos hin]
      have HA3 : Hid ((now, to) ∉ l → askE l now (-1) to = 3) := by unfold Hid; intro hin; rw [askE, if_neg (by simp [hm]), if_neg (by omega), if_neg hin]
      clear hm hk hq
      have hd1 : decide (to < 0) = false := by simp; omega
      have hd2 : decide (3 < to) = false := by simp; omega
      go_enter Tryd.func61, Tryd.ntmps61
      go_wp2
      go_loopw [5] (fun i wr => ∃ k : Nat, k ≤ n ∧ i = .int .i64 k ∧ Hid ((now, to) ∉ l.take k) ∧ Below w.heap.size w wr ∧ wr.heap.size = w.heap.size) (fun i _ => n - (intOf i).toNat)
      case atStart => exact ⟨0, Nat.zero_le _, rfl, by unfold Hid; simp, Below.refl _ _, rfl⟩
      case round =>
        obtain ⟨k, hk, rfl, HK, hb, hsz⟩ := hrel
        have e0 := (hb.cell (p := ⟨b, 0, none⟩) hlt0).trans c0
        have e1 := (hb.cell (p := ⟨b, 1, none⟩) hlt0).trans c1
        have e2 := (hb.cell (p := ⟨b, 2, none⟩) hlt0).trans c2
        have g2 := (hb.frozen (p := ⟨b, 2, none⟩) hlt0).trans f2
        by_cases hlt : k < n
        · have hkt : k < l.length := by have := HN.out; omega
          obtain ⟨b', off, rfl, hbl, q0, q1⟩ := (hr.below hb).pair k hkt
          have HT := Lib.hid (mem_take_succ l k hkt (now, to))
          have hmem := List.getElem_mem hkt
          have hi0 : (0 : Int) ≤ (k : Int) := by omega
          have hi1 : (k : Int) < (n : Int) := by omega
          have HSZ := Lib.hid hsz
          generalize hlk : l[k] = p at *
          obtain ⟨f, t⟩ := p
          simp only at q0 q1
          clear hlk hkt hsz
          by_cases hf : f = now
          · subst hf
            by_cases ht : t = to
            · subst ht
              have HM : Hid ((f, t) ∈ l) := hmem
              clear hmem HT HK
              have hbq1 : (f == f) = true := by simp
              have hbq2 : (t == t) = true := by simp
              have hS : ∀ m : Nat, RB ((wr.drewN m).setCell ⟨b, 2, none⟩ (.int .i64 t)) b (some ⟨b', off, none⟩) n cap f t := fun m => by
                have h1' : (wr.drewN m).heap[b]? = some (.cells #[.slice (some ⟨b', off, none⟩) n cap, .int .i64 f, .int .i64 (-1)] 103 (0, 0)) := (H1.out : RB w b _ n cap f (-1)).below (below_drewN hb m)
                unfold RB
                rw [heap_setCell_same _ b 2 _ _ _ h1']; rfl
              have HS := Lib.hid hS
              clear hS
              go_wp2
              go_quiet (fail)
              go_wp2
              go_ret
              rw [HA0.out HM.out, askTo_ok (HA0.out HM.out)]
              exact ⟨rfl, HS.out _, (below_grows (below_drewN hb _) _).trans (setCell_grows _ _ _ _), by simp; exact HSZ.out⟩
            · have HN2 : Hid ((f, to) ∉ l.take (k + 1)) := by unfold Hid at *; rw [HT]; rintro (h | h); exact HK h; exact ht (by injection h with _ h; exact h.symm)
              have hbq1 : (f == f) = true := by simp
              have hbq2 : (t == to) = false := by simpa using ht
              clear hmem HT HK ht
              go_wp2
              go_quiet (fail)
              go_wp2
              go_roundw
              case rel => exact ⟨k + 1, by omega, by go_num, HN2, below_drewN hb _, HSZ.out⟩
              case measure => simp [intOf]; omega
          · have HN2 : Hid ((now, to) ∉ l.take (k + 1)) := by unfold Hid at *; rw [HT]; rintro (h | h); exact HK h; exact hf (by injection h with h _; exact h.symm)
            have hbq1 : (f == now) = false := by simpa using hf
            clear hmem HT HK hf
            go_wp2
            go_quiet (fail)
            go_wp2
            go_roundw
            case rel => exact ⟨k + 1, by omega, by go_num, HN2, below_drewN hb _, HSZ.out⟩
            case measure => simp [intOf]; omega
        · have HM : Hid ((now, to) ∉ l) := by unfold Hid at HK ⊢; rwa [List.take_of_length_le (by have := HN.out; omega)] at HK
          have HSZ := Lib.hid hsz
          have HRB := Lib.hid ((H1.out : RB w b a n cap now (-1)).below hb)
          clear HK hsz
          go_wp2
          go_ret
          rw [HA3.out HM.out, askTo_no (HA3.out HM.out)]
          exact ⟨rfl, HRB.out, below_grows hb _, HSZ.out⟩

/-- The first pair that is none, from place i on; below 0: none. -/
def badP (i : Int) : List (Int × Int) → Int
  | [] => -1
  | p :: r => if pairB p then badP (i + 1) r else i
theorem badP_neg : ∀ (l : List (Int × Int)) (i : Int), 0 ≤ i → (badP i l < 0 ↔ ∀ p ∈ l, pairB p = true)
  | [], i, _ => by simp [badP]
  | x :: r, i, h => by
    rw [badP]
    cases hx : pairB x
    · simp only [Bool.false_eq_true, if_false, List.mem_cons, forall_eq_or_imp, hx, false_and, iff_false]; omega
    · simp only [if_true, List.mem_cons, forall_eq_or_imp, hx, true_and]; exact badP_neg r (i + 1) (by omega)
theorem badP_at : ∀ (l : List (Int × Int)) (s : Int) (i : Nat) (h : i < l.length), pairB l[i] = false → (∀ j, ∀ h' : j < i, pairB (l[j]'(by omega)) = true) → badP s l = s + i
  | [], _, i, h, _, _ => by simp at h
  | p :: r, s, 0, _, hp, _ => by
    have hp : pairB p = false := hp
    rw [badP, hp]; simp
  | p :: r, s, i + 1, h, hp, ha => by
    have h0 : pairB p = true := ha 0 (by omega)
    rw [badP, h0]
    have := badP_at r (s + 1) i (by simpa using h) hp (fun j h' => ha (j + 1) (by omega))
    simp only [if_true]; rw [this]; omega
def newF (l : List (Int × Int)) : Nat × Int := if 16 < l.length then (7, -1) else if badP 0 l < 0 then (0, -1) else (2, badP 0 l)
theorem newF_le (l : List (Int × Int)) : (newF l).1 ≤ 11 := by unfold newF; repeat (first | exact Nat.le_of_ble_eq_true rfl | split)
theorem newF_zero {l : List (Int × Int)} (h : (newF l).1 = 0) : l.length ≤ 16 ∧ ∀ p ∈ l, pairB p = true := by
  unfold newF at h
  split at h
  · simp at h
  · split at h
    · rename_i h1 h2; exact ⟨by omega, (badP_neg l 0 (by omega)).1 h2⟩
    · simp at h

theorem new_bad (ea : Nat → Addr) (a : Option Addr) (n cap : Nat) (l : List (Int × Int)) (w : World) (hg : Glob w ea [2, 7]) (hn : l.length = n) (hr : RowAt w a (encPairs l)) (hc : n ≤ 1000) (h : (newF l).1 ≠ 0) :
    Calls Tryd.prog 54 #[.slice a n cap] w fun e w' => ∃ v, e = .returned (.tuple #[.pointer none, v]) ∧ ErrIs ea w' v (newF l).1 (newF l).2 ∧ Below w.heap.size w w' := by
  by_cases h16 : 16 < n
  · have hF : newF l = (7, -1) := by rw [newF, if_pos (by omega)]
    rw [hF]
    exact (new_long ea a n cap w (hg.sub (by simp)) (by omega) h16).mono fun e w' ⟨h1, h2⟩ => ⟨_, h1, ErrIs.bare ea w' 7, h2⟩
  · refine (new_any ea a n cap l w (hg.sub (by simp)) hn hr (by omega)).mono ?_
    rintro e w' (⟨hl, _⟩ | ⟨i, hi, hp, hj, v, h1, h2, h3⟩)
    · exact absurd (show (newF l).1 = 0 by rw [newF, if_neg (by omega), if_pos ((badP_neg l 0 (by omega)).2 hl)]) h
    · have hb := badP_at l 0 i hi hp hj
      have hF : newF l = (2, (i : Int)) := by rw [newF, if_neg (by omega), hb, if_neg (by omega)]; simp
      rw [hF]
      exact ⟨v, h1, h2, h3⟩

set_option maxRecDepth 100000 in
set_option maxHeartbeats 1600000 in
theorem refNew_bad (a : Option Addr) (n cap : Nat) (l : List (Int × Int)) (w : World) (hn : l.length = n) (hr : RowAt w a (encPairs l)) (hc : n ≤ 1000) (h : (newF l).1 ≠ 0) :
    Calls Tryd.prog 56 #[.slice a n cap] w fun e w' => e = .returned (.tuple #[.pointer none, .agg #[.int .i64 (newF l).1, .int .i64 (newF l).2]]) ∧ Below w.heap.size w w' := by
  have HN := Lib.hid hn
  by_cases h16 : 16 < n
  · have hF : Hid (newF l = (7, -1)) := by unfold Hid; rw [newF, if_pos (by omega)]
    clear h hn
    go_enter Tryd.func56, Tryd.ntmps56
    go_wp2_with (go_at_call 68; refine (bare_any _ _).mono ?_; rintro e w1 ⟨rfl, hb⟩; obtain ⟨c0, c1, f0, f1, z1, hw1⟩ := own2 hb)
    refine bodyPost_ret (v := .tuple #[.pointer none, .agg #[.int .i64 7, .int .i64 (-1)]]) (by simp [results, Tryd.results56, go_sem, c0, c1]) rfl ?_
    rw [hF.out]
    exact ⟨rfl, (hw1.setCell (by simp) _).setCell (by simp) _⟩
  · have hnn : ¬ badP 0 l < 0 := fun hx => h (by rw [newF, if_neg (by omega), if_pos hx])
    have hF : Hid (newF l = (2, badP 0 l)) := by unfold Hid; rw [newF, if_neg (by omega), if_neg hnn]
    have HNN := Lib.hid hnn
    have hd : decide ((16 : Int) < (n : Int)) = false := by simp; omega
    clear h hn hnn
    go_enter Tryd.func56, Tryd.ntmps56
    go_wp2
    go_loop [4] (fun i => ∃ k : Nat, k ≤ n ∧ i = .int .i64 k ∧ Hid (badP k (l.drop k) = badP 0 l)) (fun i => n - (intOf i).toNat)
    case atStart => exact ⟨0, Nat.zero_le _, rfl, rfl⟩
    case round =>
      obtain ⟨k, hk, rfl, HK⟩ := hrel
      by_cases hlt : k < n
      · have hkt : k < l.length := by have := HN.out; omega
        have hw0 : Below w.heap.size w (w.alloc (.cells #[.int .i64 0, .int .i64 0] 39)) := (Below.refl _ _).alloc (Nat.le_refl _) _
        obtain ⟨b, off, rfl, hbl, q0, q1⟩ := (hr.below hw0).pair k hkt
        have hdr : l.drop k = l[k] :: l.drop (k + 1) := List.drop_eq_getElem_cons hkt
        have hi0 : (0 : Int) ≤ (k : Int) := by omega
        have hi1 : (k : Int) < (n : Int) := by omega
        generalize l[k] = p at *
        obtain ⟨f, t⟩ := p
        simp only at q0 q1
        cases hx : pairB (f, t)
        · have HS : Hid (badP 0 l = k) := by unfold Hid at HK ⊢; rw [← HK, hdr, badP, hx]; rfl
          have hbad : f < 0 ∨ 3 < f ∨ t < 0 ∨ 3 < t := by
            rw [pairB, Bool.and_eq_false_iff] at hx
            simp only [modeB, decide_eq_false_iff_not] at hx; omega
          clear hdr hx HK hw0 hkt
          go_wp2
          all_goals first
            | omega
            | (refine bodyPost_ret (v := .tuple #[.pointer none, .agg #[.int .i64 2, .int .i64 k]]) (by simp [results, Tryd.results56, go_sem]) rfl ?_
               rw [hF.out, HS.out]
               exact ⟨rfl, (Below.refl _ _).alloc (Nat.le_refl _) _⟩)
        · have HS : Hid (badP (k + 1 : Nat) (l.drop (k + 1)) = badP 0 l) := by unfold Hid at HK ⊢; rw [← HK, hdr, badP, hx]; rfl
          have hok : 0 ≤ f ∧ f ≤ 3 ∧ 0 ≤ t ∧ t ≤ 3 := by
            rw [pairB, Bool.and_eq_true] at hx
            simp only [modeB, decide_eq_true_eq] at hx; omega
          obtain ⟨o1, o2, o3, o4⟩ := hok
          clear hdr hx HK hw0 hkt
          go_wp2
          go_round
          case rel => exact ⟨k + 1, by omega, by go_num, HS⟩
          case measure => simp [intOf]; omega
      · exact absurd (show badP 0 l < 0 by unfold Hid at HK; rw [← HK, List.drop_eq_nil_of_le (by have := HN.out; omega)]; simp [badP]) (by have := HNN.out; omega)

set_option maxRecDepth 100000 in
set_option maxHeartbeats 1600000 in
theorem refNew_ok (a : Option Addr) (n cap : Nat) (l : List (Int × Int)) (w : World) (hn : l.length = n) (hr : RowAt w a (encPairs l)) (hc : n ≤ 16) (h : ∀ p ∈ l, pairB p = true) :
    Calls Tryd.prog 56 #[.slice a n cap] w fun e w' => ∃ br, e = .returned (.tuple #[.pointer (some ⟨br, 0, none⟩), .agg #[.int .i64 0, .int .i64 (-1)]]) ∧ w.heap.size ≤ br ∧ RB w' br a n cap 0 (-1) ∧ Below w.heap.size w w' := by
  have HN := Lib.hid hn
  have HA := Lib.hid h
  have hd : decide ((16 : Int) < (n : Int)) = false := by simp; omega
  clear h hn
  go_enter Tryd.func56, Tryd.ntmps56
  go_wp2
  go_loop [4] (fun i => ∃ k : Nat, k ≤ n ∧ i = .int .i64 k) (fun i => n - (intOf i).toNat)
  case atStart => exact ⟨0, Nat.zero_le _, rfl⟩
  case round =>
    obtain ⟨k, hk, rfl⟩ := hrel
    by_cases hlt : k < n
    · have hkt : k < l.length := by have := HN.out; omega
      have hw0 : Below w.heap.size w (w.alloc (.cells #[.int .i64 0, .int .i64 0] 39)) := (Below.refl _ _).alloc (Nat.le_refl _) _
      obtain ⟨b, off, rfl, hbl, q0, q1⟩ := (hr.below hw0).pair k hkt
      have hi0 : (0 : Int) ≤ (k : Int) := by omega
      have hi1 : (k : Int) < (n : Int) := by omega
      have hx := HA.out _ (List.getElem_mem hkt)
      generalize l[k] = p at *
      obtain ⟨f, t⟩ := p
      simp only at q0 q1
      have hok : 0 ≤ f ∧ f ≤ 3 ∧ 0 ≤ t ∧ t ≤ 3 := by
        rw [pairB, Bool.and_eq_true] at hx
        simp only [modeB, decide_eq_true_eq] at hx; omega
      obtain ⟨o1, o2, o3, o4⟩ := hok
      clear hx hw0 hkt
      go_wp2
      go_round
      case rel => exact ⟨k + 1, by omega, by go_num⟩
      case measure => simp [intOf]; omega
    · go_wp2_with fail
      refine (fine_any _).mono ?_
      rintro e w1 ⟨rfl, hb⟩
      have c0 : w1.cell? ⟨w.heap.size, 0, none⟩ = some (.int .i64 0) := (hb.cell (p := ⟨w.heap.size, 0, none⟩) (by simp; omega)).trans (by rw [World.cell?_alloc_lt _ _ ⟨w.heap.size, 0, none⟩ (by simp)]; simp)
      have c1 : w1.cell? ⟨w.heap.size, 1, none⟩ = some (.int .i64 0) := (hb.cell (p := ⟨w.heap.size, 1, none⟩) (by simp; omega)).trans (by rw [World.cell?_alloc_lt _ _ ⟨w.heap.size, 1, none⟩ (by simp)]; simp)
      have f0 : w1.frozen? ⟨w.heap.size, 0, none⟩ = false := (hb.frozen (p := ⟨w.heap.size, 0, none⟩) (by simp; omega)).trans ((((Below.refl _ _).alloc (Nat.le_refl _) _).frozen (p := ⟨w.heap.size, 0, none⟩) (by simp)).trans (by simp))
      have f1 : w1.frozen? ⟨w.heap.size, 1, none⟩ = false := (hb.frozen (p := ⟨w.heap.size, 1, none⟩) (by simp; omega)).trans ((((Below.refl _ _).alloc (Nat.le_refl _) _).frozen (p := ⟨w.heap.size, 1, none⟩) (by simp)).trans (by simp))
      have hbw : Below w.heap.size w w1 := (((Below.refl _ _).alloc (Nat.le_refl _) _).alloc (by simp) _).trans (hb.mono (by simp; omega))
      have hRB : RB ((w.alloc (.cells #[.int .i64 0, .int .i64 0] 39)).alloc (.cells #[.slice a n cap, .int .i64 0, .int .i64 (-1)] 103)) (w.heap.size + 1) a n cap 0 (-1) := by
        have h1 := heap_alloc_new (w.alloc (.cells #[.int .i64 0, .int .i64 0] 39)) (.cells #[.slice a n cap, .int .i64 0, .int .i64 (-1)] 103)
        unfold RB; simpa using h1
      have hRB1 := ((hRB.below hb).kept (setCell_grows w1 w.heap.size 0 (.int .i64 0)) (by simp)).kept (setCell_grows _ w.heap.size 1 (.int .i64 (-1))) (by simp)
      have HRB := Lib.hid hRB1
      clear hRB hRB1
      go_wp2
      refine bodyPost_ret (v := .tuple #[.pointer (some ⟨w.heap.size + 1, 0, none⟩), .agg #[.int .i64 0, .int .i64 (-1)]]) (by simp [results, Tryd.results56, go_sem, c0, c1]) rfl ?_
      exact ⟨_, rfl, by omega, HRB.out, (hbw.setCell (by simp) _).setCell (by simp) _⟩

set_option maxRecDepth 100000 in
/-- Copy of a board. -/
theorem boardCopy_any (b mb : Nat) (l : List (Int × Int)) (now asked : Int) (w : World) (h : BoardM w b mb l now asked) :
    Calls Tryd.prog 64 #[.pointer (some ⟨b, 0, none⟩)] w fun e w' => ∃ c, e = .returned (.pointer (some ⟨c, 0, none⟩)) ∧ BoardAt w' c l now asked ∧ Below w.heap.size w w' := by
  obtain ⟨h1, h2, h3⟩ := h
  have c0 : w.cell? ⟨b, 0, none⟩ = some (.map (some mb)) := cell_of_row w b 0 _ _ _ h1
  have c1 : w.cell? ⟨b, 1, none⟩ = some (.int .i64 now) := cell_of_row w b 1 _ _ _ h1
  have c2 : w.cell? ⟨b, 2, none⟩ = some (.int .i64 asked) := cell_of_row w b 2 _ _ _ h1
  have hlt : b < w.heap.size := (Array.getElem?_eq_some_iff.1 h1).1
  have H3 := Lib.hid h3
  clear h1 h2 h3
  go_enter Tryd.func64, Tryd.ntmps64
  go_wp2
  go_still_tail 13, (by kernel_rfl)
  have hRB : ∀ m : Nat, BoardM ((w.drewN m).alloc (.cells #[.map (some mb), .int .i64 now, .int .i64 asked] 129)) w.heap.size mb l now asked := fun m => by
    have h1 := heap_alloc_new (w.drewN m) (.cells #[.map (some mb), .int .i64 now, .int .i64 asked] 129)
    have hm := H3.out.lt
    exact ⟨by simpa using h1, by omega, (H3.out.drewN m).kept (below_grows ((Below.refl _ _).alloc (Nat.le_refl _) _) none) (by simp)⟩
  have HRB := Lib.hid hRB
  clear hRB
  go_wp2
  go_ret
  exact ⟨_, rfl, ⟨mb, HRB.out _⟩, (below_drewN (Below.refl _ _) _).alloc (by simp) _⟩
end Go.Proofs.YtmikeblbfmfimaaDoor
