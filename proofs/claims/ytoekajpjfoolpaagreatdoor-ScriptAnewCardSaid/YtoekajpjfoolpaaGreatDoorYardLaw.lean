/- yards: Open, Text. · yards: Text. · TapeCuts: the law's walk. · yards driven by lines: what is on their tape; a closed fact; lines too long. · yards: the closed fact; lines too long. · YardKeeps: the law's walk. · YardAgain: the law's walk. -/
import Derived.Test.YtoekajpjfoolpaaGreatDoorYardDo
import Derived.Test.YtoekajpjfoolpaaGreatDoorTapeAct
import Derived.Test.YtoekajpjfoolpaaGreatDoorSameTexts
import Derived.Test.YtoekajpjfoolpaaGreatDoorClusAct
namespace Go.Proofs.YtoekajpjfoolpaaGreatDoor
open Go.RowKit Go.Maps

/-- What Open answers of a disk's records. -/
def OpenPost (ea : Nat → Addr) (base D : Nat) (s : Dk) (l : List (List UInt8)) (w : World) (e : Ending) (w' : World) : Prop :=
  ((freshC.linesF 0 l).2.1 = 0 ∧ ∃ Y : YL, Y.D = D ∧ e = .returned (.tuple #[.pointer (some ⟨Y.yb, 0, none⟩), .nilIface]) ∧ YardAt w' base Y ⟨(freshC.linesF 0 l).1, ⟨s.b.take (l.flatMap recB).length, false, -1⟩⟩ ∧ Fr (DOwn w D) w w' ∧ (∀ k, k < w.heap.size → DOwn w' D k → DOwn w D k) ∧ w.heap.size ≤ Y.yb ∧ ∀ j, Y.L.own j → w.heap.size ≤ j) ∨
  ((freshC.linesF 0 l).2.1 ≠ 0 ∧ ∃ v, e = .returned (.tuple #[.pointer none, v]) ∧ ErrIs ea w' v (freshC.linesF 0 l).2.1 (freshC.linesF 0 l).2.2 ∧ Fr (DOwn w D) w w')
theorem text_cell {w : World} {a : Option Addr} {l : List (List UInt8)} (h : RowAt w a (encTexts l)) (k : Nat) (hk : k < l.length) :
    ∃ b off, a = some ⟨b, off, none⟩ ∧ b < w.heap.size ∧ w.cell? ⟨b, off + k, none⟩ = some (.string ⟨l[k].toArray⟩) := by
  obtain ⟨b, off, rfl, hb, hc⟩ := h.at (fun e => by have h1 := congrArg List.length e; simp [encTexts] at h1; subst h1; simp at hk)
  exact ⟨b, off, rfl, hb, hc k _ (by simp [encTexts, hk])⟩
set_option maxRecDepth 100000 in
set_option maxHeartbeats 3200000 in
theorem yOpen_any (ea : Nat → Addr) (base D : Nat) (s : Dk) (l : List (List UInt8)) (w : World) (hE : EnvY ea base w) (hbz : base ≤ w.heap.size) (hD : DiskAt w base D s) (hP : Parse s.b l) (hm : l.length ≤ 300000) :
    Calls Tryz.prog 30 #[.pointer (some ⟨D, 0, none⟩)] w (OpenPost ea base D s l w) := by
  have KR := Lib.hid (recover_any base D s l hP w hD hbz (fun W hs => (hE.2 W hs.below).2))
  have hl4 : ∀ x ∈ l, x.length ≤ 4000 := hP.1
  have HE := Lib.hid hE
  have HD := Lib.hid hD
  have HL4 := Lib.hid hl4
  have HDW := Lib.hid (fun k (hk : DOwn w D k) => (hD.owns hk).1)
  clear hE hD hP hl4
  go_enter Tryz.func30, Tryz.ntmps30
  go_wp2_with fail
  refine KR.out.mono ?_
  rintro e w1 ⟨v, rfl, hown, hD1, hS1⟩
  obtain ⟨ra, rc, rfl⟩ := owned_shape hown
  have hb1 : Below base w w1 := hS1.below
  have KF := Lib.hid (yFresh_any ea w1 (((HE.out.2 w1 hb1).1.sub (fun _ hk => hk)).sub (by simp)))
  have hF1 : Fr (DOwn w D) w w1 := ⟨hS1.below.os, hS1.below.tape, hS1.below.output, hS1.below.size, hS1.own⟩
  have HM1 := Lib.hid hS1.mv
  have HF1 := Lib.hid hF1
  have HB1 := Lib.hid hb1
  go_wp2_with fail
  refine KF.out.mono ?_
  rintro e w2 ⟨L, rfl, hC2, hL2, hb2⟩
  have HRW := Lib.hid ((RowAt.owned hown).1)
  have HD1 := Lib.hid hD1
  have hs1 := hS1.size
  have hl0 : (freshC.linesF 0 (l.take 0)).2.1 = 0 := rfl
  have HLEN := Lib.hid (show l.length ≤ 300000 from hm)
  obtain ⟨nl, hnl⟩ : ∃ nl, nl = l.length := ⟨_, rfl⟩
  have HNL := Lib.hid hnl
  rw [← hnl]
  rw [← hnl] at hm
  have HI0 : Hid (InvP (freshC.linesF 0 (l.take 0)).1) := fresh_inv
  have hC2' : ClusAt w2 L (freshC.linesF 0 (l.take 0)).1 := by rw [List.take_zero]; exact hC2
  have hL2' : ∀ j, L.own j → w1.heap.size ≤ j := fun j hj => by
    rcases hj with rfl | rfl | rfl
    · exact hL2.cb
    · exact hL2.bb
    · exact hL2.mb
  have HHL0 := Lib.hid hl0
  clear hnl hown hD1 hS1 hF1 hb1 KF KR hC2 hL2 hl0
  go_wp2
  go_loopw [6, 27] (fun c6 i wr => ∃ (k : Nat) (L : CL), k ≤ nl ∧ i = .int .i64 k ∧ c6 = .pointer (some ⟨L.cb, 0, none⟩) ∧ Hid ((freshC.linesF 0 (l.take k)).2.1 = 0) ∧ ClusAt wr L (freshC.linesF 0 (l.take k)).1 ∧ Hid (InvP (freshC.linesF 0 (l.take k)).1) ∧ (∀ j, L.own j → w1.heap.size ≤ j) ∧ Below w1.heap.size w1 wr) (fun _ i _ => nl - (intOf i).toNat)
  case atStart => exact ⟨0, L, Nat.zero_le _, rfl, rfl, HHL0, hC2', HI0, hL2', hb2⟩
  case round =>
    clear hC2' HI0 hL2' hb2 HHL0
    obtain ⟨k, L, hk, rfl, rfl, hok, hC, hI, hL, hb⟩ := hrel
    by_cases hlt : k < nl
    · have hkl : k < l.length := by rw [← HNL.out]; exact hlt
      obtain ⟨tb, tof, rfl, htb, ct⟩ := text_cell (HRW.out.below hb) k hkl
      have hl4 : l[k].length ≤ 4000 := HL4.out _ (List.getElem_mem hkl)
      have HNX := Lib.hid (fun h2 => linesF_next l freshC k hkl hok.out h2)
      have HSP := Lib.hid (fun h2 => linesF_stop l freshC 0 k hkl hok.out h2)
      have hi0 : (0 : Int) ≤ (k : Int) := by omega
      have hi1 : (k : Int) < (nl : Int) := by omega
      have hbw : Below base w wr := HB1.out.trans (hb.mono (Nat.le_trans hbz hs1))
      have HOK := Lib.hid hok
      clear hok
      generalize (freshC.linesF 0 (l.take k)).1 = c at *
      generalize l[k] = line at *
      have KS := Lib.hid (split_any 32 line wr (HE.out.2 wr hbw).2 (by omega))
      obtain ⟨ws, hws⟩ : ∃ ws, ws = cutL 32 line := ⟨_, rfl⟩
      have hne : ws ≠ [] := by rw [hws]; exact cutL_ne 32 line
      have hpc : ∀ x ∈ ws, x.length ≤ 100000 := fun x hx => by rw [hws] at hx; exact Nat.le_trans (cutL_piece 32 line x hx) (by omega)
      have hlen : ws.length ≤ 100001 := by rw [hws]; exact Nat.le_trans (cutL_length 32 line) (by omega)
      obtain ⟨W1, hW1⟩ : ∃ W, W = wr.alloc (.cells (encTexts ws).toArray 9) := ⟨_, rfl⟩
      have hb1 : Below wr.heap.size wr W1 := by rw [hW1]; exact (Below.refl _ _).alloc (Nat.le_refl _) _
      have hr1 : RowAt W1 (some ⟨wr.heap.size, 0, none⟩) (encTexts ws) := by rw [hW1]; exact RowAt.new_at wr _ _ _ rfl
      rw [← hws, ← hW1] at KS
      obtain ⟨n, hn⟩ : ∃ n, n = ws.length := ⟨_, rfl⟩
      have hn0 : 0 < n := by rw [hn]; exact List.length_pos_iff.2 hne
      have hD : c.lineF line = if wordsN (ws.getD 0 []) ≠ (n : Int) - 1 then (c, 1) else ((c.change ws).1, (c.change ws).2.2) := by rw [CP.lineF, ← hws, hn]
      have HDF := Lib.hid hD
      rw [← hn] at KS hlen
      have q0 : W1.cell? ⟨wr.heap.size, 0, none⟩ = some (.string ⟨(ws.getD 0 []).toArray⟩) := by
        have := hr1.cell (i := 0) (v := .string ⟨(ws.getD 0 []).toArray⟩) (by
          obtain ⟨x, r, e⟩ := List.exists_cons_of_ne_nil hne
          rw [e]; rfl)
        simpa using this
      have HN := Lib.hid hn.symm
      obtain ⟨w0, hw0⟩ : ∃ w0, w0 = ws.getD 0 [] := ⟨_, rfl⟩
      have HW0 := Lib.hid hw0.symm
      rw [← hw0] at q0 HDF
      have KW := Lib.hid (fun W : World => yWords_any w0 W)
      have HR1 := Lib.hid hr1
      have HPC := Lib.hid hpc
      have hlt1 : wr.heap.size < W1.heap.size := by rw [hW1]; simp
      have hb2 : Below w1.heap.size w1 W1 := onto hb hb1
      have hbw1 : Below base w W1 := HB1.out.trans (hb2.mono (Nat.le_trans hbz hs1))
      have HC := Lib.hid (hC.below hb1)
      have HLO := Lib.hid hL
      have HIC := Lib.hid hI.out
      have HB2 := Lib.hid hb2
      have HBW1 := Lib.hid hbw1
      clear hW1 hws hD hn hr1 hpc hne hw0 hC hL hI hb hbw hb2 hbw1 hb1
      have hn1 : (1 : Int) ≤ (n : Int) := by omega
      by_cases hd : wordsN w0 = (n : Int) - 1
      · have HL3 : Hid (c.lineF line = ((c.change ws).1, (c.change ws).2.2)) := by unfold Hid; rw [HDF.out, if_neg (fun h => h hd)]
        have hdb : (wordsN w0 == (n : Int) - 1) = true := beq_iff_eq.2 hd
        have HDW := Lib.hid hd
        have hE2 : EnvC ea L W1 := fun W hW => by
          have h := HE.out.2 W (HBW1.out.trans (hW.below (Nat.le_trans (Nat.le_trans hbz hs1) HB2.out.size) (fun j hj => Nat.le_trans (Nat.le_trans hbz hs1) (HLO.out j hj))))
          exact ⟨h.1.sub (fun _ hk => hk), h.2⟩
        have KCH := Lib.hid (yChange_any ea L c (some ⟨wr.heap.size, 0, none⟩) n n ws W1 hE2 HC.out HIC.out HR1.out HN.out HPC.out (by rw [HW0.out]; exact HDW.out) hn0)
        clear hd hE2 HDF
        generalize hk2 : wordsN w0 = kk at *
        clear hk2
        go_wp2_with fail
        refine KS.out.mono ?_
        rintro e wx ⟨rfl, rfl⟩
        go_wp2_with fail
        refine (KW.out _).mono ?_
        rintro e wx ⟨rfl, rfl⟩
        go_wp2_with fail
        refine KCH.out.mono ?_
        rintro e w3 ⟨v, ev, t, pl, rfl, hE3, hF3, hok3⟩
        have hv3 : Below w1.heap.size w1 w3 := HB2.out.trans (hF3.below HB2.out.size (fun j hj => HLO.out j hj))
        by_cases hz : (c.change ws).2.2 = 0
        · rw [hz] at hE3
          obtain rfl := hE3.nil
          obtain ⟨L3, rfl, rfl, hC3, hown3⟩ := hok3 hz
          have HN2 := Lib.hid (HNX.out (by rw [HL3.out]; exact hz))
          have HC3 : Hid (ClusAt w3 L3 (freshC.linesF 0 (l.take (k + 1))).1) := by unfold Hid; rw [HN2.out, HL3.out]; exact hC3
          have HI3 : Hid (InvP (freshC.linesF 0 (l.take (k + 1))).1) := by unfold Hid; rw [HN2.out, HL3.out]; exact HIC.out.change ws hz
          have HO3 : Hid ((freshC.linesF 0 (l.take (k + 1))).2.1 = 0) := by unfold Hid; rw [HN2.out]
          have HL4' : Hid (∀ j, L3.own j → w1.heap.size ≤ j) := fun j hj => (hown3 j hj).elim (fun h => HLO.out j h) (fun h => Nat.le_trans HB2.out.size h)
          have HV3 := Lib.hid hv3
          clear hz hok3 hC3 hown3 hE3 hF3 hv3 KCH KS KW q0 ct
          go_wp2
          go_roundw
          case rel => exact ⟨k + 1, L3, by omega, by go_num, rfl, HO3, HC3.out, HI3, HL4'.out, HV3.out⟩
          case measure => simp [intOf]; omega
        · have HZ := Lib.hid hz
          have HE3 := Lib.hid hE3
          obtain ⟨et, ex, rfl⟩ := hE3.held hz
          have HS3 := Lib.hid (HSP.out (by rw [HL3.out]; exact hz))
          rw [HL3.out] at HS3
          have hb3w : Below base w w3 := HB1.out.trans (hv3.mono (Nat.le_trans hbz hs1))
          have KB := Lib.hid (yBare_any ea _ _ pl w3 (HE.out.2 w3 hb3w).1.typ HE3.out hz)
          have HEV := Lib.hid (errV_pos ea hz)
          rw [HEV.out] at KB
          have HV3 := Lib.hid hv3
          clear hz hok3 hE3 hF3 hv3 KCH KS KW q0 ct HNX HSP
          go_wp2_with fail
          refine KB.out.mono ?_
          rintro e w4 ⟨rfl, hb4⟩
          go_wp2
          go_ret2
          have hal : Below w4.heap.size w4 (w4.alloc (.cells #[.int .i64 k, .iface 352 (.pointer (some (ea (c.change ws).2.2)))] 154)) := (Below.refl _ _).alloc (Nat.le_refl _) _
          refine Or.inr ⟨by rw [HS3.out]; exact HZ.out, fltV w4.heap.size, rfl, ?_, HF1.out.off (onto (onto HV3.out hb4) hal)⟩
          rw [HS3.out]
          exact Or.inr ⟨by dsimp only; omega, HZ.out, w4.heap.size, rfl, by simp, by simp, by rw [HEV.out]; simp⟩
      · have HL3 : Hid (c.lineF line = (c, 1)) := by unfold Hid; rw [HDF.out, if_pos hd]
        have hdb : (wordsN w0 == (n : Int) - 1) = false := beq_eq_false_iff_ne.2 hd
        have g1 := (HE.out.2 W1 HBW1.out).1.glob.cell 1 (by simp)
        simp only [gOf] at g1
        rw [errV_pos ea (by decide)] at g1
        have KB := Lib.hid (yBare_any ea (errV ea 1) 1 (-1) W1 (HE.out.2 W1 HBW1.out).1.typ (ErrIs.bare ea W1 1) (by decide))
        rw [errV_pos ea (by decide)] at KB
        have HS3 := Lib.hid (HSP.out (by rw [HL3.out]; show (1 : Nat) ≠ 0; decide))
        rw [HL3.out] at HS3
        clear hd HDF HNX HSP
        generalize hk2 : wordsN w0 = kk at *
        clear hk2
        go_wp2_with fail
        refine KS.out.mono ?_
        rintro e wx ⟨rfl, rfl⟩
        go_wp2_with fail
        refine (KW.out _).mono ?_
        rintro e wx ⟨rfl, rfl⟩
        go_wp2_with fail
        refine KB.out.mono ?_
        rintro e w4 ⟨rfl, hb4⟩
        go_wp2
        go_ret2
        have hal : Below w4.heap.size w4 (w4.alloc (.cells #[.int .i64 k, .iface 352 (.pointer (some (ea 1)))] 154)) := (Below.refl _ _).alloc (Nat.le_refl _) _
        refine Or.inr ⟨by rw [HS3.out]; show (1 : Nat) ≠ 0; decide, fltV w4.heap.size, rfl, ?_, HF1.out.off (onto (onto HB2.out hb4) hal)⟩
        rw [HS3.out]
        exact Or.inr ⟨by dsimp only; omega, by show (1 : Nat) ≠ 0; decide, w4.heap.size, rfl, by simp, by simp, by simp [errV_pos ea (k := 1) (by decide)]⟩
    · obtain rfl : k = nl := by omega
      have HH : Hid (freshC.linesF 0 (l.take k) = freshC.linesF 0 l) := by unfold Hid; rw [HNL.out, List.take_length]
      have HC := Lib.hid hC
      have HL := Lib.hid hL
      have HB := Lib.hid hb
      clear hC hL hb
      go_wp2
      go_ret2
      have hal : Below wr.heap.size wr (wr.alloc (.cells #[.pointer (some ⟨L.cb, 0, none⟩), .pointer (some ⟨D, 0, none⟩)] 132)) := (Below.refl _ _).alloc (Nat.le_refl _) _
      have hb3 := onto HB.out hal
      refine Or.inl ⟨by rw [← HH.out]; exact hok.out, ⟨wr.heap.size, L, D⟩, rfl, rfl, ?_, HF1.out.off hb3, fun j hj hx => HM1.out j hj (hx.same (hb3.block _ HD1.out.lt)), Nat.le_trans hs1 HB.out.size, fun j hj => Nat.le_trans hs1 (HL.out j hj)⟩
      rw [← HH.out]
      exact ⟨Blok.new wr _ _, HC.out.below hal, HD1.out.below hb3, hI.out, Nat.le_trans hbz (Nat.le_trans hs1 HB.out.size), ⟨Nat.le_trans hbz (Nat.le_trans hs1 (HL.out _ (Or.inl rfl))), Nat.le_trans hbz (Nat.le_trans hs1 (HL.out _ (Or.inr (Or.inl rfl)))), Nat.le_trans hbz (Nat.le_trans hs1 (HL.out _ (Or.inr (Or.inr rfl))))⟩, ⟨by show (-9223372036854775808 : Int) ≤ -1; decide, by show (-1 : Int) ≤ 9223372036854775807; decide⟩⟩

end Go.Proofs.YtoekajpjfoolpaaGreatDoor
namespace Go.Proofs.YtoekajpjfoolpaaGreatDoor
open Go.RowKit Go.Maps

/-! ### the text of a yard -/
theorem stT_len (c : CP) (i : Int) : (c.stT i).length ≤ 7 := by
  unfold CP.stT
  cases c.f i with
  | none => simp
  | some x =>
    dsimp only
    unfold Go.Proofs.YtoekajpjfoolpaaGreatDoor.stT
    split
    · simp
    · split <;> simp
theorem viewT_len {c : CP} (h : InvP c) (i : Int) : ((c.on i).1.viewT).length ≤ 70 := by
  obtain ⟨h1, h2, h3, h4, h5⟩ := h.on i
  have e1 := textF_len48 (c.on i).1.m
  have e2 : (Lib.itoa (c.on i).1.d).length ≤ 9 := itoa_le (by omega) (by omega)
  have e3 : (Lib.itoa (c.on i).1.s).length ≤ 9 := itoa_le (by omega) (by omega)
  unfold NP.viewT
  simp only [List.length_append, List.length_cons]
  omega
theorem nodeT_len {c : CP} (h : InvP c) (i : Int) (hi : -10000000 < i ∧ i < 10000000) : (c.nodeT i).length ≤ 2700 := by
  have e1 := viewT_len h i
  have e2 := stT_len c i
  have e3 := histT_len (h.on i).2.2.2.1
  have e4 : (Lib.itoa i).length ≤ 9 := itoa_le hi.1 hi.2
  unfold CP.nodeT
  simp only [List.length_append, List.length_cons, List.length_nil]
  split
  · simp only [List.length_cons, List.length_append]; omega
  · simp; omega
/-- The text behind some of the nodes. -/
def CP.textK (c : CP) (k : Nat) : List UInt8 := [116, 105, 109, 101, 32] ++ (Lib.itoa (c.time : Nat) ++ 10 :: ((namesOf c.plan).take k).flatMap c.nodeT)
theorem textK_next (c : CP) (k : Nat) (hk : k < (namesOf c.plan).length) : c.textK (k + 1) = c.textK k ++ c.nodeT (namesOf c.plan)[k] := by
  unfold CP.textK
  rw [List.take_succ_eq_append_getElem hk, List.flatMap_append]
  simp
theorem textK_len {c : CP} (h : InvP c) : ∀ k, k ≤ (namesOf c.plan).length → (c.textK k).length ≤ 20 + 2700 * k
  | 0, _ => by
    have := h.time
    have e : (Lib.itoa (c.time : Nat)).length ≤ 9 := itoa_le (by omega) (by omega)
    unfold CP.textK
    simp only [List.take_zero, List.flatMap_nil, List.length_append, List.length_cons, List.length_nil]
    omega
  | k + 1, hk => by
    have ih := textK_len h k (by omega)
    rw [textK_next c k (by omega), List.length_append]
    have hm := names_mem (planF_ok h.plan).2.2.2 (namesOf c.plan)[k]
    have hn := (planF_ok h.plan).2.2.2 _ (hm.1 (List.getElem_mem (by omega)))
    simp only [nodeB, decide_eq_true_eq] at hn
    have := nodeT_len h (namesOf c.plan)[k] (by omega)
    omega
theorem cNodesX_any (L : CL) (c : CP) (w : World) (h : ClusAt w L c) (hd : ∀ i, (c.f i).isSome = decide (i ∈ c.plan)) (hp : ∀ i ∈ c.plan, nodeB i = true) :
    Calls Tryz.prog 81 #[.pointer (some ⟨L.cb, 0, none⟩)] w fun e w' => ∃ (a : Option Addr) (cap : Nat), e = .returned (.slice a (namesOf c.plan).length cap) ∧ RowAt w' a (encInts (namesOf c.plan)) ∧ Below w.heap.size w w' := by
  have K := Lib.hid (cNames_any L c w h hd hp)
  clear h hd hp
  go_enter Tryz.func81, Tryz.ntmps81
  go_wp2_with fail
  refine K.out.mono ?_
  rintro e w1 ⟨a, cap, rfl, hr, hb⟩
  go_wp2
  go_ret
  exact ⟨a, cap, rfl, ownsRow_at hr, hb⟩
set_option maxRecDepth 100000 in
set_option maxHeartbeats 3200000 in
theorem yText_any (ea : Nat → Addr) (base : Nat) (Y : YL) (y : YP) (w : World) (hE : EnvY ea base w) (hY : YardAt w base Y y) :
    Calls Tryz.prog 23 #[.pointer (some ⟨Y.yb, 0, none⟩)] w fun e w' => e = .returned (.string ⟨(y.c.textY).toArray⟩) ∧ Below w.heap.size w w' := by
  obtain ⟨hG, hT⟩ := hE.now
  have c0 := hY.blk.cell 0 rfl
  have hyl := hY.blk.lt
  have hI := hY.inv
  have ht := hI.time
  have KT := Lib.hid (cTime_any Y.L y.c w hY.clus)
  have KI := Lib.hid (itoa_any (y.c.time : Int) w hT (by omega))
  have hit : (Lib.itoa (y.c.time : Int)).length ≤ 9 := itoa_le (by omega) (by omega)
  have HC := Lib.hid (fun (W : World) (hb : Below w.heap.size w W) => hY.clus.below hb)
  have HG := Lib.hid (fun (W : World) (hb : Below w.heap.size w W) => hG.below hb)
  have HT := Lib.hid (fun (W : World) (hb : Below w.heap.size w W) => hT.below hb)
  have HB := Lib.hid (fun (W : World) (hb : Below w.heap.size w W) => (hY.blk.kept hb).cell 0 rfl)
  have HI := Lib.hid hI
  clear hG hT hE hY hI
  generalize y.c = c at *
  have HTX : Hid (c.textK 0 = [116, 105, 109, 101, 32] ++ (Lib.itoa (c.time : Int) ++ [10])) := by unfold Hid CP.textK; simp
  have HTY : Hid (c.textY = c.textK (namesOf c.plan).length) := by unfold Hid CP.textK CP.textY; rw [List.take_length]
  have HNM := Lib.hid (fun k (hk : k < (namesOf c.plan).length) => textK_next c k hk)
  have HLN := Lib.hid (fun k (hk : k ≤ (namesOf c.plan).length) => textK_len HI.out k hk)
  have KN := Lib.hid (fun (W : World) (hb : Below w.heap.size w W) => cNodesX_any Y.L c W (HC.out W hb) HI.out.dom (planF_ok HI.out.plan).2.2.2)
  have HMM := Lib.hid (fun x (hx : x ∈ namesOf c.plan) => (planF_ok HI.out.plan).2.2.2 x ((names_mem (planF_ok HI.out.plan).2.2.2 x).1 hx))
  have hn16 := names_len c.plan
  generalize namesOf c.plan = ns at *
  obtain ⟨nn, hnn⟩ : ∃ nn, nn = ns.length := ⟨_, rfl⟩
  have HNN := Lib.hid hnn
  rw [← hnn] at KN hn16 HTY
  obtain ⟨t0, ht0⟩ : ∃ t0, t0 = Lib.itoa (c.time : Int) := ⟨_, rfl⟩
  rw [← ht0] at KI hit HTX
  have s1 : (9223372036854775807 < 5 + t0.length) = False := eq_false (by omega)
  have s2 : (9223372036854775807 < 5 + t0.length + 1) = False := eq_false (by omega)
  clear ht0 hnn
  go_enter Tryz.func23, Tryz.ntmps23
  go_wp2_with fail
  refine KT.out.mono ?_
  rintro e w' ⟨rfl, rfl⟩
  go_wp2_with fail
  refine KI.out.mono ?_
  rintro e w1 ⟨rfl, hb1⟩
  have c1 := HB.out w1 hb1
  have KN1 := Lib.hid (KN.out w1 hb1)
  go_wp2_with fail
  refine KN1.out.mono ?_
  rintro e w2 ⟨na, nc, rfl, hrow, hb2⟩
  have hb12 := onto hb1 hb2
  have HRW := Lib.hid hrow
  have HTX0 : Hid ((⟨([116, 105, 109, 101, 32] ++ (t0 ++ [10])).toArray⟩ : ByteArray) = ⟨(c.textK 0).toArray⟩) := by unfold Hid; rw [HTX.out]
  clear hrow KN1 KN KT KI c0 c1
  go_wp2
  go_loopw [3, 25] (fun s3 i wr => ∃ k : Nat, k ≤ nn ∧ i = .int .i64 k ∧ s3 = .string ⟨(c.textK k).toArray⟩ ∧ Below w2.heap.size w2 wr) (fun _ i _ => nn - (intOf i).toNat)
  case atStart => exact ⟨0, Nat.zero_le _, rfl, congrArg Value.string (by rw [HTX.out]; apply ByteArray.ext; apply Array.ext'; simp), Below.refl _ _⟩
  case round =>
    obtain ⟨k, hk, rfl, rfl, hb⟩ := hrel
    by_cases hlt : k < nn
    · have hkl : k < ns.length := by rw [← HNN.out]; exact hlt
      obtain ⟨lb, lo, rfl, hlbl, ck⟩ := (HRW.out.below hb).int k hkl
      have HNX := Lib.hid (HNM.out k hkl)
      have hlk := HLN.out k (by omega)
      have hnb := HMM.out _ (List.getElem_mem hkl)
      generalize ns[k] = nd at *
      simp only [nodeB, decide_eq_true_eq] at hnb
      have hwf := int_wfY (n := nd) (by omega)
      have hb12' := onto hb12 hb
      have hi0 : (0 : Int) ≤ (k : Int) := by omega
      have hi1 : (k : Int) < (nn : Int) := by omega
      have KS := Lib.hid (cState_any Y.L c nd wr (HC.out wr hb12') hwf (fun x hx => (HI.out.node nd x hx).st))
      have ls := stT_len c nd
      have li : (Lib.itoa nd).length ≤ 9 := itoa_le (by omega) (by omega)
      have lv := viewT_len HI.out nd
      have lh := histT_len (HI.out.on nd).2.2.2.1
      have h0 := HB.out wr hb12'
      have HBW := Lib.hid hb12'
      have HBB := Lib.hid hb
      have KI := Lib.hid (fun (W : World) (h : Below w.heap.size w W) => itoa_any nd W (HT.out W h) (by omega))
      have KV := Lib.hid (fun (W : World) (h : Below w.heap.size w W) => yView_any ea Y.L c nd W ((HG.out W h).glob.sub (by simp)) (HT.out W h) (HC.out W h) HI.out hwf)
      have KH := Lib.hid (fun (W : World) (h : Below w.heap.size w W) => yHistory_any ea Y.L c nd W ((HG.out W h).glob.sub (by simp)) (HT.out W h) (HC.out W h) HI.out hwf)
      have HND : Hid (c.nodeT nd = Lib.itoa nd ++ 32 :: (c.stT nd ++ ((if (c.on nd).2 = 0 then 32 :: ((c.on nd).1.viewT ++ 32 :: histT (c.on nd).1.h) else []) ++ [10]))) := rfl
      clear hb hb12' hkl hnb hwf
      obtain ⟨tk, htk⟩ : ∃ tk, tk = c.textK k := ⟨_, rfl⟩
      rw [← htk] at hlk HNX
      rw [← htk]
      have HTK := Lib.hid htk
      clear htk
      generalize hek : c.textK (k + 1) = tk1 at *
      generalize c.nodeT nd = tn at *
      generalize c.stT nd = tst at *
      generalize Lib.itoa nd = ti at *
      generalize c.on nd = r at *
      obtain ⟨x, er⟩ := r
      dsimp only at *
      generalize x.viewT = tv at *
      obtain ⟨th, hth⟩ : ∃ th, th = histT x.h := ⟨_, rfl⟩
      rw [← hth] at lh HND
      have s3 : (9223372036854775807 < ti.length + 1) = False := eq_false (by omega)
      have s4 : (9223372036854775807 < ti.length + 1 + tst.length) = False := eq_false (by omega)
      have s5 : (9223372036854775807 < tk.length + (ti.length + 1 + tst.length)) = False := eq_false (by omega)
      have s6 : (9223372036854775807 < 1 + tv.length) = False := eq_false (by omega)
      have s7 : (9223372036854775807 < 1 + tv.length + 1) = False := eq_false (by omega)
      have s8 : (9223372036854775807 < 1 + tv.length + 1 + th.length) = False := eq_false (by omega)
      have s9 : (9223372036854775807 < tk.length + (ti.length + 1 + tst.length) + (1 + tv.length + 1 + th.length)) = False := eq_false (by omega)
      have s10 : (9223372036854775807 < tk.length + (ti.length + 1 + tst.length) + (1 + tv.length + 1 + th.length) + 1) = False := eq_false (by omega)
      have s11 : (9223372036854775807 < tk.length + (ti.length + 1 + tst.length) + 1) = False := eq_false (by omega)
      go_wp2_with fail
      refine KS.out.mono ?_
      rintro e w3 ⟨rfl, hb3⟩
      have hv3 := onto HBW.out hb3
      have hx3 := onto HBB.out hb3
      have K3 := Lib.hid (KI.out _ hv3)
      have h3 := HB.out _ hv3
      go_wp2_with fail
      refine K3.out.mono ?_
      rintro e w4 ⟨rfl, hb4⟩
      have hv4 := onto hv3 hb4
      have hx4 := onto hx3 hb4
      have K4 := Lib.hid (KV.out _ hv4)
      have h4 := HB.out _ hv4
      clear K3 KS hv3 hx3 h3
      go_wp2_with fail
      refine K4.out.mono ?_
      rintro e w5 ⟨rfl, hb5⟩
      have hv5 := onto hv4 hb5
      have hx5 := onto hx4 hb5
      have h5 := HB.out _ hv5
      have K5 := Lib.hid (KH.out _ hv5)
      clear K4 hv4 hx4 h4
      by_cases hz : er = 0
      · subst hz
        rw [if_pos rfl] at HND
        rw [if_pos rfl, ← hth] at K5
        have HX5 := Lib.hid hx5
        clear hth
        have e0 : errV ea 0 = .nilIface := by simp [errV]
        rw [e0] at K5
        rw [e0]
        go_wp2_with fail
        refine K5.out.mono ?_
        rintro e w6 ⟨rfl, hb6⟩
        go_wp2
        go_roundw
        case rel => exact ⟨k + 1, by omega, by go_num, congrArg Value.string (by rw [hek, HNX.out, HND.out]; apply ByteArray.ext; apply Array.ext'; simp), onto HX5.out hb6⟩
        case measure => simp [intOf]; omega
      · rw [if_neg hz] at HND
        have hev := errV_pos ea hz
        rw [hev]
        clear K5
        go_wp2
        go_roundw
        case rel => exact ⟨k + 1, by omega, by go_num, congrArg Value.string (by rw [hek, HNX.out, HND.out]; apply ByteArray.ext; apply Array.ext'; simp), hx5⟩
        case measure => simp [intOf]; omega
    · obtain rfl : k = nn := by omega
      have hb' := onto hb12 hb
      rw [← HTY.out]
      clear hb
      go_wp2
      go_ret
      exact ⟨rfl, hb'⟩
end Go.Proofs.YtoekajpjfoolpaaGreatDoor
namespace Go.Proofs.YtoekajpjfoolpaaGreatDoor
open Go.RowKit

theorem encT_strs (l : List (List UInt8)) : encTexts l = encStrs (l.map fun x => (⟨x.toArray⟩ : ByteArray)) := by simp [encTexts, encStrs]
theorem sameT_any (a a2 : Option Addr) (cap cap2 : Nat) (l : List (List UInt8)) (w : World) (hr : RowAt w a (encTexts l)) (hr2 : RowAt w a2 (encTexts l)) (hc : l.length ≤ 4611686018427387904) :
    Calls Tryz.prog 38 #[.slice a l.length cap, .slice a2 l.length cap2] w fun e w' => e = .returned (.bool true) ∧ Below w.heap.size w w' := by
  rw [encT_strs] at hr hr2
  refine (sameTexts_any a a2 l.length cap l.length cap2 _ _ w (by simp) hr (by simp) hr2 hc).mono ?_
  rintro e w' ⟨rfl, hb⟩
  exact ⟨by simp, hb⟩

/-- A list of records is parsed. -/
theorem parse_recs {l : List (List UInt8)} (h : ∀ s ∈ l, s.length ≤ 4000) : Parse (l.flatMap recB) l := ⟨h, [], by simp, rfl⟩
/-- .. with less than a record behind. -/
theorem parse_cut {l : List (List UInt8)} (h : ∀ s ∈ l, s.length ≤ 4000) {t p : List UInt8} (ht : t.length ≤ 4000) (hp : p <+: recB t) (hl : p.length < (recB t).length) : Parse (l.flatMap recB ++ p) l := ⟨h, p, rfl, oneF_cut ht hp hl⟩

/-- A step of the law's loop. -/
def runC (st : Dk × List (List UInt8)) (t : List UInt8) : Dk × List (List UInt8) := ((apF st.1 t).1, if (apF st.1 t).2 = 0 then st.2 ++ [t] else st.2)
/-- What the disk holds: what was appended with no error; and less than a record where power failed. -/
structure InvC (k : Nat) (st : Dk × List (List UInt8)) : Prop where
  lens : ∀ s ∈ st.2, s.length ≤ 200
  many : st.2.length ≤ k
  size : st.1.b.length ≤ 250 * k
  cut : -1 ≤ st.1.cut ∧ st.1.cut ≤ 9223372036854775807
  bytes : (st.1.off = false ∧ st.1.b = st.2.flatMap recB ∧ 0 ≤ st.1.cut) ∨ (st.1.off = true ∧ ∃ t p, t.length ≤ 4000 ∧ p <+: recB t ∧ p.length < (recB t).length ∧ st.1.b = st.2.flatMap recB ++ p)
theorem InvC.parse {k : Nat} {st : Dk × List (List UInt8)} (h : InvC k st) : Parse st.1.b st.2 := by
  have hl : ∀ s ∈ st.2, s.length ≤ 4000 := fun s hs => by have := h.lens s hs; omega
  rcases h.bytes with ⟨_, e, _⟩ | ⟨_, t, p, h1, h2, h3, e⟩
  · rw [e]; exact parse_recs hl
  · rw [e]; exact parse_cut hl h1 h2 h3
theorem InvC.step {k : Nat} {st : Dk × List (List UInt8)} (h : InvC k st) (hk : k ≤ 40) {t : List UInt8} (ht : t.length ≤ 200) : InvC (k + 1) (runC st t) := by
  obtain ⟨⟨b, o, c⟩, l⟩ := st
  obtain ⟨h1, h2, h3, h4, h5⟩ := h
  dsimp only at h1 h2 h3 h4 h5
  have hrl := recB_le t (by omega)
  have hlow := recB_len t
  have hA : apF ⟨b, o, c⟩ t = wrF ⟨b, o, c⟩ (recB t) := by rw [apF, if_neg (by omega), if_neg (by dsimp only; omega)]
  rcases h5 with ⟨rfl, rfl, hc0⟩ | ⟨rfl, t', p, q1, q2, q3, rfl⟩
  · by_cases hlt : c < (recB t).length
    · have hW : wrF ⟨l.flatMap recB, false, c⟩ (recB t) = (⟨l.flatMap recB ++ (recB t).take c.toNat, true, c⟩, 11) := by rw [wrF]; simp [hc0, hlt]
      rw [runC, hA, hW]
      refine ⟨h1, by dsimp only; simp; omega, ?_, h4, Or.inr ⟨rfl, t, (recB t).take c.toNat, by omega, List.take_prefix _ _, by rw [List.length_take]; omega, by simp⟩⟩
      dsimp only
      rw [List.length_append, List.length_take]; omega
    · have hW : wrF ⟨l.flatMap recB, false, c⟩ (recB t) = (⟨l.flatMap recB ++ recB t, false, c - (recB t).length⟩, 0) := by rw [wrF]; simp [hc0, hlt]
      rw [runC, hA, hW]
      refine ⟨fun s hs => ?_, ?_, ?_, by dsimp only; omega, Or.inl ⟨rfl, by simp, by dsimp only; omega⟩⟩
      · dsimp only at hs
        rw [if_pos rfl] at hs
        rcases List.mem_append.1 hs with hs | hs
        · exact h1 s hs
        · rw [List.mem_singleton.1 hs]; exact ht
      · dsimp only; rw [if_pos rfl, List.length_append, List.length_singleton]; omega
      · dsimp only; rw [List.length_append]; omega
  · have hW : wrF ⟨l.flatMap recB ++ p, true, c⟩ (recB t) = (⟨l.flatMap recB ++ p, true, c⟩, 11) := by rw [wrF]; rfl
    rw [runC, hA, hW]
    exact ⟨h1, by dsimp only; simp; omega, by dsimp only at h3 ⊢; omega, h4, Or.inr ⟨rfl, t', p, q1, q2, q3, by simp⟩⟩
theorem text_at {w : World} {a : Option Addr} {l : List (List UInt8)} (h : RowAt w a (encTexts l)) (k : Nat) (hk : k < l.length) :
    ∃ b off, a = some ⟨b, off, none⟩ ∧ b < w.heap.size ∧ w.cell? ⟨b, off + k, none⟩ = some (.string ⟨l[k].toArray⟩) := by
  obtain ⟨b, off, rfl, hb, hc⟩ := h.at (fun e => by have h1 := congrArg List.length e; simp [encTexts] at h1; subst h1; simp at hk)
  exact ⟨b, off, rfl, hb, hc k _ (by simp [encTexts, hk])⟩
theorem DiskAt.grown {w w' : World} {base D : Nat} {s : Dk} {v : Value} {n size : Nat} {xs : List Value} (h : DiskAt w base D s) (hv : w.ownsRow base 9 size v n xs) (hg : w.grownBy w' v.ownBlock) : DiskAt w' base D s := by
  obtain ⟨hB, hl, u, hK, hu⟩ := h
  have hno : ∀ (k : Nat) (c : Array Value) (t : TypeId) (fz : Nat × Nat), w.heap[k]? = some (Obj.cells c t fz) → t ≠ 9 → w'.heap[k]? = w.heap[k]? := fun k c t fz hk ht => by
    refine hg.block k (Array.getElem?_eq_some_iff.1 hk).1 (fun e => ?_)
    rcases hv.2 with ⟨rfl, _⟩ | ⟨g, cap, cur, rfl, h2, h3, h4⟩
    · simp [Value.ownBlock] at e
    · simp [Value.ownBlock] at e
      subst e
      rw [h3] at hk
      simp at hk
      exact ht hk.2.1.symm
  refine ⟨hB, hl, u, (hno D _ _ _ hK (by decide)).trans hK, hu.kept fun g hg2 => ?_⟩
  obtain ⟨_, cur, fz, hc⟩ := hu.bytes g hg2
  exact hno g _ _ _ hc (by decide)
theorem InvC.take {k : Nat} {st : Dk × List (List UInt8)} (h : InvC k st) : st.1.b.take (st.2.flatMap recB).length = st.2.flatMap recB := by
  rcases h.bytes with ⟨_, e, _⟩ | ⟨_, t, p, h1, h2, h3, e⟩
  · rw [e, List.take_length]
  · rw [e, List.take_left]
end Go.Proofs.YtoekajpjfoolpaaGreatDoor
namespace Go.Proofs.YtoekajpjfoolpaaGreatDoor
open Go.RowKit Go.Maps

/-! ### what a line leaves -/
/-- What a yard's disk holds: the lines that changed something; and less than a record where power failed. -/
structure InvY (k : Nat) (y : YP) (dn : List (List UInt8)) : Prop where
  lens : ∀ s ∈ dn, s.length ≤ 150
  many : dn.length ≤ k
  size : y.d.b.length ≤ 200 * k
  cut : -1 ≤ y.d.cut ∧ y.d.cut ≤ 9223372036854775807
  bytes : (y.d.off = false ∧ y.d.b = dn.flatMap recB) ∨ (y.d.off = true ∧ ∃ t p, t.length ≤ 4000 ∧ p <+: recB t ∧ p.length < (recB t).length ∧ y.d.b = dn.flatMap recB ++ p)
  run : freshC.linesF 0 dn = (y.c, 0, -1)
theorem InvY.parse {k : Nat} {y : YP} {dn : List (List UInt8)} (h : InvY k y dn) : Parse y.d.b dn := by
  have hl : ∀ s ∈ dn, s.length ≤ 4000 := fun s hs => by have := h.lens s hs; omega
  rcases h.bytes with ⟨_, e⟩ | ⟨_, t, p, h1, h2, h3, e⟩
  · rw [e]; exact parse_recs hl
  · rw [e]; exact parse_cut hl h1 h2 h3
theorem InvY.take {k : Nat} {y : YP} {dn : List (List UInt8)} (h : InvY k y dn) : y.d.b.take (dn.flatMap recB).length = dn.flatMap recB := by
  rcases h.bytes with ⟨_, e⟩ | ⟨_, t, p, h1, h2, h3, e⟩
  · rw [e, List.take_length]
  · rw [e, List.take_left]
theorem InvY.more {k : Nat} {y : YP} {dn : List (List UInt8)} (h : InvY k y dn) : InvY (k + 1) y dn :=
  ⟨h.lens, by have := h.many; omega, by have := h.size; omega, h.cut, h.bytes, h.run⟩
theorem invY_cut (cut : Int) (h : -1 ≤ cut ∧ cut ≤ 9223372036854775807) : InvY 0 ⟨freshC, ⟨[], false, cut⟩⟩ [] := ⟨by simp, Nat.le_refl _, by simp, h, Or.inl ⟨rfl, rfl⟩, rfl⟩
/-- What was appended. -/
def tapedF (y : YP) (t : List UInt8) (dn : List (List UInt8)) : List (List UInt8) :=
  if wordsN ((cutL 32 t).getD 0 []) ≠ ((cutL 32 t).length : Int) - 1 then dn else if (y.c.change (cutL 32 t)).2.2 ≠ 0 then dn else if (apF y.d t).2 ≠ 0 then dn else dn ++ [t]
theorem apF_wr {s : Dk} {t : List UInt8} (ht : t.length ≤ 150) (hb : s.b.length ≤ 100000) : apF s t = wrF s (recB t) := by
  have := recB_le t (by omega)
  rw [apF, if_neg (by omega), if_neg (by omega)]
theorem InvY.step {k : Nat} {y : YP} {dn : List (List UInt8)} (h : InvY k y dn) (hk : k ≤ 100) {t : List UInt8} (ht : t.length ≤ 150) : InvY (k + 1) (y.doF t).1 (tapedF y t dn) := by
  unfold YP.doF tapedF
  split
  · exact h.more
  · rename_i hw
    split
    · exact h.more
    · rename_i hc'
      have hc : (y.c.change (cutL 32 t)).2.2 = 0 := Decidable.not_not.1 hc'
      clear hc'
      have hsz := h.size
      have hA := apF_wr (s := y.d) ht (by omega)
      have hrl := recB_le t (by omega)
      have hlow := recB_len t
      obtain ⟨c, ⟨b, o, cu⟩⟩ := y
      obtain ⟨h1, h2, h3, h4, h5, h6⟩ := h
      dsimp only at h1 h2 h3 h4 h5 h6 hA hsz hc ⊢
      rw [hA]
      rcases h5 with ⟨rfl, rfl⟩ | ⟨rfl, t', p, q1, q2, q3, rfl⟩
      · by_cases hlt : 0 ≤ cu ∧ cu < (recB t).length
        · have hW : wrF ⟨dn.flatMap recB, false, cu⟩ (recB t) = (⟨dn.flatMap recB ++ (recB t).take cu.toNat, true, cu⟩, 11) := by rw [wrF]; simp [hlt]
          rw [hW, if_pos (by simp)]
          refine ⟨h1, by rw [if_pos (by simp)]; omega, ?_, h4, Or.inr ⟨rfl, t, (recB t).take cu.toNat, by omega, List.take_prefix _ _, by rw [List.length_take]; omega, rfl⟩, h6⟩
          dsimp only
          rw [List.length_append, List.length_take]; omega
        · have hW : wrF ⟨dn.flatMap recB, false, cu⟩ (recB t) = (⟨dn.flatMap recB ++ recB t, false, if 0 ≤ cu then cu - (recB t).length else cu⟩, 0) := by rw [wrF]; simp [hlt]
          rw [hW, if_neg (by simp)]
          refine ⟨fun s hs => ?_, ?_, ?_, ?_, Or.inl ⟨rfl, by simp⟩, ?_⟩
          · dsimp only at hs
            rw [if_neg (by simp)] at hs
            rcases List.mem_append.1 hs with hs | hs
            · exact h1 s hs
            · rw [List.mem_singleton.1 hs]; exact ht
          · dsimp only; rw [if_neg (by simp), List.length_append, List.length_singleton]; omega
          · dsimp only; rw [List.length_append]; omega
          · dsimp only; split <;> omega
          · dsimp only
            rw [if_neg (by simp), linesF_snoc _ _ _ _ (by rw [h6]), h6]
            dsimp only
            have hL : c.lineF t = ((c.change (cutL 32 t)).1, (c.change (cutL 32 t)).2.2) := by rw [CP.lineF, if_neg hw]
            rw [hL, hc, if_pos rfl]
      · have hW : wrF ⟨dn.flatMap recB ++ p, true, cu⟩ (recB t) = (⟨dn.flatMap recB ++ p, true, cu⟩, 11) := by rw [wrF]; rfl
        rw [hW, if_pos (by simp)]
        exact ⟨h1, by rw [if_pos (by simp)]; omega, by dsimp only at h3 ⊢; omega, h4, Or.inr ⟨rfl, t', p, q1, q2, q3, rfl⟩, h6⟩
/-- A disk whose power is never cut stays so. -/
def Dk.up (s : Dk) : Prop := s.off = false ∧ s.cut = -1
theorem apF_up {s : Dk} (h : s.up) (t : List UInt8) : (apF s t).1.up := by
  obtain ⟨h1, h2⟩ := h
  unfold apF
  split
  · exact ⟨h1, h2⟩
  · split
    · exact ⟨h1, h2⟩
    · unfold wrF
      rw [h1, h2]
      simp [Dk.up]
theorem doF_up {y : YP} (h : y.d.up) (t : List UInt8) : (y.doF t).1.d.up := by
  unfold YP.doF
  split
  · exact h
  · split
    · exact h
    · split <;> exact apF_up h t
theorem InvY.flat {k : Nat} {y : YP} {dn : List (List UInt8)} (h : InvY k y dn) (hu : y.d.up) : y.d = ⟨dn.flatMap recB, false, -1⟩ := by
  obtain ⟨c, ⟨b, o, cu⟩⟩ := y
  obtain ⟨h1, h2⟩ := hu
  dsimp only at h1 h2
  subst h1 h2
  rcases h.bytes with ⟨_, e⟩ | ⟨e, _⟩
  · dsimp only at e; rw [e]
  · cases e
/-! ### a closed fact -/
theorem yarded_one : (YP.new.doF [115, 108, 111, 116, 32, 50]).2.2 = 0 ∧ 6 < (YP.new.doF [115, 108, 111, 116, 32, 50]).2.1.length ∧ (YP.new.doF [115, 108, 111, 116, 32, 50]).2.1.length ≤ 4000 ∧ (YP.new.doF [115, 108, 111, 116, 32, 50]).1.d.b = [54, 58, 115, 108, 111, 116, 32, 50, 10, 46] := by decide +kernel
theorem yarded_two : ((YP.new.doF [115, 108, 111, 116, 32, 50]).1.doF [104, 105, 115, 116, 111, 114, 121, 32, 50]).2 = ([49, 33], 0) ∧ (((YP.new.doF [115, 108, 111, 116, 32, 50]).1.doF [104, 105, 115, 116, 111, 114, 121, 32, 50]).1.doF [104, 105, 115, 116, 111, 114, 121, 32, 51]).2 = ([49, 58, 48], 0) ∧ (((YP.new.doF [115, 108, 111, 116, 32, 50]).1.doF [104, 105, 115, 116, 111, 114, 121, 32, 50]).1.doF [104, 105, 115, 116, 111, 114, 121, 32, 51]).1.d.b = [54, 58, 115, 108, 111, 116, 32, 50, 10, 46] := by decide +kernel
end Go.Proofs.YtoekajpjfoolpaaGreatDoor
namespace Go.Proofs.YtoekajpjfoolpaaGreatDoor
open Go.RowKit Go.Maps

set_option maxRecDepth 100000 in
set_option maxHeartbeats 1600000 in
theorem yarded_any (ea : Nat → Addr) (w : World) (hG : GlobC w ea) (hT : TxtEnv w) :
    Calls Tryz.prog 16 #[] w fun e w' => e = .returned (.bool true) ∧ Below w.heap.size w w' := by
  have KN := Lib.hid (yNew_any ea w (hG.glob.sub (by simp)))
  have KD := Lib.hid (fun (W : World) (Y : YL) (y : YP) (t : List UInt8) (hb : Below w.heap.size w W) (hY : YardAt W w.heap.size Y y) (ht : t.length ≤ 4000) => yDo_any ea w.heap.size Y y t W (EnvY.of hG hT hb (Nat.le_refl _)) hY (by omega))
  have KT := Lib.hid (fun (W : World) (Y : YL) (y : YP) (hY : YardAt W w.heap.size Y y) => yTape_any w.heap.size Y y W hY)
  have KB := Lib.hid (fun (W : World) (D : Nat) (s : Dk) (hD : DiskAt W w.heap.size D s) => diskBytes_any w.heap.size D s W hD)
  obtain ⟨r1, hr1⟩ : ∃ r, r = YP.new.doF [115, 108, 111, 116, 32, 50] := ⟨_, rfl⟩
  obtain ⟨r2, hr2⟩ : ∃ r, r = r1.1.doF [104, 105, 115, 116, 111, 114, 121, 32, 50] := ⟨_, rfl⟩
  obtain ⟨r3, hr3⟩ : ∃ r, r = r2.1.doF [104, 105, 115, 116, 111, 114, 121, 32, 51] := ⟨_, rfl⟩
  have F1 : Hid (r1.2.2 = 0 ∧ 6 < r1.2.1.length ∧ r1.2.1.length ≤ 4000) := by unfold Hid; rw [hr1]; exact ⟨yarded_one.1, yarded_one.2.1, yarded_one.2.2.1⟩
  have F2 : Hid (r2.2 = ([49, 33], 0)) := by unfold Hid; rw [hr2, hr1]; exact yarded_two.1
  have F3 : Hid (r3.2 = ([49, 58, 48], 0)) := by unfold Hid; rw [hr3, hr2, hr1]; exact yarded_two.2.1
  have F4 : Hid (r3.1.d.b = [54, 58, 115, 108, 111, 116, 32, 50, 10, 46]) := by unfold Hid; rw [hr3, hr2, hr1]; exact yarded_two.2.2
  have R1 := Lib.hid hr1
  have R2 := Lib.hid hr2
  have R3 := Lib.hid hr3
  clear hr1 hr2 hr3 hG hT
  go_enter Tryz.func16, Tryz.ntmps16
  go_wp2_with fail
  refine KN.out.mono ?_
  rintro e w1 ⟨Y, rfl, hY, hb1⟩
  have K1 := Lib.hid (KD.out w1 Y _ [115, 108, 111, 116, 32, 50] hb1 hY (by decide))
  rw [← R1.out] at K1
  clear R1 KN
  obtain ⟨y1, a1, e1⟩ := r1
  obtain ⟨f1, f2, f3⟩ := F1.out
  dsimp only at f1 f2 f3 R2
  subst f1
  have d1 : decide ((6 : Int) < (a1.length : Int)) = true := decide_eq_true (by omega)
  have HY := Lib.hid hY
  clear f2 hY F1
  go_wp2_with fail
  refine K1.out.mono ?_
  rintro e w2 ⟨Y1, rfl, hY1, hs1⟩
  dsimp only at hY1 ⊢
  rw [errV_zero]
  have hb2 : Below w.heap.size w w2 := hb1.trans (hs1.below HY.out)
  have K2 := Lib.hid (KD.out w2 Y1 _ [104, 105, 115, 116, 111, 114, 121, 32, 50] hb2 hY1 (by decide))
  rw [← R2.out] at K2
  obtain ⟨y2, a2, e2⟩ := r2
  obtain ⟨rfl, rfl⟩ := Prod.mk.inj F2.out
  have HY1 := Lib.hid hY1
  clear hY1 K1 R2 HY F2
  dsimp only at R3
  rw [show Y.yb = Y1.yb from hs1.yb.symm]
  go_wp2_with fail
  refine K2.out.mono ?_
  rintro e w3 ⟨Y2, rfl, hY2, hs2⟩
  dsimp only at hY2 ⊢
  rw [errV_zero]
  have hb3 : Below w.heap.size w w3 := hb2.trans (hs2.below HY1.out)
  have K3 := Lib.hid (KD.out w3 Y2 _ [104, 105, 115, 116, 111, 114, 121, 32, 51] hb3 hY2 (by decide))
  rw [← R3.out] at K3
  obtain ⟨y3, a3, e3⟩ := r3
  obtain ⟨rfl, rfl⟩ := Prod.mk.inj F3.out
  have HY2 := Lib.hid hY2
  clear hY2 K2 R3 HY1 F3
  rw [show Y1.yb = Y2.yb from hs2.yb.symm]
  go_wp2_with fail
  refine K3.out.mono ?_
  rintro e w4 ⟨Y3, rfl, hY3, hs3⟩
  dsimp only at hY3 ⊢
  rw [errV_zero]
  have hb4 : Below w.heap.size w w4 := hb3.trans (hs3.below HY2.out)
  have KTT := Lib.hid (KT.out w4 Y3 _ hY3)
  have KBB := Lib.hid (KB.out w4 Y3.D _ hY3.disk)

  rw [F4.out] at KBB
  rw [show Y2.yb = Y3.yb from hs3.yb.symm]
  clear K3 HY2 hY3
  go_wp2_with fail
  refine KTT.out.mono ?_
  rintro e w5 ⟨rfl, rfl⟩
  go_wp2_with fail
  refine KBB.out.mono ?_
  rintro e w5 ⟨rfl, rfl⟩
  go_wp2
  go_ret
  exact ⟨rfl, hb4⟩

/-! ### lines too long -/
def longT (l : List (List UInt8)) (most : Int) : Bool := decide (most < (l.length : Int)) || l.any (fun s => decide (150 < s.length))
set_option maxRecDepth 100000 in
theorem longLines_any (a : Option Addr) (n cap : Nat) (l : List (List UInt8)) (most : Int) (w : World) (hn : l.length = n) (hr : RowAt w a (encTexts l)) (hc : n ≤ 4611686018427387904) :
    Calls Tryz.prog 17 #[.slice a n cap, .int .i64 most] w fun e w' => e = .returned (.bool (longT l most)) ∧ w = w' := by
  subst hn
  have HR := Lib.hid hr
  clear hr
  by_cases hm : most < (l.length : Int)
  · have hb : decide (most < (l.length : Int)) = true := decide_eq_true hm
    have HA : Hid (longT l most = true) := by unfold Hid longT; rw [hb]; rfl
    clear hm
    go_enter Tryz.func17, Tryz.ntmps17
    go_wp2
    go_ret
    exact ⟨ret_bool HA.out.symm, rfl⟩
  · have hb : decide (most < (l.length : Int)) = false := decide_eq_false hm
    have HA : Hid (longT l most = l.any (fun s => decide (150 < s.length))) := by unfold Hid longT; rw [hb]; rfl
    clear hm
    go_enter Tryz.func17, Tryz.ntmps17
    go_wp2
    go_loop [5] (fun i => ∃ k : Nat, k ≤ l.length ∧ i = .int .i64 k ∧ Hid ((l.take k).any (fun s => decide (150 < s.length)) = false)) (fun i => l.length - (intOf i).toNat)
    case atStart => exact ⟨0, Nat.zero_le _, rfl, rfl⟩
    case round =>
      obtain ⟨k, hk, rfl, hx⟩ := hrel
      by_cases hlt : k < l.length
      · obtain ⟨b, off, rfl, hbl, c0⟩ := text_at HR.out k hlt
        have HT := Lib.hid (any_take_snoc l (fun s => decide (150 < s.length)) k hlt)
        have HM : Hid (l[k] ∈ l) := List.getElem_mem hlt
        have hi0 : (0 : Int) ≤ (k : Int) := by omega
        have hi1 : (k : Int) < (l.length : Int) := by omega
        generalize l[k] = s at *
        by_cases h1 : 150 < s.length
        · have h2 : decide ((150 : Int) < (s.length : Int)) = true := decide_eq_true (by omega)
          have HL : Hid (longT l most = true) := by
            unfold Hid; rw [HA.out, List.any_eq_true]
            exact ⟨s, HM.out, decide_eq_true h1⟩
          clear h1
          go_wp2
          go_ret
          exact ⟨ret_bool HL.out.symm, rfl⟩
        · have h2 : decide ((150 : Int) < (s.length : Int)) = false := decide_eq_false (by omega)
          have HL : Hid (decide (150 < s.length) = false) := decide_eq_false h1
          clear h1
          go_wp2
          go_round
          case rel => exact ⟨k + 1, by omega, by go_num, by unfold Hid; rw [HT.out, hx.out, HL.out]; rfl⟩
          case measure => simp [intOf]; omega
      · obtain rfl : k = l.length := by omega
        go_wp2
        go_ret
        exact ⟨ret_bool (by rw [HA.out, ← hx.out, List.take_length]), rfl⟩
/-- Not long: what that says. -/
theorem longT_not {l : List (List UInt8)} {most : Int} (h : longT l most = false) : (l.length : Int) ≤ most ∧ ∀ a ∈ l, a.length ≤ 150 := by
  simp only [longT, Bool.or_eq_false_iff, decide_eq_false_iff_not, List.any_eq_false, decide_eq_true_eq] at h
  exact ⟨by omega, fun a ha => by have := h.2 a ha; omega⟩
end Go.Proofs.YtoekajpjfoolpaaGreatDoor
namespace Go.Proofs.YtoekajpjfoolpaaGreatDoor
open Go.RowKit Go.Maps

theorem DiskAt.not_yard {w : World} {base D yb : Nat} {s : Dk} {cs : Array Value} (h : DiskAt w base D s) (hb : Blok w yb 132 cs) : ¬ DOwn w D yb := fun hk => by
  obtain ⟨_, _, cur, fz, t, h1, h2⟩ := h.owns hk
  rw [show w.heap[yb]? = _ from hb] at h1
  injection h1 with h1
  injection h1 with _ e
  subst e
  rcases h2 with h2 | h2
  · revert h2; decide
  · revert h2; decide
end Go.Proofs.YtoekajpjfoolpaaGreatDoor
namespace Go.Proofs.YtoekajpjfoolpaaGreatDoor
open Go.RowKit Go.Maps

theorem YOwn.back {w w' : World} {base : Nat} {Y : YL} {y : YP} (h : YardAt w base Y y) (hb : Below w.heap.size w w') {k : Nat} (hk : YOwn w' Y k) : YOwn w Y k :=
  hk.elim Or.inl (fun h1 => Or.inr (h1.same (hb.block _ h.disk.lt)))
theorem Fr.cell {S : Nat → Prop} {w w' : World} (h : Fr S w w') {p : Addr} (hp : p.block < w.heap.size) (hn : ¬ S p.block) : w'.cell? p = w.cell? p := by
  unfold World.cell?
  rw [h.block p.block hp hn]
theorem flat_le150 : ∀ {l : List (List UInt8)}, (∀ s ∈ l, s.length ≤ 150) → (l.flatMap recB).length ≤ 200 * l.length
  | [], _ => by simp
  | s :: r, h => by
    have h1 := recB_le s (by have := h s (by simp); omega)
    have h2 := h s (by simp)
    have h3 := flat_le150 (l := r) (fun t ht => h t (List.mem_cons_of_mem _ ht))
    rw [List.flatMap_cons, List.length_append, List.length_cons]; omega
end Go.Proofs.YtoekajpjfoolpaaGreatDoor
