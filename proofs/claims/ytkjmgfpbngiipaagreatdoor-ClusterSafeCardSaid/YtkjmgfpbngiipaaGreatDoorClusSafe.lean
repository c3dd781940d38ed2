/- ClusterSafe: the law's walk. -/
import Derived.Test.YtkjmgfpbngiipaaGreatDoorClusAgrees
import Derived.Test.YtkjmgfpbngiipaaGreatDoorClusFact
import Derived.BigQuiet
import Derived.Deep.QuietTactic
namespace Go.Proofs.YtkjmgfpbngiipaaGreatDoor
open Go.RowKit Go.Maps

theorem FromB.new (l : List Int) : FromB (CP.new l).plan (CP.new l).f := by
  intro i x hx _ j hj
  have hx' : (if i ∈ l then some (⟨2, 0, (crewOf l : Nat), 0, 0, []⟩ : NP) else none) = some x := hx
  split at hx'
  · obtain rfl := Option.some.inj hx'; simp at hj
  · cases hx'
set_option maxRecDepth 100000 in
set_option maxHeartbeats 6400000 in
theorem walk_ClusterSafe (ea : Nat → Addr) (a : Option Addr) (n cap : Nat) (l : List Int) (a2 : Option Addr) (n2 cap2 : Nat) (acts : List ActR) (w : World) (hg : Glob w ea [1, 2, 3, 4, 5, 6, 7, 8, 9, 10, 11]) (hT : TxtEnv w)
    (hn : l.length = n) (hr : RowAt w a (encInts l)) (_hc : n ≤ cap) (hm : n ≤ 4611686018427387904) (hn2 : acts.length = n2) (hr2 : RowAt w a2 (encActs acts)) (_hc2 : n2 ≤ cap2) (hm2 : n2 ≤ 4611686018427387904) (hok : ∀ e ∈ acts, e.Ok w) :
    Calls Tryz.prog 3 #[.slice a n cap, .slice a2 n2 cap2] w fun e w' => e = .returned (.bool true) ∧ Below w.heap.size w w' := by
  have K0 := Lib.hid (clustered_any ea w hg hT)
  have KL := Lib.hid (fun (W : World) (hb : Below w.heap.size w W) => longActs_any a2 n2 cap2 acts 60 W hn2 (hr2.below hb) hm2)
  have HG := Lib.hid hg
  have HT := Lib.hid hT
  have HR := Lib.hid hr
  have HN := Lib.hid hn
  have HR2 := Lib.hid hr2
  have HN2 := Lib.hid hn2
  have HOK := Lib.hid hok
  clear hg hT hr hn hr2 hn2 hok
  by_cases h40 : 40 < n
  · have d1 : decide ((40 : Int) < (n : Int)) = true := decide_eq_true (by omega)
    clear h40
    go_enter Tryz.func3, Tryz.ntmps3
    go_wp2_with fail
    refine K0.out.mono ?_
    rintro e w1 ⟨rfl, hb1⟩
    go_wp2
    go_ret
    exact ⟨rfl, hb1⟩
  · have d1 : decide ((40 : Int) < (n : Int)) = false := decide_eq_false (by omega)
    cases hlong : longA acts 60
    rotate_left
    · have HLG := Lib.hid hlong
      clear h40 hlong
      go_enter Tryz.func3, Tryz.ntmps3
      go_wp2_with fail
      refine K0.out.mono ?_
      rintro e w1 ⟨rfl, hb1⟩
      go_wp2_with fail
      refine (KL.out w1 hb1).mono ?_
      rintro e w2 ⟨rfl, rfl⟩
      rw [HLG.out]
      go_wp2
      go_ret
      exact ⟨rfl, hb1⟩
    · have HLG := Lib.hid hlong
      have hl60 := (longA_not hlong).1
      rw [HN2.out] at hl60
      clear hlong
      by_cases hp : (planF l).1 = 0
      · have KN := Lib.hid (fun (W : World) (hb : Below w.heap.size w W) => cNew_ok ea a n cap l W ((HG.out.below hb).sub (by simp)) HN.out (HR.out.below hb) hp)
        have HP := Lib.hid hp
        clear hp
        go_enter Tryz.func3, Tryz.ntmps3
        go_wp2_with fail
        refine K0.out.mono ?_
        rintro e w1 ⟨rfl, hb1⟩
        go_wp2_with fail
        refine (KL.out w1 hb1).mono ?_
        rintro e w2 ⟨rfl, rfl⟩
        rw [HLG.out]
        have K1 := Lib.hid (KN.out w1 hb1)
        go_wp2_with fail
        refine K1.out.mono ?_
        rintro e w3 ⟨L, rfl, hC3, hL3, hb3⟩
        have hv3 := onto hb1 hb3
        have HL := Lib.hid (hL3.mono hb1.size)
        clear K0 KL KN K1 hL3 hb1 hb3
        go_wp2
        go_loopw [8] (fun i wr => ∃ (k : Nat) (c : CP), k ≤ n2 ∧ i = .int .i64 k ∧ ClusAt wr L c ∧ InvP c ∧ FromB c.plan c.f ∧ c.plan = l ∧ Below w.heap.size w wr) (fun i _ => n2 - (intOf i).toNat)
        case atStart => exact ⟨0, _, Nat.zero_le _, rfl, hC3, InvP.new HP.out, FromB.new l, rfl, hv3⟩
        case round =>
          clear hC3 hv3
          obtain ⟨k, c, hk, rfl, hC, hI, hF, hpl, hb⟩ := hrel
          by_cases hlt : k < n2
          · have hkl : k < acts.length := by rw [HN2.out]; exact hlt
            obtain ⟨b, off, rfl, hbl, c0, c1, c2, c3⟩ := act_at (HR2.out.below hb) k hkl
            have hao := (HOK.out acts[k] (List.getElem_mem hkl)).below hb
            have hi0 : (0 : Int) ≤ (k : Int) := by omega
            have hi1 : (k : Int) < (n2 : Int) := by omega
            have HAK := Lib.hid (List.getElem_mem hkl)
            generalize acts[k] = ak at *
            have hpk := planF_ok hI.plan
            rw [hpl] at hpk
            have hm0 : c.time % n < n := Nat.mod_lt _ (by rw [← HN.out]; exact hpk.2.1)
            obtain ⟨pb, po, rfl, hpb, p0⟩ := intD (HR.out.below hb) (c.time % n) (by rw [HN.out]; exact hm0)
            have hwho : l.getD (c.time % n) 0 = whoV l c.time := by rw [whoV, HN.out]
            rw [hwho] at p0
            have hwm : nodeB (whoV l c.time) = true := hpk.2.2.2 _ (whoV_mem l _ hpk.2.1)
            obtain ⟨W1, hW1⟩ : ∃ W, W = wr.alloc (.cells #[.string ⟨ak.kind.toArray⟩, .int .i64 ak.n, .int .i64 ak.m, .slice ak.la ak.lost.length ak.lc] 32) := ⟨_, rfl⟩
            have hA1 : Below wr.heap.size wr W1 := by rw [hW1]; exact (Below.refl _ _).alloc (Nat.le_refl _) _
            have hB1 : Blok W1 wr.heap.size 32 #[.string ⟨ak.kind.toArray⟩, .int .i64 ak.n, .int .i64 ak.m, .slice ak.la ak.lost.length ak.lc] := by rw [hW1]; exact Blok.new wr _ _
            have hC1 := hC.below hA1
            have hb1 := onto hb hA1
            have p1 := (hA1.cell (p := ⟨pb, po + c.time % n, none⟩) hpb).trans p0
            have hnz : ((n : Int) == 0) = false := beq_eq_false_iff_ne.2 (by omega)
            have hq0 : (0 : Int) ≤ ((c.time % n : Nat) : Int) := by omega
            have ht200 := hI.time
            have KT := Lib.hid (cTime_any L c W1 hC1)
            have KST := Lib.hid (cState_any L c (whoV l c.time) W1 hC1 (node_wfO hwm) (fun x hf => (hI.node _ x hf).st))
            have HI := Lib.hid hI
            have HFB := Lib.hid hF
            have HPL := Lib.hid hpl
            have HAO := Lib.hid (hao.below hA1)
            have HC1 := Lib.hid hC1
            have HB1 := Lib.hid hb1
            have HBK := Lib.hid hB1
            clear hC hI hF hpl hb hao hpk hwho hC1 hb1 hA1 hB1 p0 hbl
            go_upto_region 11 with (fail)
            rw [← hW1]
            clear hW1
            have hct := HC1.out.cells.2.1
            have hcl := HC1.out.lt.1
            go_wp2_with fail
            refine KT.out.mono ?_
            rintro e w4 ⟨rfl, rfl⟩
            go_wp2_with fail
            refine KST.out.mono ?_
            rintro e w5 ⟨rfl, hb5⟩
            have HC5 := Lib.hid (HC1.out.below hb5)
            have HB5 := Lib.hid (onto HB1.out hb5)
            have hbk5 := HBK.out.kept hb5
            have x0 := hbk5.cell 0 rfl
            have x1 := hbk5.cell 1 rfl
            have x2 := hbk5.cell 2 rfl
            have x3 := hbk5.cell 3 rfl
            have hak5 := HAO.out.below hb5
            have HST := Lib.hid (stT_eq HI.out (whoV l c.time))
            obtain ⟨was, hwas⟩ : ∃ t, t = c.stT (whoV l c.time) := ⟨_, rfl⟩
            rw [← hwas] at HST ⊢
            have hE5 := envC_of HG.out HT.out HB5.out HL.out
            have KP := Lib.hid (play_any ea L c ak w5 hE5 HC5.out HI.out hak5)
            have KL := Lib.hid (cSlot_any ea L c ak.la ak.lost.length ak.lc ak.lost w5 hE5 HC5.out HI.out rfl hak5.2.2.1 (by have := (longA_not HLG.out).2 ak HAK.out; omega))
            have HPLA := Lib.hid (actF_plan c ak)
            clear hwas hb5 hbk5 hak5 hE5 KT KST c0 c1 c2 c3 p1
            obtain ⟨BK, hBK⟩ : ∃ B : Bool, B = (!(ak.kind == [115, 101, 116]) && !(ak.kind == [111, 102, 102]) && !(ak.kind == [111, 110]) && !(ak.kind == [97, 115, 107])) := ⟨_, rfl⟩
            have HBB := Lib.hid hBK
            clear hBK
            go_upto_region 13 with (fail)
            go_cut [83] from 46 to 208 (fun s83 wx => s83 = .bool BK ∧ w5 = wx)
            case first =>
              as_aux_lemma =>
                by_cases q1 : ak.kind = [115, 101, 116]
                · have n1 : (ak.kind == [115, 101, 116]) = true := beq_iff_eq.2 q1
                  have HB2 : Hid (BK = false) := by unfold Hid; rw [HBB.out, n1]; simp
                  clear q1
                  go_wp2_with fail
                  go_meet
                  case rel => exact ⟨by rw [HB2.out], rfl⟩
                by_cases q2 : ak.kind = [111, 102, 102]
                · have n1 : (ak.kind == [115, 101, 116]) = false := beq_eq_false_iff_ne.2 q1
                  have n2 : (ak.kind == [111, 102, 102]) = true := beq_iff_eq.2 q2
                  have HB2 : Hid (BK = false) := by unfold Hid; rw [HBB.out, n2]; simp
                  clear q1 q2
                  go_wp2_with fail
                  go_meet
                  case rel => exact ⟨by rw [HB2.out], rfl⟩
                by_cases q3 : ak.kind = [111, 110]
                · have n1 : (ak.kind == [115, 101, 116]) = false := beq_eq_false_iff_ne.2 q1
                  have n2 : (ak.kind == [111, 102, 102]) = false := beq_eq_false_iff_ne.2 q2
                  have n3 : (ak.kind == [111, 110]) = true := beq_iff_eq.2 q3
                  have HB2 : Hid (BK = false) := by unfold Hid; rw [HBB.out, n3]; simp
                  clear q1 q2 q3
                  go_wp2_with fail
                  go_meet
                  case rel => exact ⟨by rw [HB2.out], rfl⟩
                by_cases q4 : ak.kind = [97, 115, 107]
                · have n1 : (ak.kind == [115, 101, 116]) = false := beq_eq_false_iff_ne.2 q1
                  have n2 : (ak.kind == [111, 102, 102]) = false := beq_eq_false_iff_ne.2 q2
                  have n3 : (ak.kind == [111, 110]) = false := beq_eq_false_iff_ne.2 q3
                  have n4 : (ak.kind == [97, 115, 107]) = true := beq_iff_eq.2 q4
                  have HB2 : Hid (BK = false) := by unfold Hid; rw [HBB.out, n4]; simp
                  clear q1 q2 q3 q4
                  go_wp2_with fail
                  go_meet
                  case rel => exact ⟨by rw [HB2.out], rfl⟩
                have n1 : (ak.kind == [115, 101, 116]) = false := beq_eq_false_iff_ne.2 q1
                have n2 : (ak.kind == [111, 102, 102]) = false := beq_eq_false_iff_ne.2 q2
                have n3 : (ak.kind == [111, 110]) = false := beq_eq_false_iff_ne.2 q3
                have n4 : (ak.kind == [97, 115, 107]) = false := beq_eq_false_iff_ne.2 q4
                have HB2 : Hid (BK = true) := by unfold Hid; rw [HBB.out, n1, n2, n3, n4]; rfl
                clear q1 q2 q3 q4
                go_wp2_with fail
                go_meet
                case rel => exact ⟨by rw [HB2.out], rfl⟩
            case rest =>
              obtain ⟨rfl, rfl⟩ := hcut
              go_upto_if 83 with (fail)
              go_cut [12, 13, 14, 15] from 46 to 208 (fun _ _ _ _ wx => ∃ c' : CP, ClusAt wx L c' ∧ InvP c' ∧ FromB c'.plan c'.f ∧ c'.plan = l ∧ Below w.heap.size w wx)
              case first =>
                as_aux_lemma =>
                  cases BK
                  · go_wp2_with fail
                    refine KP.out.mono ?_
                    rintro e w6 ⟨rfl, r1, r2⟩
                    go_wp2_with fail
                    go_meet
                    case rel => exact ⟨_, r1, HI.out.actF ak [], HFB.out.actF HI.out ak [], (HPLA.out []).trans HPL.out, HL.out.base HB5.out r2⟩
                  · clear KP
                    have hwf := node_wfO hwm
                    by_cases ht : c.time < 200
                    · have hsf : c.slotF ak.lost = (c.slot (stayB c.plan.length) ak.lost, 0) := by rw [CP.slotF, if_pos ht]
                      have hst : c.slotT = c.sent := by rw [CP.slotT, if_pos ht]
                      rw [hsf, hst] at KL
                      rw [show errV ea ((c.slot (stayB c.plan.length) ak.lost, 0) : CP × Nat).2 = .nilIface from errV_zero ea] at KL
                      have HI2 := Lib.hid (HI.out.slot ht (stayB c.plan.length) ak.lost)
                      have HF2 : Hid (FromB (c.slot (stayB c.plan.length) ak.lost).plan (c.slot (stayB c.plan.length) ak.lost).f) := by unfold Hid; rw [CP.slot_plan.1]; exact HFB.out.slot HI.out ht _ ak.lost
                      have HP2 : Hid ((c.slot (stayB c.plan.length) ak.lost).plan = l) := CP.slot_plan.1.trans HPL.out
                      have hself : Hid (∀ y, (c.slot (stayB c.plan.length) ak.lost).f (whoV l c.time) = some y → y.st = 2 → Act c.f (whoV l c.time) → hasB y.m (whoV l c.time) = true) := fun y hy hya hw => by
                        have hw2 : whoV l c.time = whoV c.plan c.time := by rw [HPL.out]
                        rw [hw2] at hy hw ⊢
                        exact CP.slot_self HI.out ht (stayB c.plan.length) ak.lost hy hya hw
                      have hsent := HI.out.sent
                      rw [HPL.out] at hsent
                      clear hsf hst
                      generalize c.slot (stayB c.plan.length) ak.lost = c2 at *
                      generalize c.sent = tx at *
                      generalize whoV l c.time = who at *
                      have KV := Lib.hid (fun (W : World) (hC : ClusAt W L c2) (hb : Below w.heap.size w W) => cView_any ea L c2 who W ((HG.out.below hb).sub (by simp)) hC hwf)
                      have hon : Hid ((c2.on who).2 = 0 → ∃ y, c2.f who = some y ∧ y.st = 2 ∧ c2.on who = (y, 0)) := fun h0 => by
                        unfold CP.on at h0 ⊢
                        cases hf : c2.f who with
                        | none => rw [hf] at h0; simp at h0
                        | some y =>
                          rw [hf] at h0
                          dsimp only at h0 ⊢
                          by_cases hy : y.st = 2
                          · exact ⟨y, rfl, hy, by rw [if_pos hy]⟩
                          · rw [if_neg hy] at h0; simp at h0
                      rcases hsent with ⟨_, hs2, x, hx, hxa⟩ | ⟨hs, x, hx, hxa⟩
                      · have hwB : (was == [97, 99, 116, 105, 118, 101]) = true := by rw [HST.out, hx]; simp [actB, hxa]
                        have q2 : (tx == []) = false := by simpa using hs2
                        have q3 : tx.isEmpty = false := by simpa using hs2
                        have hact : Act c.f who := ⟨x, hx, hxa⟩
                        by_cases hbad : (c2.on who).2 = 0
                        · obtain ⟨y, hy, hya, hyo⟩ := hon.out hbad
                          rw [hyo] at KV
                          dsimp only at KV
                          rw [errV_zero] at KV
                          have KN := Lib.hid (fun W : World => refHas_any y.m who W)
                          rw [hself.out y hy hya hact] at KN
                          clear hx hxa hs2 hact hbad hy hya hyo hon hself ht
                          go_wp2_with fail
                          refine KL.out.mono ?_
                          rintro e w6 ⟨rfl, hC6, hF6⟩
                          have hb6 := HL.out.base HB5.out hF6
                          have KV6 := Lib.hid (KV.out w6 hC6 hb6)
                          go_wp2_with fail
                          refine KV6.out.mono ?_
                          rintro e w7 ⟨rfl, hb7⟩
                          go_wp2_with fail
                          refine (KN.out _).mono ?_
                          rintro e w8 ⟨rfl, rfl⟩
                          go_wp2_with fail
                          go_meet
                          case rel =>
                            have hal : Below w7.heap.size w7 (w7.alloc (.cells #[.int .i64 y.m, .int .i64 y.d, .int .i64 y.s] 38)) := (Below.refl _ _).alloc (Nat.le_refl _) _
                            exact ⟨c2, (hC6.below hb7).below hal, HI2.out, HF2.out, HP2.out, onto (onto hb6 hb7) hal⟩
                        · have HEV := Lib.hid (errV_pos ea hbad)
                          rw [HEV.out] at KV
                          clear hx hxa hs2 hact hbad hon hself ht
                          go_wp2_with fail
                          refine KL.out.mono ?_
                          rintro e w6 ⟨rfl, hC6, hF6⟩
                          have hb6 := HL.out.base HB5.out hF6
                          have KV6 := Lib.hid (KV.out w6 hC6 hb6)
                          go_wp2_with fail
                          refine KV6.out.mono ?_
                          rintro e w7 ⟨rfl, hb7⟩
                          go_wp2_with fail
                          go_meet
                          case rel =>
                            have hal : Below w7.heap.size w7 (w7.alloc (.cells #[.int .i64 (c2.on who).1.m, .int .i64 (c2.on who).1.d, .int .i64 (c2.on who).1.s] 38)) := (Below.refl _ _).alloc (Nat.le_refl _) _
                            exact ⟨c2, (hC6.below hb7).below hal, HI2.out, HF2.out, HP2.out, onto (onto hb6 hb7) hal⟩
                      · have hwB : (was == [97, 99, 116, 105, 118, 101]) = false := by rw [HST.out, hx]; simp [actB, hxa]
                        subst hs
                        by_cases hbad : (c2.on who).2 = 0
                        · rw [hbad, errV_zero] at KV
                          clear hx hxa hbad hon hself ht
                          go_wp2_with fail
                          refine KL.out.mono ?_
                          rintro e w6 ⟨rfl, hC6, hF6⟩
                          have hb6 := HL.out.base HB5.out hF6
                          have KV6 := Lib.hid (KV.out w6 hC6 hb6)
                          go_wp2_with fail
                          refine KV6.out.mono ?_
                          rintro e w7 ⟨rfl, hb7⟩
                          go_wp2_with fail
                          go_meet
                          case rel =>
                            have hal : Below w7.heap.size w7 (w7.alloc (.cells #[.int .i64 (c2.on who).1.m, .int .i64 (c2.on who).1.d, .int .i64 (c2.on who).1.s] 38)) := (Below.refl _ _).alloc (Nat.le_refl _) _
                            exact ⟨c2, (hC6.below hb7).below hal, HI2.out, HF2.out, HP2.out, onto (onto hb6 hb7) hal⟩
                        · have HEV := Lib.hid (errV_pos ea hbad)
                          rw [HEV.out] at KV
                          clear hx hxa hbad hon hself ht
                          go_wp2_with fail
                          refine KL.out.mono ?_
                          rintro e w6 ⟨rfl, hC6, hF6⟩
                          have hb6 := HL.out.base HB5.out hF6
                          have KV6 := Lib.hid (KV.out w6 hC6 hb6)
                          go_wp2_with fail
                          refine KV6.out.mono ?_
                          rintro e w7 ⟨rfl, hb7⟩
                          go_wp2_with fail
                          go_meet
                          case rel =>
                            have hal : Below w7.heap.size w7 (w7.alloc (.cells #[.int .i64 (c2.on who).1.m, .int .i64 (c2.on who).1.d, .int .i64 (c2.on who).1.s] 38)) := (Below.refl _ _).alloc (Nat.le_refl _) _
                            exact ⟨c2, (hC6.below hb7).below hal, HI2.out, HF2.out, HP2.out, onto (onto hb6 hb7) hal⟩
                    · have hsf : c.slotF ak.lost = (c, 7) := by rw [CP.slotF, if_neg ht]
                      have hst : c.slotT = [] := by rw [CP.slotT, if_neg ht]
                      rw [hsf, hst] at KL
                      rw [show errV ea ((c, 7) : CP × Nat).2 = .iface 350 (.pointer (some (ea 7))) from errV_pos ea (k := 7) (by decide)] at KL
                      clear hsf hst ht
                      generalize whoV l c.time = who at *
                      have KV := Lib.hid (fun (W : World) (hC : ClusAt W L c) (hb : Below w.heap.size w W) => cView_any ea L c who W ((HG.out.below hb).sub (by simp)) hC hwf)
                      go_wp2_with fail
                      refine KL.out.mono ?_
                      rintro e w6 ⟨rfl, hC6, hF6⟩
                      have hb6 := HL.out.base HB5.out hF6
                      have KV6 := Lib.hid (KV.out w6 hC6 hb6)
                      go_wp2_with fail
                      refine KV6.out.mono ?_
                      rintro e w7 ⟨rfl, hb7⟩
                      go_wp2_with fail
                      go_meet
                      case rel =>
                        have hal : Below w7.heap.size w7 (w7.alloc (.cells #[.int .i64 (c.on who).1.m, .int .i64 (c.on who).1.d, .int .i64 (c.on who).1.s] 38)) := (Below.refl _ _).alloc (Nat.le_refl _) _
                        exact ⟨c, (hC6.below hb7).below hal, HI.out, HFB.out, HPL.out, onto (onto hb6 hb7) hal⟩
              case rest =>
                obtain ⟨c', hC, hI, hF, hpl, hb⟩ := hcut
                clear KP KL
                have KC := Lib.hid (cCrew_any ea L c' wc ((HG.out.below hb).sub (by simp)) hC hI.dom (planF_ok hI.plan).2.2.2)
                have hone := safe_one hI hF
                rw [hpl] at hone
                have htm := hI.time
                have KV : Hid (∀ (W : World) (j : Int), Below wc.heap.size wc W → j ∈ listTo (c'.crewN : Nat) 16 → Calls Tryz.prog 18 #[.pointer (some ⟨L.cb, 0, none⟩), .int .i64 j] W fun e w' => ∃ m d : Int, e = .returned (.tuple #[.agg #[.int .i64 m, .int .i64 d, .int .i64 c'.time], .nilIface]) ∧ Below W.heap.size W w') := by
                  intro W j hW hj
                  obtain ⟨hw, x, hx, e1, e2, e3⟩ := hone j hj
                  have := cView_any ea L c' j W ((HG.out.below (onto hb hW)).sub (by simp)) (hC.below hW) hw
                  rw [hx] at this
                  dsimp only at this
                  rw [e1, errV_zero] at this
                  exact this.mono fun e w' ⟨h1, h2⟩ => ⟨_, _, h1, h2⟩
                have KH : Hid (∀ (W : World) (j : Int), Below wc.heap.size wc W → j ∈ listTo (c'.crewN : Nat) 16 → Calls Tryz.prog 23 #[.pointer (some ⟨L.cb, 0, none⟩), .int .i64 j] W fun e w' => ∃ (a : Option Addr) (cap : Nat) (es : List Ent), e = .returned (.tuple #[.slice a c'.time cap, .nilIface]) ∧ RowAt w' a (encEnts es) ∧ es.length = c'.time ∧ (∀ i, (hi : i < es.length) → es[i].slot = i ∧ es[i].frm = whoV l i) ∧ Below W.heap.size W w') := by
                  intro W j hW hj
                  obtain ⟨hw, x, hx, e1, e2, e3⟩ := hone j hj
                  have := cHist_any ea L c' j W ((HG.out.below (onto hb hW)).sub (by simp)) (hC.below hW) hw (by rw [hx]; dsimp only; omega)
                  rw [hx] at this
                  dsimp only at this
                  rw [e2, errV_zero] at this
                  exact this.mono fun e w' ⟨a, cap, h1, h2, _, h4⟩ => ⟨a, cap, x.h, h1, h2, e2, e3, h4⟩
                have KT := Lib.hid (fun (W : World) (hc : W.cell? ⟨L.cb, 1, none⟩ = some (.int .i64 (c'.time : Int))) => cTime_cell L.cb c'.time W hc)
                have hcl := hC.lt.1
                have hct := hC.cells.2.1
                have HCC := Lib.hid hC
                have HIC := Lib.hid hI
                have HFC := Lib.hid hF
                have HPC := Lib.hid hpl
                have HBC := Lib.hid hb
                have HRC := Lib.hid (HR.out.below hb)
                clear hone hC hI hF hpl hb
                generalize hab : wr.heap.size = ab at *
                clear hab
                obtain ⟨wo, rfl⟩ : ∃ wo : World, wo = wr := ⟨_, rfl⟩
                generalize whoV l c.time = who at *
                generalize c'.time = tm at *
                go_wp2_with fail
                refine KC.out.mono ?_
                rintro e w6 ⟨rfl, hb6⟩
                generalize ((c'.crewN : Nat) : Int) = cr at *
                have KL2 := Lib.hid (listOf_any cr w6)
                go_wp2_with fail
                refine KL2.out.mono ?_
                rintro e w7 ⟨ao, nx, co, rfl, hrow, hnx, hco, hb7⟩
                have hlen := listTo_length cr 16
                generalize listTo cr 16 = ls at *
                have hv7 : Below wc.heap.size wc w7 := onto hb6 hb7
                have HNX := Lib.hid hnx
                have HRW := Lib.hid hrow
                have hn16 : nx ≤ 16 := by omega
                clear hnx hrow hb6 hb7 KC KL2
                go_wp2
                go_loopw [17] (fun i wr => ∃ q : Nat, q ≤ nx ∧ i = .int .i64 q ∧ Below wc.heap.size wc wr ∧ Below w7.heap.size w7 wr) (fun i _ => nx - (intOf i).toNat)
                case atStart => exact ⟨0, Nat.zero_le _, rfl, hv7, Below.refl _ _⟩
                case round =>
                  clear hv7
                  obtain ⟨q, hq, rfl, hv, hv2⟩ := hrel
                  by_cases hlq : q < nx
                  · have hkl : q < ls.length := by have := HNX.out; omega
                    have hrr := HRW.out.below hv2
                    obtain ⟨lb, lo, rfl, hlbl, ck⟩ := hrr.int q hkl
                    have hjk := List.getElem_mem hkl
                    have hq0' : (0 : Int) ≤ (q : Int) := by omega
                    have hq1' : (q : Int) < (nx : Int) := by omega
                    generalize ls[q] = jk at *
                    have HV := Lib.hid hv
                    clear hrr hkl
                    go_wp2_with fail
                    refine (KV.out _ jk HV.out hjk).mono ?_
                    rintro e w8 ⟨m, d, rfl, hb8⟩
                    have hv8 := onto HV.out hb8
                    have hal8 : Below w8.heap.size w8 (w8.alloc (.cells #[.int .i64 m, .int .i64 d, .int .i64 tm] 38)) := (Below.refl _ _).alloc (Nat.le_refl _) _
                    have hx8 : Below w7.heap.size w7 (w8.alloc (.cells #[.int .i64 m, .int .i64 d, .int .i64 tm] 38)) := hv2.trans ((hb8.trans (hal8.mono hb8.size)).mono hv2.size)
                    have ck8 := (hb8.cell (p := ⟨lb, lo + q, none⟩) hlbl).trans ck
                    have ck9 := (hal8.cell (p := ⟨lb, lo + q, none⟩) (Nat.lt_of_lt_of_le hlbl hb8.size)).trans ck8
                    have K9 := Lib.hid (KH.out _ jk (onto hv8 hal8) hjk)
                    clear ck ck8
                    go_wp2_with fail
                    refine K9.out.mono ?_
                    rintro e w9 ⟨a1, cp1, es, rfl, hr1, hel, hes, hb9⟩
                    have hv9 := onto (onto hv8 hal8) hb9
                    have hx9 : Below w7.heap.size w7 w9 := hx8.trans (hb9.mono hx8.size)
                    have BV := (Blok.new w8 38 #[.int .i64 m, .int .i64 d, .int .i64 tm]).kept hb9
                    generalize w8.heap.size = v1 at *
                    have x2 : w9.drew.cell? ⟨v1, 2, none⟩ = some (.int .i64 tm) := BV.cell 2 rfl
                    have z1 : w9.drew.cell? ⟨L.cb, 1, none⟩ = some (.int .i64 tm) := (hv9.cell (p := ⟨L.cb, 1, none⟩) hcl).trans hct
                    have HV9 := Lib.hid hv9
                    have HX9 := Lib.hid hx9
                    have HR1 := Lib.hid hr1
                    have HEL := Lib.hid hel
                    have HES := Lib.hid hes
                    clear hv9 hx9 hr1 hel hes hb9 hb8 hal8 hx8 hv8 ck9 BV K9
                    go_wp2
                    go_region_held3 (fun w' => w'.cell? ⟨v1, 2, none⟩ = some (.int .i64 tm) ∧ w'.cell? ⟨L.cb, 1, none⟩ = some (.int .i64 tm)) (go_keep)
                      ((go_at_call 15; (with_reducible refine (KT.out _ (by assumption)).mono ?_); rintro e w' ⟨rfl, rfl⟩))
                    clear x2 z1 KV KH KT
                    go_wp2
                    have hst : Below w9.heap.size w9 w9.drew := (Below.refl _ _).drew
                    obtain ⟨wp, rfl⟩ : ∃ wp : World, wp = wr := ⟨_, rfl⟩
                    go_loopw [22] (fun i wr => ∃ j : Nat, j ≤ tm ∧ i = .int .i64 j ∧ Below w9.heap.size w9 wr) (fun i _ => tm - (intOf i).toNat)
                    case atStart => exact ⟨0, Nat.zero_le _, rfl, hst⟩
                    case round =>
                      clear hst
                      obtain ⟨j, hj, rfl, hbj⟩ := hrel
                      by_cases hlj : j < tm
                      · have hje : j < es.length := by rw [HEL.out]; exact hlj
                        obtain ⟨eb, eo, rfl, hebl, s0, f0, -, -⟩ := (HR1.out.below hbj).ent j hje
                        obtain ⟨e1, e2⟩ := HES.out j hje
                        rw [e1] at s0
                        rw [e2] at f0
                        have hmj : j % n < n := Nat.mod_lt _ (by omega)
                        obtain ⟨pb2, po2, hpe, _, pj⟩ := intD (HRC.out.below (onto HV9.out hbj)) (j % n) (by rw [HN.out]; exact hmj)
                        injection hpe with hpe
                        injection hpe with h1 h2
                        subst h1 h2
                        have hwj : l.getD (j % n) 0 = whoV l j := by rw [whoV, HN.out]
                        rw [hwj] at pj
                        have hj0 : (0 : Int) ≤ (j : Int) := by omega
                        have hj1 : (j : Int) < (tm : Int) := by omega
                        have hm0' : (0 : Int) ≤ ((j % n : Nat) : Int) := by omega
                        have hm1' : ((j % n : Nat) : Int) < (n : Int) := by omega
                        have HBJ := Lib.hid hbj
                        clear e1 e2 hje hebl hmj hwj hbj
                        generalize whoV l j = wv at *
                        go_wp2
                        go_quiet (fail)
                        go_wp2
                        go_roundw
                        case rel => exact ⟨j + 1, by omega, by go_num, below_drewN HBJ.out _⟩
                        case measure => simp [intOf]; omega
                      · have HBJ := Lib.hid hbj
                        clear hbj
                        go_wp2
                        go_roundw
                        case rel => exact ⟨q + 1, by omega, by go_num, onto HV9.out HBJ.out, HX9.out.trans (HBJ.out.mono HX9.out.size)⟩
                        case measure => simp [intOf]; omega
                  · go_wp2
                    go_roundw
                    case rel => exact ⟨k + 1, c', by omega, by go_num, HCC.out.below hv, HIC.out, HFC.out, HPC.out, onto HBC.out hv⟩
                    case measure => simp [intOf]; omega
          · go_wp2
            go_ret
            exact ⟨rfl, hb⟩
      · have KN := Lib.hid (fun (W : World) (hb : Below w.heap.size w W) => cNew_bad ea a n cap l W ((HG.out.below hb).sub (by simp)) HN.out (HR.out.below hb) hm hp)
        have HP := Lib.hid hp
        clear hp
        go_enter Tryz.func3, Tryz.ntmps3
        go_wp2_with fail
        refine K0.out.mono ?_
        rintro e w1 ⟨rfl, hb1⟩
        go_wp2_with fail
        refine (KL.out w1 hb1).mono ?_
        rintro e w2 ⟨rfl, rfl⟩
        rw [HLG.out]
        have K1 := Lib.hid (KN.out w1 hb1)
        go_wp2_with fail
        refine K1.out.mono ?_
        rintro e w3 ⟨v, rfl, hE, hb3⟩
        obtain ⟨t, x, rfl⟩ := hE.held HP.out
        have hv3 := onto hb1 hb3
        clear hE
        go_wp2
        go_ret
        exact ⟨rfl, hv3⟩
end Go.Proofs.YtkjmgfpbngiipaaGreatDoor
