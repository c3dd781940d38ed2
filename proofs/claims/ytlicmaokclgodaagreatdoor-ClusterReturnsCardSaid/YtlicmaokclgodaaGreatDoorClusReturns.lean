/- ClusterReturns: the law's walk. -/
import Derived.Test.YtlicmaokclgodaaGreatDoorClusAgrees
import Derived.Test.YtlicmaokclgodaaGreatDoorCoded
namespace Go.Proofs.YtlicmaokclgodaaGreatDoor
open Go.RowKit Go.Maps

theorem int_wfB {n : Int} (h : -9223372036854775808 ≤ n ∧ n ≤ 9223372036854775807) : (Lit.int .i64 n).wf = true := by
  have h1 : IntKind.i64.min = -9223372036854775808 := by decide +kernel
  have h2 : IntKind.i64.max = 9223372036854775807 := by decide +kernel
  simp only [Lit.wf, Bool.and_eq_true, decide_eq_true_eq, h1, h2]
  exact h
theorem on_yes {c : CP} {n : Int} (h : (c.turn n 1).2 = 0) : ∃ x, (c.turn n 1).1.f n = some x ∧ x.st = 1 := by
  unfold CP.turn at h ⊢
  cases hf : c.f n with
  | none => rw [hf] at h; simp at h
  | some x =>
    rw [hf] at h
    dsimp only at h ⊢
    split at h
    · simp at h
    · rename_i hn
      rw [if_neg hn]
      exact ⟨⟨1, x.val, 0, 0, 0, []⟩, by simp, rfl⟩
theorem actF_plan (c : CP) (a : ActR) (lost : List Int) : (c.actF a lost).1.plan = c.plan := by
  have ht : ∀ n t, (c.turn n t).1.plan = c.plan := fun n t => by unfold CP.turn; split <;> (try split) <;> rfl
  have hs : ∀ n v, (c.set n v).1.plan = c.plan := fun n v => by unfold CP.set; split <;> (try split) <;> rfl
  have hk : ∀ t, (c.ask t).1.plan = c.plan := fun t => by unfold CP.ask; split <;> (try split) <;> rfl
  unfold CP.actF
  split
  · exact hs _ _
  · split
    · exact ht _ _
    · split
      · exact ht _ _
      · split
        · exact hk _
        · unfold CP.slotF
          split
          · exact CP.slot_plan.1
          · rfl
theorem crew_some {c : CP} (h : c.crewN ≠ 0) : ∃ z, Act c.f z := by
  by_cases he : ∃ z, Act c.f z
  · exact he
  · exfalso
    apply h
    have e : (c.plan.filter fun i => actB (c.f i)) = [] := List.filter_eq_nil_iff.2 fun i _ ha => he ⟨i, by
      cases hf : c.f i with
      | none => rw [hf] at ha; simp [actB] at ha
      | some x => rw [hf] at ha; exact ⟨x, hf, by simpa [actB] using ha⟩⟩
    rw [CP.crewN, e]; rfl
theorem crew_none {c : CP} (h : ∀ i, ¬ Act c.f i) : c.crewN = 0 := by
  by_cases he : c.crewN = 0
  · exact he
  · obtain ⟨z, hz⟩ := crew_some he; exact absurd hz (h z)
theorem stT_act {c : CP} {n : Int} (h : Act c.f n) : c.stT n = [97, 99, 116, 105, 118, 101] := by
  obtain ⟨x, hx, ha⟩ := h
  rw [CP.stT, hx]; simp only [ha]; rfl
set_option maxRecDepth 100000 in
set_option maxHeartbeats 6400000 in
theorem walk_ClusterReturns (ea : Nat → Addr) (a : Option Addr) (n cap : Nat) (l : List Int) (a2 : Option Addr) (n2 cap2 : Nat) (acts : List ActR) (nd : Int) (w : World) (hG : GlobC w ea) (hT : TxtEnv w)
    (hn : l.length = n) (hr : RowAt w a (encInts l)) (_hc : n ≤ cap) (hm : n ≤ 4611686018427387904) (hn2 : acts.length = n2) (hr2 : RowAt w a2 (encActs acts)) (_hc2 : n2 ≤ cap2) (hm2 : n2 ≤ 4611686018427387904) (hok : ∀ e ∈ acts, e.Ok w) (hnd : -9223372036854775808 ≤ nd ∧ nd ≤ 9223372036854775807) :
    Calls Tryz.prog 5 #[.slice a n cap, .slice a2 n2 cap2, .int .i64 nd] w fun e w' => e = .returned (.bool true) ∧ Below w.heap.size w w' := by
  have hg : Glob w ea [1, 2, 3, 4, 5, 6, 7, 8, 9, 10, 11] := hG.sub (fun k hk => hk)
  have K0 := Lib.hid (clustered_any ea w hg hT)
  have KL := Lib.hid (fun (W : World) (hb : Below w.heap.size w W) => longActs_any a2 n2 cap2 acts 40 W hn2 (hr2.below hb) hm2)
  have HG := Lib.hid hg
  have HGC := Lib.hid hG
  have HT := Lib.hid hT
  have HR := Lib.hid hr
  have HN := Lib.hid hn
  have HR2 := Lib.hid hr2
  have HN2 := Lib.hid hn2
  have HOK := Lib.hid hok
  have HW := Lib.hid (int_wfB hnd)
  clear hg hG hT hr hn hr2 hn2 hok hnd
  by_cases h40 : 40 < n
  · have d1 : decide ((40 : Int) < (n : Int)) = true := decide_eq_true (by omega)
    clear h40
    go_enter Tryz.func5, Tryz.ntmps5
    go_wp2_with fail
    refine K0.out.mono ?_
    rintro e w1 ⟨rfl, hb1⟩
    go_wp2
    go_ret
    exact ⟨rfl, hb1⟩
  · have d1 : decide ((40 : Int) < (n : Int)) = false := decide_eq_false (by omega)
    cases hlong : longA acts 40
    rotate_left
    · have HLG := Lib.hid hlong
      clear h40 hlong
      go_enter Tryz.func5, Tryz.ntmps5
      go_wp2_with fail
      refine K0.out.mono ?_
      rintro e w1 ⟨rfl, hb1⟩
      go_wp2_with fail
      refine (KL.out w1 hb1).mono ?_
      rintro e w2 ⟨rfl, rfl⟩
      rw [HLG.out]
      go_wp2
      go_ret
      exact ⟨rfl, hb1⟩
    · have HLG := Lib.hid hlong
      have hl60 := (longA_not hlong).1
      rw [HN2.out] at hl60
      clear hlong
      by_cases hp : (planF l).1 = 0
      · have KN := Lib.hid (fun (W : World) (hb : Below w.heap.size w W) => cNew_ok ea a n cap l W ((HG.out.below hb).sub (by simp)) HN.out (HR.out.below hb) hp)
        have HP := Lib.hid hp
        clear hp
        go_enter Tryz.func5, Tryz.ntmps5
        go_wp2_with fail
        refine K0.out.mono ?_
        rintro e w1 ⟨rfl, hb1⟩
        go_wp2_with fail
        refine (KL.out w1 hb1).mono ?_
        rintro e w2 ⟨rfl, rfl⟩
        rw [HLG.out]
        have K1 := Lib.hid (KN.out w1 hb1)
        go_wp2_with fail
        refine K1.out.mono ?_
        rintro e w3 ⟨L, rfl, hC3, hL3, hb3⟩
        have hv3 := onto hb1 hb3
        have HL := Lib.hid (hL3.mono hb1.size)
        clear K0 KL KN K1 hL3 hb1 hb3
        go_wp2
        go_loopw [10] (fun i wr => ∃ (k : Nat) (c : CP), k ≤ n2 ∧ i = .int .i64 k ∧ ClusAt wr L c ∧ InvP c ∧ Agree c.f ∧ c.plan = l ∧ Below w.heap.size w wr) (fun i _ => n2 - (intOf i).toNat)
        case atStart => exact ⟨0, _, Nat.zero_le _, rfl, hC3, InvP.new HP.out, Agree.new l, rfl, hv3⟩
        case round =>
          clear hC3 hv3
          obtain ⟨k, c, hk, rfl, hC, hI, hA, hpl, hb⟩ := hrel
          by_cases hlt : k < n2
          · have hkl : k < acts.length := by rw [HN2.out]; exact hlt
            obtain ⟨b, off, rfl, hbl, c0, c1, c2, c3⟩ := act_at (HR2.out.below hb) k hkl
            have hao := (HOK.out acts[k] (List.getElem_mem hkl)).below hb
            have hi0 : (0 : Int) ≤ (k : Int) := by omega
            have hi1 : (k : Int) < (n2 : Int) := by omega
            generalize acts[k] = ak at *
            have KP := Lib.hid (play_any ea L c ak wr (envC_of HG.out HT.out hb HL.out) hC hI hao)
            have HI2 := Lib.hid (hI.actF ak [])
            have HA2 := Lib.hid (hA.actF ak)
            have HPL := Lib.hid ((actF_plan c ak []).trans hpl)
            have HB := Lib.hid hb
            clear hC hI hA hao hb hpl
            go_wp2_with fail
            refine KP.out.mono ?_
            rintro e w4 ⟨rfl, hC4, hF4⟩
            have HC4 := Lib.hid hC4
            have HB4 := Lib.hid (HL.out.base HB.out hF4)
            clear hC4 hF4 KP
            go_wp2
            go_roundw
            case rel => exact ⟨k + 1, _, by omega, by go_num, HC4.out, HI2.out, HA2.out, HPL.out, HB4.out⟩
            case measure => simp [intOf]; omega
          · obtain rfl : k = n2 := by omega
            have KO := Lib.hid (cOff_any ea L c nd wr ((HG.out.below hb).sub (by simp)) hC HW.out)
            have HI1 := Lib.hid (hI.turn nd 0 (Or.inl rfl))
            have HA1 := Lib.hid (hA.turn nd 0 (Or.inl rfl))
            have HPL1 : Hid ((c.turn nd 0).1.plan = l) := by unfold Hid CP.turn; split <;> (try split) <;> exact hpl
            have HB := Lib.hid hb
            clear hC hI hA hb hpl
            go_wp2_with fail
            refine KO.out.mono ?_
            rintro e w4 ⟨rfl, hC4, hF4⟩
            have hb4 := HL.out.base HB.out hF4
            generalize (c.turn nd 0).1 = c1 at *
            have KN1 := Lib.hid (cOn_any ea L c1 nd w4 ((HG.out.below hb4).sub (by simp)) hC4 HW.out)
            have HI2 := Lib.hid (HI1.out.turn nd 1 (Or.inr rfl))
            have HA2 := Lib.hid (HA1.out.turn nd 1 (Or.inr rfl))
            have HPL2 : Hid ((c1.turn nd 1).1.plan = l) := by unfold Hid CP.turn; split <;> (try split) <;> exact HPL1.out
            have HB4 := Lib.hid hb4
            clear hC4 hF4 hb4 KO
            by_cases he2 : (c1.turn nd 1).2 = 0
            · obtain ⟨x, hx, hx1⟩ := on_yes he2
              rw [he2, errV_zero] at KN1
              have HX := Lib.hid hx
              have HX1 := Lib.hid hx1
              clear he2 hx hx1
              go_wp2_with fail
              refine KN1.out.mono ?_
              rintro e w5 ⟨rfl, hC5, hF5⟩
              have hb5 := HL.out.base HB4.out hF5
              generalize (c1.turn nd 1).1 = c2 at *
              have KC := Lib.hid (cCrew_any ea L c2 w5 ((HG.out.below hb5).sub (by simp)) hC5 HI2.out.dom (planF_ok HI2.out.plan).2.2.2)
              have HB5 := Lib.hid hb5
              have HC5 := Lib.hid hC5
              clear hC5 hF5 hb5 KN1
              by_cases hcr : c2.crewN = 0
              · rw [hcr, show ((0 : Nat) : Int) = 0 from rfl] at KC
                clear hcr
                go_wp2_with fail
                refine KC.out.mono ?_
                rintro e w6 ⟨rfl, hb6⟩
                go_wp2
                go_ret
                exact ⟨rfl, onto HB5.out hb6⟩
              · have hz := crew_some hcr
                have HZ := Lib.hid hz
                generalize hcn : c2.crewN = cn at *
                have d2 : (cn == 0) = false := beq_eq_false_iff_ne.2 hcr
                have d3 : ((cn : Int) == 0) = false := beq_eq_false_iff_ne.2 (by omega)
                clear hz hcn hcr
                go_wp2_with fail
                refine KC.out.mono ?_
                rintro e w6 ⟨rfl, hb6⟩
                have hC6 := HC5.out.below hb6
                have hb6' := onto HB5.out hb6
                go_wp2
                have HP2 : Hid ((c2.slots (stayB l.length) 0) = c2) := rfl
                have ht0 := HI2.out.time
                have hln : l.length = n := HN.out
                have HC6 := Lib.hid hC6
                have HB6 := Lib.hid hb6'
                have hnn : n ≤ 40 := by omega
                clear hC6 hb6' hb6 HC5 HB5 KC hln
                obtain ⟨wo, rfl⟩ : ∃ wo : World, wo = wr := ⟨_, rfl⟩
                go_loopw [11] (fun i wr => ∃ j : Nat, j ≤ n ∧ i = .int .i64 j ∧ c2.time + j ≤ 200 ∧ ClusAt wr L (c2.slots (stayB l.length) j) ∧ Below w.heap.size w wr) (fun i _ => n - (intOf i).toNat)
                case atStart => exact ⟨0, Nat.zero_le _, rfl, by omega, HC6.out, HB6.out⟩
                case round =>
                  clear HC6 HB6
                  obtain ⟨j, hj, rfl, hjt, hC, hb⟩ := hrel
                  obtain ⟨k1, k2, k3, k4⟩ := CP.slots_keep HA2.out HI2.out (stayB l.length) j hjt
                  by_cases hlt2 : j < n
                  · have KS := Lib.hid (cSlot_any ea L _ none 0 0 [] wr (envC_of HG.out HT.out hb HL.out) hC k2 rfl (RowAt.nil _ _) (by omega))
                    have HB := Lib.hid hb
                    by_cases ht : c2.time + j < 200
                    · have he : (c2.slots (stayB l.length) j).slotF [] = (c2.slots (stayB l.length) (j + 1), 0) := by
                        rw [CP.slotF, if_pos (by rw [k4]; exact ht), k3, HPL2.out]; rfl
                      rw [he] at KS
                      rw [show errV ea ((c2.slots (stayB l.length) (j + 1), 0) : CP × Nat).2 = .nilIface from errV_zero ea] at KS
                      clear hC hb k1 k2 k3 k4 he
                      go_wp2_with fail
                      refine KS.out.mono ?_
                      rintro e w7 ⟨rfl, hC7, hF7⟩
                      have HC7 := Lib.hid hC7
                      have HB7 := Lib.hid (HL.out.base HB.out hF7)
                      clear hC7 hF7 KS
                      go_wp2
                      go_roundw
                      case rel => exact ⟨j + 1, by omega, by go_num, by omega, HC7.out, HB7.out⟩
                      case measure => simp [intOf]; omega
                    · have he : (c2.slots (stayB l.length) j).slotF [] = (c2.slots (stayB l.length) j, 7) := by
                        rw [CP.slotF, if_neg (by rw [k4]; exact ht)]
                      rw [he] at KS
                      rw [show errV ea ((c2.slots (stayB l.length) j, 7) : CP × Nat).2 = errV ea 7 from rfl] at KS
                      have hE7 : ErrIs ea wr (errV ea 7) 7 (-1) := ErrIs.bare ea wr 7
                      have KD := Lib.hid (fun (W : World) (hW : Below w.heap.size w W) => coded3_yes ea (errV ea 7) 7 7 W (HGC.out.below hW) (ErrIs.bare ea W 7) (by omega) rfl)
                      obtain ⟨t, xx, hev⟩ : ∃ t xx, errV ea 7 = .iface t xx := ⟨_, _, errV_pos ea (by decide)⟩
                      rw [hev] at KS KD
                      clear hC hb k1 k2 k3 k4 he hE7 hev
                      go_wp2_with fail
                      refine KS.out.mono ?_
                      rintro e w7 ⟨rfl, hC7, hF7⟩
                      have hb7 := HL.out.base HB.out hF7
                      have K7 := Lib.hid (KD.out w7 hb7)
                      go_wp2_with fail
                      refine K7.out.mono ?_
                      rintro e w8 ⟨rfl, hb8⟩
                      go_wp2
                      go_ret
                      exact ⟨rfl, onto hb7 hb8⟩
                  · obtain rfl : j = n := by omega
                    have hpn : c2.plan.length = j := by rw [HPL2.out]; exact HN.out
                    have hback : (∀ i, ¬ Act (c2.slots (stayB l.length) j).f i) ∨ Act (c2.slots (stayB l.length) j).f nd := by
                      obtain ⟨z, hz⟩ := HZ.out
                      have h := CP.round_back HA2.out HI2.out (stayB l.length) HX.out (Or.inl HX1.out) hz (by rw [hpn]; exact hjt)
                      rw [hpn] at h; exact h
                    generalize c2.slots (stayB l.length) j = c3 at *
                    have KC := Lib.hid (cCrew_any ea L c3 wr ((HG.out.below hb).sub (by simp)) hC k2.dom (planF_ok k2.plan).2.2.2)
                    have KA := Lib.hid (fun (W : World) (hW : Below wr.heap.size wr W) => agreed_any ea L c3 W ((HG.out.below (onto hb hW)).sub (by simp)) (hC.below hW) k2 k1)
                    have HB := Lib.hid hb
                    by_cases hcr : c3.crewN = 0
                    · rw [hcr, show ((0 : Nat) : Int) = 0 from rfl] at KC
                      clear hC hb k1 k2 k3 k4 hcr hback
                      go_wp2_with fail
                      refine KC.out.mono ?_
                      rintro e w6 ⟨rfl, hb6⟩
                      have K7 := Lib.hid (KA.out w6 hb6)
                      go_wp2_with fail
                      refine K7.out.mono ?_
                      rintro e w7 ⟨rfl, hb7⟩
                      go_wp2
                      go_ret
                      exact ⟨rfl, onto (onto HB.out hb6) hb7⟩
                    · have hact : Act c3.f nd := hback.resolve_left (fun h => hcr (crew_none h))
                      have KS := Lib.hid (fun (W : World) (hW : Below wr.heap.size wr W) => cState_any L c3 nd W (hC.below hW) HW.out (fun x hf => (k2.node nd x hf).st))
                      rw [stT_act hact] at KS
                      generalize hcn : c3.crewN = cn at *
                      have d2 : (cn == 0) = false := beq_eq_false_iff_ne.2 hcr
                      have d3 : ((cn : Int) == 0) = false := beq_eq_false_iff_ne.2 (by omega)
                      clear hC hb k1 k2 k3 k4 hcr hback hact hcn
                      go_wp2_with fail
                      refine KC.out.mono ?_
                      rintro e w6 ⟨rfl, hb6⟩
                      have K6 := Lib.hid (KS.out w6 hb6)
                      go_wp2_with fail
                      refine K6.out.mono ?_
                      rintro e w7 ⟨rfl, hb7⟩
                      have K7 := Lib.hid (KA.out w7 (onto hb6 hb7))
                      have hb67 := onto hb6 hb7
                      go_wp2_with fail
                      refine K7.out.mono ?_
                      rintro e w8 ⟨rfl, hb8⟩
                      go_wp2
                      go_ret
                      exact ⟨rfl, onto (onto HB.out hb67) hb8⟩
            · obtain ⟨t, xx, hev⟩ : ∃ t xx, errV ea (c1.turn nd 1).2 = .iface t xx := ⟨_, _, errV_pos ea he2⟩
              rw [hev] at KN1
              clear he2 hev
              go_wp2_with fail
              refine KN1.out.mono ?_
              rintro e w5 ⟨rfl, hC5, hF5⟩
              have hb5 := HL.out.base HB4.out hF5
              go_wp2
              go_ret
              exact ⟨rfl, hb5⟩
      · have KN := Lib.hid (fun (W : World) (hb : Below w.heap.size w W) => cNew_bad ea a n cap l W ((HG.out.below hb).sub (by simp)) HN.out (HR.out.below hb) hm hp)
        have HP := Lib.hid hp
        clear hp
        go_enter Tryz.func5, Tryz.ntmps5
        go_wp2_with fail
        refine K0.out.mono ?_
        rintro e w1 ⟨rfl, hb1⟩
        go_wp2_with fail
        refine (KL.out w1 hb1).mono ?_
        rintro e w2 ⟨rfl, rfl⟩
        rw [HLG.out]
        have K1 := Lib.hid (KN.out w1 hb1)
        go_wp2_with fail
        refine K1.out.mono ?_
        rintro e w3 ⟨v, rfl, hE, hb3⟩
        obtain ⟨t, x, rfl⟩ := hE.held HP.out
        have hv3 := onto hb1 hb3
        clear hE
        go_wp2
        go_ret
        exact ⟨rfl, hv3⟩
end Go.Proofs.YtlicmaokclgodaaGreatDoor
