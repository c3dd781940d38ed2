/- ClusterAgrees: the law's walk. -/
import Derived.Test.YtlicmaokclgodaaGreatDoorClusLaw
namespace Go.Proofs.YtlicmaokclgodaaGreatDoor
open Go.RowKit Go.Maps

theorem Agree.actF {c : CP} (h : Agree c.f) (a : ActR) : Agree (c.actF a []).1.f := by
  unfold CP.actF
  split
  · exact h.set _ _
  · split
    · exact h.turn _ _ (Or.inl rfl)
    · split
      · exact h.turn _ _ (Or.inr rfl)
      · split
        · exact h.ask _
        · unfold CP.slotF
          split
          · exact h.slot _
          · exact h
set_option maxRecDepth 100000 in
set_option maxHeartbeats 3200000 in
theorem walk_ClusterAgrees (ea : Nat → Addr) (a : Option Addr) (n cap : Nat) (l : List Int) (a2 : Option Addr) (n2 cap2 : Nat) (acts : List ActR) (w : World) (hg : Glob w ea [1, 2, 3, 4, 5, 6, 7, 8, 9, 10, 11]) (hT : TxtEnv w)
    (hn : l.length = n) (hr : RowAt w a (encInts l)) (_hc : n ≤ cap) (hm : n ≤ 4611686018427387904) (hn2 : acts.length = n2) (hr2 : RowAt w a2 (encActs acts)) (_hc2 : n2 ≤ cap2) (hm2 : n2 ≤ 4611686018427387904) (hok : ∀ e ∈ acts, e.Ok w) :
    Calls Tryz.prog 3 #[.slice a n cap, .slice a2 n2 cap2] w fun e w' => e = .returned (.bool true) ∧ Below w.heap.size w w' := by
  have K0 := Lib.hid (clustered_any ea w hg hT)
  have KL := Lib.hid (fun (W : World) (hb : Below w.heap.size w W) => longActs_any a2 n2 cap2 acts 60 W hn2 (hr2.below hb) hm2)
  have HG := Lib.hid hg
  have HT := Lib.hid hT
  have HR := Lib.hid hr
  have HN := Lib.hid hn
  have HR2 := Lib.hid hr2
  have HN2 := Lib.hid hn2
  have HOK := Lib.hid hok
  clear hg hT hr hn hr2 hn2 hok
  by_cases h40 : 40 < n
  · have d1 : decide ((40 : Int) < (n : Int)) = true := decide_eq_true (by omega)
    clear h40
    go_enter Tryz.func3, Tryz.ntmps3
    go_wp2_with fail
    refine K0.out.mono ?_
    rintro e w1 ⟨rfl, hb1⟩
    go_wp2
    go_ret
    exact ⟨rfl, hb1⟩
  · have d1 : decide ((40 : Int) < (n : Int)) = false := decide_eq_false (by omega)
    cases hlong : longA acts 60
    rotate_left
    · have HLG := Lib.hid hlong
      clear h40 hlong
      go_enter Tryz.func3, Tryz.ntmps3
      go_wp2_with fail
      refine K0.out.mono ?_
      rintro e w1 ⟨rfl, hb1⟩
      go_wp2_with fail
      refine (KL.out w1 hb1).mono ?_
      rintro e w2 ⟨rfl, rfl⟩
      rw [HLG.out]
      go_wp2
      go_ret
      exact ⟨rfl, hb1⟩
    · have HLG := Lib.hid hlong
      have hl60 := (longA_not hlong).1
      rw [HN2.out] at hl60
      clear hlong
      by_cases hp : (planF l).1 = 0
      · have KN := Lib.hid (fun (W : World) (hb : Below w.heap.size w W) => cNew_ok ea a n cap l W ((HG.out.below hb).sub (by simp)) HN.out (HR.out.below hb) hp)
        have HP := Lib.hid hp
        clear hp
        go_enter Tryz.func3, Tryz.ntmps3
        go_wp2_with fail
        refine K0.out.mono ?_
        rintro e w1 ⟨rfl, hb1⟩
        go_wp2_with fail
        refine (KL.out w1 hb1).mono ?_
        rintro e w2 ⟨rfl, rfl⟩
        rw [HLG.out]
        have K1 := Lib.hid (KN.out w1 hb1)
        go_wp2_with fail
        refine K1.out.mono ?_
        rintro e w3 ⟨L, rfl, hC3, hL3, hb3⟩
        have hv3 := onto hb1 hb3
        have HL := Lib.hid (hL3.mono hb1.size)
        clear K0 KL KN K1 hL3 hb1 hb3
        go_wp2
        go_loopw [8] (fun i wr => ∃ (k : Nat) (c : CP), k ≤ n2 ∧ i = .int .i64 k ∧ ClusAt wr L c ∧ InvP c ∧ Agree c.f ∧ Below w.heap.size w wr) (fun i _ => n2 - (intOf i).toNat)
        case atStart => exact ⟨0, _, Nat.zero_le _, rfl, hC3, InvP.new HP.out, Agree.new l, hv3⟩
        case round =>
          clear hC3 hv3
          obtain ⟨k, c, hk, rfl, hC, hI, hA, hb⟩ := hrel
          by_cases hlt : k < n2
          · have hkl : k < acts.length := by rw [HN2.out]; exact hlt
            obtain ⟨b, off, rfl, hbl, c0, c1, c2, c3⟩ := act_at (HR2.out.below hb) k hkl
            have hao := (HOK.out acts[k] (List.getElem_mem hkl)).below hb
            have hi0 : (0 : Int) ≤ (k : Int) := by omega
            have hi1 : (k : Int) < (n2 : Int) := by omega
            generalize acts[k] = ak at *
            have KP := Lib.hid (play_any ea L c ak wr (envC_of HG.out HT.out hb HL.out) hC hI hao)
            have HI2 := Lib.hid (hI.actF ak [])
            have HA2 := Lib.hid (hA.actF ak)
            have HB := Lib.hid hb
            clear hC hI hA hao hb
            go_wp2_with fail
            refine KP.out.mono ?_
            rintro e w4 ⟨rfl, hC4, hF4⟩
            have hb4 := HL.out.base HB.out hF4
            have KA := Lib.hid (agreed_any ea L _ w4 ((HG.out.below hb4).sub (by simp)) hC4 HI2.out HA2.out)
            go_wp2_with fail
            refine KA.out.mono ?_
            rintro e w5 ⟨rfl, hb5⟩
            have HC5 := Lib.hid (hC4.below hb5)
            have HB5 := Lib.hid (onto hb4 hb5)
            clear hC4 hF4 hb4 hb5 KA KP
            go_wp2
            go_roundw
            case rel => exact ⟨k + 1, _, by omega, by go_num, HC5.out, HI2.out, HA2.out, HB5.out⟩
            case measure => simp [intOf]; omega
          · go_wp2
            go_ret
            exact ⟨rfl, hb⟩
      · have KN := Lib.hid (fun (W : World) (hb : Below w.heap.size w W) => cNew_bad ea a n cap l W ((HG.out.below hb).sub (by simp)) HN.out (HR.out.below hb) hm hp)
        have HP := Lib.hid hp
        clear hp
        go_enter Tryz.func3, Tryz.ntmps3
        go_wp2_with fail
        refine K0.out.mono ?_
        rintro e w1 ⟨rfl, hb1⟩
        go_wp2_with fail
        refine (KL.out w1 hb1).mono ?_
        rintro e w2 ⟨rfl, rfl⟩
        rw [HLG.out]
        have K1 := Lib.hid (KN.out w1 hb1)
        go_wp2_with fail
        refine K1.out.mono ?_
        rintro e w3 ⟨v, rfl, hE, hb3⟩
        obtain ⟨t, x, rfl⟩ := hE.held HP.out
        have hv3 := onto hb1 hb3
        clear hE
        go_wp2
        go_ret
        exact ⟨rfl, hv3⟩
end Go.Proofs.YtlicmaokclgodaaGreatDoor
