/- bus.Hear. -/
import Derived.Test.YtmikeblbfmfimaaDoorSent
import Derived.Test.YtmikeblbfmfimaaDoorGuard
namespace Go.Proofs.YtmikeblbfmfimaaDoor
open Go.RowKit

/-- A slot's length and a slot that bus.Hear takes. -/
def hearB (long slot : Int) : Prop := 1 ≤ long ∧ long ≤ 1000000 ∧ 0 ≤ slot ∧ slot * long ≤ 1000000
/-- Is what was sent heard in that slot? -/
def isHeard (l : List Int) (long slot : Int) (s : Snt) : Bool := decide (slotE long s.tick = 0 ∧ s.tick / long = slot ∧ (passF l long s.node s.tick).1 = 0)
def heardL (l : List Int) (long slot : Int) (ss : List Snt) : List ByteArray := (ss.filter (isHeard l long slot)).map Snt.text
/-- What each node hears. -/
def outAt (hs : List ByteArray) (lost : List Int) (i : Nat) : ByteArray := match hs with
  | [t] => if ((i : Int) + 1) ∈ lost then ByteArray.empty else t
  | _ => ByteArray.empty
def outL (hs : List ByteArray) (lost : List Int) : List ByteArray := (List.range 16).map (outAt hs lost)

theorem heardL_snoc (l : List Int) (long slot : Int) (ss : List Snt) (k : Nat) (hk : k < ss.length) :
    heardL l long slot (ss.take (k + 1)) = heardL l long slot (ss.take k) ++ (if isHeard l long slot ss[k] = true then [ss[k].text] else []) := by
  rw [List.take_succ_eq_append_getElem hk, heardL, List.filter_append, List.map_append, ← heardL]
  congr 1
  by_cases h : isHeard l long slot ss[k] = true
  · rw [if_pos h, List.filter_cons_of_pos h]; rfl
  · rw [if_neg h, List.filter_cons_of_neg h]; rfl
theorem heardL_le (l : List Int) (long slot : Int) (ss : List Snt) : (heardL l long slot ss).length ≤ ss.length := by
  rw [heardL, List.length_map]; exact List.length_filter_le _ _

/-- What is there behind k rounds. -/
def outP (hs : List ByteArray) (lost : List Int) (k : Nat) : List ByteArray := (outL hs lost).take k ++ List.replicate (16 - k) ByteArray.empty
def made16 : Array Value := Array.replicate 16 (.string ByteArray.empty)
theorem outP_zero (hs : List ByteArray) (lost : List Int) : encStrs (outP hs lost 0) = made16.toList := rfl
theorem outL_length (hs : List ByteArray) (lost : List Int) : (outL hs lost).length = 16 := by simp [outL]
theorem outP_end (hs : List ByteArray) (lost : List Int) : outP hs lost 16 = outL hs lost := by
  rw [outP, List.take_of_length_le (by rw [outL_length]; omega)]; simp
theorem outL_get (hs : List ByteArray) (lost : List Int) (k : Nat) (hk : k < (outL hs lost).length) : (outL hs lost)[k] = outAt hs lost k := by simp [outL]
theorem outP_set (hs : List ByteArray) (lost : List Int) (k : Nat) (hk : k < 16) : (outP hs lost k).set k (outAt hs lost k) = outP hs lost (k + 1) := by
  have hl := outL_length hs lost
  have ht : ((outL hs lost).take k).length = k := by rw [List.length_take, hl]; omega
  rw [outP, outP, List.take_succ_eq_append_getElem (by omega), outL_get, List.set_append_right _ _ (by omega), ht, Nat.sub_self, show 16 - k = (16 - (k + 1)) + 1 by omega, List.replicate_succ, List.set_cons_zero, List.append_assoc]
  rfl
theorem outP_keep (hs : List ByteArray) (lost : List Int) (k : Nat) (hk : k < 16) (h : outAt hs lost k = ByteArray.empty) : outP hs lost k = outP hs lost (k + 1) := by
  rw [← outP_set hs lost k hk, h]
  have hl := outL_length hs lost
  have ht : ((outL hs lost).take k).length = k := by rw [List.length_take, hl]; omega
  rw [outP, List.set_append_right _ _ (by omega), ht, Nat.sub_self, show 16 - k = (16 - (k + 1)) + 1 by omega, List.replicate_succ, List.set_cons_zero]
theorem encStrs_set (l : List ByteArray) (k : Nat) (s : ByteArray) : encStrs (l.set k s) = (encStrs l).set k (.string s) := by simp [encStrs, List.map_set]

theorem info_string : (Tryd.prog.info? 9).map (fun i => (i.zero, i.size, i.bytes)) = some (some (.string ByteArray.empty), 1, 16) := by kernel_rfl

set_option maxRecDepth 100000 in
set_option maxHeartbeats 1600000 in
theorem hear_ok (ea : Nat → Addr) (a a2 a3 : Option Addr) (n cap n2 cap2 n3 cap3 : Nat) (l : List Int) (ss : List Snt) (lost : List Int) (long slot : Int) (w : World) (hg : Glob w ea [5, 7, 4, 2, 9])
    (hn : l.length = n) (hr : RowAt w a (encInts l)) (hc : n ≤ 4611686018427387904) (hn2 : ss.length = n2) (hr2 : RowAt w a2 (encSents ss)) (hn3 : lost.length = n3) (hr3 : RowAt w a3 (encInts lost)) (hc3 : n3 ≤ 4611686018427387904)
    (hB : hearB long slot) (hp : (planF l).1 = 0) (hl : n2 ≤ 40) :
    Calls Tryd.prog 49 #[.slice a n cap, .int .i64 long, .int .i64 slot, .slice a2 n2 cap2, .slice a3 n3 cap3] w fun e w' => ∃ a' cap', e = .returned (.tuple #[.slice a' 16 cap', .nilIface]) ∧ RowAt w' a' (encStrs (outL (heardL l long slot ss) lost)) ∧ Below w.heap.size w w' := by
  obtain ⟨h1, h2, h3, h4⟩ := hB
  have hs6 : slot ≤ 1000000 := by
    have : slot * 1 ≤ slot * long := Int.mul_le_mul_of_nonneg_left h1 h3
    omega
  have hq : slot ≤ 1000000 / long := (Int.le_ediv_iff_mul_le (by omega)).2 h4
  have hm0 : 0 ≤ slot * long := Int.mul_nonneg h3 (by omega)
  have hE : slotE long (slot * long) = 0 := by rw [slotE, if_pos ⟨h1, h2, hm0, h4⟩]
  have C1 := Lib.hid (fun (W : World) => guardSlot_ok long (slot * long) W hE)
  have HN := Lib.hid hn
  have HN2 := Lib.hid hn2
  have HN3 := Lib.hid hn3
  have HP := Lib.hid hp
  have d1 : decide (1000000 / long < slot) = false := by simp; omega
  clear hE hn hn2 hn3 hp
  go_enter Tryd.func49, Tryd.ntmps49
  go_wp2_with fail
  refine (C1.out _).mono ?_
  rintro e w1 ⟨rfl, rfl⟩
  go_wp2_with fail
  refine (planCheck_any ea _ _ _ l _ (hg.sub (by simp)) HN.out hr hc).mono ?_
  rintro e w2 ⟨v, rfl, hE, hb2⟩
  rw [HP.out] at hE
  obtain rfl := hE.nil
  clear hE
  obtain ⟨i0, hi, hz0, hz1, hz2⟩ := info_parts info_string
  have hi' := Lib.hid hi
  have hz0' := Lib.hid hz0
  have hz1' := Lib.hid hz1
  have hz2' := Lib.hid hz2
  clear hi hz0 hz1 hz2
  go_wp2
  clear d1
  go_loopw [15, 62] (fun va i wr => ∃ k : Nat, k ≤ n2 ∧ i = .int .i64 k ∧ wr.ownsRow w.heap.size 9 1 va (heardL l long slot (ss.take k)).length (encStrs (heardL l long slot (ss.take k))) ∧ Below w.heap.size w wr) (fun _ i _ => n2 - (intOf i).toNat)
  case atStart => exact ⟨0, Nat.zero_le _, rfl, World.ownsRow_nil _ _ _ _, hb2⟩
  case round =>
    obtain ⟨k, hk, rfl, ho, hb⟩ := hrel
    by_cases hlt : k < n2
    · have hkt : k < ss.length := by have := HN2.out; omega
      obtain ⟨b, off, rfl, hbl, c0, c1, c2⟩ := hr2.snt k hkt
      have HS := Lib.hid (heardL_snoc l long slot ss k hkt)
      have hle : (heardL l long slot (ss.take k)).length ≤ k := Nat.le_trans (heardL_le _ _ _ _) (List.length_take_le _ _)
      generalize ss[k] = s at *
      generalize heardL l long slot (ss.take k) = hs at *
      have e0 := (hb.cell (p := ⟨b, off + k * 3, none⟩) hbl).trans c0
      have e1 := (hb.cell (p := ⟨b, off + k * 3 + 1, none⟩) hbl).trans c1
      have e2 := (hb.cell (p := ⟨b, off + k * 3 + 2, none⟩) hbl).trans c2
      have hsz := hb.size
      have hgw := hg.below hb
      have hbx : Below w.heap.size w (wr.alloc (.cells s.cells.toArray 122)) := hb.alloc hsz _
      clear hkt c0 c1 c2
      by_cases hE : slotE long s.tick = 0
      · have C2 := Lib.hid (fun (W : World) => guardSlot_ok long s.tick W hE)
        by_cases hat : s.tick / long = slot
        · have C3 := Lib.hid (fun (W : World) (hbW : Below w.heap.size w W) => pass_any ea a n cap l long s.node s.tick W (hg.below hbW) HN.out (hr.below hbW) hc)
          by_cases hpz : (passF l long s.node s.tick).1 = 0
          · have HH : Hid (heardL l long slot (ss.take (k + 1)) = hs ++ [s.text]) := by
              unfold Hid; rw [HS.out, if_pos (by simp [isHeard, hE, hat, hpz])]
            have HPZ := Lib.hid hpz
            have HAT := Lib.hid hat
            clear hE hpz hat
            have hlow : hs.length ≤ 40 := by omega
            go_wp2_with fail
            refine (C2.out _).mono ?_
            rintro e w3 ⟨rfl, rfl⟩
            rw [HAT.out]
            go_wp2_with fail
            refine (C3.out _ hbx).mono ?_
            rintro e w4 ⟨v, rfl, hE4, hb4⟩
            rw [HPZ.out] at hE4
            obtain rfl := hE4.nil
            clear hE4
            have f2 : w4.cell? ⟨wr.heap.size, 2, none⟩ = some (.string s.text) := (hb4.cell (p := ⟨wr.heap.size, 2, none⟩) (by simp)).trans (by simp [Snt.cells])
            have ho4 := ownsRow_below (ho.alloc _) hb4
            have hb5 := hbx.trans (hb4.mono (by simp; omega))
            have hs5 := hb5.size
            go_wp2_with (at_builtin; refine wpList_append2 _ rfl (.tmp 90) (.tmp 93) 81 rfl w.heap.size 9 i0 _ 1 16 Tryd.underlying81 hi'.out hz0'.out hz1'.out hz2'.out rfl (by decide) u15 hs.length (encStrs hs) rfl ?_ _ 1 1 [.string s.text] rfl rfl ?_ ?_ ?_ ?_ ?_ ?_; exact ho4.alloc _; exact RowAt.new_at _ [.string s.text] _ _ (by simp); (intro u hu; simp at hu; subst hu; rfl); unfold maxLen; omega; omega; (simp; omega); intro v1 w6 ho1 hg1 hq hm1; clear hq hm1; have hb7 := (hb5.alloc hs5 _).grown hg1 (by simp; omega) (fun j e => (ho4.lt j e).1))
            go_roundw
            case rel => exact ⟨k + 1, by omega, by go_num, by rw [HH.out, encStrs_snoc, List.length_append]; exact ho1, hb7⟩
            case measure => simp [intOf]; omega
          · have HH : Hid (heardL l long slot (ss.take (k + 1)) = hs) := by
              unfold Hid; rw [HS.out, if_neg (by simp [isHeard, hpz]), List.append_nil]
            have HPZ := Lib.hid hpz
            have HAT := Lib.hid hat
            clear hE hpz hat
            go_wp2_with fail
            refine (C2.out _).mono ?_
            rintro e w3 ⟨rfl, rfl⟩
            rw [HAT.out]
            go_wp2_with fail
            refine (C3.out _ hbx).mono ?_
            rintro e w4 ⟨v, rfl, hE4, hb4⟩
            obtain ⟨t, x, rfl⟩ := hE4.held HPZ.out
            go_wp2
            go_roundw
            case rel => exact ⟨k + 1, by omega, by go_num, by rw [HH.out]; exact ownsRow_below (ho.alloc _) hb4, hbx.trans (hb4.mono (by simp; omega))⟩
            case measure => simp [intOf]; omega
        · have HH : Hid (heardL l long slot (ss.take (k + 1)) = hs) := by
            unfold Hid; rw [HS.out, if_neg (by simp [isHeard, hat]), List.append_nil]
          have hx : (s.tick / long == slot) = false := by simpa using hat
          clear hE hat
          go_wp2_with fail
          refine (C2.out _).mono ?_
          rintro e w3 ⟨rfl, rfl⟩
          go_wp2
          go_roundw
          case rel => exact ⟨k + 1, by omega, by go_num, by rw [HH.out]; exact ho.alloc _, hbx⟩
          case measure => simp [intOf]; omega
      · have HH : Hid (heardL l long slot (ss.take (k + 1)) = hs) := by
          unfold Hid; rw [HS.out, if_neg (by simp [isHeard, hE]), List.append_nil]
        have H2 := Lib.hid (errV_pos ea (k := 2) (by decide))
        have C2 := Lib.hid (fun (W : World) (hW : Glob W ea [2]) => guardSlot_err ea long s.tick W hW hE)
        clear hE
        go_wp2_with fail
        refine (C2.out _ ((hg.below hbx).sub (by simp))).mono ?_
        rintro e w3 ⟨rfl, hb3⟩
        rw [H2.out]
        go_wp2
        go_roundw
        case rel => exact ⟨k + 1, by omega, by go_num, by rw [HH.out]; exact ownsRow_below (ho.alloc _) hb3, hbx.trans (hb3.mono (by simp; omega))⟩
        case measure => simp [intOf]; omega
    · obtain rfl : k = n2 := by omega
      have ht : ss.take k = ss := List.take_of_length_le (by have := HN2.out; omega)
      rw [ht] at ho
      clear ht
      have hle : (heardL l long slot ss).length ≤ 40 := Nat.le_trans (heardL_le _ _ _ _) (by have := HN2.out; omega)
      generalize hHS : heardL l long slot ss = hs at *
      have HHS := Lib.hid hHS
      clear hHS
      obtain ⟨aa, ca, rfl⟩ := owned_shape ho
      obtain ⟨ra, _, na, ma⟩ := RowAt.owned ho
      clear ho
      generalize hm : hs.length = m at *
      have HM := Lib.hid hm
      clear hm
      obtain ⟨wo, rfl⟩ : ∃ wo : World, wo = wr := ⟨_, rfl⟩
      have hmk : ∀ W : World, (Instr.makeSlice 81 (.int .i64 16) (.int .i64 16)).run Tryd.prog W = .ok (.slice (some ⟨W.heap.size, 0, none⟩) 16 16) (W.alloc (.cells made16 9)) := fun _ => by kernel_rfl
      have hsz := hb.size
      go_wp2
      have hb9 := hb.alloc hsz (.cells made16 9)
      have hbm : Below wo.heap.size wo (wo.alloc (.cells made16 9)) := (Below.refl _ _).alloc (Nat.le_refl _) _
      have how : (wo.alloc (.cells made16 9)).ownsRow wo.heap.size 9 1 (.slice (some ⟨wo.heap.size, 0, none⟩) 16 16) 16 (encStrs (outP hs lost 0)) := by
        rw [outP_zero]; exact World.ownsRow_lit wo made16 16 (Nat.le_refl _) (by simp [maxLen]) rfl
      go_loopw [99] (fun i wr => ∃ k : Nat, k ≤ 16 ∧ i = .int .i64 k ∧ wr.ownsRow wo.heap.size 9 1 (.slice (some ⟨wo.heap.size, 0, none⟩) 16 16) 16 (encStrs (outP hs lost k)) ∧ Below wo.heap.size wo wr) (fun i _ => 16 - (intOf i).toNat)
      case atStart => exact ⟨0, Nat.zero_le _, rfl, how, hbm⟩
      case round =>
        clear how hb9 hbm hmk
        obtain ⟨k, hk, rfl, how, hbw⟩ := hrel
        have hwz := hbw.size
        by_cases hlt : k < 16
        · have hi0 : (0 : Int) ≤ (k : Int) := by omega
          have hi1 : (k : Int) < 16 := by omega
          by_cases h1 : m = 1
          · subst h1
            obtain ⟨t, rfl⟩ : ∃ t, hs = [t] := List.length_eq_one_iff.1 HM.out
            obtain ⟨b, off, rfl, hbl, c0⟩ := ra.str 0 (by simp)
            have c1 : wr.cell? ⟨b, off, none⟩ = some (.string t) := (hbw.cell (p := ⟨b, off, none⟩) hbl).trans c0
            clear c0
            have hrl := (hr3.below hb).below hbw
            have HO : Hid (outAt [t] lost k = if ((k : Int) + 1) ∈ lost then ByteArray.empty else t) := by unfold Hid; rfl
            by_cases hin : ((k : Int) + 1) ∈ lost
            · have HI := Lib.hid hin
              have HK := Lib.hid (outP_keep [t] lost k hlt (by rw [HO.out, if_pos hin]))
              clear hin
              go_wp2_with (go_at_call 80; refine (contains_any _ _ _ _ lost _ HN3.out hrl hc3).mono ?_; rintro e w5 ⟨rfl, rfl⟩; rw [decide_eq_true HI.out])
              go_roundw
              case rel => exact ⟨k + 1, by omega, by go_num, by rw [← HK.out]; exact how, hbw⟩
              case measure => simp [intOf]; omega
            · have HI := Lib.hid hin
              have HK := Lib.hid (outP_set [t] lost k hlt)
              have HO2 : Hid (outAt [t] lost k = t) := by unfold Hid; rw [HO.out, if_neg hin]
              clear hin
              have hfr : wr.frozen? ⟨wo.heap.size, k, none⟩ = false := how.frozenAt k
              have hst := how.stored k (.string t)
              obtain ⟨v0, hold⟩ : ∃ v0, wr.cell? ⟨wo.heap.size, k, none⟩ = some v0 := by
                rw [how.cellAt k (by omega)]
                have hlen : k < (encStrs (outP [t] lost k)).length := by have h2 := how.1; omega
                exact ⟨_, List.getElem?_eq_getElem hlen⟩
              go_wp2_with (go_at_call 80; refine (contains_any _ _ _ _ lost _ HN3.out hrl hc3).mono ?_; rintro e w5 ⟨rfl, rfl⟩; rw [decide_eq_false HI.out])
              go_roundw
              case rel => exact ⟨k + 1, by omega, by go_num, by rw [← HK.out, HO2.out, encStrs_set]; exact hst.1, hbw.setCell (by simp) _⟩
              case measure => simp [intOf]; omega
          · have HO : outAt hs lost k = ByteArray.empty := by
              unfold outAt
              split
              · have h2 := HM.out; simp at h2; omega
              · rfl
            have HK := Lib.hid (outP_keep hs lost k hlt HO)
            have hx : ((m : Int) == 1) = false := by simp; omega
            clear HO h1
            go_wp2
            go_roundw
            case rel => exact ⟨k + 1, by omega, by go_num, by rw [← HK.out]; exact how, hbw⟩
            case measure => simp [intOf]; omega
        · obtain rfl : k = 16 := by omega
          rw [outP_end] at how
          obtain ⟨rw1, _, _, _⟩ := RowAt.owned how
          go_wp2
          go_ret2
          rw [HHS.out]
          exact ⟨_, ⟨_, rfl⟩, rw1, hb.trans (hbw.mono hsz)⟩
end Go.Proofs.YtmikeblbfmfimaaDoor
