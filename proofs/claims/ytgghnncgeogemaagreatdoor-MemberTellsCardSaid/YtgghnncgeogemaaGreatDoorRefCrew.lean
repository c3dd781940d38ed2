/- the reference's ListOf, CrewText, ReadCrew. -/
import Derived.Test.YtgghnncgeogemaaGreatDoorRefNum
import Derived.Test.YtgghnncgeogemaaGreatDoorRefHas
import Derived.Test.YtgghnncgeogemaaGreatDoorRefPlan
import Derived.Test.YtgghnncgeogemaaGreatDoorRefText
import Derived.Test.YtgghnncgeogemaaGreatDoorFoldPlain
import Derived.Test.YtgghnncgeogemaaGreatDoorLib
namespace Go.Proofs.YtgghnncgeogemaaGreatDoor
open Go.RowKit

set_option maxRecDepth 100000 in
set_option maxHeartbeats 800000 in
theorem listOf_any (c : Int) (w : World) :
    Calls Tryz.prog 7 #[.int .i64 c] w fun e w' => ∃ ao n co, e = .returned (.slice ao n co) ∧ RowAt w' ao (encInts (listTo c 16)) ∧ (listTo c 16).length = n ∧ n ≤ co ∧ Below w.heap.size w w' := by
  obtain ⟨i0, hi, hz0, hz1, hz2⟩ := info_parts info_int
  have hi' := Lib.hid hi
  have hz0' := Lib.hid hz0
  have hz1' := Lib.hid hz1
  have hz2' := Lib.hid hz2
  clear hi hz0 hz1 hz2
  have KH := Lib.hid (fun (k : Nat) (W : World) => refHas_any c ((k : Int) + 1) W)
  go_enter Tryz.func7, Tryz.ntmps7
  go_wp2
  go_loopw [3, 4] (fun v i wr => ∃ k : Nat, k ≤ 16 ∧ i = .int .i64 ((k : Int) + 1) ∧ wr.ownsRow w.heap.size 3 1 v (listTo c k).length (encInts (listTo c k)) ∧ Below w.heap.size w wr) (fun _ i _ => 18 - (intOf i).toNat)
  case atStart => exact ⟨0, Nat.zero_le _, rfl, World.ownsRow_nil _ _ _ _, Below.refl _ _⟩
  case round =>
    obtain ⟨k, hk, rfl, hown, hb⟩ := hrel
    by_cases hlt : k < 16
    · have K := Lib.hid (fun (W : World) => KH.out k W)
      have hll := listTo_length c k
      cases hh : hasB c ((k : Int) + 1)
      · have HS := Lib.hid (listTo_no hh)
        rw [hh] at K
        clear hh
        go_wp2_with fail
        refine (K.out _).mono ?_
        rintro e w1 ⟨rfl, rfl⟩
        go_wp2
        go_roundw
        case rel => exact ⟨k + 1, by omega, by go_num, by rw [HS.out]; exact hown, hb⟩
        case measure => simp [intOf]; omega
      · have HS := Lib.hid (listTo_yes hh)
        rw [hh] at K
        clear hh
        have HO := Lib.hid (hown.alloc (.cells #[.int .i64 ((k : Int) + 1)] 3))
        have HW := Lib.hid (RowAt.new_at wr [.int .i64 ((k : Int) + 1)] 3 _ rfl)
        have HV := Lib.hid (hb.alloc hb.size (.cells #[.int .i64 ((k : Int) + 1)] 3))
        generalize hL : listTo c k = L at *
        clear hown hL
        go_wp2_with fail
        refine (K.out _).mono ?_
        rintro e w1 ⟨rfl, rfl⟩
        go_wp2_with (at_builtin; refine wpList_append2 _ rfl (.tmp 14) (.tmp 16) 22 rfl w.heap.size 3 i0 _ 1 8 Tryz.underlying22 hi'.out hz0'.out hz1'.out hz2'.out rfl (by decide) _ L.length (encInts L) rfl HO.out (some ⟨wr.heap.size, 0, none⟩) 1 1 [.int .i64 ((k : Int) + 1)] rfl rfl HW.out ?_ ?_ ?_ ?_ ?_; (simp [Value.oneCell']); (unfold maxLen; omega); (omega); (exact HV.out.size); intro v1 w5 ho1 hg1 hq hm1; clear hq hm1)
        go_roundw
        case rel => exact ⟨k + 1, by omega, by go_num, by rw [HS.out, List.length_append]; simpa [encInts] using ho1, HV.out.grown hg1 HV.out.size (fun j e => (HO.out.lt j e).1)⟩
        case measure => simp [intOf]; omega
    · obtain rfl : k = 16 := by omega
      obtain ⟨ao, co, rfl⟩ := owned_shape hown
      obtain ⟨ra, _, na, _⟩ := RowAt.owned hown
      go_wp2
      go_ret
      exact ⟨ao, _, co, rfl, ra, rfl, na, hb⟩

/-- What is written of the first k nodes. -/
def nodP (l : List Int) (k : Nat) : List UInt8 := joinL 44 ((l.take k).map Lib.itoa)
theorem nodP_one (l : List Int) (h : 0 < l.length) : nodP l 1 = Lib.itoa l[0] := by rw [nodP, List.take_succ_eq_append_getElem h]; rfl
theorem nodP_succ (l : List Int) (k : Nat) (hk : k < l.length) (h0 : 0 < k) : nodP l (k + 1) = nodP l k ++ ([44] ++ Lib.itoa l[k]) := by
  rw [nodP, List.take_succ_eq_append_getElem hk, List.map_append, List.map_cons, List.map_nil, joinL_snoc]
  · rfl
  · intro e
    have := congrArg List.length e
    simp only [List.length_map, List.length_take, List.length_nil] at this; omega
theorem nodP_len (l : List Int) (hl : ∀ x ∈ l, 1 ≤ x ∧ x ≤ 16) (h16 : l.length ≤ 16) (k : Nat) : (nodP l k).length ≤ 400 := by
  rw [nodP, ← join_joinL]
  refine Nat.le_trans (join_short _ (fun x hx => ?_)) (by rw [List.length_map, List.length_take]; omega)
  obtain ⟨e, he, rfl⟩ := List.mem_map.1 hx
  have := hl e (List.mem_of_mem_take he)
  have := Lib.itoa_length_le e (by omega) (by omega)
  omega
theorem textF_not {c : Int} (h : crewB c = false) : textF c = [] := by rw [textF, if_neg (by simp [h])]
theorem textF_zero : textF 0 = [45] := by decide
theorem textF_nodP {c : Int} (h : crewB c = true) (h0 : c ≠ 0) : textF c = nodP (listTo c 16) (listTo c 16).length := by
  rw [textF, if_pos h, if_neg h0, nodP, List.take_length, join_joinL]

theorem run_adds' (a b : List UInt8) (h : a.length + b.length ≤ 9223372036854775807) (W : World) : (Op.stringOp .add ⟨a.toArray⟩ ⟨b.toArray⟩).run Tryz.prog W = .ok (.string ⟨(a ++ b).toArray⟩) W := by
  rw [run_string_add_sum _ _ _ (by simp [ByteArray.size]; omega)]
  exact congrArg (fun z => Result.ok (Value.string z) W) (ba_append a b)

set_option maxRecDepth 100000 in
set_option maxHeartbeats 1600000 in
theorem crewText_any (c : Int) (w : World) :
    Calls Tryz.prog 16 #[.int .i64 c] w fun e w' => e = .returned (.string ⟨(textF c).toArray⟩) ∧ Below w.heap.size w w' := by
  have KC := Lib.hid (fun (W : World) => isCrew_any c W)
  cases hc : crewB c
  · have HF := Lib.hid (textF_not hc)
    rw [hc] at KC
    clear hc
    go_enter Tryz.func16, Tryz.ntmps16
    go_wp2_with fail
    refine (KC.out _).mono ?_
    rintro e w1 ⟨rfl, rfl⟩
    go_wp2
    go_ret
    exact ⟨by rw [HF.out]; rfl, Below.refl _ _⟩
  · by_cases h0 : c = 0
    · subst h0
      have HF := Lib.hid textF_zero
      rw [hc] at KC
      clear hc
      go_enter Tryz.func16, Tryz.ntmps16
      go_wp2_with fail
      refine (KC.out _).mono ?_
      rintro e w1 ⟨rfl, rfl⟩
      go_wp2
      go_ret
      exact ⟨by rw [HF.out]; rfl, Below.refl _ _⟩
    · have HF := Lib.hid (textF_nodP hc h0)
      have hz : (c == 0) = false := by simpa using h0
      have KL := Lib.hid (fun (W : World) => listOf_any c W)
      have hmem := listTo_mem c 16 (Nat.le_refl _)
      have hll := listTo_length c 16
      rw [hc] at KC
      generalize listTo c 16 = L at *
      have HLen := Lib.hid (fun k => nodP_len L (fun x hx => by have := hmem x hx; omega) hll k)
      have HMem := Lib.hid hmem
      have HS := Lib.hid (fun k hk h0 => nodP_succ L k hk h0)
      have HO := Lib.hid (fun hk => nodP_one L hk)
      clear hc h0 hmem
      go_enter Tryz.func16, Tryz.ntmps16
      go_wp2_with fail
      refine (KC.out _).mono ?_
      rintro e w1 ⟨rfl, rfl⟩
      go_wp2_with fail
      refine (KL.out _).mono ?_
      rintro e w2 ⟨ao, n, co, rfl, hr, hn, hco, hb2⟩
      have HN := Lib.hid hn
      clear hn
      go_wp2
      go_loopw [4, 6] (fun v i wr => ∃ k : Nat, k ≤ n ∧ i = .int .i64 k ∧ v = .string ⟨(nodP L k).toArray⟩ ∧ Below w2.heap.size w2 wr) (fun _ i _ => n - (intOf i).toNat)
      case atStart => exact ⟨0, Nat.zero_le _, rfl, rfl, Below.refl _ _⟩
      case round =>
        obtain ⟨k, hk, rfl, rfl, hb⟩ := hrel
        by_cases hlt : k < n
        · have hk1 : k < L.length := by have := HN.out; omega
          obtain ⟨b, off, rfl, hbl, c0⟩ := (hr.below hb).int k hk1
          have hmk := HMem.out L[k] (List.getElem_mem hk1)
          have hi0 : (0 : Int) ≤ (k : Int) := by omega
          have hi1 : (k : Int) < (n : Int) := by omega
          have hl1 := HLen.out k
          have HX : Hid (nodP L (k + 1) = nodP L k ++ ((if k = 0 then [] else [44]) ++ Lib.itoa L[k])) := by
            unfold Hid
            by_cases hk0 : k = 0
            · subst hk0; rw [if_pos rfl, HO.out hk1]; rfl
            · rw [if_neg hk0, HS.out k hk1 (by omega)]
          generalize L[k] = x at *
          have hil := Lib.itoa_length_le x (by omega) (by omega)
          have K1 := Lib.hid (fun (W : World) => decimal_any x W (by omega))
          generalize Lib.itoa x = t1 at *
          generalize nodP L k = P at *
          have a1 := run_adds' P [44] (by simp; omega)
          by_cases hk0 : k = 0
          · rw [if_pos hk0] at HX
            have hd : decide ((0 : Int) < (k : Int)) = false := by simp; omega
            have hd' : decide (0 < k) = false := by simp; omega
            clear hk0
            go_wp2_with fail
            refine (K1.out _).mono ?_
            rintro e1 w3 ⟨rfl, hb3⟩
            go_wp2
            go_roundw
            case rel => exact ⟨k + 1, by omega, by go_num, by rw [HX.out]; first | (simp; done) | exact congrArg Value.string ((ba_append _ t1).trans (by simp)), hb.trans (hb3.mono hb.size)⟩
            case measure => simp [intOf]; omega
          · rw [if_neg hk0] at HX
            have hd : (0 : Int) < (k : Int) := by omega
            have hd' : decide (0 < k) = true := by simp; omega
            clear hk0
            go_wp2_with fail
            refine (K1.out _).mono ?_
            rintro e1 w3 ⟨rfl, hb3⟩
            go_wp2
            go_roundw
            case rel => exact ⟨k + 1, by omega, by go_num, by rw [HX.out]; first | (simp; done) | exact congrArg Value.string ((ba_append _ t1).trans (by simp)), hb.trans (hb3.mono hb.size)⟩
            case measure => simp [intOf]; omega
        · obtain rfl : k = n := by omega
          go_wp2
          go_ret
          exact ⟨by rw [HF.out, HN.out]; rfl, hb2.trans (hb.mono hb2.size)⟩
end Go.Proofs.YtgghnncgeogemaaGreatDoor
