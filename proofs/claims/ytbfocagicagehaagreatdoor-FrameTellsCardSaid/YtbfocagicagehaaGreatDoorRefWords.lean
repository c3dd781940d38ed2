/- the reference's Signed and HistoryText. -/
import Derived.Test.YtbfocagicagehaaGreatDoorRefText
import Derived.Test.YtbfocagicagehaaGreatDoorFoldPlain
import Derived.Laws.IdiomStrings
namespace Go.Proofs.YtbfocagicagehaaGreatDoor
open Go.RowKit

theorem signed_any (n : Int) (w : World) (h0 : -9223372036854775807 ≤ n ∧ n ≤ 9223372036854775807) :
    Calls Tryz.prog 69 #[.int .i64 n] w fun e w' => e = .returned (.string ⟨(Lib.itoa n).toArray⟩) ∧ Below w.heap.size w w' := by
  by_cases hn : n < 0
  · obtain ⟨m, rfl⟩ : ∃ m : Nat, n = -(m : Int) := ⟨n.natAbs, by omega⟩
    have HD := Lib.hid (Lib.itoa_neg m (by omega))
    have HL := (digits_le m 19 (by omega)).2 (by rw [ten19]; omega)
    have K := Lib.hid (decimal_any (m : Int) w (by omega))
    rw [Lib.itoa_nonneg] at K
    generalize Lib.decDigits m = dm at *
    have c1 := ba_append [45] dm
    go_enter Tryz.func69, Tryz.ntmps69
    go_wp2_with fail
    refine K.out.mono ?_
    rintro e w1 ⟨rfl, hb1⟩
    go_wp2
    go_ret
    exact ⟨by rw [HD.out]; rfl, hb1⟩
  · have K := Lib.hid (decimal_any n w (by omega))
    generalize Lib.itoa n = tn at *
    clear h0
    go_enter Tryz.func69, Tryz.ntmps69
    go_wp2_with fail
    refine K.out.mono ?_
    rintro e w1 ⟨rfl, hb1⟩
    go_wp2
    go_ret
    exact ⟨rfl, hb1⟩

theorem run_adds (a b : List UInt8) (h : a.length + b.length ≤ 9223372036854775807) (W : World) : (Op.stringOp .add ⟨a.toArray⟩ ⟨b.toArray⟩).run Tryz.prog W = .ok (.string ⟨(a ++ b).toArray⟩) W := by
  rw [run_string_add_sum _ _ _ (by simp [ByteArray.size]; omega)]
  exact congrArg (fun z => Result.ok (Value.string z) W) (ba_append a b)

set_option maxRecDepth 100000 in
set_option maxHeartbeats 1600000 in
theorem historyText_any (a : Option Addr) (n cap : Nat) (es : List Ent) (w : World) (hn : es.length = n) (hr : RowAt w a (encEnts es)) (hm : n ≤ 4611686018427387904) (h : (chk es).1 = 0) :
    Calls Tryz.prog 16 #[.slice a n cap] w fun e w' => e = .returned (.string ⟨(histT es).toArray⟩) ∧ Below w.heap.size w w' := by
  by_cases h0 : n = 0
  · subst h0
    have : es = [] := List.eq_nil_of_length_eq_zero hn
    subst this
    have HT : Hid (histT [] = [45]) := rfl
    clear hr hn h
    go_enter Tryz.func16, Tryz.ntmps16
    go_wp2
    go_ret
    exact ⟨by rw [HT.out]; rfl, Below.refl _ _⟩
  · have hne : es ≠ [] := fun e => h0 (by rw [← hn, e]; rfl)
    have hnz : ((n : Int) == 0) = false := by simp; omega
    have HE := Lib.hid (fun k (hk : k < es.length) => chk_get h k hk)
    have HN := Lib.hid hn
    have HR := Lib.hid hr
    have HF : Hid (histP es n = histT es) := by unfold Hid; rw [← hn]; exact histP_all es hne
    have HL := Lib.hid (fun k => histP_len h k)
    have HS := Lib.hid (fun k hk h0 => histP_succ es k hk h0)
    have HO := Lib.hid (fun hk => histP_one es hk)
    clear hr hn h h0 hne
    go_enter Tryz.func16, Tryz.ntmps16
    go_wp2
    go_loopw [3, 4] (fun v i wr => ∃ k : Nat, k ≤ n ∧ i = .int .i64 k ∧ v = .string ⟨(histP es k).toArray⟩ ∧ Below w.heap.size w wr) (fun _ i _ => n - (intOf i).toNat)
    case atStart => exact ⟨0, Nat.zero_le _, rfl, rfl, Below.refl _ _⟩
    case round =>
      obtain ⟨k, hk, rfl, rfl, hb⟩ := hrel
      by_cases hlt : k < n
      · have hk1 : k < es.length := by have := HN.out; omega
        obtain ⟨b, off, rfl, hbl, c0, c1, c2, c3⟩ := (HR.out.below hb).ent k hk1
        obtain ⟨-, hnd, hvl, -⟩ := HE.out k hk1
        simp only [nodeB, numB, decide_eq_true_eq] at hnd hvl
        have hi0 : (0 : Int) ≤ (k : Int) := by omega
        have hi1 : (k : Int) < (n : Int) := by omega
        have hl1 := HL.out k
        have HX : Hid (histP es (k + 1) = histP es k ++ ((if k = 0 then [] else [44]) ++ entT es[k])) := by
          unfold Hid
          by_cases hk0 : k = 0
          · subst hk0; rw [if_pos rfl, HO.out hk1]; rfl
          · rw [if_neg hk0, HS.out k hk1 (by omega)]
        have hent : entT es[k] = if es[k].heard = true then Lib.itoa es[k].frm ++ ([58] ++ Lib.itoa es[k].value) else Lib.itoa es[k].frm ++ [33] := rfl
        generalize es[k] = e at *
        rw [hent] at HX
        have hil := Lib.itoa_length_le e.frm (by omega) (by omega)
        have hil2 := Lib.itoa_length_le e.value (by omega) (by omega)
        have K1 := Lib.hid (fun (W : World) => signed_any e.frm W (by omega))
        have K2 := Lib.hid (fun (W : World) => signed_any e.value W (by omega))
        generalize Lib.itoa e.frm = t1 at *
        generalize Lib.itoa e.value = t2 at *
        generalize histP es k = P at *
        have a1 := run_adds P [44] (by simp; omega)
        have a2 := run_adds (P ++ [44]) t1 (by simp; omega)
        have a3 := run_adds (P ++ [44] ++ t1) [33] (by simp; omega)
        have a4 := run_adds (P ++ [44] ++ t1) [58] (by simp; omega)
        have a5 := run_adds (P ++ [44] ++ t1 ++ [58]) t2 (by simp; omega)
        have b2 := run_adds P t1 (by omega)
        have b3 := run_adds (P ++ t1) [33] (by simp; omega)
        have b4 := run_adds (P ++ t1) [58] (by simp; omega)
        have b5 := run_adds (P ++ t1 ++ [58]) t2 (by simp; omega)
        by_cases hk0 : k = 0
        · rw [if_pos hk0] at HX
          have hd : decide ((0 : Int) < (k : Int)) = false := by simp; omega
          have hd' : decide (0 < k) = false := by simp; omega
          clear hk0
          cases hh : e.heard
          · rw [hh] at c2 HX
            go_wp2_with fail
            refine (K1.out _).mono ?_
            rintro e1 w1 ⟨rfl, hb1⟩
            have c2 := (hb1.cell (p := ⟨b, off + k * 4 + 2, none⟩) hbl).trans c2
            have c3 := (hb1.cell (p := ⟨b, off + k * 4 + 3, none⟩) hbl).trans c3
            go_wp2
            go_roundw
            case rel => exact ⟨k + 1, by omega, by go_num, by rw [HX.out]; first | (simp; done) | exact congrArg Value.string ((ba_append _ [33]).trans (by simp)), hb.trans (hb1.mono hb.size)⟩
            case measure => simp [intOf]; omega
          · rw [hh] at c2 HX
            go_wp2_with fail
            refine (K1.out _).mono ?_
            rintro e1 w1 ⟨rfl, hb1⟩
            have c2 := (hb1.cell (p := ⟨b, off + k * 4 + 2, none⟩) hbl).trans c2
            have c3 := (hb1.cell (p := ⟨b, off + k * 4 + 3, none⟩) hbl).trans c3
            have hv1 := hb.trans (hb1.mono hb.size)
            go_wp2_with fail
            refine (K2.out _).mono ?_
            rintro e2 w2 ⟨rfl, hb2⟩
            go_wp2
            go_roundw
            case rel => exact ⟨k + 1, by omega, by go_num, by rw [HX.out]; first | (simp; done) | exact congrArg Value.string ((ba_append _ t2).trans (by simp)) | exact congrArg Value.string (((congrArg (· ++ (⟨t2.toArray⟩ : ByteArray)) (ba_append _ [58])).trans (ba_append _ t2)).trans (by simp)), hv1.trans (hb2.mono hv1.size)⟩
            case measure => simp [intOf]; omega
        · rw [if_neg hk0] at HX
          have hd : (0 : Int) < (k : Int) := by omega
          have hd' : decide (0 < k) = true := by simp; omega
          cases hh : e.heard
          · rw [hh] at c2 HX
            go_wp2_with fail
            refine (K1.out _).mono ?_
            rintro e1 w1 ⟨rfl, hb1⟩
            have c2 := (hb1.cell (p := ⟨b, off + k * 4 + 2, none⟩) hbl).trans c2
            have c3 := (hb1.cell (p := ⟨b, off + k * 4 + 3, none⟩) hbl).trans c3
            go_wp2
            go_roundw
            case rel => exact ⟨k + 1, by omega, by go_num, by rw [HX.out]; first | (simp; done) | exact congrArg Value.string ((ba_append _ [33]).trans (by simp)), hb.trans (hb1.mono hb.size)⟩
            case measure => simp [intOf]; omega
          · rw [hh] at c2 HX
            go_wp2_with fail
            refine (K1.out _).mono ?_
            rintro e1 w1 ⟨rfl, hb1⟩
            have c2 := (hb1.cell (p := ⟨b, off + k * 4 + 2, none⟩) hbl).trans c2
            have c3 := (hb1.cell (p := ⟨b, off + k * 4 + 3, none⟩) hbl).trans c3
            have hv1 := hb.trans (hb1.mono hb.size)
            go_wp2_with fail
            refine (K2.out _).mono ?_
            rintro e2 w2 ⟨rfl, hb2⟩
            go_wp2
            go_roundw
            case rel => exact ⟨k + 1, by omega, by go_num, by rw [HX.out]; first | (simp; done) | exact congrArg Value.string ((ba_append _ t2).trans (by simp)) | exact congrArg Value.string (((congrArg (· ++ (⟨t2.toArray⟩ : ByteArray)) (ba_append _ [58])).trans (ba_append _ t2)).trans (by simp)), hv1.trans (hb2.mono hv1.size)⟩
            case measure => simp [intOf]; omega
      · obtain rfl : k = n := by omega
        go_wp2
        go_ret
        exact ⟨by rw [HF.out]; rfl, hb⟩
end Go.Proofs.YtbfocagicagehaaGreatDoor
