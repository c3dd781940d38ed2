/- scripts: Run. · scripts: the closed fact; lines too long; Run of too many. -/
import Derived.Test.YtoekajpjfoolpaaGreatDoorScriptPlay
import Derived.Handy
namespace Go.Proofs.YtoekajpjfoolpaaGreatDoor
open Go.RowKit Go.Maps

/-! ### errors' numbers -/
theorem change_le (c : CP) (w : List (List UInt8)) : (c.change w).2.2 ≤ 11 := by
  unfold CP.change
  split
  · dsimp only
    unfold CP.planW
    split
    · exact Nat.le_of_ble_eq_true rfl
    · exact planF_le11 _
  · split
    · unfold CP.slotW CP.slotF
      split
      · exact Nat.le_of_ble_eq_true rfl
      · dsimp only; split <;> exact Nat.le_of_ble_eq_true rfl
    · split
      · dsimp only
        unfold CP.setW
        split
        · unfold CP.set
          split
          · exact Nat.le_of_ble_eq_true rfl
          · split <;> exact Nat.le_of_ble_eq_true rfl
        · exact Nat.le_of_ble_eq_true rfl
      · dsimp only
        unfold CP.oneW CP.turn CP.ask
        repeat (first | exact Nat.le_of_ble_eq_true rfl | split)
theorem tell_le (c : CP) (w : List (List UInt8)) : (c.tell w).2 ≤ 11 := by
  unfold CP.tell
  split
  · exact Nat.le_of_ble_eq_true rfl
  · split
    · exact Nat.le_of_ble_eq_true rfl
    · split
      · split
        · exact Nat.le_of_ble_eq_true rfl
        · rename_i n _
          have := on_le c n
          unfold CP.tellN
          split
          · dsimp only; omega
          · split
            · dsimp only; omega
            · split
              · dsimp only; omega
              · exact Nat.le_of_ble_eq_true rfl
      · exact Nat.le_of_ble_eq_true rfl
theorem apF_le (s : Dk) (t : List UInt8) : (apF s t).2 ≤ 11 := by
  unfold apF wrF
  repeat (first | exact Nat.le_of_ble_eq_true rfl | split)
theorem doF_le (y : YP) (t : List UInt8) : (y.doF t).2.2 ≤ 11 := by
  unfold YP.doF
  split
  · exact tell_le _ _
  · split
    · exact change_le _ _
    · split
      · exact apF_le _ _
      · exact Nat.le_of_ble_eq_true rfl
theorem play_le (y : YP) (t : List UInt8) : (y.play t).2.2 ≤ 11 := by
  unfold YP.play
  split
  · unfold YP.cutP
    split
    · unfold cutF
      repeat (first | exact Nat.le_of_ble_eq_true rfl | split)
    · exact Nat.le_of_ble_eq_true rfl
  split
  · unfold YP.againP
    split <;> exact Nat.le_of_ble_eq_true rfl
  split
  · unfold YP.midP
    split
    · exact midF_le _ _
    · exact Nat.le_of_ble_eq_true rfl
  split
  · unfold YP.nextP
    split
    · exact nextF_le _ _ _
    · exact Nat.le_of_ble_eq_true rfl
  split
  · unfold YP.textP
    split <;> exact Nat.le_of_ble_eq_true rfl
  exact doF_le y t

/-- The errors' texts. -/
def ErrTxt (txt : Nat → List UInt8) (ea : Nat → Addr) (w : World) : Prop := ∀ k, 1 ≤ k → k ≤ 11 → (ea k).block < w.heap.size ∧ w.cell? (ea k) = some (.string ⟨(txt k).toArray⟩)
theorem ErrTxt.below {txt : Nat → List UInt8} {ea : Nat → Addr} {w w' : World} (h : ErrTxt txt ea w) (hb : Below w.heap.size w w') : ErrTxt txt ea w' :=
  fun k h1 h2 => ⟨Nat.lt_of_lt_of_le (h k h1 h2).1 hb.size, (hb.cell (h k h1 h2).1).trans (h k h1 h2).2⟩
/-- A player abides an append to a row of texts. -/
theorem PlayAt.grown {w w' : World} {base base' pb size n : Nat} {Y : YL} {y : YP} {v : Value} {xs : List Value} (h : PlayAt w base pb Y y) (hv : w.ownsRow base' 9 size v n xs) (hg : w.grownBy w' v.ownBlock) : PlayAt w' base pb Y y := by
  have hst : ∀ k, v.ownBlock = some k → ∃ cur fz, w.heap[k]? = some (.cells cur 9 fz) := fun k e => by
    rcases hv.2 with ⟨rfl, _⟩ | ⟨g, cap, cur, rfl, h2, h3, h4⟩
    · simp [Value.ownBlock] at e
    · simp [Value.ownBlock] at e
      subst e
      exact ⟨cur, (0, 0), h3⟩
  refine h.kept (S := fun k => v.ownBlock = some k) (Fr.grown hg (fun k e => e)) (fun k hk e => ?_) (fun k _ e => ?_)
  · obtain ⟨cur, fz, h1⟩ := hst k e
    obtain ⟨_, _, cur', fz', t, h3, h4⟩ := h.owns hk
    rw [h1] at h3
    injection h3 with h3
    injection h3 with _ e2
    subst e2
    rcases h4 with h4 | h4 | h4 | h4 <;> revert h4 <;> decide
  · obtain ⟨cur, fz, h1⟩ := hst k e
    exact ⟨cur, fz, _, h1, Or.inr (Or.inr (Or.inr (Or.inr rfl)))⟩
/-- .. and a row of texts a player's step. -/
theorem row_played {w w' : World} {base base' pb size n : Nat} {Y : YL} {y : YP} {v : Value} {xs : List Value} (hv : w.ownsRow base' 9 size v n xs) (h : PlayAt w base pb Y y) (hf : Fr (POwn w pb Y) w w') : w'.ownsRow base' 9 size v n xs :=
  ownsRow_fr hv hf (fun k cur hk hS => by
    obtain ⟨_, _, cur', fz', t, h3, h4⟩ := h.owns hS
    rw [hk] at h3
    injection h3 with h3
    injection h3 with _ e2
    subst e2
    rcases h4 with h4 | h4 | h4 | h4 <;> revert h4 <;> decide)

theorem eError_any (p : Addr) (t : List UInt8) (w : World) (h : w.cell? p = some (.string ⟨t.toArray⟩)) :
    Calls Tryz.prog 335 #[.pointer (some p)] w fun e w' => e = .returned (.string ⟨t.toArray⟩) ∧ w = w' := by
  go_enter Tryz.func335, Tryz.ntmps335
  go_wp2
  go_ret
  exact ⟨rfl, rfl⟩
set_option maxRecDepth 200000 in
set_option maxHeartbeats 3200000 in
theorem sRun_any (txt : Nat → List UInt8) (ea : Nat → Addr) (a : Option Addr) (n cap : Nat) (l : List (List UInt8)) (w : World) (hG : GlobC w ea) (hT : TxtEnv w) (hX : ErrTxt txt ea w)
    (hn : l.length = n) (hr : RowAt w a (encTexts l)) (h80 : n ≤ 80) (h150 : ∀ s ∈ l, s.length ≤ 150) :
    Calls Tryz.prog 35 #[.slice a n cap] w fun e w' => ∃ v, e = .returned (.tuple #[v, .nilIface]) ∧ w'.ownsRow w.heap.size 9 1 v n (encTexts (YP.new.plays txt l)) ∧ Below w.heap.size w w' := by
  obtain ⟨i0, hi, hz0, hz1, hz2⟩ := info_parts ct_info_string
  have hi' := Lib.hid hi
  have hz0' := Lib.hid hz0
  have hz1' := Lib.hid hz1
  have hz2' := Lib.hid hz2
  clear hi hz0 hz1 hz2
  have KN := Lib.hid (yNew_any ea w (hG.glob.sub (by simp)))
  have HE := Lib.hid (fun (W : World) (hb : Below w.heap.size w W) => EnvY.of hG hT hb (Nat.le_refl _))
  have KP := Lib.hid (fun (W : World) (pb : Nat) (Y : YL) (y : YP) (t : List UInt8) (k : Nat) (dn : List (List UInt8)) (hb : Below w.heap.size w W) (h : PlayAt W w.heap.size pb Y y) (hI : InvY k y dn) (hk : k ≤ 200) (ht : t.length ≤ 150) => sPlay_any ea w.heap.size pb Y y t k dn W (HE.out W hb) h hI hk ht)
  have KB := Lib.hid (fun (W : World) (v : Value) (c : Nat) (pl : Int) (hb : Below w.heap.size w W) (hv : ErrIs ea W v c pl) (h0 : c ≠ 0) => sBare_any ea v c pl W (hG.below hb).typ hv h0)
  have HX := Lib.hid (fun (W : World) (hb : Below w.heap.size w W) => hX.below hb)
  have HR := Lib.hid hr
  have HN := Lib.hid hn
  have H150 := Lib.hid h150
  have HEP := Lib.hid (fun (k : Nat) (hk : k ≠ 0) => errV_pos ea hk)
  have d1 : decide ((80 : Int) < (n : Int)) = false := decide_eq_false (by omega)
  clear hG hT hX hr hn h150
  go_enter Tryz.func35, Tryz.ntmps35
  go_wp2_with fail
  refine KN.out.mono ?_
  rintro e w1 ⟨Y, rfl, hY, hb1⟩
  have hal : Below w1.heap.size w1 (w1.alloc (.cells #[.pointer (some ⟨Y.yb, 0, none⟩)] 159)) := (Below.refl _ _).alloc (Nat.le_refl _) _
  have HP1 : Hid (PlayAt (w1.alloc (.cells #[.pointer (some ⟨Y.yb, 0, none⟩)] 159)) w.heap.size w1.heap.size Y YP.new) := ⟨Blok.new w1 _ _, hb1.size, hY.below hal⟩
  have HV1 := Lib.hid (onto hb1 hal)
  clear hY hal
  go_wp2
  have HV1 : Hid (Below w.heap.size w (w1.alloc (.cells #[.pointer (some ⟨Y.yb, 0, none⟩)] 159))) := HV1
  obtain ⟨W0, hW0⟩ : ∃ W, W = w1.alloc (.cells #[.pointer (some ⟨Y.yb, 0, none⟩)] 159) := ⟨_, rfl⟩
  rw [← hW0] at HP1 HV1 ⊢
  generalize w1.heap.size = pb at *
  clear hW0
  go_loopw [5, 19] (fun v i wr => ∃ (k : Nat) (Y : YL) (dn : List (List UInt8)), k ≤ n ∧ i = .int .i64 k ∧ Hid (InvY k (YP.new.after (l.take k)) dn) ∧ Hid (PlayAt wr w.heap.size pb Y (YP.new.after (l.take k))) ∧ Hid (wr.ownsRow w.heap.size 9 1 v k (encTexts (YP.new.plays txt (l.take k)))) ∧ Hid (Below w.heap.size w wr)) (fun _ i _ => n - (intOf i).toNat)
  case atStart => exact ⟨0, Y, [], Nat.zero_le _, rfl, inv_new, HP1, World.ownsRow_nil _ _ _ _, HV1⟩
  case round =>
    clear HP1 HV1
    obtain ⟨k, Y, dn, hk, rfl, inv, hP, hown, hb⟩ := hrel
    by_cases hlt : k < n
    · have hkt : k < l.length := by have := HN.out; omega
      obtain ⟨b, off, rfl, hbl, cw⟩ := text_at HR.out k hkt
      have hs150 := H150.out _ (List.getElem_mem hkt)
      have c0 := (hb.out.cell (p := ⟨b, off + k, none⟩) hbl).trans cw
      have hi0 : (0 : Int) ≤ (k : Int) := by omega
      have hi1 : (k : Int) < (n : Int) := by omega
      have HTK : Hid (l.take (k + 1) = l.take k ++ [l[k]]) := List.take_succ_eq_append_getElem hkt
      generalize l[k] = s at *
      obtain ⟨dn2, hinv2⟩ := inv.out.play (by omega) hs150
      have HAF : Hid (YP.new.after (l.take (k + 1)) = ((YP.new.after (l.take k)).play s).1) := by unfold Hid; rw [HTK.out, after_snoc]
      have HPL : Hid (YP.new.plays txt (l.take (k + 1)) = YP.new.plays txt (l.take k) ++ [saidF txt ((YP.new.after (l.take k)).play s)]) := by unfold Hid; rw [HTK.out, plays_snoc]
      have INV2 : Hid (InvY (k + 1) (YP.new.after (l.take (k + 1))) dn2) := by unfold Hid; rw [HAF.out]; exact hinv2
      have K1 := Lib.hid (KP.out wr pb Y _ s k dn hb.out hP.out inv.out (by omega) hs150)
      have hle := play_le (YP.new.after (l.take k)) s
      obtain ⟨av, cv, rfl⟩ := owned_shape hown.out
      clear inv hinv2 HTK
      generalize YP.new.after (l.take k) = y at *
      generalize YP.new.plays txt (l.take k) = outs at *
      generalize hpl : y.play s = r at *
      obtain ⟨y2, ans, er⟩ := r
      dsimp only at HAF hle
      clear hpl
      go_wp2_with fail
      refine K1.out.mono ?_
      rintro e w5 ⟨Y', t, v, pl, rfl, hE5, ht, hP5, hF5⟩
      dsimp only at hE5 ht hP5
      have hv5 : Below w.heap.size w w5 := hb.out.trans (hF5.below hb.out.size (fun j hj => (hP.out.owns hj).1))
      have HO5 := Lib.hid (row_played hown.out hP.out hF5)
      have HP5 := Lib.hid hP5
      clear K1 hown hP hb hF5 hP5 c0
      by_cases hz : er = 0
      · subst hz
        obtain rfl := hE5.nil
        obtain rfl := ht rfl
        have HPL2 : Hid (YP.new.plays txt (l.take (k + 1)) = outs ++ [t]) := by unfold Hid; rw [HPL.out]; rfl
        have HO2 := Lib.hid (HO5.out.alloc (.cells #[.string ⟨t.toArray⟩] 9))
        have HW := Lib.hid (RowAt.new_at w5 [.string ⟨t.toArray⟩] 9 _ rfl)
        have hal : Below w5.heap.size w5 (w5.alloc (.cells #[.string ⟨t.toArray⟩] 9)) := (Below.refl _ _).alloc (Nat.le_refl _) _
        have HV := Lib.hid (onto hv5 hal)
        have HP6 := Lib.hid (HP5.out.below hal)
        clear hE5 ht HP5 HO5 hv5 hal HPL
        go_wp2_with (at_builtin; refine wpList_append2 _ rfl (.tmp 34) (.tmp 36) 43 rfl w.heap.size 9 i0 _ 1 16 Tryz.underlying43 hi'.out hz0'.out hz1'.out hz2'.out rfl (by decide) _ k (encTexts outs) rfl HO2.out (some ⟨w5.heap.size, 0, none⟩) 1 1 [.string ⟨t.toArray⟩] rfl rfl HW.out ?_ ?_ ?_ ?_ ?_; (simp [Value.oneCell']); (unfold maxLen; omega); (omega); (exact HV.out.size); intro v1 w6 ho1 hg1 hq hm1; clear hq hm1)
        have hv6 := HV.out.grown hg1 HV.out.size (fun j e => (HO2.out.lt j e).1)
        go_roundw
        case rel => exact ⟨k + 1, Y', dn2, by omega, by go_num, INV2, by rw [HAF.out]; exact HP6.out.grown HO2.out hg1, by rw [HPL2.out, encT_snoc]; exact ho1, hv6⟩
        case measure => simp [intOf]; omega
      · have HZ := Lib.hid hz
        have K2 := Lib.hid (KB.out w5 v er pl hv5 hE5 hz)
        rw [HEP.out er hz] at K2
        obtain ⟨et, ex, rfl⟩ := hE5.held hz
        have hx1 : 1 ≤ er := by omega
        have HXX := Lib.hid (fun (W : World) (hb : Below w.heap.size w W) => (HX.out W hb er hx1 hle).2)
        have HPL2 : Hid (YP.new.plays txt (l.take (k + 1)) = outs ++ [txt er]) := by unfold Hid; rw [HPL.out]; unfold saidF; rw [if_neg hz]
        clear hE5 ht HPL hz
        go_wp2_with fail
        refine K2.out.mono ?_
        rintro e w6 ⟨rfl, hb6⟩
        have hv6 := onto hv5 hb6
        have x0 := HXX.out w6 hv6
        have HO6 := Lib.hid (ownsRow_below HO5.out hb6)
        have HP6 := Lib.hid (HP5.out.below hb6)
        have HO2 := Lib.hid (HO6.out.alloc (.cells #[.string ⟨(txt er).toArray⟩] 9))
        have HW := Lib.hid (RowAt.new_at w6 [.string ⟨(txt er).toArray⟩] 9 _ rfl)
        have hal : Below w6.heap.size w6 (w6.alloc (.cells #[.string ⟨(txt er).toArray⟩] 9)) := (Below.refl _ _).alloc (Nat.le_refl _) _
        have HV := Lib.hid (onto hv6 hal)
        have HP7 := Lib.hid (HP6.out.below hal)
        clear K2 HXX hv5 hv6 hal HP5 HO5 HO6 HP6 hb6
        generalize txt er = tx at *
        go_wp2_with fail
        refine (eError_any (ea er) tx w6 x0).mono ?_
        rintro e wx ⟨rfl, rfl⟩
        go_wp2_with (at_builtin; refine wpList_append2 _ rfl (.tmp 34) (.tmp 36) 43 rfl w.heap.size 9 i0 _ 1 16 Tryz.underlying43 hi'.out hz0'.out hz1'.out hz2'.out rfl (by decide) _ k (encTexts outs) rfl HO2.out (some ⟨w6.heap.size, 0, none⟩) 1 1 [.string ⟨tx.toArray⟩] rfl rfl HW.out ?_ ?_ ?_ ?_ ?_; (simp [Value.oneCell']); (unfold maxLen; omega); (omega); (exact HV.out.size); intro v1 w7 ho1 hg1 hq hm1; clear hq hm1)
        have hv7 := HV.out.grown hg1 HV.out.size (fun j e => (HO2.out.lt j e).1)
        go_roundw
        case rel => exact ⟨k + 1, Y', dn2, by omega, by go_num, INV2, by rw [HAF.out]; exact HP7.out.grown HO2.out hg1, by rw [HPL2.out, encT_snoc]; exact ho1, hv7⟩
        case measure => simp [intOf]; omega
    · obtain rfl : k = n := by omega
      obtain ⟨av, cv, rfl⟩ := owned_shape hown.out
      have HL : Hid (l.take k = l) := by unfold Hid; rw [← HN.out, List.take_length]
      rw [HL.out] at hown
      clear inv hP
      go_wp2
      go_ret2
      exact ⟨_, rfl, hown.out, hb.out⟩
end Go.Proofs.YtoekajpjfoolpaaGreatDoor
namespace Go.Proofs.YtoekajpjfoolpaaGreatDoor
open Go.RowKit Go.Maps

set_option maxRecDepth 100000 in
set_option maxHeartbeats 1600000 in
theorem hello_any (txt : Nat → List UInt8) (ea : Nat → Addr) (w : World) (hG : GlobC w ea) (hT : TxtEnv w) (hX : ErrTxt txt ea w) :
    Calls Tryz.prog 32 #[] w fun e w' => e = .returned (.bool true) ∧ Below w.heap.size w w' := by
  have hb0 : Below w.heap.size w (w.alloc (.cells #[.string ⟨#[112, 108, 97, 110, 32, 50, 44, 49]⟩, .string ⟨#[115, 101, 116, 32, 49, 32, 53]⟩, .string ⟨#[115, 108, 111, 116, 32, 45]⟩, .string ⟨#[115, 108, 111, 116, 32, 45]⟩, .string ⟨#[104, 105, 115, 116, 111, 114, 121, 32, 50]⟩, .string ⟨#[116, 111, 116, 97, 108, 32, 49]⟩, .string ⟨#[118, 105, 101, 119, 32, 49]⟩, .string ⟨#[109, 105, 100, 32, 49, 32, 51, 32, 57, 32, 52]⟩] 9)) := (Below.refl _ _).alloc (Nat.le_refl _) _
  have hr0 : RowAt (w.alloc (.cells #[.string ⟨#[112, 108, 97, 110, 32, 50, 44, 49]⟩, .string ⟨#[115, 101, 116, 32, 49, 32, 53]⟩, .string ⟨#[115, 108, 111, 116, 32, 45]⟩, .string ⟨#[115, 108, 111, 116, 32, 45]⟩, .string ⟨#[104, 105, 115, 116, 111, 114, 121, 32, 50]⟩, .string ⟨#[116, 111, 116, 97, 108, 32, 49]⟩, .string ⟨#[118, 105, 101, 119, 32, 49]⟩, .string ⟨#[109, 105, 100, 32, 49, 32, 51, 32, 57, 32, 52]⟩] 9)) (some ⟨w.heap.size, 0, none⟩) (encTexts helloL) := RowAt.new_at w (encTexts helloL) 9 _ rfl
  have K1 := Lib.hid (sRun_any txt ea (some ⟨w.heap.size, 0, none⟩) 8 8 helloL _ (hG.below hb0) (hT.below hb0) (hX.below hb0) rfl hr0 (by decide) (by decide))
  have HPL := Lib.hid (hello_plays txt)
  have HPN := Lib.hid (show (YP.new.plays txt helloL).length = 8 from plays_len txt helloL YP.new)
  clear hG hT hX hr0
  generalize YP.new.plays txt helloL = ps at *
  go_enter Tryz.func32, Tryz.ntmps32
  go_wp2_with fail
  refine K1.out.mono ?_
  rintro e w1 ⟨v, rfl, hown, hb1⟩
  obtain ⟨av, cv, rfl⟩ := owned_shape hown
  obtain ⟨hrow, _, hcv, _⟩ := RowAt.owned hown
  have hv1 := onto hb0 hb1
  have c4 : ¬ cv = 4 := by omega
  obtain ⟨b, off, rfl, hbl, _⟩ := hrow.at (fun e => by have h1 := congrArg List.length e; simp [encTexts] at h1; subst h1; simp at HPN; exact absurd HPN.out (by decide))
  have hd : RowAt w1 (some ⟨b, off + 4, none⟩) (encTexts [[50, 58, 48, 44, 49, 58, 53], [53], [49, 44, 50, 32, 48, 32, 50], [52]]) := by
    have h := hrow.drop 4
    have e : (encTexts ps).drop 4 = encTexts (ps.drop 4) := by simp [encTexts]
    rw [e, HPL.out] at h
    exact h
  have hal : Below w1.heap.size w1 (w1.alloc (.cells #[.string ⟨#[50, 58, 48, 44, 49, 58, 53]⟩, .string ⟨#[53]⟩, .string ⟨#[49, 44, 50, 32, 48, 32, 50]⟩, .string ⟨#[52]⟩] 9)) := (Below.refl _ _).alloc (Nat.le_refl _) _
  have hr4 : RowAt (w1.alloc (.cells #[.string ⟨#[50, 58, 48, 44, 49, 58, 53]⟩, .string ⟨#[53]⟩, .string ⟨#[49, 44, 50, 32, 48, 32, 50]⟩, .string ⟨#[52]⟩] 9)) (some ⟨w1.heap.size, 0, none⟩) (encTexts [[50, 58, 48, 44, 49, 58, 53], [53], [49, 44, 50, 32, 48, 32, 50], [52]]) := RowAt.new_at w1 (encTexts [[50, 58, 48, 44, 49, 58, 53], [53], [49, 44, 50, 32, 48, 32, 50], [52]]) 9 _ rfl
  have KS := Lib.hid (sameT_any (some ⟨b, off + 4, none⟩) (some ⟨w1.heap.size, 0, none⟩) (cv - 4) 4 [[50, 58, 48, 44, 49, 58, 53], [53], [49, 44, 50, 32, 48, 32, 50], [52]] _ (hd.below hal) hr4 (by decide))
  have HV := Lib.hid (onto hv1 hal)
  clear K1 hown hrow hd hr4 hal HPL HPN
  go_wp2_with fail
  refine KS.out.mono ?_
  rintro e w3 ⟨rfl, hb3⟩
  go_wp2
  go_ret
  exact ⟨rfl, onto HV.out hb3⟩

def longI (l : List (List UInt8)) (most : Int) : Int := if longT l most then 1 else 0
theorem longI_yes {l : List (List UInt8)} {most : Int} (h : longT l most = true) : longI l most = 1 := by unfold longI; rw [if_pos h]
theorem longI_no {l : List (List UInt8)} {most : Int} (h : longT l most = false) : longI l most = 0 := by unfold longI; rw [if_neg (by simp [h])]
set_option maxRecDepth 100000 in
theorem longLines4_any (a : Option Addr) (n cap : Nat) (l : List (List UInt8)) (most : Int) (w : World) (hn : l.length = n) (hr : RowAt w a (encTexts l)) (hc : n ≤ 4611686018427387904) :
    Calls Tryz.prog 33 #[.slice a n cap, .int .i64 most] w fun e w' => e = .returned (.int .i64 (longI l most)) ∧ w = w' := by
  subst hn
  have HR := Lib.hid hr
  clear hr
  by_cases hm : most < (l.length : Int)
  · have hb : decide (most < (l.length : Int)) = true := decide_eq_true hm
    have HA : Hid (longT l most = true) := by unfold Hid longT; rw [hb]; rfl
    clear hm
    go_enter Tryz.func33, Tryz.ntmps33
    go_wp2
    go_ret
    exact ⟨by rw [longI_yes HA.out]; rfl, rfl⟩
  · have hb : decide (most < (l.length : Int)) = false := decide_eq_false hm
    have HA : Hid (longT l most = l.any (fun s => decide (150 < s.length))) := by unfold Hid longT; rw [hb]; rfl
    clear hm
    go_enter Tryz.func33, Tryz.ntmps33
    go_wp2
    go_loop [5] (fun i => ∃ k : Nat, k ≤ l.length ∧ i = .int .i64 k ∧ Hid ((l.take k).any (fun s => decide (150 < s.length)) = false)) (fun i => l.length - (intOf i).toNat)
    case atStart => exact ⟨0, Nat.zero_le _, rfl, rfl⟩
    case round =>
      obtain ⟨k, hk, rfl, hx⟩ := hrel
      by_cases hlt : k < l.length
      · obtain ⟨b, off, rfl, hbl, c0⟩ := text_at HR.out k hlt
        have HT := Lib.hid (any_take_snoc l (fun s => decide (150 < s.length)) k hlt)
        have HM : Hid (l[k] ∈ l) := List.getElem_mem hlt
        have hi0 : (0 : Int) ≤ (k : Int) := by omega
        have hi1 : (k : Int) < (l.length : Int) := by omega
        generalize l[k] = s at *
        by_cases h1 : 150 < s.length
        · have h2 : decide ((150 : Int) < (s.length : Int)) = true := decide_eq_true (by omega)
          have HL : Hid (longT l most = true) := by
            unfold Hid; rw [HA.out, List.any_eq_true]
            exact ⟨s, HM.out, decide_eq_true h1⟩
          clear h1
          go_wp2
          go_ret
          exact ⟨by rw [longI_yes HL.out]; rfl, rfl⟩
        · have h2 : decide ((150 : Int) < (s.length : Int)) = false := decide_eq_false (by omega)
          have HL : Hid (decide (150 < s.length) = false) := decide_eq_false h1
          clear h1
          go_wp2
          go_round
          case rel => exact ⟨k + 1, by omega, by go_num, by unfold Hid; rw [HT.out, hx.out, HL.out]; rfl⟩
          case measure => simp [intOf]; omega
      · obtain rfl : k = l.length := by omega
        have HZ : Hid (longT l most = false) := by unfold Hid; rw [HA.out, ← hx.out, List.take_length]
        go_wp2
        go_ret
        exact ⟨by rw [longI_no HZ.out]; rfl, rfl⟩

set_option maxRecDepth 100000 in
/-- Run of too many lines. -/
theorem sRun_many (ea : Nat → Addr) (a : Option Addr) (n cap : Nat) (w : World) (hg : Glob w ea [2]) (h80 : 80 < n) :
    Calls Tryz.prog 35 #[.slice a n cap] w fun e w' => e = .returned (.tuple #[.slice none 0 0, errV ea 2]) ∧ Below w.heap.size w w' := by
  have HE := Lib.hid (errV_pos ea (k := 2) (by decide))
  have g2 := hg.cell 2 (by simp)
  simp only [gOf] at g2
  rw [HE.out] at g2
  have d1 : decide ((80 : Int) < (n : Int)) = true := decide_eq_true (by omega)
  clear hg
  go_enter Tryz.func35, Tryz.ntmps35
  go_wp2
  go_quiet (fail)
  go_wp2
  go_ret2
  rw [HE.out]
  exact ⟨rfl, below_drewN (Below.refl _ _) _⟩
end Go.Proofs.YtoekajpjfoolpaaGreatDoor
