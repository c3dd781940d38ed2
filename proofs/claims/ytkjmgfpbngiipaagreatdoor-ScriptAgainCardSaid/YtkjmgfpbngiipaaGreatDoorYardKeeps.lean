/- YardKeeps: the law's walk. -/
import Derived.Test.YtkjmgfpbngiipaaGreatDoorYardLaw
namespace Go.Proofs.YtkjmgfpbngiipaaGreatDoor
open Go.RowKit Go.Maps

theorem DiskAt.not_yard {w : World} {base D yb : Nat} {s : Dk} {cs : Array Value} (h : DiskAt w base D s) (hb : Blok w yb 149 cs) : ¬ DOwn w D yb := fun hk => by
  obtain ⟨_, _, cur, fz, t, h1, h2⟩ := h.owns hk
  rw [show w.heap[yb]? = _ from hb] at h1
  injection h1 with h1
  injection h1 with _ e
  subst e
  rcases h2 with h2 | h2
  · revert h2; decide
  · revert h2; decide
/-- A yard whose disk alone was turned. -/
theorem YardAt.reopen {w w' : World} {base : Nat} {Y : YL} {y : YP} {s' : Dk} (h : YardAt w base Y y) (hF : Fr (DOwn w Y.D) w w') (hD : DiskAt w' base Y.D s') (hc : -9223372036854775808 ≤ s'.cut ∧ s'.cut ≤ 9223372036854775807) : YardAt w' base Y ⟨y.c, s'⟩ :=
  ⟨(hF.block _ h.blk.lt (h.disk.not_yard h.blk)).trans h.blk, h.clus.turned hF (fun k _ hk => by
    obtain ⟨_, _, cur, fz, t, h1, h2⟩ := h.disk.owns hk
    exact ⟨cur, fz, t, h1, h2.elim Or.inl (fun e => Or.inr (Or.inl e))⟩), hD, h.inv, h.low, h.lowc, hc⟩

set_option maxRecDepth 200000 in
set_option maxHeartbeats 3200000 in
theorem yardKeeps_law (ea : Nat → Addr) (a : Option Addr) (n cap : Nat) (l : List (List UInt8)) (cut : Int) (w : World) (hG : GlobC w ea) (hT : TxtEnv w)
    (hn : l.length = n) (hr : RowAt w a (encTexts l)) (hl : longT l 50 = false) (hc0 : 0 ≤ cut) (hcb : cut ≤ 9223372036854775807) :
    Calls Tryz.prog 7 #[.slice a n cap, .int .i64 cut] w fun e w' => e = .returned (.bool true) ∧ Below w.heap.size w w' := by
  obtain ⟨hl50, h150⟩ := longT_not hl
  have K0 := Lib.hid (yarded_any ea w hG hT)
  have KL := Lib.hid (fun (W : World) (hb : Below w.heap.size w W) => longLines_any a n cap l 50 W hn (hr.below hb) (by omega))
  rw [hl] at KL
  have KN := Lib.hid (fun (W : World) (hb : Below w.heap.size w W) => yNew_any ea W ((hG.below hb).glob.sub (by simp)))
  have KT := Lib.hid (fun (W : World) (Y : YL) (y : YP) (hY : YardAt W w.heap.size Y y) => yTape_any w.heap.size Y y W hY)
  have KC := Lib.hid (fun (W : World) (D : Nat) (hb : Below w.heap.size w W) (hD : DiskAt W w.heap.size D ⟨[], false, -1⟩) => diskCut_any ea w.heap.size D _ cut W ((hG.below hb).glob.sub (by simp)) hD)
  have hC : cutF ⟨[], false, -1⟩ cut = (⟨[], false, cut⟩, 0) := by rw [cutF, if_neg (by omega)]; rfl
  rw [hC, errV_zero] at KC
  have HE := Lib.hid (fun (W : World) (hb : Below w.heap.size w W) => EnvY.of hG hT hb (Nat.le_refl _))
  have KX := Lib.hid (fun (W : World) (Y : YL) (y : YP) (hb : Below w.heap.size w W) (hY : YardAt W w.heap.size Y y) => yText_any ea w.heap.size Y y W (HE.out W hb) hY)
  have KD := Lib.hid (fun (W : World) (Y : YL) (y : YP) (t : List UInt8) (hb : Below w.heap.size w W) (hY : YardAt W w.heap.size Y y) (ht : t.length ≤ 150) => yDo_any ea w.heap.size Y y t W (HE.out W hb) hY (by omega))
  have KO := Lib.hid (fun (W : World) (D : Nat) (s : Dk) (m : List (List UInt8)) (hb : Below w.heap.size w W) (hD : DiskAt W w.heap.size D s) (hP : Parse s.b m) (hm : m.length ≤ 300000) => yOpen_any ea w.heap.size D s m W (HE.out W hb) hb.size hD hP hm)
  have KP := Lib.hid (fun (W : World) (D : Nat) (s : Dk) (hD : DiskAt W w.heap.size D s) => diskPower_any w.heap.size D s W hD)
  have HR := Lib.hid hr
  have HN := Lib.hid hn
  have H150 := Lib.hid h150
  have HEP := Lib.hid (fun (k : Nat) (hk : k ≠ 0) => errV_pos ea hk)
  have d2 : decide (cut < 0) = false := decide_eq_false (by omega)
  rw [hn] at hl50
  clear hG hT hr hn hC hl h150
  go_enter Tryz.func7, Tryz.ntmps7
  go_wp2_with fail
  refine K0.out.mono ?_
  rintro e w1 ⟨rfl, hb1⟩
  have K1 := Lib.hid (KL.out w1 hb1)
  go_wp2_with fail
  refine K1.out.mono ?_
  rintro e w2 ⟨rfl, rfl⟩
  have K2 := Lib.hid (KN.out w1 hb1)
  clear K0 K1 KL
  go_wp2_with fail
  refine K2.out.mono ?_
  rintro e w2 ⟨Y, rfl, hY, hbB⟩
  have hb2 := hb1.trans (hbB.mono hb1.size)
  have hY := hY.weak hb1.size
  have K3 := Lib.hid (KT.out w2 Y _ hY)
  have K4 := Lib.hid (KC.out w2 Y.D hb2 hY.disk)
  clear K2 KN
  go_wp2_with fail
  refine K3.out.mono ?_
  rintro e w3 ⟨rfl, rfl⟩
  go_wp2_with fail
  refine K4.out.mono ?_
  rintro e w3 ⟨rfl, hD3, hS3⟩
  obtain ⟨hY3, hst3⟩ := hY.moved (Below.refl _ _) hD3 hS3 (by dsimp only; omega)
  have hb3 := hb2.trans (hst3.below hY)
  have inv0 := invY_cut cut (by omega)
  have hY3 : YardAt w3 w.heap.size Y ⟨freshC, ⟨[], false, cut⟩⟩ := hY3
  clear hb1 hbB hb2 hS3 hD3 hst3 hY K3 K4 KC
  obtain ⟨yb, L, D⟩ := Y
  dsimp only
  go_wp2
  go_loopw [7] (fun i wr => ∃ (k : Nat) (L : CL) (y : YP) (dn : List (List UInt8)), k ≤ n ∧ i = .int .i64 k ∧ Hid (InvY k y dn) ∧ YardAt wr w.heap.size ⟨yb, L, D⟩ y ∧ Below w.heap.size w wr) (fun i _ => n - (intOf i).toNat)
  case atStart => exact ⟨0, L, _, _, Nat.zero_le _, rfl, inv0, hY3, hb3⟩
  case round =>
    clear hY3 hb3 inv0
    obtain ⟨k, L, y, dn, hk, rfl, inv, hY, hb⟩ := hrel
    by_cases hlt : k < n
    · have hkt : k < l.length := by have := HN.out; omega
      obtain ⟨b, off, rfl, hbl, cw⟩ := text_at HR.out k hkt
      have hs150 := H150.out _ (List.getElem_mem hkt)
      have hi0 : (0 : Int) ≤ (k : Int) := by omega
      have hi1 : (k : Int) < (n : Int) := by omega
      generalize l[k] = s at *
      have inv2 := Lib.hid (inv.out.step (by omega) hs150)
      have K1 := Lib.hid (KX.out wr _ y hb hY)
      have HY := Lib.hid hY
      have HER := Lib.hid (fun h => doF_err (y := y) (t := s) h)
      clear hY inv
      go_wp2_with fail
      refine K1.out.mono ?_
      rintro e w5 ⟨rfl, hb5⟩
      have hv5 := onto hb hb5
      have c0 := (hv5.cell (p := ⟨b, off + k, none⟩) hbl).trans cw
      have HY5 := Lib.hid (HY.out.below hb5)
      have K2 := Lib.hid (KD.out w5 _ y s hv5 HY5.out hs150)
      clear HY K1
      generalize tapedF y s dn = dn' at *
      generalize y.doF s = r at *
      obtain ⟨y2, ans, er⟩ := r
      dsimp only at inv2 HER
      go_wp2_with fail
      refine K2.out.mono ?_
      rintro e w6 ⟨⟨yb', L', D'⟩, rfl, hY6, hs6⟩
      obtain rfl : yb' = yb := hs6.yb
      obtain rfl : D' = D := hs6.D
      have hv6 := hv5.trans (hs6.below HY5.out)
      dsimp only at hY6 ⊢
      have HV6 := Lib.hid hv6
      clear hs6 hv5 K2 c0
      by_cases hz : er = 0
      · subst hz
        rw [errV_zero]
        clear HER
        go_wp2
        go_roundw
        case rel => exact ⟨k + 1, L', y2, dn', by omega, by go_num, inv2, hY6, HV6.out⟩
        case measure => simp [intOf]; omega
      · obtain ⟨q1, q2⟩ := HER.out hz
        have K3 := Lib.hid (KX.out w6 _ y2 hv6 hY6)
        rw [q1] at K3
        rw [HEP.out _ hz, q2]
        have HY6 := Lib.hid hY6
        clear HER hz q1 q2 hY6
        go_wp2_with fail
        refine K3.out.mono ?_
        rintro e w7 ⟨rfl, hb7⟩
        have hv7 := onto HV6.out hb7
        have HY7 := Lib.hid (HY6.out.below hb7)
        clear K3 hv6
        go_wp2
        go_roundw
        case rel => exact ⟨k + 1, L', y2, dn', by omega, by go_num, inv2, HY7.out, hv7⟩
        case measure => simp [intOf]; omega
    · obtain rfl : k = n := by omega
      have K1 := Lib.hid (KT.out wr _ y hY)
      have hrun := inv.out.run
      have htk := inv.out.take
      have hmany := inv.out.many
      have K2 := Lib.hid (KO.out wr D y.d dn hb hY.disk inv.out.parse (by omega))
      have HRUN := Lib.hid hrun
      have HTK := Lib.hid htk
      have HY := Lib.hid hY
      clear hrun htk inv hY KD KO
      go_wp2_with fail
      refine K1.out.mono ?_
      rintro e w5 ⟨rfl, rfl⟩
      go_wp2_with fail
      refine K2.out.mono ?_
      rintro e w6 hp
      rcases hp with ⟨_, Y2, hD2, rfl, hY2, hF2, _, _, _⟩ | ⟨h1, _⟩
      rotate_left
      · exact absurd (by rw [HRUN.out]) h1
      obtain ⟨yb2, L2, D2⟩ := Y2
      obtain rfl : D2 = D := hD2
      rw [HRUN.out] at hY2
      have hv6 : Below w.heap.size w w6 := hb.trans (hF2.below hb.size (fun j hj => (HY.out.disk.owns hj).1))
      have hYo := HY.out.reopen hF2 hY2.disk (by dsimp only; omega)
      have K3 := Lib.hid (KX.out w6 _ _ hv6 hY2)
      have HY2 := Lib.hid hY2
      have HYO := Lib.hid hYo
      clear hY2 hYo K2 K1 hF2
      dsimp only
      go_wp2_with fail
      refine K3.out.mono ?_
      rintro e w7 ⟨rfl, hb7⟩
      have hv7 := onto hv6 hb7
      have K4 := Lib.hid (KX.out w7 _ _ hv7 (HYO.out.below hb7))
      have HY7 := Lib.hid (HY2.out.below hb7)
      clear K3 hv6 HYO
      go_wp2_with fail
      refine K4.out.mono ?_
      rintro e w8 ⟨rfl, hb8⟩
      have hv8 := onto hv7 hb8
      have hY8 := HY7.out.below hb8
      have K5 := Lib.hid (KT.out w8 _ _ hY8)
      have K6 := Lib.hid (KP.out w8 _ _ hY8.disk)
      clear K4 hY8
      go_wp2_with fail
      refine K5.out.mono ?_
      rintro e w9 ⟨rfl, rfl⟩
      go_wp2_with fail
      refine K6.out.mono ?_
      rintro e w9 ⟨rfl, rfl⟩
      go_wp2
      go_ret
      exact ⟨rfl, hv8⟩

set_option maxRecDepth 100000 in
theorem walk_YardKeeps (ea : Nat → Addr) (a : Option Addr) (n cap : Nat) (l : List (List UInt8)) (cut : Int) (w : World) (hG : GlobC w ea) (hT : TxtEnv w)
    (hn : l.length = n) (hr : RowAt w a (encTexts l)) (_hcap : n ≤ cap) (hm : n ≤ 4611686018427387904) (hc : -9223372036854775808 ≤ cut ∧ cut ≤ 9223372036854775807) :
    Calls Tryz.prog 7 #[.slice a n cap, .int .i64 cut] w fun e w' => e = .returned (.bool true) ∧ Below w.heap.size w w' := by
  cases hl : longT l 50
  · by_cases h2 : 0 ≤ cut
    · exact yardKeeps_law ea a n cap l cut w hG hT hn hr hl h2 hc.2
    · have K0 := Lib.hid (yarded_any ea w hG hT)
      have KL := Lib.hid (fun (W : World) (hb : Below w.heap.size w W) => longLines_any a n cap l 50 W hn (hr.below hb) hm)
      rw [hl] at KL
      have d2 : decide (cut < 0) = true := decide_eq_true (by omega)
      clear hG hT hn hr hl
      go_enter Tryz.func7, Tryz.ntmps7
      go_wp2_with fail
      refine K0.out.mono ?_
      rintro e w1 ⟨rfl, hb1⟩
      have K1 := Lib.hid (KL.out w1 hb1)
      go_wp2_with fail
      refine K1.out.mono ?_
      rintro e w2 ⟨rfl, rfl⟩
      go_wp2
      go_ret
      exact ⟨rfl, hb1⟩
  · have K0 := Lib.hid (yarded_any ea w hG hT)
    have KL := Lib.hid (fun (W : World) (hb : Below w.heap.size w W) => longLines_any a n cap l 50 W hn (hr.below hb) hm)
    rw [hl] at KL
    clear hG hT hn hr hl
    go_enter Tryz.func7, Tryz.ntmps7
    go_wp2_with fail
    refine K0.out.mono ?_
    rintro e w1 ⟨rfl, hb1⟩
    have K1 := Lib.hid (KL.out w1 hb1)
    go_wp2_with fail
    refine K1.out.mono ?_
    rintro e w2 ⟨rfl, rfl⟩
    go_wp2
    go_ret
    exact ⟨rfl, hb1⟩
end Go.Proofs.YtkjmgfpbngiipaaGreatDoor
