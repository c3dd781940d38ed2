/- YardAgain: the law's walk. -/
import Derived.Test.YtkjmgfpbngiipaaGreatDoorYardKeeps
namespace Go.Proofs.YtkjmgfpbngiipaaGreatDoor
open Go.RowKit Go.Maps

theorem YOwn.back {w w' : World} {base : Nat} {Y : YL} {y : YP} (h : YardAt w base Y y) (hb : Below w.heap.size w w') {k : Nat} (hk : YOwn w' Y k) : YOwn w Y k :=
  hk.elim Or.inl (fun h1 => Or.inr (h1.same (hb.block _ h.disk.lt)))
theorem Fr.cell {S : Nat → Prop} {w w' : World} (h : Fr S w w') {p : Addr} (hp : p.block < w.heap.size) (hn : ¬ S p.block) : w'.cell? p = w.cell? p := by
  unfold World.cell?
  rw [h.block p.block hp hn]
/-- Two yards apart stay apart over what turns neither. -/
theorem apart_below {w w' : World} {b1 b2 : Nat} {Y O : YL} {y o : YP} (hY : YardAt w b1 Y y) (hO : YardAt w b2 O o) (hb : Below w.heap.size w w') (ha : ∀ k, YOwn w Y k → ¬ YOwn w O k) : ∀ k, YOwn w' Y k → ¬ YOwn w' O k :=
  fun k h1 h2 => ha k (h1.back hY hb) (h2.back hO hb)
theorem flat_le150 : ∀ {l : List (List UInt8)}, (∀ s ∈ l, s.length ≤ 150) → (l.flatMap recB).length ≤ 200 * l.length
  | [], _ => by simp
  | s :: r, h => by
    have h1 := recB_le s (by have := h s (by simp); omega)
    have h2 := h s (by simp)
    have h3 := flat_le150 (l := r) (fun t ht => h t (List.mem_cons_of_mem _ ht))
    rw [List.flatMap_cons, List.length_append, List.length_cons]; omega
/-- The next line of a tape, done by hand. -/
theorem doF_next {l : List (List UInt8)} (h150 : ∀ s ∈ l, s.length ≤ 150) (hl : l.length ≤ 100) (hok : (freshC.linesF 0 l).2.1 = 0) (k : Nat) (hk : k < l.length) :
    ((YP.mk (freshC.linesF 0 (l.take k)).1 ⟨(l.take k).flatMap recB, false, -1⟩).doF l[k]).1 = ⟨(freshC.linesF 0 (l.take (k + 1))).1, ⟨(l.take (k + 1)).flatMap recB, false, -1⟩⟩ ∧
    ((YP.mk (freshC.linesF 0 (l.take k)).1 ⟨(l.take k).flatMap recB, false, -1⟩).doF l[k]).2.2 = 0 := by
  have h1 := linesF_take l freshC 0 k hok
  have h2 : ((freshC.linesF 0 (l.take k)).1.lineF l[k]).2 = 0 := by
    by_cases hz : ((freshC.linesF 0 (l.take k)).1.lineF l[k]).2 = 0
    · exact hz
    · rw [linesF_stop l freshC 0 k hk h1 hz] at hok
      exact absurd hok hz
  have hfl : ((l.take k).flatMap recB).length ≤ 100000 := by
    have := flat_le150 (l := l.take k) (fun s hs => h150 s (List.mem_of_mem_take hs))
    rw [List.length_take] at this; omega
  rw [doF_line (h150 _ (List.getElem_mem hk)) hfl h2, linesF_next l freshC k hk h1 h2, List.take_succ_eq_append_getElem hk, List.flatMap_append]
  exact ⟨by simp, rfl⟩

set_option maxRecDepth 200000 in
set_option maxHeartbeats 3200000 in
theorem yardAgain_law (ea : Nat → Addr) (a : Option Addr) (n cap : Nat) (l : List (List UInt8)) (w : World) (hG : GlobC w ea) (hT : TxtEnv w)
    (hn : l.length = n) (hr : RowAt w a (encTexts l)) (hl : longT l 50 = false) :
    Calls Tryz.prog 5 #[.slice a n cap] w fun e w' => e = .returned (.bool true) ∧ Below w.heap.size w w' := by
  obtain ⟨hl50, h150⟩ := longT_not hl
  have K0 := Lib.hid (yarded_any ea w hG hT)
  have KL := Lib.hid (fun (W : World) (hb : Below w.heap.size w W) => longLines_any a n cap l 50 W hn (hr.below hb) (by omega))
  rw [hl] at KL
  have KN := Lib.hid (fun (W : World) (hb : Below w.heap.size w W) => yNew_any ea W ((hG.below hb).glob.sub (by simp)))
  have KT := Lib.hid (fun (W : World) (Y : YL) (y : YP) (hY : YardAt W w.heap.size Y y) => yTape_any w.heap.size Y y W hY)
  have HE := Lib.hid (fun (W : World) (hb : Below w.heap.size w W) => EnvY.of hG hT hb (Nat.le_refl _))
  have KX := Lib.hid (fun (W : World) (Y : YL) (y : YP) (hb : Below w.heap.size w W) (hY : YardAt W w.heap.size Y y) => yText_any ea w.heap.size Y y W (HE.out W hb) hY)
  have KD := Lib.hid (fun (W : World) (Y : YL) (y : YP) (t : List UInt8) (hb : Below w.heap.size w W) (hY : YardAt W w.heap.size Y y) (ht : t.length ≤ 150) => yDo_any ea w.heap.size Y y t W (HE.out W hb) hY (by omega))
  have KB := Lib.hid (fun (W : World) (D : Nat) (s : Dk) (hD : DiskAt W w.heap.size D s) => diskBytes_any w.heap.size D s W hD)
  have KR := Lib.hid (fun (W : World) (b : List UInt8) (m : List (List UInt8)) (hP : Parse b m) (hb : Below w.heap.size w W) (hl : b.length ≤ 300000) => readT_any b m hP W (hT.below hb) hl)
  have HR := Lib.hid hr
  have HN := Lib.hid hn
  have H150 := Lib.hid h150
  rw [hn] at hl50
  clear hG hT hr hn hl h150
  go_enter Tryz.func5, Tryz.ntmps5
  go_wp2_with fail
  refine K0.out.mono ?_
  rintro e w1 ⟨rfl, hb1⟩
  have K1 := Lib.hid (KL.out w1 hb1)
  go_wp2_with fail
  refine K1.out.mono ?_
  rintro e w2 ⟨rfl, rfl⟩
  have K2 := Lib.hid (KN.out w1 hb1)
  clear K0 K1 KL
  go_wp2_with fail
  refine K2.out.mono ?_
  rintro e w2 ⟨Y, rfl, hY, hbB⟩
  have hb2 := hb1.trans (hbB.mono hb1.size)
  have hY := hY.weak hb1.size
  have K3 := Lib.hid (KN.out w2 hb2)
  clear K2 KN
  go_wp2_with fail
  refine K3.out.mono ?_
  rintro e w3 ⟨O, rfl, hO, hbC⟩
  have hb3 := hb2.trans (hbC.mono hb2.size)
  have hY3 := hY.below hbC
  have HAP : Hid (∀ k, YOwn w3 Y k → ¬ YOwn w3 O k) := fun k h1 h2 => by
    have q1 := (hY.owns (h1.back hY hbC)).2.1
    have q2 := (hO.owns h2).1
    omega
  have HO3 := Lib.hid (hO.weak hb2.size)
  have inv0 : InvY 0 YP.new [] := invY_cut (-1) (by omega)
  have up0 : YP.new.d.up := ⟨rfl, rfl⟩
  clear hb1 hbB hb2 hbC hY hO K3
  obtain ⟨yb, L, D⟩ := Y
  dsimp only
  go_wp2
  go_loopw [6] (fun i wr => ∃ (k : Nat) (L : CL) (y : YP) (dn : List (List UInt8)), k ≤ n ∧ i = .int .i64 k ∧ Hid (InvY k y dn) ∧ Hid (y.d.up) ∧ YardAt wr w.heap.size ⟨yb, L, D⟩ y ∧ Hid (YardAt wr w.heap.size O YP.new) ∧ Hid (∀ k, YOwn wr ⟨yb, L, D⟩ k → ¬ YOwn wr O k) ∧ Below w.heap.size w wr) (fun i _ => n - (intOf i).toNat)
  case atStart => exact ⟨0, L, _, _, Nat.zero_le _, rfl, inv0, up0, hY3, HO3, HAP, hb3⟩
  case round =>
    clear hY3 hb3 inv0 up0 HO3 HAP
    obtain ⟨k, L, y, dn, hk, rfl, inv, hup, hY, hO, hap, hb⟩ := hrel
    by_cases hlt : k < n
    · have hkt : k < l.length := by have := HN.out; omega
      obtain ⟨b, off, rfl, hbl, cw⟩ := text_at HR.out k hkt
      have hs150 := H150.out _ (List.getElem_mem hkt)
      have hi0 : (0 : Int) ≤ (k : Int) := by omega
      have hi1 : (k : Int) < (n : Int) := by omega
      generalize l[k] = s at *
      have inv2 := Lib.hid (inv.out.step (by omega) hs150)
      have up2 := Lib.hid (doF_up hup.out s)
      have c0 := (hb.cell (p := ⟨b, off + k, none⟩) hbl).trans cw
      have K2 := Lib.hid (KD.out wr _ y s hb hY hs150)
      have HY := Lib.hid hY
      clear hY inv hup
      generalize tapedF y s dn = dn' at *
      generalize y.doF s = r at *
      obtain ⟨y2, ans, er⟩ := r
      dsimp only at inv2 up2
      go_wp2_with fail
      refine K2.out.mono ?_
      rintro e w6 ⟨⟨yb', L', D'⟩, rfl, hY6, hs6⟩
      obtain rfl : yb' = yb := hs6.yb
      obtain rfl : D' = D := hs6.D
      have hO6 := Lib.hid (hO.out.other HY.out hs6 (fun k h1 h2 => hap.out k h2 h1))
      have hap6 := Lib.hid (hs6.apart hO.out HY.out (fun k h1 h2 => hap.out k h2 h1))
      have hv6 := hb.trans (hs6.below HY.out)
      dsimp only at hY6 ⊢
      have HV6 := Lib.hid hv6
      have HY6 := Lib.hid hY6
      clear hs6 K2 c0 HY hO hap hv6 hY6
      generalize errV ea er = ev
      go_wp2
      go_roundw
      case rel => exact ⟨k + 1, L', y2, dn', by omega, by go_num, inv2, up2, HY6.out, hO6, fun k h1 h2 => hap6.out k h2 h1, HV6.out⟩
      case measure => simp [intOf]; omega
    · obtain rfl : k = n := by omega
      have hfl := inv.out.flat hup.out
      have hrun := inv.out.run
      have hmany := inv.out.many
      have hlens := inv.out.lens
      have hPs := inv.out.parse
      have hbl : (dn.flatMap recB).length ≤ 100000 := by have := flat_le150 hlens; omega
      obtain ⟨yc, yd⟩ := y
      dsimp only at hfl hrun hPs
      subst hfl
      obtain ⟨ob, OL, OD⟩ := O
      obtain ⟨Q, hQ⟩ : ∃ Q, Q = dn.flatMap recB := ⟨_, rfl⟩
      have K1 := Lib.hid (KT.out wr _ _ hY)
      have K2 := Lib.hid (KB.out wr D _ hY.disk)
      have K3 := Lib.hid (KR.out wr _ dn hPs hb (by dsimp only; omega))
      have HY := Lib.hid hY
      have HRUN := Lib.hid hrun
      have HNX := Lib.hid (fun j (hj : j < dn.length) => doF_next hlens (by omega) (by rw [hrun]) j hj)
      have HLN := Lib.hid hlens
      rw [← hQ] at K3 K2 hbl
      rw [← hQ] at HY
      have HO0 : Hid (YardAt wr w.heap.size ⟨ob, OL, OD⟩ ⟨(freshC.linesF 0 (dn.take 0)).1, ⟨(dn.take 0).flatMap recB, false, -1⟩⟩) := hO.out
      have HEND : Hid (∀ j, j = dn.length → (freshC.linesF 0 (dn.take j)).1 = yc ∧ (dn.take j).flatMap recB = Q) := fun j hj => by subst hj; rw [List.take_length, hrun, hQ]; exact ⟨rfl, rfl⟩
      obtain ⟨m, hm⟩ : ∃ m, m = dn.length := ⟨_, rfl⟩
      have HM := Lib.hid hm
      rw [← hm] at K3 HEND hmany
      clear hY inv hup hPs hrun hlens hO hQ hm
      dsimp only at K2 K3
      go_wp2_with fail
      refine K1.out.mono ?_
      rintro e w5 ⟨rfl, rfl⟩
      go_wp2_with fail
      refine K2.out.mono ?_
      rintro e w5 ⟨rfl, rfl⟩
      go_wp2_with fail
      refine K3.out.mono ?_
      rintro e w6 ⟨xv, rfl, hxv, hb6⟩
      have HY6 := Lib.hid (HY.out.below hb6)
      have HO6 := Lib.hid (HO0.out.below hb6)
      have HA6 := Lib.hid (apart_below HY.out HO0.out hb6 hap.out)
      have hv6 := onto hb hb6
      obtain ⟨ax, cx, rfl⟩ := owned_shape hxv
      have HX := Lib.hid (RowAt.owned hxv).1
      have HXO := Lib.hid (fun g hg => (hxv.lt g hg).1)
      have HOL := Lib.hid (fun g (hg : YOwn w6 ⟨ob, OL, OD⟩ g) => (HO0.out.owns (hg.back HO0.out hb6)).2.1)
      have K4 := Lib.hid (KT.out w6 _ _ HY6.out)
      have K5 := Lib.hid (KB.out w6 D _ HY6.out.disk)
      dsimp only at K5
      have HV6 := Lib.hid hv6
      clear K1 K2 K3 hxv hb6 HY HO0 hap hb hv6
      go_wp2_with fail
      refine K4.out.mono ?_
      rintro e w7 ⟨rfl, rfl⟩
      go_wp2_with fail
      refine K5.out.mono ?_
      rintro e w7 ⟨rfl, rfl⟩
      clear K4 K5
      go_wp2
      have st0 : YStep w6 w6 ⟨ob, OL, OD⟩ ⟨ob, OL, OD⟩ := YStep.refl _ _
      go_loopw [9] (fun i wr => ∃ (j : Nat) (OL2 : CL), j ≤ m ∧ i = .int .i64 j ∧ Hid (YardAt wr w.heap.size ⟨ob, OL2, OD⟩ ⟨(freshC.linesF 0 (dn.take j)).1, ⟨(dn.take j).flatMap recB, false, -1⟩⟩) ∧ Hid (YardAt wr w.heap.size ⟨yb, L, D⟩ ⟨yc, ⟨Q, false, -1⟩⟩) ∧ Hid (∀ k, YOwn wr ⟨yb, L, D⟩ k → ¬ YOwn wr ⟨ob, OL2, OD⟩ k) ∧ Hid (YStep w6 wr ⟨ob, OL, OD⟩ ⟨ob, OL2, OD⟩) ∧ Hid (Below w.heap.size w wr)) (fun i _ => m - (intOf i).toNat)
      case atStart => exact ⟨0, OL, Nat.zero_le _, rfl, HO6, HY6, HA6, st0, HV6⟩
      case round =>
        clear HO6 HY6 HA6 st0
        obtain ⟨j, OL2, hj, rfl, hO, hY, hap, hst, hv⟩ := hrel
        by_cases hlj : j < m
        · have hjl : j < dn.length := by rw [← HM.out]; exact hlj
          obtain ⟨xb, xo, rfl, hxb, cx0⟩ := text_at HX.out j hjl
          have hs150 := HLN.out _ (List.getElem_mem hjl)
          have hno : ¬ YOwn w6 ⟨ob, OL, OD⟩ xb := fun h => by
            have q1 := HOL.out xb h
            have q2 := HXO.out xb rfl
            omega
          have c0 := (hst.out.fr.cell (p := ⟨xb, xo + j, none⟩) hxb hno).trans cx0
          have hj0 : (0 : Int) ≤ (j : Int) := by omega
          have hj1 : (j : Int) < (m : Int) := by omega
          have K2 := Lib.hid (KD.out wr _ _ dn[j] hv.out hO.out hs150)
          obtain ⟨n1, n2⟩ := HNX.out j hjl
          generalize hrr : (YP.mk (freshC.linesF 0 (dn.take j)).1 ⟨(dn.take j).flatMap recB, false, -1⟩).doF dn[j] = r at *
          obtain ⟨o2, ans, er⟩ := r
          dsimp only at n1 n2
          subst n1 n2
          generalize dn[j] = s at *
          clear hrr hno cx0
          go_wp2_with fail
          refine K2.out.mono ?_
          rintro e w7 ⟨⟨ob', OL3, OD'⟩, rfl, hO7, hs7⟩
          obtain rfl : ob' = ob := hs7.yb
          obtain rfl : OD' = OD := hs7.D
          have hY7 := Lib.hid (hY.out.other hO.out hs7 hap.out)
          have hap7 := Lib.hid (hs7.apart hY.out hO.out hap.out)
          have hst7 := Lib.hid (hst.out.trans hs7)
          have hv7 := Lib.hid (hv.out.trans (hs7.below hO.out))
          have HO7 := Lib.hid hO7
          dsimp only at HO7 ⊢
          rw [errV_zero]
          clear hs7 K2 c0 hY hO hap hst hv hO7
          go_wp2
          go_roundw
          case rel => exact ⟨j + 1, OL3, by omega, by go_num, HO7, hY7, hap7, hst7, hv7⟩
          case measure => simp [intOf]; omega
        · obtain rfl : j = m := by omega
          obtain ⟨z1, z2⟩ := HEND.out j rfl
          rw [z1, z2] at hO
          have K1 := Lib.hid (KX.out wr _ _ hv.out hO.out)
          clear z1 z2 hap hst
          go_wp2_with fail
          refine K1.out.mono ?_
          rintro e w7 ⟨rfl, hb7⟩
          have hv7 := onto hv.out hb7
          have hO7 := Lib.hid (hO.out.below hb7)
          have hY7 := Lib.hid (hY.out.below hb7)
          have K2 := Lib.hid (KX.out w7 _ _ hv7 hY7.out)
          clear K1 hO hY hv
          go_wp2_with fail
          refine K2.out.mono ?_
          rintro e w8 ⟨rfl, hb8⟩
          have hv8 := onto hv7 hb8
          have hO8 := hO7.out.below hb8
          have hY8 := hY7.out.below hb8
          have K3 := Lib.hid (KT.out w8 _ _ hO8)
          have K4 := Lib.hid (KB.out w8 _ _ hO8.disk)
          have K5 := Lib.hid (KT.out w8 _ _ hY8)
          have K6 := Lib.hid (KB.out w8 _ _ hY8.disk)
          dsimp only at K4 K6
          clear K2 hO7 hY7 hb8 hO8 hY8 hv7
          go_wp2_with fail
          refine K3.out.mono ?_
          rintro e w9 ⟨rfl, rfl⟩
          go_wp2_with fail
          refine K4.out.mono ?_
          rintro e w9 ⟨rfl, rfl⟩
          go_wp2_with fail
          refine K5.out.mono ?_
          rintro e w9 ⟨rfl, rfl⟩
          go_wp2_with fail
          refine K6.out.mono ?_
          rintro e w9 ⟨rfl, rfl⟩
          go_wp2
          go_ret
          exact ⟨rfl, hv8⟩

set_option maxRecDepth 100000 in
theorem walk_YardAgain (ea : Nat → Addr) (a : Option Addr) (n cap : Nat) (l : List (List UInt8)) (w : World) (hG : GlobC w ea) (hT : TxtEnv w)
    (hn : l.length = n) (hr : RowAt w a (encTexts l)) (_hcap : n ≤ cap) (hm : n ≤ 4611686018427387904) :
    Calls Tryz.prog 5 #[.slice a n cap] w fun e w' => e = .returned (.bool true) ∧ Below w.heap.size w w' := by
  cases hl : longT l 50
  · exact yardAgain_law ea a n cap l w hG hT hn hr hl
  · have K0 := Lib.hid (yarded_any ea w hG hT)
    have KL := Lib.hid (fun (W : World) (hb : Below w.heap.size w W) => longLines_any a n cap l 50 W hn (hr.below hb) hm)
    rw [hl] at KL
    clear hG hT hn hr hl
    go_enter Tryz.func5, Tryz.ntmps5
    go_wp2_with fail
    refine K0.out.mono ?_
    rintro e w1 ⟨rfl, hb1⟩
    have K1 := Lib.hid (KL.out w1 hb1)
    go_wp2_with fail
    refine K1.out.mono ?_
    rintro e w2 ⟨rfl, rfl⟩
    go_wp2
    go_ret
    exact ⟨rfl, hb1⟩
end Go.Proofs.YtkjmgfpbngiipaaGreatDoor
