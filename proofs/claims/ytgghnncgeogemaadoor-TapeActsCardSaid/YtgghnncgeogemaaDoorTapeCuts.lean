/- TapeCuts: the law's walk. -/
import Derived.Test.YtgghnncgeogemaaDoorTapeAct
import Derived.Test.YtgghnncgeogemaaDoorSameTexts
namespace Go.Proofs.YtgghnncgeogemaaDoor
open Go.RowKit

theorem encT_strs (l : List (List UInt8)) : encTexts l = encStrs (l.map fun x => (⟨x.toArray⟩ : ByteArray)) := by simp [encTexts, encStrs]
theorem sameT_any (a a2 : Option Addr) (cap cap2 : Nat) (l : List (List UInt8)) (w : World) (hr : RowAt w a (encTexts l)) (hr2 : RowAt w a2 (encTexts l)) (hc : l.length ≤ 4611686018427387904) :
    Calls Tryd.prog 10 #[.slice a l.length cap, .slice a2 l.length cap2] w fun e w' => e = .returned (.bool true) ∧ Below w.heap.size w w' := by
  rw [encT_strs] at hr hr2
  refine (sameTexts_any a a2 l.length cap l.length cap2 _ _ w (by simp) hr (by simp) hr2 hc).mono ?_
  rintro e w' ⟨rfl, hb⟩
  exact ⟨by simp, hb⟩

/-- A list of records is parsed. -/
theorem parse_recs {l : List (List UInt8)} (h : ∀ s ∈ l, s.length ≤ 4000) : Parse (l.flatMap recB) l := ⟨h, [], by simp, rfl⟩
/-- .. with less than a record behind. -/
theorem parse_cut {l : List (List UInt8)} (h : ∀ s ∈ l, s.length ≤ 4000) {t p : List UInt8} (ht : t.length ≤ 4000) (hp : p <+: recB t) (hl : p.length < (recB t).length) : Parse (l.flatMap recB ++ p) l := ⟨h, p, rfl, oneF_cut ht hp hl⟩

/-- A step of the law's loop. -/
def runC (st : Dk × List (List UInt8)) (t : List UInt8) : Dk × List (List UInt8) := ((apF st.1 t).1, if (apF st.1 t).2 = 0 then st.2 ++ [t] else st.2)
/-- What the disk holds: what was appended with no error; and less than a record where power failed. -/
structure InvC (k : Nat) (st : Dk × List (List UInt8)) : Prop where
  lens : ∀ s ∈ st.2, s.length ≤ 200
  many : st.2.length ≤ k
  size : st.1.b.length ≤ 250 * k
  cut : -1 ≤ st.1.cut ∧ st.1.cut ≤ 9223372036854775807
  bytes : (st.1.off = false ∧ st.1.b = st.2.flatMap recB ∧ 0 ≤ st.1.cut) ∨ (st.1.off = true ∧ ∃ t p, t.length ≤ 4000 ∧ p <+: recB t ∧ p.length < (recB t).length ∧ st.1.b = st.2.flatMap recB ++ p)
theorem InvC.parse {k : Nat} {st : Dk × List (List UInt8)} (h : InvC k st) : Parse st.1.b st.2 := by
  have hl : ∀ s ∈ st.2, s.length ≤ 4000 := fun s hs => by have := h.lens s hs; omega
  rcases h.bytes with ⟨_, e, _⟩ | ⟨_, t, p, h1, h2, h3, e⟩
  · rw [e]; exact parse_recs hl
  · rw [e]; exact parse_cut hl h1 h2 h3
theorem InvC.step {k : Nat} {st : Dk × List (List UInt8)} (h : InvC k st) (hk : k ≤ 40) {t : List UInt8} (ht : t.length ≤ 200) : InvC (k + 1) (runC st t) := by
  obtain ⟨⟨b, o, c⟩, l⟩ := st
  obtain ⟨h1, h2, h3, h4, h5⟩ := h
  dsimp only at h1 h2 h3 h4 h5
  have hrl := recB_le t (by omega)
  have hlow := recB_len t
  have hA : apF ⟨b, o, c⟩ t = wrF ⟨b, o, c⟩ (recB t) := by rw [apF, if_neg (by omega), if_neg (by dsimp only; omega)]
  rcases h5 with ⟨rfl, rfl, hc0⟩ | ⟨rfl, t', p, q1, q2, q3, rfl⟩
  · by_cases hlt : c < (recB t).length
    · have hW : wrF ⟨l.flatMap recB, false, c⟩ (recB t) = (⟨l.flatMap recB ++ (recB t).take c.toNat, true, c⟩, 11) := by rw [wrF]; simp [hc0, hlt]
      rw [runC, hA, hW]
      refine ⟨h1, by dsimp only; simp; omega, ?_, h4, Or.inr ⟨rfl, t, (recB t).take c.toNat, by omega, List.take_prefix _ _, by rw [List.length_take]; omega, by simp⟩⟩
      dsimp only
      rw [List.length_append, List.length_take]; omega
    · have hW : wrF ⟨l.flatMap recB, false, c⟩ (recB t) = (⟨l.flatMap recB ++ recB t, false, c - (recB t).length⟩, 0) := by rw [wrF]; simp [hc0, hlt]
      rw [runC, hA, hW]
      refine ⟨fun s hs => ?_, ?_, ?_, by dsimp only; omega, Or.inl ⟨rfl, by simp, by dsimp only; omega⟩⟩
      · dsimp only at hs
        rw [if_pos rfl] at hs
        rcases List.mem_append.1 hs with hs | hs
        · exact h1 s hs
        · rw [List.mem_singleton.1 hs]; exact ht
      · dsimp only; rw [if_pos rfl, List.length_append, List.length_singleton]; omega
      · dsimp only; rw [List.length_append]; omega
  · have hW : wrF ⟨l.flatMap recB ++ p, true, c⟩ (recB t) = (⟨l.flatMap recB ++ p, true, c⟩, 11) := by rw [wrF]; rfl
    rw [runC, hA, hW]
    exact ⟨h1, by dsimp only; simp; omega, by dsimp only at h3 ⊢; omega, h4, Or.inr ⟨rfl, t', p, q1, q2, q3, by simp⟩⟩
theorem recB_ab : recB [97, 32, 98] = [51, 58, 97, 32, 98, 10, 46] := by decide +kernel

set_option maxRecDepth 100000 in
set_option maxHeartbeats 1600000 in
theorem taped_any (ea : Nat → Addr) (w : World) (hg : Glob w ea [2, 7, 11]) (hT : TxtEnv w) :
    Calls Tryd.prog 5 #[] w fun e w' => e = .returned (.bool true) ∧ Below w.heap.size w w' := by
  have hgb : gOf 11 < w.heap.size := hg.lt 11 (by simp)
  have KN := Lib.hid (newDisk_any [] w (by simp))
  have KA := Lib.hid (fun (W : World) (D : Nat) (hb : Below w.heap.size w W) (hD : DiskAt W w.heap.size D ⟨[], false, -1⟩) => tapeAppend_any ea w.heap.size D _ [97, 32, 98] W (hg.below hb) (hT.below hb) hD hb.size (by simp) hgb (by decide))
  have hA : apF ⟨[], false, -1⟩ [97, 32, 98] = (⟨recB [97, 32, 98], false, -1⟩, 0) := by
    have h1 : ¬ (262144 < ([] : List UInt8).length + (recB [97, 32, 98]).length) := by decide +kernel
    rw [apF, if_neg (by decide), if_neg h1]; simp [wrF]
  rw [hA, errV_zero] at KA
  have KR := Lib.hid (fun (W : World) (D : Nat) (hb : Below w.heap.size w W) (hD : DiskAt W w.heap.size D ⟨recB [97, 32, 98], false, -1⟩) => recover_any w.heap.size D _ [[97, 32, 98]] (by have := parse_recs (l := [[97, 32, 98]]) (by simp); simpa using this) W hD hb.size (fun W' h => hT.below (hb.trans h.below)))
  have KB := Lib.hid (fun (W : World) (D : Nat) (s : Dk) (hD : DiskAt W w.heap.size D s) => diskBytes_any w.heap.size D s W hD)
  have hR : (recB [97, 32, 98]).take (List.flatMap recB [[97, 32, 98]]).length = [51, 58, 97, 32, 98, 10, 46] := by decide +kernel
  simp only [hR] at KR
  clear hg hA
  go_enter Tryd.func5, Tryd.ntmps5
  go_wp2_with fail
  refine KN.out.mono ?_
  rintro e w1 ⟨D, rfl, hD1, hb1⟩
  go_wp2_with fail
  refine (KA.out _ D hb1 hD1).mono ?_
  rintro e w2 ⟨rfl, hD2, hS2⟩
  have hb2 := hb1.trans hS2.below
  go_wp2_with fail
  refine (KR.out _ D hb2 hD2).mono ?_
  rintro e w3 ⟨rv, rfl, hown, hD3, hS3⟩
  have hb3 := hb2.trans hS3.below
  obtain ⟨ap, cp, rfl⟩ := owned_shape hown
  have hrow := RowAt.new_at w3 (encTexts [[97, 32, 98]]) 9 _ rfl
  obtain ⟨rp, _, _, _⟩ := RowAt.owned hown
  have hal : Below w3.heap.size w3 (w3.alloc (.cells (encTexts [[97, 32, 98]]).toArray 9)) := (Below.refl _ _).alloc (Nat.le_refl _) _
  have rp2 := rp.below hal
  have hD4 := hD3.below hal
  have hb4 := hb3.trans (hal.mono hb3.size)
  have KS := Lib.hid (sameT_any ap (some ⟨w3.heap.size, 0, none⟩) cp 1 [[97, 32, 98]] _ rp2 hrow (by simp))
  go_wp2_with fail
  refine KS.out.mono ?_
  rintro e w5 ⟨rfl, hb5⟩
  have hD5 := hD4.below hb5
  go_wp2_with fail
  refine (KB.out _ D _ hD5).mono ?_
  rintro e w6 ⟨rfl, rfl⟩
  go_wp2
  go_ret
  exact ⟨rfl, hb4.trans (hb5.mono hb4.size)⟩

theorem text_at {w : World} {a : Option Addr} {l : List (List UInt8)} (h : RowAt w a (encTexts l)) (k : Nat) (hk : k < l.length) :
    ∃ b off, a = some ⟨b, off, none⟩ ∧ b < w.heap.size ∧ w.cell? ⟨b, off + k, none⟩ = some (.string ⟨l[k].toArray⟩) := by
  obtain ⟨b, off, rfl, hb, hc⟩ := h.at (fun e => by have h1 := congrArg List.length e; simp [encTexts] at h1; subst h1; simp at hk)
  exact ⟨b, off, rfl, hb, hc k _ (by simp [encTexts, hk])⟩
theorem ownsRow_step {w w' : World} {base base' size n : Nat} {v : Value} {xs : List Value} (h : w.ownsRow base' 9 size v n xs) (hs : Step base w w') : w'.ownsRow base' 9 size v n xs := by
  refine ⟨h.1, ?_⟩
  rcases h.2 with h | ⟨g, cap, cur, h1, h2, h3, h4⟩
  · exact Or.inl h
  · exact Or.inr ⟨g, cap, cur, h1, h2, hs.kept g cur 9 (0, 0) h3 (by decide) (by decide), h4⟩
theorem DiskAt.grown {w w' : World} {base D : Nat} {s : Dk} {v : Value} {n size : Nat} {xs : List Value} (h : DiskAt w base D s) (hv : w.ownsRow base 9 size v n xs) (hg : w.grownBy w' v.ownBlock) : DiskAt w' base D s := by
  obtain ⟨hB, hl, u, hK, hu⟩ := h
  have hno : ∀ (k : Nat) (c : Array Value) (t : TypeId) (fz : Nat × Nat), w.heap[k]? = some (Obj.cells c t fz) → t ≠ 9 → w'.heap[k]? = w.heap[k]? := fun k c t fz hk ht => by
    refine hg.block k (Array.getElem?_eq_some_iff.1 hk).1 (fun e => ?_)
    rcases hv.2 with ⟨rfl, _⟩ | ⟨g, cap, cur, rfl, h2, h3, h4⟩
    · simp [Value.ownBlock] at e
    · simp [Value.ownBlock] at e
      subst e
      rw [h3] at hk
      simp at hk
      exact ht hk.2.1.symm
  refine ⟨hB, hl, u, (hno D _ _ _ hK (by decide)).trans hK, hu.kept fun g hg2 => ?_⟩
  obtain ⟨_, cur, fz, hc⟩ := hu.bytes g hg2
  exact hno g _ _ _ hc (by decide)
theorem InvC.take {k : Nat} {st : Dk × List (List UInt8)} (h : InvC k st) : st.1.b.take (st.2.flatMap recB).length = st.2.flatMap recB := by
  rcases h.bytes with ⟨_, e, _⟩ | ⟨_, t, p, h1, h2, h3, e⟩
  · rw [e, List.take_length]
  · rw [e, List.take_left]
def omB : List UInt8 := [111, 110, 101, 32, 109, 111, 114, 101]
theorem ap_more {b : List UInt8} (h : b.length ≤ 100000) : apF ⟨b, false, -1⟩ omB = (⟨b ++ recB omB, false, -1⟩, 0) := by
  have h1 := recB_le omB (by decide)
  have h2 : omB.length = 8 := rfl
  rw [apF, if_neg (by omega), if_neg (by dsimp only; omega)]
  simp [wrF]

set_option maxRecDepth 200000 in
set_option maxHeartbeats 3200000 in
theorem tapeCuts_law (ea : Nat → Addr) (a : Option Addr) (n cap : Nat) (l : List (List UInt8)) (cut : Int) (w : World) (hg : Glob w ea [2, 3, 7, 11]) (hT : TxtEnv w)
    (hn : l.length = n) (hr : RowAt w a (encTexts l)) (hl : n ≤ 30) (hc0 : 0 ≤ cut) (hcb : cut ≤ 9223372036854775807) :
    Calls Tryd.prog 3 #[.slice a n cap, .int .i64 cut] w fun e w' => e = .returned (.bool true) ∧ Below w.heap.size w w' := by
  obtain ⟨i0, hi, hz0, hz1, hz2⟩ := info_parts ct_info_string
  have hi' := Lib.hid hi
  have hz0' := Lib.hid hz0
  have hz1' := Lib.hid hz1
  have hz2' := Lib.hid hz2
  clear hi hz0 hz1 hz2
  have hgb : gOf 11 < w.heap.size := hg.lt 11 (by simp)
  have K0 := Lib.hid (taped_any ea w (hg.sub (by simp)) hT)
  have KN := Lib.hid (fun W : World => newDisk_any [] W (by simp))
  have KC := Lib.hid (fun (W : World) (D : Nat) (hb : Below w.heap.size w W) (hD : DiskAt W w.heap.size D ⟨[], false, -1⟩) => diskCut_any ea w.heap.size D _ cut W ((hg.below hb).sub (by simp)) hD)
  have hC : cutF ⟨[], false, -1⟩ cut = (⟨[], false, cut⟩, 0) := by rw [cutF, if_neg (by omega)]; rfl
  rw [hC, errV_zero] at KC
  have KA := Lib.hid (fun (W : World) (D : Nat) (s : Dk) (t : List UInt8) (hb : Below w.heap.size w W) (hD : DiskAt W w.heap.size D s) (ht : t.length ≤ 200) (hc : -1 ≤ s.cut ∧ s.cut ≤ 9223372036854775807) => tapeAppend_any ea w.heap.size D s t W ((hg.below hb).sub (by simp)) (hT.below hb) hD hb.size (by omega) hgb (by omega))
  have KR := Lib.hid (fun (W : World) (D : Nat) (s : Dk) (m : List (List UInt8)) (hP : Parse s.b m) (hb : Below w.heap.size w W) (hD : DiskAt W w.heap.size D s) => recover_any w.heap.size D s m hP W hD hb.size (fun W' h => hT.below (hb.trans h.below)))
  have KB := Lib.hid (fun (W : World) (D : Nat) (s : Dk) (hD : DiskAt W w.heap.size D s) => diskBytes_any w.heap.size D s W hD)
  have KP := Lib.hid (fun (W : World) (D : Nat) (s : Dk) (hD : DiskAt W w.heap.size D s) => diskPower_any w.heap.size D s W hD)
  have KT := Lib.hid (fun (W : World) (b : List UInt8) (m : List (List UInt8)) (hP : Parse b m) (hb : Below w.heap.size w W) (hl : b.length ≤ 300000) => readT_any b m hP W (hT.below hb) hl)
  have HR := Lib.hid hr
  have HN := Lib.hid hn
  have HEP := Lib.hid (fun (k : Nat) (hk : k ≠ 0) => errV_pos ea hk)
  have d1 : decide ((30 : Int) < (n : Int)) = false := decide_eq_false (by omega)
  have d2 : decide (cut < 0) = false := decide_eq_false (by omega)
  clear hg hT hr hn hC
  go_enter Tryd.func3, Tryd.ntmps3
  go_wp2_with fail
  refine K0.out.mono ?_
  rintro e w1 ⟨rfl, hb1⟩
  go_wp2_with fail
  refine (KN.out _).mono ?_
  rintro e w2 ⟨D, rfl, hD2, hbB⟩
  have hD2 := hD2.weak hb1.size
  have hb2 := hb1.trans (hbB.mono hb1.size)
  go_wp2_with fail
  refine (KC.out _ D hb2 hD2).mono ?_
  rintro e w3 ⟨rfl, hD3, hS3⟩
  have hb3 := hb2.trans hS3.below
  have inv0 : InvC 0 (⟨[], false, cut⟩, []) := ⟨by simp, Nat.le_refl _, by simp, by dsimp only; omega, Or.inl ⟨rfl, rfl, hc0⟩⟩
  clear hb1 hbB hD2 hb2 hS3 K0 KN KC
  go_wp2
  go_loopw [8, 9] (fun v i wr => ∃ (k : Nat) (st : Dk × List (List UInt8)), k ≤ n ∧ i = .int .i64 k ∧ InvC k st ∧ wr.ownsRow w.heap.size 9 1 v st.2.length (encTexts st.2) ∧ DiskAt wr w.heap.size D st.1 ∧ Below w.heap.size w wr) (fun _ i _ => n - (intOf i).toNat)
  case atStart => exact ⟨0, _, Nat.zero_le _, rfl, inv0, World.ownsRow_nil _ _ _ _, hD3, hb3⟩
  case round =>
    clear hD3 hb3 inv0
    obtain ⟨k, st, hk, rfl, inv, hown, hD, hb⟩ := hrel
    by_cases hlt : k < n
    · have hkt : k < l.length := by have := HN.out; omega
      obtain ⟨b, off, rfl, hbl, cw⟩ := text_at HR.out k hkt
      have c0 := (hb.cell (p := ⟨b, off + k, none⟩) hbl).trans cw
      have hi0 : (0 : Int) ≤ (k : Int) := by omega
      have hi1 : (k : Int) < (n : Int) := by omega
      generalize l[k] = s at *
      by_cases h200 : 200 < s.length
      · have d3 : decide ((200 : Int) < (s.length : Int)) = true := decide_eq_true (by omega)
        go_wp2
        go_ret
        exact ⟨rfl, hb⟩
      · have d3 : decide ((200 : Int) < (s.length : Int)) = false := decide_eq_false (by omega)
        have inv2 := inv.step (by omega) (t := s) (by omega)
        have K1 := Lib.hid (KA.out wr D st.1 s hb hD (by omega) inv.cut)
        have hmany := inv.many
        clear inv
        by_cases he : (apF st.1 s).2 = 0
        · have hrc : runC st s = ((apF st.1 s).1, st.2 ++ [s]) := by rw [runC, if_pos he]
          rw [hrc] at inv2
          rw [he, errV_zero] at K1
          generalize (apF st.1 s).1 = s2 at *
          obtain ⟨s1, dn⟩ := st
          dsimp only at hown hD K1 inv2 hmany
          clear hrc he
          go_wp2_with fail
          refine K1.out.mono ?_
          rintro e w5 ⟨rfl, hD5, hS5⟩
          have hb5 := hb.trans hS5.below
          have hown5 := ownsRow_step hown hS5
          have c5 := (hb5.cell (p := ⟨b, off + k, none⟩) hbl).trans cw
          have HO2 := Lib.hid (hown5.alloc (.cells #[.string ⟨s.toArray⟩] 9))
          have HW := Lib.hid (RowAt.new_at w5 [.string ⟨s.toArray⟩] 9 _ rfl)
          have HV := Lib.hid (hb5.alloc hb5.size (.cells #[.string ⟨s.toArray⟩] 9))
          have HD := Lib.hid (hD5.below ((Below.refl w5.heap.size w5).alloc (Nat.le_refl _) (.cells #[.string ⟨s.toArray⟩] 9)))
          clear hown hown5
          go_wp2_with (at_builtin; refine wpList_append2 _ rfl (.tmp 60) (.tmp 65) 22 rfl w.heap.size 9 i0 _ 1 16 Tryd.underlying22 hi'.out hz0'.out hz1'.out hz2'.out rfl (by decide) _ dn.length (encTexts dn) rfl HO2.out (some ⟨w5.heap.size, 0, none⟩) 1 1 [.string ⟨s.toArray⟩] rfl rfl HW.out ?_ ?_ ?_ ?_ ?_; (simp [Value.oneCell']); (unfold maxLen; omega); (omega); (exact HV.out.size); intro v1 w6 ho1 hg1 hq hm1; clear hq hm1)
          have hv6 := HV.out.grown hg1 HV.out.size (fun j e => (HO2.out.lt j e).1)
          go_roundw
          case rel => exact ⟨k + 1, (s2, dn ++ [s]), by omega, by go_num, inv2, by rw [List.length_append, List.length_singleton, encT_snoc]; exact ho1, HD.out.grown HO2.out hg1, hv6⟩
          case measure => simp [intOf]; omega
        · have hrc : runC st s = ((apF st.1 s).1, st.2) := by rw [runC, if_neg he]
          rw [hrc] at inv2
          rw [HEP.out _ he] at K1
          generalize (apF st.1 s).1 = s2 at *
          obtain ⟨s1, dn⟩ := st
          dsimp only at hown hD K1 inv2 hmany
          clear hrc he
          go_wp2_with fail
          refine K1.out.mono ?_
          rintro e w5 ⟨rfl, hD5, hS5⟩
          have hb5 := hb.trans hS5.below
          have hown5 := ownsRow_step hown hS5
          go_wp2
          go_roundw
          case rel => exact ⟨k + 1, (s2, dn), by omega, by go_num, inv2, hown5, hD5, hb5⟩
          case measure => simp [intOf]; omega
    · obtain rfl : k = n := by omega
      have htk := inv.take
      have hsz := inv.size
      have hmany := inv.many
      have hlens := inv.lens
      have hPs := inv.parse
      obtain ⟨s1, dn⟩ := st
      dsimp only at htk hsz hmany hlens hPs hown hD
      have hFl : (dn.flatMap recB).length ≤ 100000 := by
        have := congrArg List.length htk
        rw [List.length_take] at this; omega
      have K1 := Lib.hid (KR.out wr D s1 dn hPs hb hD)
      rw [htk] at K1
      have hom : Parse (dn.flatMap recB ++ recB omB) (dn ++ [omB]) := by
        have := parse_recs (l := dn ++ [omB]) (fun s hs => by
          rcases List.mem_append.1 hs with h | h
          · have := hlens s h; omega
          · rw [List.mem_singleton.1 h]; decide)
        simpa using this
      have hmo := ap_more hFl
      have hfl : ((dn ++ [omB]).flatMap recB).length = (dn.flatMap recB ++ recB omB).length := by simp
      have hll : (dn.flatMap recB ++ recB omB).length ≤ 300000 := by
        have h1 := recB_le omB (by decide)
        have h2 : omB.length = 8 := rfl
        rw [List.length_append]; omega
      obtain ⟨ad, cd, rfl⟩ := owned_shape hown
      clear inv htk hPs
      go_wp2_with fail
      refine K1.out.mono ?_
      rintro e w5 ⟨rv, rfl, hrv, hD5, hS5⟩
      have hb5 := hb.trans hS5.below
      have hown5 := ownsRow_step hown hS5
      obtain ⟨ar, cr, rfl⟩ := owned_shape hrv
      obtain ⟨rr, _, _, _⟩ := RowAt.owned hrv
      obtain ⟨rd, _, _, _⟩ := RowAt.owned hown5
      have KS := Lib.hid (sameT_any ar ad cr cd dn w5 rr rd (by omega))
      go_wp2_with fail
      refine KS.out.mono ?_
      rintro e w6 ⟨rfl, hb56⟩
      have hD6 := hD5.below hb56
      have hb6 := hb5.trans (hb56.mono hb5.size)
      go_wp2_with fail
      refine (KP.out _ D _ hD6).mono ?_
      rintro e w7 ⟨rfl, rfl⟩
      have K2 := Lib.hid (KA.out w6 D _ omB hb6 hD6 (by decide) ⟨by show (-1 : Int) ≤ -1; omega, by show (-1 : Int) ≤ _; omega⟩)
      rw [hmo, errV_zero] at K2
      go_wp2_with fail
      refine K2.out.mono ?_
      rintro e w8 ⟨rfl, hD8, hS8⟩
      have hb8 := hb6.trans hS8.below
      generalize hQ : dn.flatMap recB ++ recB omB = Q at *
      go_wp2_with fail
      refine (KB.out _ D _ hD8).mono ?_
      rintro e w9 ⟨rfl, rfl⟩
      go_wp2_with fail
      refine (KT.out _ Q _ hom hb8 hll).mono ?_
      rintro e wA ⟨rv2, rfl, hrv2, hbA⟩
      have hbA2 := hb8.trans (hbA.mono hb8.size)
      have hDA := hD8.below hbA
      obtain ⟨a2, c2, rfl⟩ := owned_shape hrv2
      obtain ⟨r2, _, _, _⟩ := RowAt.owned hrv2
      have hl2 : (dn ++ [omB]).length = dn.length + 1 := by simp
      obtain ⟨b2, o2, rfl, hb2l, x0⟩ := text_at r2 dn.length (by omega)
      have hel : (dn ++ [omB])[dn.length]'(by omega) = omB := by simp
      rw [hel] at x0
      rw [hfl, hl2] at *
      have hj0 : (0 : Int) ≤ (dn.length : Int) := by omega
      have hj1 : (dn.length : Int) < ((dn.length + 1 : Nat) : Int) := by omega
      go_wp2_with fail
      refine (KB.out _ D _ hDA).mono ?_
      rintro e w9 ⟨rfl, rfl⟩
      go_wp2
      go_ret
      exact ⟨rfl, hbA2⟩

set_option maxRecDepth 100000 in
theorem walk_TapeCuts (ea : Nat → Addr) (a : Option Addr) (n cap : Nat) (l : List (List UInt8)) (cut : Int) (w : World) (hg : Glob w ea [2, 3, 7, 11]) (hT : TxtEnv w)
    (hn : l.length = n) (hr : RowAt w a (encTexts l)) (_hcap : n ≤ cap) (hm : n ≤ 4611686018427387904) (hc : -9223372036854775808 ≤ cut ∧ cut ≤ 9223372036854775807) :
    Calls Tryd.prog 3 #[.slice a n cap, .int .i64 cut] w fun e w' => e = .returned (.bool true) ∧ Below w.heap.size w w' := by
  by_cases h1 : n ≤ 30
  · by_cases h2 : 0 ≤ cut
    · exact tapeCuts_law ea a n cap l cut w hg hT hn hr h1 h2 hc.2
    · have K0 := Lib.hid (taped_any ea w (hg.sub (by simp)) hT)
      have d1 : decide ((30 : Int) < (n : Int)) = false := decide_eq_false (by omega)
      have d2 : decide (cut < 0) = true := decide_eq_true (by omega)
      clear hg hT hn hr
      go_enter Tryd.func3, Tryd.ntmps3
      go_wp2_with fail
      refine K0.out.mono ?_
      rintro e w1 ⟨rfl, hb1⟩
      go_wp2
      go_ret
      exact ⟨rfl, hb1⟩
  · have K0 := Lib.hid (taped_any ea w (hg.sub (by simp)) hT)
    have d1 : decide ((30 : Int) < (n : Int)) = true := decide_eq_true (by omega)
    clear hg hT hn hr
    go_enter Tryd.func3, Tryd.ntmps3
    go_wp2_with fail
    refine K0.out.mono ?_
    rintro e w1 ⟨rfl, hb1⟩
    go_wp2
    go_ret
    exact ⟨rfl, hb1⟩
end Go.Proofs.YtgghnncgeogemaaDoor
