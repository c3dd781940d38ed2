/- the reference's ReadHistory. -/
import Derived.Test.YtbfocagicagehaaGreatDoorRefNum
import Derived.Test.YtbfocagicagehaaGreatDoorRefHist
import Derived.Test.YtbfocagicagehaaGreatDoorFoldPlain
import Derived.Test.YtbfocagicagehaaGreatDoorLib
import Derived.RegionTactic
namespace Go.Proofs.YtbfocagicagehaaGreatDoor
open Go.RowKit

theorem rh_info : (Tryz.prog.info? 82).map (fun i => (i.zero, i.size, i.bytes)) = some (some (.agg #[.int .i64 0, .int .i64 0, .bool false, .int .i64 0]), 4, 32) := by kernel_rfl
theorem foldR_bad {s : List UInt8} (hl : s.length ≤ 4000) (hne : s ≠ [45]) (h : histAcc (cutL 44 s) = none) : foldR s = ((1, -1), []) := by rw [foldR, if_neg (by omega), if_neg hne, h]
theorem foldR_good {s : List UInt8} (hl : s.length ≤ 4000) (hne : s ≠ [45]) {es : List Ent} (h : histAcc (cutL 44 s) = some es) : foldR s = if (chk es).1 = 0 then ((0, -1), es) else (chk es, []) := by rw [foldR, if_neg (by omega), if_neg hne, h]
theorem acc_bad {ws : List (List UInt8)} {k : Nat} (hk : k < ws.length) {es : List Ent} (h : histAcc (ws.take k) = some es) (hb : oneB ws[k] = false) : histAcc ws = none := by
  have h1 : histAcc (ws.take (k + 1)) = none := by rw [List.take_succ_eq_append_getElem hk, histAcc_snoc, h, histStep, Option.bind_some, if_neg (by simp [hb])]
  have := histAcc_none (ws.drop (k + 1)) h1
  rwa [List.take_append_drop] at this
theorem acc_good {ws : List (List UInt8)} {k : Nat} (hk : k < ws.length) {es : List Ent} (h : histAcc (ws.take k) = some es) (hb : oneB ws[k] = true) :
    histAcc (ws.take (k + 1)) = some (es ++ [⟨(es.length : Int), (oneE ws[k]).frm, (oneE ws[k]).heard, (oneE ws[k]).value⟩]) := by
  rw [List.take_succ_eq_append_getElem hk, histAcc_snoc, h, histStep, Option.bind_some, if_pos hb]
theorem text_cell {w : World} {a : Option Addr} {l : List (List UInt8)} (h : RowAt w a (encTexts l)) (k : Nat) (hk : k < l.length) :
    ∃ b off, a = some ⟨b, off, none⟩ ∧ b < w.heap.size ∧ w.cell? ⟨b, off + k, none⟩ = some (.string ⟨l[k].toArray⟩) := by
  obtain ⟨b, off, rfl, hlt, hc⟩ := h.at (fun e => by have := congrArg List.length e; simp [encTexts] at this; rw [this] at hk; simp at hk)
  exact ⟨b, off, rfl, hlt, hc k _ (by simp [encTexts, hk])⟩
theorem not_ent {w : World} {E b o : Nat} {x0 x1 x3 : Int} {x2 : Bool} {t : TypeId} {y : ByteArray} (h : Blok w E t #[.int .i64 x0, .int .i64 x1, .bool x2, .int .i64 x3]) (hc : w.cell? ⟨b, o, none⟩ = some (.string y)) : b ≠ E := by
  rintro rfl
  simp only [World.cell?, show w.heap[b]? = _ from h] at hc
  match o, hc with
  | 0, hc => cases hc
  | 1, hc => cases hc
  | 2, hc => cases hc
  | 3, hc => cases hc
  | n + 4, hc => simp at hc

theorem Blok.setOther {W : World} {b : Nat} {t : TypeId} {cs : Array Value} (h : Blok W b t cs) {c : Nat} (o : Nat) (v : Value) (hne : b ≠ c) : Blok (W.setCell ⟨c, o, none⟩ v) b t cs :=
  (Below.heap_setCell _ _ _ _ (by simpa using hne)).trans h
theorem Blok.set {W : World} {b : Nat} {t : TypeId} {cs : Array Value} (h : Blok W b t cs) (o : Nat) (v : Value) : Blok (W.setCell ⟨b, o, none⟩ v) b t (cs.setIfInBounds o v) := by
  have h' : W.heap[b]? = _ := h
  unfold Blok World.setCell
  simp [Array.getElem?_modify, h']
theorem grownBy_setAt (W : World) (b o : Nat) (v : Value) : W.grownBy (W.setCell ⟨b, o, none⟩ v) (some b) :=
  ⟨rfl, rfl, rfl, (KeepsWalks.setCell W _ v).size, fun k _ hk => Below.heap_setCell _ _ _ k (fun e => hk (by rw [e]))⟩
theorem ownsRow_setAt {W : World} {base : Nat} {e : TypeId} {size : Nat} {v : Value} {k : Nat} {xs : List Value} (h : W.ownsRow base e size v k xs) {b : Nat} (hb : ∀ j, v.ownBlock = some j → j < b) (o : Nat) (u : Value) : (W.setCell ⟨b, o, none⟩ u).ownsRow base e size v k xs :=
  h.kept (grownBy_setAt W b o u) (.inr (fun e => by have := hb b e; omega))
/-- What ReadHistory answers: its post. -/
def RHPost (s : List UInt8) (w : World) (e : Ending) (w' : World) : Prop := ∃ ao n co, e = .returned (.tuple #[.slice ao n co, .agg #[.int .i64 (foldR s).1.1, .int .i64 (foldR s).1.2]]) ∧ RowAt w' ao (encEnts (foldR s).2) ∧ (foldR s).2.length = n ∧ n ≤ co ∧ Below w.heap.size w w'

set_option maxRecDepth 400000 in
set_option maxHeartbeats 6400000 in
theorem readHist_loop (s : List UInt8) (w : World) (hl : s.length ≤ 4000) (hne : s ≠ [45]) :
    Calls Tryz.prog 18 #[.string ⟨s.toArray⟩] w (RHPost s w) := by
  have hb0 : Below w.heap.size w (w.alloc (.cells #[.int .i64 0, .int .i64 0] 25)) := (Below.refl _ _).alloc (Nat.le_refl _) _
  have KC := Lib.hid (fun (W : World) => refCut_any s 44 W (by omega))
  have hq : (s == [45]) = false := by simpa using hne
  have hlong : decide ((4000 : Int) < (s.length : Int)) = false := by simp; omega
  have HBad := Lib.hid (fun h => foldR_bad hl hne h)
  have HGood := Lib.hid (fun es h => foldR_good hl hne (es := es) h)
  have HPc := Lib.hid (cutL_piece 44 s)
  obtain ⟨i0, hi, hz0, hz1, hz2⟩ := info_parts rh_info
  have hi' := Lib.hid hi
  have hz0' := Lib.hid hz0
  have hz1' := Lib.hid hz1
  have hz2' := Lib.hid hz2
  clear hi hz0 hz1 hz2 hne
  have hcl := cutL_length 44 s
  generalize cutL 44 s = ws at *
  go_enter Tryz.func18, Tryz.ntmps18
  go_wp2_with fail
  refine (KC.out _).mono ?_
  rintro e w1 ⟨aw, nw, cw, rfl, hrw, hnw, hcw, hb1⟩
  have hv1 := hb0.trans (hb1.mono hb0.size)
  have bF := (Blok.new w 25 #[.int .i64 0, .int .i64 0]).kept hb1
  have HNW := Lib.hid hnw
  have HRW := Lib.hid hrw
  clear hb1 hnw hrw KC
  go_wp2
  go_loopw [5, 6] (fun v i wr => ∃ (k : Nat) (es : List Ent), k ≤ nw ∧ i = .int .i64 k ∧ Hid (histAcc (ws.take k) = some es) ∧ es.length = k ∧ wr.ownsRow w1.heap.size 82 4 v k (encEnts es) ∧ Below w1.heap.size w1 wr) (fun _ i _ => nw - (intOf i).toNat)
  case atStart => exact ⟨0, [], Nat.zero_le _, rfl, rfl, rfl, World.ownsRow_nil _ _ _ _, Below.refl _ _⟩
  case round =>
    obtain ⟨k, es, hk, rfl, hacc, hek, hown, hb⟩ := hrel
    by_cases hlt : k < nw
    · have hk1 : k < ws.length := by have := HNW.out; omega
      obtain ⟨bw, ow, rfl, hbw, cw0⟩ := text_cell HRW.out k hk1
      have cw1 := (hb.cell (p := ⟨bw, ow + k, none⟩) hbw).trans cw0
      have hxl := HPc.out ws[k] (List.getElem_mem hk1)
      have HAB := Lib.hid (fun h => acc_bad hk1 hacc.out h)
      have HAG := Lib.hid (fun h => acc_good hk1 hacc.out h)
      generalize ws[k] = x at *
      have KX := Lib.hid (fun (W : World) => refCut_any x 58 W (by omega))
      have hi0 : (0 : Int) ≤ (k : Int) := by omega
      have hi1 : (k : Int) < (nw : Int) := by omega
      have hsz := hb.size
      have cw2 := ((((Below.refl wr.heap.size wr).alloc (Nat.le_refl _) (.cells #[.int .i64 k, .int .i64 0, .bool false, .int .i64 0] 82))).cell (p := ⟨bw, ow + k, none⟩) (by show bw < wr.heap.size; omega)).trans cw1
      go_wp2_with fail
      refine (KX.out _).mono ?_
      rintro e w2 ⟨ap, np, cp, rfl, hrp, hnp, hcp, hb2⟩
      have bE := (Blok.new wr 82 #[.int .i64 k, .int .i64 0, .bool false, .int .i64 0]).kept hb2
      have hb12 : Below wr.heap.size wr w2 := ((Below.refl _ _).alloc (Nat.le_refl _) _).trans (hb2.mono (by simp))
      have HOE := Lib.hid (fun j e => (hown.lt j e).2)
      have hown := ownsRow_below hown hb12
      have hv2 := hb.trans (hb12.mono hsz)
      have hEl := bE.lt
      have hFE : w.heap.size < wr.heap.size := by have := bF.lt; omega
      have bF2 := bF.kept hv2
      clear hb2 hb12 KX cw0 cw1 cw2
      generalize wr.heap.size = E at *
      match hp : cutL 58 x, hrp, hnp with
      | [], _, _ => exact absurd hp (cutL_ne 58 x)
      -- BRANCHES
      | [a], hrp, hnp =>
        obtain ⟨rfl, hno⟩ := cutL_single hp
        obtain rfl : 1 = np := by simpa using hnp
        obtain ⟨bp, op, rfl, hbp, q0⟩ := text_cell hrp 0 (by simp)
        have q0 : w2.cell? ⟨bp, op, none⟩ = some (.string ⟨x.toArray⟩) := q0
        have hnE := not_ent bE q0
        have hnE2 : ¬ (E = bp) := fun e => hnE e.symm
        have bF3 := bF2.setOther (c := E) 2 (.bool false) (by omega)
        have hv3 := hv2.setCell (p := ⟨E, 2, none⟩) hsz (.bool false)
        have r0 := bE.cell 0 rfl
        have r1 := bE.cell 1 rfl
        have r2 := bE.cell 2 rfl
        have r3 := bE.cell 3 rfl
        have f1 := bE.frozen 1
        have f2 := bE.frozen 2
        have f3 := bE.frozen 3
        by_cases ha : x = []
        · subst ha
          have HB := Lib.hid (HBad.out (HAB.out (one_plain (by simp) (by decide))))
          go_wp2_with fail
          refine (bare_any _ _).mono ?_
          rintro e w9 ⟨rfl, hb9⟩
          have bF9 := bF3.kept hb9
          have hv9 := hv3.trans (hb9.mono hv3.size)
          have z0 := bF9.cell 0 rfl
          have z1 := bF9.cell 1 rfl
          have y0 := bF9.frozen 0
          have y1 := bF9.frozen 1
          go_wp2
          refine bodyPost_ret (v := .tuple #[.slice none 0 0, .agg #[.int .i64 1, .int .i64 (-1)]]) (by simp [results, Tryz.results18, go_sem, z0, z1]) rfl ?_
          refine ⟨none, 0, 0, by rw [HB.out]; rfl, by rw [HB.out]; exact Or.inl rfl, by rw [HB.out]; rfl, Nat.le_refl _, ?_⟩
          exact ((hv1.trans (hv9.mono hv1.size)).setCell (by simp) _).setCell (by simp) _
        · rcases List.eq_nil_or_concat x with h | ⟨a', y, rfl⟩
          · exact absurd h ha
          · simp only [List.concat_eq_append] at *
            have hln : (a' ++ [y]).length = a'.length + 1 := by simp
            have hgy : (⟨(a' ++ [y]).toArray⟩ : ByteArray)[a'.length]'(by simp [ByteArray.size]) = y := by
              have := ba_get (a' ++ [y]) a'.length (by simp)
              rw [this]; simp
            have htk : (⟨(a' ++ [y]).toArray⟩ : ByteArray).extract 0 a'.length = ⟨a'.toArray⟩ := by rw [ba_take]; simp
            by_cases hy : y = 33
            · subst hy
              have hob := one_bang a'
              by_cases ha' : a' = []
              · subst ha'
                have HB := Lib.hid (HBad.out (HAB.out (by rw [hob.1, numIs_nil])))
                have htk' : (⟨#[33]⟩ : ByteArray).extract 0 0 = ⟨#[]⟩ := htk
                go_wp2_with fail
                refine (bare_any _ _).mono ?_
                rintro e w9 ⟨rfl, hb9⟩
                have bF9 := bF3.kept hb9
                have hv9 := hv3.trans (hb9.mono hv3.size)
                have z0 := bF9.cell 0 rfl
                have z1 := bF9.cell 1 rfl
                have y0 := bF9.frozen 0
                have y1 := bF9.frozen 1
                go_wp2
                refine bodyPost_ret (v := .tuple #[.slice none 0 0, .agg #[.int .i64 1, .int .i64 (-1)]]) (by simp [results, Tryz.results18, go_sem, z0, z1]) rfl ?_
                refine ⟨none, 0, 0, by rw [HB.out]; rfl, by rw [HB.out]; exact Or.inl rfl, by rw [HB.out]; rfl, Nat.le_refl _, ?_⟩
                exact ((hv1.trans (hv9.mono hv1.size)).setCell (by simp) _).setCell (by simp) _
              · have hab : (a' == []) = false := by simpa using ha'
                have KN := Lib.hid (fun (W : World) => numberOf_any a' W (by omega))
                cases hn : numIs a'
                · have HB := Lib.hid (HBad.out (HAB.out (by rw [hob.1, hn])))
                  rw [hn] at KN
                  go_wp2_with fail
                  refine (KN.out _).mono ?_
                  rintro e w4 ⟨rfl, rfl⟩
                  go_wp2_with fail
                  refine (bare_any _ _).mono ?_
                  rintro e w9 ⟨rfl, hb9⟩
                  have bF9 := bF3.kept hb9
                  have hv9 := hv3.trans (hb9.mono hv3.size)
                  have z0 := bF9.cell 0 rfl
                  have z1 := bF9.cell 1 rfl
                  have y0 := bF9.frozen 0
                  have y1 := bF9.frozen 1
                  go_wp2
                  refine bodyPost_ret (v := .tuple #[.slice none 0 0, .agg #[.int .i64 1, .int .i64 (-1)]]) (by simp [results, Tryz.results18, go_sem, z0, z1]) rfl ?_
                  refine ⟨none, 0, 0, by rw [HB.out]; rfl, by rw [HB.out]; exact Or.inl rfl, by rw [HB.out]; rfl, Nat.le_refl _, ?_⟩
                  exact ((hv1.trans (hv9.mono hv1.size)).setCell (by simp) _).setCell (by simp) _
                · have HEv := Lib.hid hob.2
                  rw [hn] at KN
                  have hone : oneB (a' ++ [33]) = true := by rw [hob.1, hn]
                  generalize numN a' = n1 at *
                  go_wp2_with fail
                  refine (KN.out _).mono ?_
                  rintro e w4 ⟨rfl, rfl⟩
                  have HA := Lib.hid (HAG.out hone)
                  have HEnt : Hid (encEnts (es ++ [⟨(es.length : Int), (oneE (a' ++ [33])).frm, (oneE (a' ++ [33])).heard, (oneE (a' ++ [33])).value⟩]) = encEnts es ++ [.int .i64 k, .int .i64 n1, .bool false, .int .i64 0]) := by
                    unfold Hid; rw [encEnts_snoc, HEv.out, hek]; rfl
                  have bE5 := ((bE.set 2 (.bool false)).set 1 (.int .i64 n1)).set 3 (.int .i64 0)
                  have hown5 := ((ownsRow_setAt hown HOE.out 2 (.bool false))|> fun h => ownsRow_setAt h HOE.out 1 (.int .i64 n1)) |> fun h => ownsRow_setAt h HOE.out 3 (.int .i64 0)
                  have hv5 := (hv3.setCell (p := ⟨E, 1, none⟩) hsz (.int .i64 n1)).setCell (p := ⟨E, 3, none⟩) hsz (.int .i64 0)
                  have HO := Lib.hid (hown5.alloc (.cells #[.int .i64 k, .int .i64 n1, .bool false, .int .i64 0] 82))
                  have HV := Lib.hid (hv5.alloc hv5.size (.cells #[.int .i64 k, .int .i64 n1, .bool false, .int .i64 0] 82))
                  have HW := Lib.hid (RowAt.new_at (((w2.setCell ⟨E, 2, none⟩ (.bool false)).setCell ⟨E, 1, none⟩ (.int .i64 n1)).setCell ⟨E, 3, none⟩ (.int .i64 0)) [.int .i64 k, .int .i64 n1, .bool false, .int .i64 0] 82 w2.heap.size (by simp))
                  clear hown hown5
                  go_wp2_with (at_builtin; refine wpList_append2 _ rfl (.tmp 97) (.tmp 99) 22 rfl w1.heap.size 82 i0 _ 4 32 Tryz.underlying22 hi'.out hz0'.out hz1'.out hz2'.out rfl (by decide) _ k (encEnts es) rfl HO.out (some ⟨w2.heap.size, 0, none⟩) 1 1 [.int .i64 k, .int .i64 n1, .bool false, .int .i64 0] rfl rfl HW.out ?_ ?_ ?_ ?_ ?_; (simp [Value.oneCell']); (unfold maxLen; omega); (omega); (exact HV.out.size); intro v1 w5 ho1 hg1 hq hm1; clear hq hm1)
                  go_roundw
                  case rel => exact ⟨k + 1, _, by omega, by go_num, HA.out, by rw [List.length_append, hek]; rfl, by rw [HEnt.out]; exact ho1, HV.out.grown hg1 HV.out.size (fun j e => (HO.out.lt j e).1)⟩
                  case measure => simp [intOf]; omega
            · have hyn : y.toNat ≠ 33 := fun e => hy (UInt8.toNat_inj.1 e)
              have hyb : (y.toNat != 33) = true := by simpa using hyn
              have hyc : ((y.toNat : Int) != 33) = true := by simp; omega
              have HB := Lib.hid (HBad.out (HAB.out (one_plain hno (by rw [hasSuffix_last _ _ ha]; simpa using hy))))
              go_wp2_with fail
              refine (bare_any _ _).mono ?_
              rintro e w9 ⟨rfl, hb9⟩
              have bF9 := bF3.kept hb9
              have hv9 := hv3.trans (hb9.mono hv3.size)
              have z0 := bF9.cell 0 rfl
              have z1 := bF9.cell 1 rfl
              have y0 := bF9.frozen 0
              have y1 := bF9.frozen 1
              go_wp2
              refine bodyPost_ret (v := .tuple #[.slice none 0 0, .agg #[.int .i64 1, .int .i64 (-1)]]) (by simp [results, Tryz.results18, go_sem, z0, z1]) rfl ?_
              refine ⟨none, 0, 0, by rw [HB.out]; rfl, by rw [HB.out]; exact Or.inl rfl, by rw [HB.out]; rfl, Nat.le_refl _, ?_⟩
              exact ((hv1.trans (hv9.mono hv1.size)).setCell (by simp) _).setCell (by simp) _
      | [a, b], hrp, hnp =>
        obtain rfl : 2 = np := by simpa using hnp
        have hot := one_two hp
        obtain ⟨bp, op, rfl, hbp, q0⟩ := text_cell hrp 0 (by simp)
        have q0 : w2.cell? ⟨bp, op, none⟩ = some (.string ⟨a.toArray⟩) := q0
        have hnE := not_ent bE q0
        have hnE2 : ¬ (E = bp) := fun e => hnE e.symm
        have bF3 := bF2.setOther (c := E) 2 (.bool true) (by omega)
        have hv3 := hv2.setCell (p := ⟨E, 2, none⟩) hsz (.bool true)
        have r0 := bE.cell 0 rfl
        have r1 := bE.cell 1 rfl
        have r2 := bE.cell 2 rfl
        have r3 := bE.cell 3 rfl
        have f1 := bE.frozen 1
        have f2 := bE.frozen 2
        have f3 := bE.frozen 3
        obtain ⟨bp', op', he, _, q1⟩ := text_cell hrp 1 (by simp)
        injection he with he
        injection he with he1 he2
        subst he1 he2
        have q1 : w2.cell? ⟨bp, op + 1, none⟩ = some (.string ⟨b.toArray⟩) := q1
        have hla := cutL_piece 58 x a (by rw [hp]; simp)
        have hlb := cutL_piece 58 x b (by rw [hp]; simp)
        by_cases ha : a = []
        · subst ha
          have HB := Lib.hid (HBad.out (HAB.out (by rw [hot.1, numIs_nil]; rfl)))
          go_wp2_with fail
          refine (bare_any _ _).mono ?_
          rintro e w9 ⟨rfl, hb9⟩
          have bF9 := bF3.kept hb9
          have hv9 := hv3.trans (hb9.mono hv3.size)
          have z0 := bF9.cell 0 rfl
          have z1 := bF9.cell 1 rfl
          have y0 := bF9.frozen 0
          have y1 := bF9.frozen 1
          go_wp2
          refine bodyPost_ret (v := .tuple #[.slice none 0 0, .agg #[.int .i64 1, .int .i64 (-1)]]) (by simp [results, Tryz.results18, go_sem, z0, z1]) rfl ?_
          refine ⟨none, 0, 0, by rw [HB.out]; rfl, by rw [HB.out]; exact Or.inl rfl, by rw [HB.out]; rfl, Nat.le_refl _, ?_⟩
          exact ((hv1.trans (hv9.mono hv1.size)).setCell (by simp) _).setCell (by simp) _
        · have hab : (a == []) = false := by simpa using ha
          have KN := Lib.hid (fun (W : World) => numberOf_any a W (by omega))
          have KM := Lib.hid (fun (W : World) => numberOf_any b W (by omega))
          cases hn : numIs a
          · have HB := Lib.hid (HBad.out (HAB.out (by rw [hot.1, hn]; rfl)))
            rw [hn] at KN
            go_wp2_with fail
            refine (KN.out _).mono ?_
            rintro e w4 ⟨rfl, rfl⟩
            go_wp2_with fail
            refine (KM.out _).mono ?_
            rintro e w4 ⟨rfl, rfl⟩
            go_wp2_with fail
            refine (bare_any _ _).mono ?_
            rintro e w9 ⟨rfl, hb9⟩
            have bF9 := bF3.kept hb9
            have hv9 := hv3.trans (hb9.mono hv3.size)
            have z0 := bF9.cell 0 rfl
            have z1 := bF9.cell 1 rfl
            have y0 := bF9.frozen 0
            have y1 := bF9.frozen 1
            go_wp2
            refine bodyPost_ret (v := .tuple #[.slice none 0 0, .agg #[.int .i64 1, .int .i64 (-1)]]) (by simp [results, Tryz.results18, go_sem, z0, z1]) rfl ?_
            refine ⟨none, 0, 0, by rw [HB.out]; rfl, by rw [HB.out]; exact Or.inl rfl, by rw [HB.out]; rfl, Nat.le_refl _, ?_⟩
            exact ((hv1.trans (hv9.mono hv1.size)).setCell (by simp) _).setCell (by simp) _
          · cases hm : numIs b
            · have HB := Lib.hid (HBad.out (HAB.out (by rw [hot.1, hn, hm]; rfl)))
              rw [hn] at KN
              rw [hm] at KM
              go_wp2_with fail
              refine (KN.out _).mono ?_
              rintro e w4 ⟨rfl, rfl⟩
              go_wp2_with fail
              refine (KM.out _).mono ?_
              rintro e w4 ⟨rfl, rfl⟩
              go_wp2_with fail
              refine (bare_any _ _).mono ?_
              rintro e w9 ⟨rfl, hb9⟩
              have bF9 := bF3.kept hb9
              have hv9 := hv3.trans (hb9.mono hv3.size)
              have z0 := bF9.cell 0 rfl
              have z1 := bF9.cell 1 rfl
              have y0 := bF9.frozen 0
              have y1 := bF9.frozen 1
              go_wp2
              refine bodyPost_ret (v := .tuple #[.slice none 0 0, .agg #[.int .i64 1, .int .i64 (-1)]]) (by simp [results, Tryz.results18, go_sem, z0, z1]) rfl ?_
              refine ⟨none, 0, 0, by rw [HB.out]; rfl, by rw [HB.out]; exact Or.inl rfl, by rw [HB.out]; rfl, Nat.le_refl _, ?_⟩
              exact ((hv1.trans (hv9.mono hv1.size)).setCell (by simp) _).setCell (by simp) _
            · have hone : oneB x = true := by rw [hot.1, hn, hm]; rfl
              have HEv := Lib.hid (hot.2 hone)
              rw [hn] at KN
              rw [hm] at KM
              generalize numN a = n1 at *
              generalize numN b = n2 at *
              go_wp2_with fail
              refine (KN.out _).mono ?_
              rintro e w4 ⟨rfl, rfl⟩
              go_wp2_with fail
              refine (KM.out _).mono ?_
              rintro e w4 ⟨rfl, rfl⟩
              have HA := Lib.hid (HAG.out hone)
              have HEnt : Hid (encEnts (es ++ [⟨(es.length : Int), (oneE (x)).frm, (oneE (x)).heard, (oneE (x)).value⟩]) = encEnts es ++ [.int .i64 k, .int .i64 n1, .bool true, .int .i64 n2]) := by
                unfold Hid; rw [encEnts_snoc, HEv.out, hek]; rfl
              have bE5 := ((bE.set 2 (.bool true)).set 1 (.int .i64 n1)).set 3 (.int .i64 n2)
              have hown5 := ((ownsRow_setAt hown HOE.out 2 (.bool true))|> fun h => ownsRow_setAt h HOE.out 1 (.int .i64 n1)) |> fun h => ownsRow_setAt h HOE.out 3 (.int .i64 n2)
              have hv5 := (hv3.setCell (p := ⟨E, 1, none⟩) hsz (.int .i64 n1)).setCell (p := ⟨E, 3, none⟩) hsz (.int .i64 n2)
              have HO := Lib.hid (hown5.alloc (.cells #[.int .i64 k, .int .i64 n1, .bool true, .int .i64 n2] 82))
              have HV := Lib.hid (hv5.alloc hv5.size (.cells #[.int .i64 k, .int .i64 n1, .bool true, .int .i64 n2] 82))
              have HW := Lib.hid (RowAt.new_at (((w2.setCell ⟨E, 2, none⟩ (.bool true)).setCell ⟨E, 1, none⟩ (.int .i64 n1)).setCell ⟨E, 3, none⟩ (.int .i64 n2)) [.int .i64 k, .int .i64 n1, .bool true, .int .i64 n2] 82 w2.heap.size (by simp))
              clear hown hown5
              go_wp2_with (at_builtin; refine wpList_append2 _ rfl (.tmp 97) (.tmp 99) 22 rfl w1.heap.size 82 i0 _ 4 32 Tryz.underlying22 hi'.out hz0'.out hz1'.out hz2'.out rfl (by decide) _ k (encEnts es) rfl HO.out (some ⟨w2.heap.size, 0, none⟩) 1 1 [.int .i64 k, .int .i64 n1, .bool true, .int .i64 n2] rfl rfl HW.out ?_ ?_ ?_ ?_ ?_; (simp [Value.oneCell']); (unfold maxLen; omega); (omega); (exact HV.out.size); intro v1 w5 ho1 hg1 hq hm1; clear hq hm1)
              go_roundw
              case rel => exact ⟨k + 1, _, by omega, by go_num, HA.out, by rw [List.length_append, hek]; rfl, by rw [HEnt.out]; exact ho1, HV.out.grown hg1 HV.out.size (fun j e => (HO.out.lt j e).1)⟩
              case measure => simp [intOf]; omega
      | a :: b :: c :: r, hrp, hnp =>
        have HB := Lib.hid (HBad.out (HAB.out (one_many hp)))
        have hnp3 : 3 ≤ np := by simp at hnp; omega
        have hnp2 : ((np : Int) == 2) = false := by simp; omega
        have hnp1 : ((np : Int) == 1) = false := by simp; omega
        have hnp4 : (2 : Int) < (np : Int) := by omega
        obtain ⟨bp, op, rfl, hbp, q0⟩ := text_cell hrp 0 (by simp)
        have q0 : w2.cell? ⟨bp, op, none⟩ = some (.string ⟨a.toArray⟩) := q0
        have hnE := not_ent bE q0
        have hnE2 : ¬ (E = bp) := fun e => hnE e.symm
        have bF3 := bF2.setOther (c := E) 2 (.bool false) (by omega)
        have hv3 := hv2.setCell (p := ⟨E, 2, none⟩) hsz (.bool false)
        have r0 := bE.cell 0 rfl
        have r1 := bE.cell 1 rfl
        have r2 := bE.cell 2 rfl
        have r3 := bE.cell 3 rfl
        have f1 := bE.frozen 1
        have f2 := bE.frozen 2
        have f3 := bE.frozen 3
        go_wp2_with fail
        refine (bare_any _ _).mono ?_
        rintro e w9 ⟨rfl, hb9⟩
        have bF9 := bF3.kept hb9
        have hv9 := hv3.trans (hb9.mono hv3.size)
        have z0 := bF9.cell 0 rfl
        have z1 := bF9.cell 1 rfl
        have y0 := bF9.frozen 0
        have y1 := bF9.frozen 1
        go_wp2
        refine bodyPost_ret (v := .tuple #[.slice none 0 0, .agg #[.int .i64 1, .int .i64 (-1)]]) (by simp [results, Tryz.results18, go_sem, z0, z1]) rfl ?_
        refine ⟨none, 0, 0, by rw [HB.out]; rfl, by rw [HB.out]; exact Or.inl rfl, by rw [HB.out]; rfl, Nat.le_refl _, ?_⟩
        exact ((hv1.trans (hv9.mono hv1.size)).setCell (by simp) _).setCell (by simp) _
      -- END
    · obtain rfl : k = nw := by omega
      have hac : histAcc ws = some es := by have := hacc.out; rwa [List.take_of_length_le (by have := HNW.out; omega)] at this
      have hG2 := HGood.out es hac
      obtain ⟨ao, co, rfl⟩ := owned_shape hown
      obtain ⟨ra, _, na, _⟩ := RowAt.owned hown
      have KH := Lib.hid (histFault_any ao k co es wr hek ra (by have := HNW.out; omega))
      have bFr := bF.kept hb
      have hv2 := hv1.trans (hb.mono hv1.size)
      by_cases h0 : (chk es).1 = 0
      · have HR : Hid (foldR s = ((0, -1), es)) := by unfold Hid; rw [hG2, if_pos h0]
        rw [chk_zero h0] at KH
        simp only [Int.cast_ofNat_Int] at KH
        have HOw := Lib.hid hown
        clear hG2 h0 hown
        go_wp2_with fail
        refine KH.out.mono ?_
        rintro e w2 ⟨rfl, hb2⟩
        have bF3 := (bFr.kept hb2).alloc (.cells #[.int .i64 0, .int .i64 (-1)] 25)
        have bT := Blok.new w2 25 #[.int .i64 0, .int .i64 (-1)]
        have hne1 : ¬ (w.heap.size = w2.heap.size) := by have := (bFr.kept hb2).lt; omega
        have hne2 : ¬ (w2.heap.size = w.heap.size) := by omega
        have hv3 := (hv2.trans (hb2.mono hv2.size))
        have hv4 := hv3.alloc hv3.size (.cells #[.int .i64 0, .int .i64 (-1)] 25)
        have HO4 := Lib.hid ((ownsRow_below HOw.out hb2).alloc (.cells #[.int .i64 0, .int .i64 (-1)] 25))
        have HBL := Lib.hid (bF.lt)
        have z0 := bF3.cell 0 rfl
        have z1 := bF3.cell 1 rfl
        have y0 := bF3.frozen 0
        have y1 := bF3.frozen 1
        have t0 := bT.cell 0 rfl
        have t1 := bT.cell 1 rfl
        go_wp2
        go_region
        all_goals
          go_wp2
          refine bodyPost_ret (v := .tuple #[.slice ao k co, .agg #[.int .i64 0, .int .i64 (-1)]]) (by simp [results, Tryz.results18, go_sem, z0, z1]) rfl ?_
          refine ⟨ao, k, co, by rw [HR.out]; rfl, ?_, by rw [HR.out]; exact hek, na, ?_⟩
          · rw [HR.out]
            have h5 := HO4.out.kept (grownBy_setAt _ w.heap.size 0 (.int .i64 0)) (.inr (ownBlock_ge HO4.out HBL.out).symm)
            have h6 := h5.kept (grownBy_setAt _ w.heap.size 1 (.int .i64 (-1))) (.inr (ownBlock_ge h5 HBL.out).symm)
            exact (RowAt.owned h6).1.below (Below.refl _ _).drew
          · exact ((hv4.setCell (by simp) _).setCell (by simp) _).drew
      · have HR : Hid (foldR s = (chk es, [])) := by unfold Hid; rw [hG2, if_neg h0]
        have hpos : (0 : Int) < ((chk es).1 : Int) := by omega
        generalize hc1 : ((chk es).1 : Int) = c1 at *
        generalize hc2 : (chk es).2 = c2 at *
        have HC1 := Lib.hid hc1
        have HC2 := Lib.hid hc2
        clear hG2 h0 hown hc1 hc2
        go_wp2_with fail
        refine KH.out.mono ?_
        rintro e w2 ⟨rfl, hb2⟩
        have bF3 := (bFr.kept hb2).alloc (.cells #[.int .i64 c1, .int .i64 c2] 25)
        have bT := Blok.new w2 25 #[.int .i64 c1, .int .i64 c2]
        have hne1 : ¬ (w.heap.size = w2.heap.size) := by have := (bFr.kept hb2).lt; omega
        have hne2 : ¬ (w2.heap.size = w.heap.size) := by omega
        have hv3 := (hv2.trans (hb2.mono hv2.size))
        have hv4 := hv3.alloc hv3.size (.cells #[.int .i64 c1, .int .i64 c2] 25)
        have z0 := bF3.cell 0 rfl
        have z1 := bF3.cell 1 rfl
        have y0 := bF3.frozen 0
        have y1 := bF3.frozen 1
        have t0 := bT.cell 0 rfl
        have t1 := bT.cell 1 rfl
        go_wp2
        go_region
        all_goals
          go_wp2
          refine bodyPost_ret (v := .tuple #[.slice none 0 0, .agg #[.int .i64 c1, .int .i64 c2]]) (by simp [results, Tryz.results18, go_sem, z0, z1]) rfl ?_
          refine ⟨none, 0, 0, by rw [HR.out, HC1.out, HC2.out], by rw [HR.out]; exact Or.inl rfl, by rw [HR.out]; rfl, Nat.le_refl _, ?_⟩
          exact ((hv4.setCell (by simp) _).setCell (by simp) _).drew

theorem readHist_any (s : List UInt8) (w : World) (hs : s.length ≤ 100000) :
    Calls Tryz.prog 18 #[.string ⟨s.toArray⟩] w (RHPost s w) := by
  have hb0 : Below w.heap.size w (w.alloc (.cells #[.int .i64 0, .int .i64 0] 25)) := (Below.refl _ _).alloc (Nat.le_refl _) _
  have bF := Blok.new w 25 #[.int .i64 0, .int .i64 0]
  by_cases hl : 4000 < s.length
  · have HR : Hid (foldR s = ((2, -1), [])) := by unfold Hid; rw [foldR, if_pos hl]
    have hlong : (4000 : Int) < (s.length : Int) := by omega
    go_enter Tryz.func18, Tryz.ntmps18
    go_wp2_with fail
    refine (bare_any _ _).mono ?_
    rintro e w9 ⟨rfl, hb9⟩
    have bF9 := bF.kept hb9
    have hv9 := hb0.trans (hb9.mono hb0.size)
    have z0 := bF9.cell 0 rfl
    have z1 := bF9.cell 1 rfl
    have y0 := bF9.frozen 0
    have y1 := bF9.frozen 1
    go_wp2
    refine bodyPost_ret (v := .tuple #[.slice none 0 0, .agg #[.int .i64 2, .int .i64 (-1)]]) (by simp [results, Tryz.results18, go_sem, z0, z1]) rfl ?_
    exact ⟨none, 0, 0, by rw [HR.out]; rfl, by rw [HR.out]; exact Or.inl rfl, by rw [HR.out]; rfl, Nat.le_refl _, (hv9.setCell (by simp) _).setCell (by simp) _⟩
  · by_cases h : s = [45]
    · subst h
      have HR : Hid (foldR [45] = ((0, -1), [])) := rfl
      go_enter Tryz.func18, Tryz.ntmps18
      go_wp2_with fail
      refine (fine_any _).mono ?_
      rintro e w9 ⟨rfl, hb9⟩
      have bF9 := bF.kept hb9
      have hv9 := hb0.trans (hb9.mono hb0.size)
      have z0 := bF9.cell 0 rfl
      have z1 := bF9.cell 1 rfl
      have y0 := bF9.frozen 0
      have y1 := bF9.frozen 1
      go_wp2
      refine bodyPost_ret (v := .tuple #[.slice none 0 0, .agg #[.int .i64 0, .int .i64 (-1)]]) (by simp [results, Tryz.results18, go_sem, z0, z1]) rfl ?_
      exact ⟨none, 0, 0, by rw [HR.out]; rfl, by rw [HR.out]; exact Or.inl rfl, by rw [HR.out]; rfl, Nat.le_refl _, (hv9.setCell (by simp) _).setCell (by simp) _⟩
    · exact readHist_loop s w (by omega) h
end Go.Proofs.YtbfocagicagehaaGreatDoor
