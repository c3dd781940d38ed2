/- CrewTells: the law's walk. -/
import Derived.Test.YtgghnncgeogemaaGreatDoorCrewSums
import Derived.Test.YtgghnncgeogemaaGreatDoorMost
import Derived.Test.YtgghnncgeogemaaGreatDoorCrewFact
import Derived.Test.YtgghnncgeogemaaGreatDoorCrewPlain
import Derived.Test.YtgghnncgeogemaaGreatDoorCrewText
import Derived.Test.YtgghnncgeogemaaGreatDoorCrewRead
import Derived.Test.YtgghnncgeogemaaGreatDoorRefReadC
import Derived.Test.YtgghnncgeogemaaGreatDoorRefCrew
import Derived.Test.YtgghnncgeogemaaGreatDoorSameInts
import Derived.Test.YtgghnncgeogemaaGreatDoorCoded
namespace Go.Proofs.YtgghnncgeogemaaGreatDoor
open Go.RowKit

theorem coded1_c (ea : Nat → Addr) (code : Nat) (w : World) (hG : GlobC w ea) (h11 : code ≤ 11) :
    Calls Tryz.prog 9 #[errV ea code, .int .i64 code] w fun e w' => e = .returned (.bool true) ∧ Below w.heap.size w w' :=
  coded1_yes ea (errV ea code) code code w hG (ErrIs.bare ea w code) h11 rfl
theorem faulted1_c (ea : Nat → Addr) (v : Value) (code : Nat) (pl : Int) (w : World) (hG : GlobC w ea) (hE : ErrIs ea w v code pl) (h11 : code ≤ 11) :
    Calls Tryz.prog 27 #[v, .agg #[.int .i64 code, .int .i64 pl]] w fun e w' => e = .returned (.bool true) ∧ Below w.heap.size w w' :=
  (faulted1_any ea v code pl code pl w hG hE h11).mono fun e w' ⟨h1, h2⟩ => ⟨by rw [h1]; simp, h2⟩
theorem twoE_one (x : Int) : twoE x 0 = crewE x := by
  have h : crewB 0 = true := by decide
  rw [twoE, h, Bool.and_true]; rfl
theorem twoE_le (x y : Int) : twoE x y ≤ 11 := by unfold twoE; split <;> omega
theorem many_len (x : Int) : manyF x = (listTo x 16).length := by
  cases h : crewB x
  · have e : ∀ k, listTo x k = [] := fun k => by
      induction k with
      | zero => rfl
      | succ k ih => rw [listTo, ih, hasB, h]; rfl
    rw [manyF, h, e]; rfl
  · obtain ⟨c, rfl, hc⟩ := crew_nat h
    rw [manyF, h, if_pos rfl, Int.toNat_natCast]
    exact pop_list c hc
theorem readV_eq (ea : Nat → Addr) (o : Option Nat) : readV ea o = .tuple #[.int .i64 (o.getD 0 : Nat), errV ea (if o.isSome then 0 else 1)] := by
  cases o with
  | none => rfl
  | some c => simp [readV, errV_zero]
theorem rcV_eq (o : Option Nat) : rcV o = .tuple #[.int .i64 (o.getD 0 : Nat), .int .i64 ((if o.isSome then 0 else 1 : Nat) : Int)] := by
  cases o <;> rfl
theorem crewF_le (l : List Int) : (crewF l).2.1 ≤ 11 := by unfold crewF; split <;> (dsimp only; omega)

set_option maxRecDepth 400000 in
set_option maxHeartbeats 12800000 in
theorem crewTells_law (ea : Nat → Addr) (x y node : Int) (a : Option Addr) (n cap : Nat) (l : List Int) (s : List UInt8) (w : World) (hG : GlobC w ea) (hT : TxtEnv w)
    (hn : l.length = n) (hr : RowAt w a (encInts l)) (hl : n ≤ 40) (hs : s.length ≤ 100) (hw : ∀ z ∈ l, (Lit.int .i64 z).wf = true) :
    Calls Tryz.prog 3 #[.int .i64 x, .int .i64 y, .int .i64 node, .slice a n cap, .string ⟨s.toArray⟩] w fun e w' => e = .returned (.bool true) ∧ Below w.heap.size w w' := by
  have K0 := Lib.hid (crewed_any ea w (hG.glob.sub (by simp)) hT)
  have KE := Lib.hid (fun (W : World) => twoError_any x 0 W)
  rw [twoE_one] at KE
  have KL := Lib.hid (fun (W : World) => listOf_any x W)
  have KH := Lib.hid (fun (W : World) => refHas_any x node W)
  have PC := Lib.hid (fun (W : World) (hb : Below w.heap.size w W) => crewCheck_any ea x W ((hG.below hb).glob.sub (by simp)))
  have C0 := Lib.hid (fun (W : World) (hb : Below w.heap.size w W) => coded1_c ea (crewE x) W (hG.below hb) (by rw [← twoE_one]; exact twoE_le _ _))
  have PL := Lib.hid (fun (W : World) (hb : Below w.heap.size w W) => list_any ea x W ((hG.below hb).glob.sub (by simp)))
  have PM := Lib.hid (fun (W : World) (hb : Below w.heap.size w W) => many_any ea x W ((hG.below hb).glob.sub (by simp)))
  rw [many_len] at PM
  have PH := Lib.hid (fun (W : World) (hb : Below w.heap.size w W) => has_any ea x node W ((hG.below hb).glob.sub (by simp)))
  have PT := Lib.hid (fun (W : World) (hb : Below w.heap.size w W) => text_any ea x W ((hG.below hb).glob.sub (by simp)))
  have KT := Lib.hid (fun (W : World) => crewText_any x W)
  have P1 := Lib.hid (fun (W : World) (hb : Below w.heap.size w W) => both_any ea x y W ((hG.below hb).glob.sub (by simp)))
  have P2 := Lib.hid (fun (W : World) (hb : Below w.heap.size w W) => either_any ea x y W ((hG.below hb).glob.sub (by simp)))
  have P3 := Lib.hid (fun (W : World) (hb : Below w.heap.size w W) => less_any ea x y W ((hG.below hb).glob.sub (by simp)))
  have K1 := Lib.hid (fun (W : World) => bothOf_any x y W)
  have K2 := Lib.hid (fun (W : World) => eitherOf_any x y W)
  have K3 := Lib.hid (fun (W : World) => lessOf_any x y W)
  have C1 := Lib.hid (fun (W : World) (hb : Below w.heap.size w W) => coded1_c ea (twoE x y) W (hG.below hb) (twoE_le _ _))
  have PR := Lib.hid (fun (W : World) (hb : Below w.heap.size w W) => read_any ea s W (by omega) ((hG.below hb).glob.sub (by simp)) (hT.below hb))
  have KR := Lib.hid (fun (W : World) => readCrew_any s W (by omega))
  rw [readV_eq] at PR
  rw [rcV_eq] at KR
  have C2 := Lib.hid (fun (W : World) (hb : Below w.heap.size w W) => coded1_c ea (if (readF s).isSome then 0 else 1) W (hG.below hb) (by split <;> omega))
  have PO := Lib.hid (fun (W : World) (hb : Below w.heap.size w W) (ao : Option Addr) (co : Nat) (hro : RowAt W ao (encInts l)) => of_any ea ao n co l W ((hG.below hb).glob.sub (by simp)) hn hro (by omega))
  have KO := Lib.hid (fun (W : World) (hb : Below w.heap.size w W) => refCrewOf_any a n cap l W hn (hr.below hb) (by omega))
  have F1 := Lib.hid (fun (W : World) (v : Value) (hb : Below w.heap.size w W) (hE : ErrIs ea W v (crewF l).2.1 (crewF l).2.2) => faulted1_c ea v _ _ W (hG.below hb) hE (crewF_le l))
  have PX := Lib.hid (fun (W : World) (hb : Below w.heap.size w W) => most_any a n cap l W hn (hr.below hb) (by omega) hw)
  have KX := Lib.hid (fun (W : World) (hb : Below w.heap.size w W) => mostOf_any a n cap l W hn (hr.below hb) (by omega))
  have HS := Lib.hid (fun (W : World) (a1 a2 : Option Addr) (n1 c1 n2 c2 : Nat) (h1 : (listTo x 16).length = n1) (r1 : RowAt W a1 (encInts (listTo x 16))) (h2 : (listTo x 16).length = n2) (r2 : RowAt W a2 (encInts (listTo x 16))) => sameInts_any a1 a2 n1 c1 n2 c2 _ _ W h1 r1 h2 r2 (by have := listTo_length x 16; omega))
  have HN := Lib.hid hn
  have HR := Lib.hid hr
  have d1 : decide ((40 : Int) < (n : Int)) = false := by simp; omega
  have d2 : decide ((100 : Int) < (s.length : Int)) = false := by simp; omega
  simp only [decide_true, eq_self] at HS
  generalize errV ea (crewE x) = v0 at *
  generalize ((crewE x : Nat) : Int) = c0 at *
  generalize errV ea (twoE x y) = v1 at *
  generalize ((twoE x y : Nat) : Int) = c1 at *
  generalize hq2 : (if (readF s).isSome then (0 : Nat) else 1) = k2 at *
  generalize errV ea k2 = v2 at *
  generalize ((k2 : Nat) : Int) = c2 at *
  generalize (((readF s).getD 0 : Nat) : Int) = rd at *
  generalize textF x = tx at *
  generalize hasB x node = hx at *
  generalize listTo x 16 = xs at *
  generalize (bothF x y : Int) = f1 at *
  generalize (eitherF x y : Int) = f2 at *
  generalize (lessF x y : Int) = f3 at *
  generalize (mostP l n).1 = m1 at *
  generalize ((mostP l n).2 : Int) = m2 at *
  generalize (crewF l).1 = o1 at *
  generalize (crewF l).2.1 = o2 at *
  generalize (crewF l).2.2 = o3 at *
  clear hq2 hG hT hn hr hw hs
  go_enter Tryz.func3, Tryz.ntmps3
  go_wp2_with fail
  refine K0.out.mono ?_
  rintro e w1 ⟨rfl, hv1⟩
  go_wp2_with fail
  refine (KE.out _).mono ?_
  rintro e w0 ⟨rfl, rfl⟩
  go_wp2_with fail
  refine (KL.out _).mono ?_
  rintro e w2 ⟨ax, nx, cx, rfl, hrx, rfl, hcx, hB⟩
  have hv2 := hv1.trans (hB.mono hv1.size)
  clear hB
  go_wp2_with fail
  refine (KH.out _).mono ?_
  rintro e w0 ⟨rfl, rfl⟩
  go_wp2_with fail
  refine (PC.out _ hv2).mono ?_
  rintro e w0 ⟨rfl, rfl⟩
  go_wp2_with fail
  refine (C0.out _ hv2).mono ?_
  rintro e w3 ⟨rfl, hB⟩
  have hv3 := hv2.trans (hB.mono hv2.size)
  have hrx := hrx.below hB
  clear hB
  go_wp2_with fail
  refine (PL.out _ hv3).mono ?_
  rintro e w4 ⟨v, rfl, hown, hB⟩
  have hv4 := hv3.trans (hB.mono hv3.size)
  have hrx := hrx.below hB
  clear hB
  obtain ⟨ap, cp, rfl⟩ := owned_shape hown
  obtain ⟨rp, _, _, _⟩ := RowAt.owned hown
  go_wp2_with fail
  refine (HS.out _ _ _ _ _ _ _ rfl rp rfl hrx).mono ?_
  rintro e w5 ⟨rfl, hB⟩
  have hv5 := hv4.trans (hB.mono hv4.size)
  clear hB
  go_wp2_with fail
  refine (PM.out _ hv5).mono ?_
  rintro e w0 ⟨rfl, rfl⟩
  go_wp2_with fail
  refine (PH.out _ hv5).mono ?_
  rintro e w0 ⟨rfl, rfl⟩
  go_wp2_with fail
  refine (PT.out _ hv5).mono ?_
  rintro e w6 ⟨rfl, hB⟩
  have hv6 := hv5.trans (hB.mono hv5.size)
  go_wp2_with fail
  refine (KT.out _).mono ?_
  rintro e w7 ⟨rfl, hB⟩
  have hv7 := hv6.trans (hB.mono hv6.size)
  clear hrx rp hown
  go_wp2_with fail
  refine (P1.out _ hv7).mono ?_
  rintro e w0 ⟨rfl, rfl⟩
  go_wp2_with fail
  refine (K1.out _).mono ?_
  rintro e w0 ⟨rfl, rfl⟩
  go_wp2_with fail
  refine (C1.out _ hv7).mono ?_
  rintro e w8 ⟨rfl, hB⟩
  have hv8 := hv7.trans (hB.mono hv7.size)
  go_wp2_with fail
  refine (P2.out _ hv8).mono ?_
  rintro e w0 ⟨rfl, rfl⟩
  go_wp2_with fail
  refine (K2.out _).mono ?_
  rintro e w0 ⟨rfl, rfl⟩
  go_wp2_with fail
  refine (C1.out _ hv8).mono ?_
  rintro e w9 ⟨rfl, hB⟩
  have hv9 := hv8.trans (hB.mono hv8.size)
  go_wp2_with fail
  refine (P3.out _ hv9).mono ?_
  rintro e w0 ⟨rfl, rfl⟩
  go_wp2_with fail
  refine (K3.out _).mono ?_
  rintro e w0 ⟨rfl, rfl⟩
  go_wp2_with fail
  refine (C1.out _ hv9).mono ?_
  rintro e w10 ⟨rfl, hB⟩
  have hv10 := hv9.trans (hB.mono hv9.size)
  go_wp2_with fail
  refine (PR.out _ hv10).mono ?_
  rintro e w11 ⟨rfl, hB⟩
  have hv11 := hv10.trans (hB.mono hv10.size)
  go_wp2_with fail
  refine (KR.out _).mono ?_
  rintro e w12 ⟨rfl, hB⟩
  have hv12 := hv11.trans (hB.mono hv11.size)
  go_wp2_with fail
  refine (C2.out _ hv12).mono ?_
  rintro e w13 ⟨rfl, hB⟩
  have hv13 := hv12.trans (hB.mono hv12.size)
  go_wp2_with (at_builtin; refine wpList_ownInts rfl _ _ rfl w.heap.size a n cap l rfl rfl HN.out (HR.out.below hv13) (by omega) hv13.size ?_; intro ao co w14 hown hro hco hB)
  have hv14 := hv13.trans (hB.mono hv13.size)
  go_wp2_with fail
  refine (PO.out _ hv14 _ _ hro).mono ?_
  rintro e w15 ⟨v, rfl, hE, hB2⟩
  have hv15 := hv14.trans (hB2.mono hv14.size)
  clear hB hown hro hco hB2
  go_wp2_with fail
  refine (KO.out _ hv15).mono ?_
  rintro e w16 ⟨rfl, hB⟩
  have hv16 := hv15.trans (hB.mono hv15.size)
  have hE := hE.below hB
  have bF := Blok.new w16 42 #[.int .i64 o2, .int .i64 o3]
  have hv17 := hv16.alloc hv16.size (.cells #[.int .i64 o2, .int .i64 o3] 42)
  have hE := hE.below ((Below.refl w16.heap.size w16).alloc (Nat.le_refl _) (.cells #[.int .i64 o2, .int .i64 o3] 42))
  have g0 := bF.cell 0 rfl
  have g1 := bF.cell 1 rfl
  go_wp2_with fail
  refine (F1.out _ _ hv17 hE).mono ?_
  rintro e w18 ⟨rfl, hB5⟩
  have hv18 := hv17.trans (hB5.mono hv17.size)
  go_wp2_with fail
  refine (PX.out _ hv18).mono ?_
  rintro e w19 ⟨rfl, hB⟩
  have hv19 := hv18.trans (hB.mono hv18.size)
  go_wp2_with fail
  refine (KX.out _ hv19).mono ?_
  rintro e w20 ⟨rfl, hB⟩
  have hv20 := hv19.trans (hB.mono hv19.size)
  go_wp2
  go_ret
  exact ⟨rfl, hv20⟩

set_option maxRecDepth 100000 in
theorem walk_CrewTells (ea : Nat → Addr) (x y node : Int) (a : Option Addr) (n cap : Nat) (l : List Int) (s : List UInt8) (w : World) (hG : GlobC w ea) (hT : TxtEnv w)
    (_hx : -9223372036854775808 ≤ x ∧ x ≤ 9223372036854775807) (_hy : -9223372036854775808 ≤ y ∧ y ≤ 9223372036854775807) (_hnd : -9223372036854775808 ≤ node ∧ node ≤ 9223372036854775807)
    (hn : l.length = n) (hr : RowAt w a (encInts l)) (_hcap : n ≤ cap) (hc : n ≤ 4611686018427387904) (hw : ∀ z ∈ l, (Lit.int .i64 z).wf = true) (hs : s.length ≤ maxLen) :
    Calls Tryz.prog 3 #[.int .i64 x, .int .i64 y, .int .i64 node, .slice a n cap, .string ⟨s.toArray⟩] w fun e w' => e = .returned (.bool true) ∧ Below w.heap.size w w' := by
  by_cases h : n ≤ 40 ∧ s.length ≤ 100
  · exact crewTells_law ea x y node a n cap l s w hG hT hn hr h.1 h.2 hw
  · have K0 := Lib.hid (crewed_any ea w (hG.glob.sub (by simp)) hT)
    have hs2 : s.length ≤ 9223372036854775807 := hs
    clear hG hT hn hr hw hs
    by_cases h1 : n ≤ 40
    · have d1 : decide ((40 : Int) < (n : Int)) = false := by simp; omega
      have d2 : decide ((100 : Int) < (s.length : Int)) = true := decide_eq_true (by omega)
      clear h h1
      go_enter Tryz.func3, Tryz.ntmps3
      go_wp2_with fail
      refine K0.out.mono ?_
      rintro e w1 ⟨rfl, hv1⟩
      go_wp2
      go_ret
      exact ⟨rfl, hv1⟩
    · have d1 : decide ((40 : Int) < (n : Int)) = true := decide_eq_true (by omega)
      clear h h1
      go_enter Tryz.func3, Tryz.ntmps3
      go_wp2_with fail
      refine K0.out.mono ?_
      rintro e w1 ⟨rfl, hv1⟩
      go_wp2
      go_ret
      exact ⟨rfl, hv1⟩
end Go.Proofs.YtgghnncgeogemaaGreatDoor
