/- the reference's ReadCrew. -/
import Derived.Test.YtgghnncgeogemaaGreatDoorRefCrew
import Derived.Test.YtgghnncgeogemaaGreatDoorRefCut
import Derived.Test.YtgghnncgeogemaaGreatDoorCrewRead
namespace Go.Proofs.YtgghnncgeogemaaGreatDoor
open Go.RowKit

def lastN (ns : List Int) : Int := ns.getD (ns.length - 1) 0
theorem lastN_snoc (ns : List Int) (n : Int) : lastN (ns ++ [n]) = n := by simp [lastN]
theorem crewOf_snoc (ns : List Int) (n : Int) : crewOf (ns ++ [n]) = crewOf ns ||| bitOf n := by simp [crewOf]
theorem readOk_eq (x : List UInt8) (last : Int) : readOk x last = if numIs x = true ∧ nodeB (numN x) = true ∧ last < numN x then some (numN x) else none := by
  unfold readOk numIs numN
  cases numF x with
  | none => simp
  | some n => simp
theorem readF_end {s : List UInt8} (hne : s ≠ [45]) : readF s = (readAcc (cutL 44 s)).map (·.1) := by rw [readF, if_neg hne]
theorem racc_bad {ws : List (List UInt8)} {k : Nat} (hk : k < ws.length) {c : Nat} {last : Int} (h : readAcc (ws.take k) = some (c, last)) (hb : readOk ws[k] last = none) : readAcc ws = none := by
  have h1 : readAcc (ws.take (k + 1)) = none := by rw [List.take_succ_eq_append_getElem hk, readAcc_snoc, h, readStep, Option.bind_some, hb]; rfl
  have := readAcc_none (ws.drop (k + 1)) h1
  rwa [List.take_append_drop] at this
theorem racc_good {ws : List (List UInt8)} {k : Nat} (hk : k < ws.length) {ns : List Int} (h : readAcc (ws.take k) = some (crewOf ns, lastN ns)) {n : Int} (hb : readOk ws[k] (lastN ns) = some n) :
    readAcc (ws.take (k + 1)) = some (crewOf (ns ++ [n]), lastN (ns ++ [n])) := by
  rw [List.take_succ_eq_append_getElem hk, readAcc_snoc, h, readStep, Option.bind_some, hb, crewOf_snoc, lastN_snoc]; rfl
theorem textc_cell {w : World} {a : Option Addr} {l : List (List UInt8)} (h : RowAt w a (encTexts l)) (k : Nat) (hk : k < l.length) :
    ∃ b off, a = some ⟨b, off, none⟩ ∧ b < w.heap.size ∧ w.cell? ⟨b, off + k, none⟩ = some (.string ⟨l[k].toArray⟩) := by
  obtain ⟨b, off, rfl, hlt, hc⟩ := h.at (fun e => by have := congrArg List.length e; simp [encTexts] at this; rw [this] at hk; simp at hk)
  exact ⟨b, off, rfl, hlt, hc k _ (by simp [encTexts, hk])⟩

/-- What ReadCrew answers. -/
def rcV (o : Option Nat) : Value := match o with
  | some c => .tuple #[.int .i64 (c : Int), .int .i64 0]
  | none => .tuple #[.int .i64 0, .int .i64 1]
set_option maxRecDepth 200000 in
set_option maxHeartbeats 3200000 in
theorem readCrew_any (s : List UInt8) (w : World) (hs : s.length ≤ 100000) :
    Calls Tryz.prog 24 #[.string ⟨s.toArray⟩] w fun e w' => e = .returned (rcV (readF s)) ∧ Below w.heap.size w w' := by
  by_cases hne : s = [45]
  · subst hne
    have HR : Hid (readF [45] = some 0) := by unfold Hid; rw [readF, if_pos rfl]
    go_enter Tryz.func24, Tryz.ntmps24
    go_wp2
    go_ret2
    exact ⟨by rw [HR.out]; rfl, Below.refl _ _⟩
  · have hq : (s == [45]) = false := by simpa using hne
    have HF := Lib.hid (readF_end hne)
    have KC := Lib.hid (fun (W : World) => refCut_any s 44 W hs)
    have HPc := Lib.hid (cutL_piece 44 s)
    have hcl := cutL_length 44 s
    obtain ⟨i0, hi, hz0, hz1, hz2⟩ := info_parts info_int
    have hi' := Lib.hid hi
    have hz0' := Lib.hid hz0
    have hz1' := Lib.hid hz1
    have hz2' := Lib.hid hz2
    clear hi hz0 hz1 hz2 hne
    generalize cutL 44 s = ws at *
    go_enter Tryz.func24, Tryz.ntmps24
    go_wp2_with fail
    refine (KC.out _).mono ?_
    rintro e w1 ⟨aw, nw, cw, rfl, hrw, hnw, hcw, hb1⟩
    have HNW := Lib.hid hnw
    have HRW := Lib.hid hrw
    clear hnw hrw KC
    go_wp2
    go_loopw [5, 6] (fun v i wr => ∃ (k : Nat) (ns : List Int), k ≤ nw ∧ i = .int .i64 k ∧ ns.length = k ∧ wr.ownsRow w1.heap.size 3 1 v k (encInts ns) ∧ Hid (readAcc (ws.take k) = some (crewOf ns, lastN ns)) ∧ Hid (∀ x ∈ ns, nodeB x = true) ∧ Below w1.heap.size w1 wr) (fun _ i _ => nw - (intOf i).toNat)
    case atStart => exact ⟨0, [], Nat.zero_le _, rfl, rfl, World.ownsRow_nil _ _ _ _, rfl, by unfold Hid; simp, Below.refl _ _⟩
    case round =>
      obtain ⟨k, ns, hk, rfl, hnk, hown, hacc, hall, hb⟩ := hrel
      by_cases hlt : k < nw
      · have hk1 : k < ws.length := by have := HNW.out; omega
        obtain ⟨bw, ow, rfl, hbw, cw0⟩ := textc_cell HRW.out k hk1
        have cw1 := (hb.cell (p := ⟨bw, ow + k, none⟩) hbw).trans cw0
        have hxl := HPc.out ws[k] (List.getElem_mem hk1)
        have HAB := Lib.hid (fun h => racc_bad hk1 hacc.out h)
        have HAG := Lib.hid (fun n h => racc_good (n := n) hk1 hacc.out h)
        generalize ws[k] = x at *
        have HOk := readOk_eq x (lastN ns)
        have KN := Lib.hid (fun (W : World) => numberOf_any x W (by omega))
        have KI := Lib.hid (fun (W : World) => isNode_any (numN x) W)
        have hi0 : (0 : Int) ≤ (k : Int) := by omega
        have hi1 : (k : Int) < (nw : Int) := by omega
        cases hn : numIs x
        · have HB : Hid (readF s = none) := by unfold Hid; rw [HF.out, HAB.out (by rw [HOk, if_neg (by simp [hn])])]; rfl
          rw [hn] at KN
          generalize nodeB (numN x) = nd at *
          generalize numN x = n at *
          clear HOk hn
          go_wp2_with fail
          refine (KN.out _).mono ?_
          rintro e w3 ⟨rfl, rfl⟩
          go_wp2_with fail
          refine (KI.out _).mono ?_
          rintro e w3 ⟨rfl, rfl⟩
          go_wp2
          go_ret2
          exact ⟨by rw [HB.out]; rfl, hb1.trans (hb.mono hb1.size)⟩
        · cases hd : nodeB (numN x)
          · have HB : Hid (readF s = none) := by unfold Hid; rw [HF.out, HAB.out (by rw [HOk, if_neg (by simp [hd])])]; rfl
            rw [hn] at KN
            rw [hd] at KI
            generalize numN x = n at *
            clear HOk hn hd
            go_wp2_with fail
            refine (KN.out _).mono ?_
            rintro e w3 ⟨rfl, rfl⟩
            go_wp2_with fail
            refine (KI.out _).mono ?_
            rintro e w3 ⟨rfl, rfl⟩
            go_wp2
            go_ret2
            exact ⟨by rw [HB.out]; rfl, hb1.trans (hb.mono hb1.size)⟩
          · have hd' := hd
            simp only [nodeB, decide_eq_true_eq] at hd'
            by_cases hlast : lastN ns < numN x
            · have HA := Lib.hid (HAG.out (numN x) (by rw [HOk, if_pos ⟨hn, hd, hlast⟩]))
              have HAll : Hid (∀ y ∈ ns ++ [numN x], nodeB y = true) := fun y hy => by
                rcases List.mem_append.1 hy with h | h
                · exact hall.out y h
                · simp at h; rw [h]; exact hd
              have HS : Hid (encInts (ns ++ [numN x]) = encInts ns ++ [.int .i64 (numN x)]) := by unfold Hid; simp [encInts]
              have HL : Hid (0 < k → lastN ns = ns.getD (k - 1) 0) := fun _ => by rw [lastN, hnk]
              rw [hn] at KN
              rw [hd] at KI
              clear HOk hn hd
              have HO := Lib.hid (hown.alloc (.cells #[.int .i64 (numN x)] 3))
              have HW := Lib.hid (RowAt.new_at wr [.int .i64 (numN x)] 3 _ rfl)
              have HV := Lib.hid (hb.alloc hb.size (.cells #[.int .i64 (numN x)] 3))
              generalize numN x = n at *
              by_cases hk0 : k = 0
              · have hd1 : decide ((0 : Int) < (k : Int)) = false := by simp; omega
                have hd2 : decide (0 < k) = false := by simp; omega
                clear hown hk0
                go_wp2_with fail
                refine (KN.out _).mono ?_
                rintro e w3 ⟨rfl, rfl⟩
                go_wp2_with fail
                refine (KI.out _).mono ?_
                rintro e w3 ⟨rfl, rfl⟩
                go_wp2_with (at_builtin; refine wpList_append2 _ rfl (.tmp 47) (.tmp 49) 22 rfl w1.heap.size 3 i0 _ 1 8 Tryz.underlying22 hi'.out hz0'.out hz1'.out hz2'.out rfl (by decide) _ k (encInts ns) rfl HO.out (some ⟨wr.heap.size, 0, none⟩) 1 1 [.int .i64 n] rfl rfl HW.out ?_ ?_ ?_ ?_ ?_; (simp [Value.oneCell']); (unfold maxLen; omega); (omega); (exact HV.out.size); intro v1 w5 ho1 hg1 hq hm1; clear hq hm1)
                go_roundw
                case rel => exact ⟨k + 1, _, by omega, by go_num, by rw [List.length_append, hnk]; rfl, by rw [HS.out]; exact ho1, HA.out, HAll, HV.out.grown hg1 HV.out.size (fun j e => (HO.out.lt j e).1)⟩
                case measure => simp [intOf]; omega
              · have hd1 : (0 : Int) < (k : Int) := by omega
                have hd2 : decide (0 < k) = true := by simp; omega
                obtain ⟨ao, co, rfl⟩ := owned_shape hown
                obtain ⟨ra, _, na, _⟩ := RowAt.owned hown
                obtain ⟨bo, oo, rfl, hbo, co0⟩ := ra.int (k - 1) (by omega)
                have hln := HL.out (by omega)
                have hgd : ns.getD (k - 1) 0 = ns[k - 1]'(by omega) := by rw [List.getD_eq_getElem?_getD, List.getElem?_eq_getElem (by omega)]; rfl
                rw [hln, hgd] at hlast
                generalize ns[k - 1]'(by omega) = lastv at *
                have hle : decide (n ≤ lastv) = false := by simp; omega
                have hkk : ((k : Int) - 1).toNat = k - 1 := by omega
                clear hown hk0 hln hgd
                go_wp2_with fail
                refine (KN.out _).mono ?_
                rintro e w3 ⟨rfl, rfl⟩
                go_wp2_with fail
                refine (KI.out _).mono ?_
                rintro e w3 ⟨rfl, rfl⟩
                go_wp2_with (at_builtin; refine wpList_append2 _ rfl (.tmp 47) (.tmp 49) 22 rfl w1.heap.size 3 i0 _ 1 8 Tryz.underlying22 hi'.out hz0'.out hz1'.out hz2'.out rfl (by decide) _ k (encInts ns) rfl HO.out (some ⟨wr.heap.size, 0, none⟩) 1 1 [.int .i64 n] rfl rfl HW.out ?_ ?_ ?_ ?_ ?_; (simp [Value.oneCell']); (unfold maxLen; omega); (omega); (exact HV.out.size); intro v1 w5 ho1 hg1 hq hm1; clear hq hm1)
                go_roundw
                case rel => exact ⟨k + 1, _, by omega, by go_num, by rw [List.length_append, hnk]; rfl, by rw [HS.out]; exact ho1, HA.out, HAll, HV.out.grown hg1 HV.out.size (fun j e => (HO.out.lt j e).1)⟩
                case measure => simp [intOf]; omega
            · have HB : Hid (readF s = none) := by unfold Hid; rw [HF.out, HAB.out (by rw [HOk, if_neg (fun h => hlast h.2.2)])]; rfl
              have hk0 : 0 < k := by
                by_cases hk0 : k = 0
                · subst hk0
                  have : ns = [] := List.eq_nil_of_length_eq_zero hnk
                  subst this
                  exact absurd (show lastN [] < numN x by show (0 : Int) < _; omega) hlast
                · omega
              have hd1 : (0 : Int) < (k : Int) := by omega
              have hd2 : decide (0 < k) = true := by simp; omega
              obtain ⟨ao, co, rfl⟩ := owned_shape hown
              obtain ⟨ra, _, na, _⟩ := RowAt.owned hown
              obtain ⟨bo, oo, rfl, hbo, co0⟩ := ra.int (k - 1) (by omega)
              have hln : lastN ns = ns.getD (k - 1) 0 := by rw [lastN, hnk]
              have hgd : ns.getD (k - 1) 0 = ns[k - 1]'(by omega) := by rw [List.getD_eq_getElem?_getD, List.getElem?_eq_getElem (by omega)]; rfl
              rw [hln, hgd] at hlast
              rw [hn] at KN
              rw [hd] at KI
              clear HOk hn hd hln hgd hown
              generalize ns[k - 1]'(by omega) = lastv at *
              generalize numN x = n at *
              have hle : n ≤ lastv := by omega
              have hkk : ((k : Int) - 1).toNat = k - 1 := by omega
              go_wp2_with fail
              refine (KN.out _).mono ?_
              rintro e w3 ⟨rfl, rfl⟩
              go_wp2_with fail
              refine (KI.out _).mono ?_
              rintro e w3 ⟨rfl, rfl⟩
              go_wp2
              go_ret2
              exact ⟨by rw [HB.out]; rfl, hb1.trans (hb.mono hb1.size)⟩
      · obtain rfl : k = nw := by omega
        have hac : readAcc ws = some (crewOf ns, lastN ns) := by have := hacc.out; rwa [List.take_of_length_le (by have := HNW.out; omega)] at this
        have HR : Hid (readF s = some (crewOf ns)) := by unfold Hid; rw [HF.out, hac]; rfl
        obtain ⟨ao, co, rfl⟩ := owned_shape hown
        obtain ⟨ra, _, na, _⟩ := RowAt.owned hown
        have KO := Lib.hid (refCrewOf_any ao k co ns wr hnk ra (by have := HNW.out; omega))
        have hcf : crewF ns = ((crewOf ns : Int), 0, -1) := by rw [crewF, if_pos ((badIdx_neg ns 0 (by omega)).2 hall.out)]
        rw [hcf] at KO
        have hv := hb1.trans (hb.mono hb1.size)
        generalize crewOf ns = C at *
        clear hown hcf hac
        go_wp2_with fail
        refine KO.out.mono ?_
        rintro e w3 ⟨rfl, hb3⟩
        have hv3 := hv.trans (hb3.mono hv.size)
        go_wp2
        go_ret2
        exact ⟨by rw [HR.out]; rfl, hv3.alloc hv3.size _⟩
end Go.Proofs.YtgghnncgeogemaaGreatDoor
