/- CrewParts: the law's walk. -/
import Derived.Test.YtlpgafpmhihneaaDoorCrewFact
namespace Go.Proofs.YtlpgafpmhihneaaDoor
open Go.RowKit

theorem ontoC {w W w' : World} (h : Below w.heap.size w W) (h2 : Below W.heap.size W w') : Below w.heap.size w w' := h.trans (h2.mono h.size)
theorem check_bad (ea : Nat → Addr) (c : Int) (w : World) (hg : Glob w ea [2]) (h : crewB c = false) :
    Calls Tryd.prog 19 #[.int .i64 c] w fun e w' => e = .returned (.iface 202 (.pointer (some (ea 2)))) ∧ w = w' := by
  have := crewCheck_any ea c w hg
  rwa [show errV ea (crewE c) = .iface 202 (.pointer (some (ea 2))) by rw [crewE, h]; exact errV_pos ea (by decide)] at this
theorem check_ok (ea : Nat → Addr) (c : Int) (w : World) (hg : Glob w ea [2]) (h : crewB c = true) :
    Calls Tryd.prog 19 #[.int .i64 c] w fun e w' => e = .returned .nilIface ∧ w = w' := by
  have := crewCheck_any ea c w hg
  rwa [show errV ea (crewE c) = .nilIface by rw [crewE, h]; exact errV_zero ea] at this

set_option maxRecDepth 400000 in
set_option maxHeartbeats 1600000 in
theorem crewParts_bad (ea : Nat → Addr) (a b c : Int) (w : World) (hg : Glob w ea [1, 2, 4]) (hT : TxtEnv w) (h : crewB a = false ∨ crewB b = false ∨ crewB c = false) :
    Calls Tryd.prog 6 #[.int .i64 a, .int .i64 b, .int .i64 c] w fun e w' => e = .returned (.bool true) ∧ Below w.heap.size w w' := by
  have C := Lib.hid (crewed_any ea w hg hT)
  have HG := Lib.hid (fun (W : World) (h : Below w.heap.size w W) => show Glob W ea [2] from (hg.below h).sub (by simp))
  clear hg hT
  cases ha : crewB a
  · have K := Lib.hid (fun W hb => check_bad ea a W (HG.out W hb) ha)
    clear h ha
    go_enter Tryd.func6, Tryd.ntmps6
    go_wp2_with fail
    refine C.out.mono ?_
    rintro e w1 ⟨rfl, hb1⟩
    go_wp2_with fail
    refine (K.out _ hb1).mono ?_
    rintro e w2 ⟨rfl, rfl⟩
    go_wp2
    go_ret
    exact ⟨rfl, hb1⟩
  · have K := Lib.hid (fun W hb => check_ok ea a W (HG.out W hb) ha)
    cases hb : crewB b
    · have K2 := Lib.hid (fun W h' => check_bad ea b W (HG.out W h') hb)
      clear h ha hb
      go_enter Tryd.func6, Tryd.ntmps6
      go_wp2_with fail
      refine C.out.mono ?_
      rintro e w1 ⟨rfl, hb1⟩
      go_wp2_with fail
      refine (K.out _ hb1).mono ?_
      rintro e w2 ⟨rfl, rfl⟩
      go_wp2_with fail
      refine (K2.out _ hb1).mono ?_
      rintro e w2 ⟨rfl, rfl⟩
      go_wp2
      go_ret
      exact ⟨rfl, hb1⟩
    · have hc : crewB c = false := by rw [ha, hb] at h; simpa using h
      have K2 := Lib.hid (fun W h' => check_ok ea b W (HG.out W h') hb)
      have K3 := Lib.hid (fun W h' => check_bad ea c W (HG.out W h') hc)
      clear h ha hb hc
      go_enter Tryd.func6, Tryd.ntmps6
      go_wp2_with fail
      refine C.out.mono ?_
      rintro e w1 ⟨rfl, hb1⟩
      go_wp2_with fail
      refine (K.out _ hb1).mono ?_
      rintro e w2 ⟨rfl, rfl⟩
      go_wp2_with fail
      refine (K2.out _ hb1).mono ?_
      rintro e w2 ⟨rfl, rfl⟩
      go_wp2_with fail
      refine (K3.out _ hb1).mono ?_
      rintro e w2 ⟨rfl, rfl⟩
      go_wp2
      go_ret
      exact ⟨rfl, hb1⟩

theorem both_nat (ea : Nat → Addr) (x y : Nat) (w : World) (hg : Glob w ea [2]) (hx : x < 65536) (hy : y < 65536) :
    Calls Tryd.prog 20 #[.int .i64 x, .int .i64 y] w fun e w' => e = .returned (.tuple #[.int .i64 ((x &&& y : Nat) : Int), .nilIface]) ∧ w = w' := by
  have h : (crewB (x : Int) && crewB (y : Int)) = true := by simp only [crewB, Bool.and_eq_true, decide_eq_true_eq]; omega
  have := both_any ea x y w hg
  rwa [show errV ea (twoE x y) = .nilIface by rw [twoE, h]; exact errV_zero ea, bothF, h, if_pos rfl, Int.toNat_natCast, Int.toNat_natCast] at this
theorem either_nat (ea : Nat → Addr) (x y : Nat) (w : World) (hg : Glob w ea [2]) (hx : x < 65536) (hy : y < 65536) :
    Calls Tryd.prog 22 #[.int .i64 x, .int .i64 y] w fun e w' => e = .returned (.tuple #[.int .i64 ((x ||| y : Nat) : Int), .nilIface]) ∧ w = w' := by
  have h : (crewB (x : Int) && crewB (y : Int)) = true := by simp only [crewB, Bool.and_eq_true, decide_eq_true_eq]; omega
  have := either_any ea x y w hg
  rwa [show errV ea (twoE x y) = .nilIface by rw [twoE, h]; exact errV_zero ea, eitherF, h, if_pos rfl, Int.toNat_natCast, Int.toNat_natCast] at this
theorem less_nat (ea : Nat → Addr) (x y : Nat) (w : World) (hg : Glob w ea [2]) (hx : x < 65536) (hy : y < 65536) :
    Calls Tryd.prog 21 #[.int .i64 x, .int .i64 y] w fun e w' => e = .returned (.tuple #[.int .i64 ((lessN x y : Nat) : Int), .nilIface]) ∧ w = w' := by
  have h : (crewB (x : Int) && crewB (y : Int)) = true := by simp only [crewB, Bool.and_eq_true, decide_eq_true_eq]; omega
  have := less_any ea x y w hg
  rwa [show errV ea (twoE x y) = .nilIface by rw [twoE, h]; exact errV_zero ea, lessF, h, if_pos rfl, Int.toNat_natCast, Int.toNat_natCast] at this
theorem many_nat (ea : Nat → Addr) (x : Nat) (w : World) (hg : Glob w ea [2]) (hx : x < 65536) :
    Calls Tryd.prog 27 #[.int .i64 x] w fun e w' => e = .returned (.int .i64 (pop x)) ∧ w = w' := by
  have h : crewB (x : Int) = true := by simp only [crewB, decide_eq_true_eq]; omega
  have := many_any ea x w hg
  rwa [manyF, if_pos h, Int.toNat_natCast] at this
theorem read_nat (ea : Nat → Addr) (x : Nat) (w : World) (hg : Glob w ea [1]) (hT : TxtEnv w) (hx : x < 65536) (hl : (textF x).length ≤ 4294967280) :
    Calls Tryd.prog 25 #[.string ⟨(textF x).toArray⟩] w fun e w' => e = .returned (.tuple #[.int .i64 x, .nilIface]) ∧ Below w.heap.size w w' := by
  have := read_any ea (textF x) w hl hg hT
  rwa [read_text x hx, readV] at this
theorem pop_le (c : Nat) : ∀ k, popTo c k ≤ k
  | 0 => Nat.le_refl _
  | k + 1 => by have := pop_le c k; rw [popTo]; omega
theorem textF_length (c : Int) : (textF c).length ≤ 352 := by
  unfold textF
  split
  · split
    · decide
    · refine Nat.le_trans (join_short ((listTo c 16).map Lib.itoa) (fun x hx => ?_)) (by have := listTo_length c 16; simp; omega)
      obtain ⟨y, hy, rfl⟩ := List.mem_map.1 hx
      have := listTo_mem c 16 (Nat.le_refl _) y hy
      exact Lib.itoa_length_le y (by omega) (by omega)
  · decide

set_option maxRecDepth 400000 in
set_option maxHeartbeats 3200000 in
theorem crewParts_law (ea : Nat → Addr) (a b c : Nat) (w : World) (hg : Glob w ea [1, 2, 4]) (hT : TxtEnv w) (ha : a < 65536) (hb : b < 65536) (hc : c < 65536) :
    Calls Tryd.prog 6 #[.int .i64 a, .int .i64 b, .int .i64 c] w fun e w' => e = .returned (.bool true) ∧ Below w.heap.size w w' := by
  have C := Lib.hid (crewed_any ea w hg hT)
  have HG := Lib.hid (fun (W : World) (h : Below w.heap.size w W) => show Glob W ea [2] from (hg.below h).sub (by simp))
  have hcr : ∀ k : Nat, k < 65536 → crewB (k : Int) = true := fun k hk => by simp only [crewB, decide_eq_true_eq]; omega
  have KA := Lib.hid (fun W h => check_ok ea a W (HG.out W h) (hcr a ha))
  have KB := Lib.hid (fun W h => check_ok ea b W (HG.out W h) (hcr b hb))
  have KC := Lib.hid (fun W h => check_ok ea c W (HG.out W h) (hcr c hc))
  have hab : a &&& b < 65536 := and_lt ha
  have hle : lessN a b < 65536 := lessN_lt ha
  have hac : a &&& c < 65536 := and_lt ha
  have hbc : b &&& c < 65536 := and_lt hb
  have K1 := Lib.hid (fun W h => both_nat ea a b W (HG.out W h) ha hb)
  have K2 := Lib.hid (fun W h => less_nat ea a b W (HG.out W h) ha hb)
  have K3 := Lib.hid (fun W h => either_nat ea (lessN a b) (a &&& b) W (HG.out W h) hle hab)
  have K4 := Lib.hid (fun W h => list_any ea a W (HG.out W h))
  have hall : ∀ x ∈ listTo a 16, nodeB x = true := fun x hx => (listTo_mem a 16 (Nat.le_refl _) x hx).1
  have hlen := listTo_length a 16
  have K5 := Lib.hid (fun (p : Option Addr) (cap : Nat) (W : World) (hr : RowAt W p (encInts (listTo a 16))) => of_ok p _ cap (listTo a 16) W rfl hr (by omega) hall)
  have K6 := Lib.hid (fun W h => text_any ea a W (HG.out W h))
  have K7 := Lib.hid (fun (W : World) (h : Below w.heap.size w W) => read_nat ea a W ((hg.below h).sub (by simp)) (hT.below h) ha (by have := textF_length a; omega))
  have M1 := Lib.hid (fun W h => many_nat ea (lessN a b) W (HG.out W h) hle)
  have M2 := Lib.hid (fun W h => many_nat ea (a &&& b) W (HG.out W h) hab)
  have M3 := Lib.hid (fun W h => many_nat ea a W (HG.out W h) ha)
  have K8 := Lib.hid (fun W h => both_nat ea a c W (HG.out W h) ha hc)
  have K9 := Lib.hid (fun W h => both_nat ea b c W (HG.out W h) hb hc)
  have M4 := Lib.hid (fun W h => many_nat ea (a &&& c) W (HG.out W h) hac)
  have M5 := Lib.hid (fun W h => many_nat ea (b &&& c) W (HG.out W h) hbc)
  have M6 := Lib.hid (fun W h => many_nat ea c W (HG.out W h) hc)
  have hor := less_or_both a b
  have hpp : pop (lessN a b) + pop (a &&& b) = pop a := pop_parts a b 16
  have hap : a &&& b = 0 → pop (a &&& c) + pop (b &&& c) ≤ pop c := fun h => pop_apart a b c h 16
  have l1 : pop (lessN a b) ≤ 16 := pop_le _ 16
  have l2 : pop (a &&& b) ≤ 16 := pop_le _ 16
  have l4 : pop (a &&& c) ≤ 16 := pop_le _ 16
  have l5 : pop (b &&& c) ≤ 16 := pop_le _ 16
  have l6 : pop c ≤ 16 := pop_le _ 16
  rw [hor] at K3
  rw [crewOf_list16 a ha] at K5
  generalize a &&& b = ab at *
  generalize lessN a b = le at *
  generalize a &&& c = ac at *
  generalize b &&& c = bc at *
  generalize pop a = pa at *
  generalize pop le = p1 at *
  generalize pop ab = p2 at *
  generalize pop ac = p4 at *
  generalize pop bc = p5 at *
  generalize pop c = p6 at *
  generalize textF a = ta at *
  have hq1 : ((p1 : Int) + (p2 : Int) != (pa : Int)) = false := by rw [← hpp]; simp
  have HAP := Lib.hid hap
  clear hg hT hcr hor hpp hap hall hlen
  have hfin : 2 * (p4 : Int) ≤ p6 ∨ (¬ 2 * (p4 : Int) ≤ p6 ∧ 2 * (p5 : Int) ≤ p6) ∨ (¬ 2 * (p4 : Int) ≤ p6 ∧ ¬ 2 * (p5 : Int) ≤ p6 ∧ ((ab : Int) != 0) = true) := by
    by_cases h0 : ab = 0
    · have := HAP.out h0; omega
    · have : ((ab : Int) != 0) = true := by simp; omega
      by_cases h1 : 2 * (p4 : Int) ≤ p6
      · exact Or.inl h1
      · by_cases h2 : 2 * (p5 : Int) ≤ p6
        · exact Or.inr (Or.inl ⟨h1, h2⟩)
        · exact Or.inr (Or.inr ⟨h1, h2, this⟩)
  go_enter Tryd.func6, Tryd.ntmps6
  go_wp2_with fail
  refine C.out.mono ?_
  rintro e w1 ⟨rfl, hb1⟩
  go_wp2_with fail
  refine (KA.out _ hb1).mono ?_
  rintro e w2 ⟨rfl, rfl⟩
  go_wp2_with fail
  refine (KB.out _ hb1).mono ?_
  rintro e w2 ⟨rfl, rfl⟩
  go_wp2_with fail
  refine (KC.out _ hb1).mono ?_
  rintro e w2 ⟨rfl, rfl⟩
  go_wp2_with fail
  refine (K1.out _ hb1).mono ?_
  rintro e w2 ⟨rfl, rfl⟩
  go_wp2_with fail
  refine (K2.out _ hb1).mono ?_
  rintro e w2 ⟨rfl, rfl⟩
  go_wp2_with fail
  refine (K3.out _ hb1).mono ?_
  rintro e w2 ⟨rfl, rfl⟩
  go_wp2_with fail
  refine (K4.out _ hb1).mono ?_
  rintro e w2 ⟨v, rfl, ho, hb2⟩
  obtain ⟨ao, co, rfl⟩ := owned_shape ho
  obtain ⟨ra, _, na, _⟩ := RowAt.owned ho
  have hv2 := ontoC hb1 hb2
  clear ho na
  go_wp2_with fail
  refine (K5.out ao co _ ra).mono ?_
  rintro e w3 ⟨rfl, rfl⟩
  clear ra
  go_wp2_with fail
  refine (K6.out _ hv2).mono ?_
  rintro e w3 ⟨rfl, hb3⟩
  have hv3 := ontoC hv2 hb3
  go_wp2_with fail
  refine (K7.out _ hv3).mono ?_
  rintro e w4 ⟨rfl, hb4⟩
  have hv4 := ontoC hv3 hb4
  clear hv3 hv2 hb1 hb2 hb3 hb4
  go_wp2_with fail
  refine (M1.out _ hv4).mono ?_
  rintro e w5 ⟨rfl, rfl⟩
  go_wp2_with fail
  refine (M2.out _ hv4).mono ?_
  rintro e w5 ⟨rfl, rfl⟩
  go_wp2_with fail
  refine (M3.out _ hv4).mono ?_
  rintro e w5 ⟨rfl, rfl⟩
  go_wp2_with fail
  refine (K8.out _ hv4).mono ?_
  rintro e w5 ⟨rfl, rfl⟩
  go_wp2_with fail
  refine (K9.out _ hv4).mono ?_
  rintro e w5 ⟨rfl, rfl⟩
  go_wp2_with fail
  refine (M4.out _ hv4).mono ?_
  rintro e w5 ⟨rfl, rfl⟩
  go_wp2_with fail
  refine (M6.out _ hv4).mono ?_
  rintro e w5 ⟨rfl, rfl⟩
  rcases hfin with h1 | ⟨h1, h2⟩ | ⟨h1, h2, h3⟩
  · go_wp2
    go_ret
    exact ⟨ret_bool (by simp; try omega), hv4⟩
  · have h1' : decide (2 * (p4 : Int) ≤ p6) = false := by simpa using h1
    go_wp2_with fail
    refine (M5.out _ hv4).mono ?_
    rintro e w5 ⟨rfl, rfl⟩
    go_wp2_with fail
    refine (M6.out _ hv4).mono ?_
    rintro e w5 ⟨rfl, rfl⟩
    go_wp2
    go_ret
    exact ⟨ret_bool (by simp; try omega), hv4⟩
  · have h1' : decide (2 * (p4 : Int) ≤ p6) = false := by simpa using h1
    have h2' : decide (2 * (p5 : Int) ≤ p6) = false := by simpa using h2
    go_wp2_with fail
    refine (M5.out _ hv4).mono ?_
    rintro e w5 ⟨rfl, rfl⟩
    go_wp2_with fail
    refine (M6.out _ hv4).mono ?_
    rintro e w5 ⟨rfl, rfl⟩
    go_wp2
    go_ret
    exact ⟨ret_bool (by simp), hv4⟩

theorem walk_CrewParts (ea : Nat → Addr) (a b c : Int) (w : World) (hg : Glob w ea [1, 2, 4]) (hT : TxtEnv w) (_h1 : -9223372036854775808 ≤ a ∧ a ≤ 9223372036854775807) (_h2 : -9223372036854775808 ≤ b ∧ b ≤ 9223372036854775807) (_h3 : -9223372036854775808 ≤ c ∧ c ≤ 9223372036854775807) :
    Calls Tryd.prog 6 #[.int .i64 a, .int .i64 b, .int .i64 c] w fun e w' => e = .returned (.bool true) ∧ Below w.heap.size w w' := by
  cases ha : crewB a
  · exact crewParts_bad ea a b c w hg hT (Or.inl ha)
  · cases hb : crewB b
    · exact crewParts_bad ea a b c w hg hT (Or.inr (Or.inl hb))
    · cases hc : crewB c
      · exact crewParts_bad ea a b c w hg hT (Or.inr (Or.inr hc))
      · obtain ⟨x, rfl, hx⟩ := crew_nat ha
        obtain ⟨y, rfl, hy⟩ := crew_nat hb
        obtain ⟨z, rfl, hz⟩ := crew_nat hc
        exact crewParts_law ea x y z w hg hT hx hy hz
end Go.Proofs.YtlpgafpmhihneaaDoor
