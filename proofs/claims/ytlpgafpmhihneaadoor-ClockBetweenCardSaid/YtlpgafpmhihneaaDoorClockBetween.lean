/- ClockBetween: the law's walk. -/
import Derived.Test.YtlpgafpmhihneaaDoorClockAny
import Derived.Test.YtlpgafpmhihneaaDoorFlat
namespace Go.Proofs.YtlpgafpmhihneaaDoor
open Go.RowKit

set_option maxRecDepth 100000 in
theorem clockBetween_guard (ea : Nat → Addr) (a a2 : Option Addr) (n cap n2 cap2 : Nat) (at' : Int) (w : World) (hg : Glob w ea [2]) (hc : n ≤ 4611686018427387904) (hc2 : n2 ≤ 4611686018427387904) (h : 20 < n ∨ 10 < n2 ∨ at' < 0 ∨ (n : Int) < at') :
    Calls Tryd.prog 3 #[.slice a n cap, .slice a2 n2 cap2, .int .i64 at'] w fun e w' => e = .returned (.bool true) ∧ Below w.heap.size w w' := by
  have C := Lib.hid (clocked_any ea w hg)
  clear hg
  go_enter Tryd.func3, Tryd.ntmps3
  go_wp2_with fail
  refine C.out.mono ?_
  rintro e w1 ⟨rfl, hb⟩
  go_wp2
  all_goals first
    | omega
    | (go_ret
       exact ⟨rfl, hb⟩)

theorem encInts_append (l m : List Int) : encInts (l ++ m) = encInts l ++ encInts m := by simp [encInts]
theorem foldl_take_succ (f : Int → Int → Int) (m : Int) (l : List Int) (j : Nat) (hj : j < l.length) : (l.take (j + 1)).foldl f m = f ((l.take j).foldl f m) (l.getD j 0) := by
  rw [List.take_succ_eq_append_getElem hj, List.foldl_append, List.getD_eq_getElem?_getD, List.getElem?_eq_getElem hj]; rfl
theorem headD_getD (l : List Int) : l.headD 0 = l.getD 0 0 := by cases l <;> rfl

set_option maxRecDepth 400000 in
set_option maxHeartbeats 3200000 in
theorem clockBetween_law (ea : Nat → Addr) (a a2 : Option Addr) (n cap n2 cap2 : Nat) (rs ws : List Int) (p : Nat) (w : World) (hg : Glob w ea [2]) (hn : rs.length = n) (hr : RowAt w a (encInts rs)) (hn2 : ws.length = n2) (hr2 : RowAt w a2 (encInts ws)) (h : n ≤ 20) (h2 : n2 ≤ 10) (hp : p ≤ n) (hn0 : 0 < n) (hpc : p < cap) :
    Calls Tryd.prog 3 #[.slice a n cap, .slice a2 n2 cap2, .int .i64 p] w fun e w' => e = .returned (.bool true) ∧ Below w.heap.size w w' := by
  have C := Lib.hid (clocked_any ea w hg)
  obtain ⟨i0, hi, hz0, hz1, hz2⟩ := info_parts info_int
  have hi' := Lib.hid hi
  have hz0' := Lib.hid hz0
  have hz1' := Lib.hid hz1
  have hz2' := Lib.hid hz2
  have HN := Lib.hid hn
  have HN2 := Lib.hid hn2
  obtain ⟨b, off, rfl, hbl, _⟩ := hr.at (fun e => by have h1 := encInts_length rs; rw [e, hn] at h1; simp at h1; omega)
  have HD : Hid (RowAt w (some ⟨b, off + p, none⟩) (encInts (rs.drop p))) := by unfold Hid; have h := hr.drop p; rw [Option.map_some, show (⟨b, off, none⟩ : Addr).add p = ⟨b, off + p, none⟩ by (unfold Addr.add; split <;> simp_all)] at h; rwa [encInts_drop]
  have hd1 : decide ((20 : Int) < (n : Int)) = false := by simp; omega
  have hd2 : decide ((10 : Int) < (n2 : Int)) = false := by simp; omega
  have hd3 : decide ((p : Int) < 0) = false := by simp
  clear hi hz0 hz1 hz2 hn hn2
  go_enter Tryd.func3, Tryd.ntmps3
  go_wp2_with fail
  refine C.out.mono ?_
  rintro e w1 ⟨rfl, hb1⟩
  go_wp2_with (first
    | (at_builtin; refine wpList_append2 _ rfl (.tmp 38) (.tmp 41) 22 rfl w1.heap.size 3 i0 _ 1 8 Tryd.underlying22 hi'.out hz0'.out hz1'.out hz2'.out rfl (by decide) (.slice none 0 0) 0 [] rfl (World.ownsRow_nil _ _ _ _) (some ⟨b, off, none⟩) p cap (encInts (rs.take p)) rfl ?_ ?_ ?_ ?_ ?_ ?_ ?_; (rw [encInts_length, List.length_take, HN.out]; omega); (rw [encInts_take]; exact (hr.below hb1).take p); exact encInts_one _; unfold maxLen; omega; omega; exact Nat.le_refl _; intro v2 w2 ho2 hg2 hq hm2; clear hq hm2; rw [List.nil_append, Nat.zero_add] at ho2; have hb2 := onto' hb1 ((Below.refl w1.heap.size w1).grown hg2 (Nat.le_refl _) (fun j e => by simp [Value.ownBlock] at e)); have hl2 : w1.heap.size ≤ w2.heap.size := hg2.size)
    | (at_builtin; refine wpList_append2 _ rfl (.tmp 43) (.tmp 44) 22 rfl w1.heap.size 3 i0 _ 1 8 Tryd.underlying22 hi'.out hz0'.out hz1'.out hz2'.out rfl (by decide) v2 p (encInts (rs.take p)) rfl ho2 a2 n2 cap2 (encInts ws) rfl ?_ ?_ ?_ ?_ ?_ ?_ ?_; (rw [encInts_length, HN2.out]; omega); exact hr2.below hb2; exact encInts_one _; unfold maxLen; omega; omega; exact hl2; intro v3 w3 ho3 hg3 hq hm3; clear hq hm3; have hb3 := hb2.grown hg3 hb2.size (fun j e => Nat.le_trans hb1.size (ho2.lt j e).1); have hl3 : w1.heap.size ≤ w3.heap.size := Nat.le_trans hl2 hg3.size)
    | (at_builtin; refine wpList_append2 _ rfl (.tmp 46) (.tmp 49) 22 rfl w1.heap.size 3 i0 _ 1 8 Tryd.underlying22 hi'.out hz0'.out hz1'.out hz2'.out rfl (by decide) v3 (p + n2) (encInts (rs.take p) ++ encInts ws) rfl ho3 (some ⟨b, off + p, none⟩) (n - p) (cap - p) (encInts (rs.drop p)) rfl ?_ ?_ ?_ ?_ ?_ ?_ ?_; (rw [encInts_length, List.length_drop, HN.out]; omega); exact HD.out.below hb3; exact encInts_one _; unfold maxLen; omega; omega; exact hl3; intro v4 w4 ho4 hg4 hq hm4; clear hq hm4; have hb4 := hb3.grown hg4 hb3.size (fun j e => Nat.le_trans hb1.size (ho3.lt j e).1)))
  rw [← encInts_append, ← encInts_append] at ho4
  obtain ⟨ao, co, rfl⟩ := owned_shape ho4
  obtain ⟨ra, _, na, _⟩ := RowAt.owned ho4
  have hperm : (rs.take p ++ ws ++ rs.drop p).Perm (rs ++ ws) := by
    have h1 : (rs.take p ++ ws ++ rs.drop p).Perm (rs.take p ++ rs.drop p ++ ws) := by
      rw [List.append_assoc, List.append_assoc]; exact List.Perm.append_left _ List.perm_append_comm
    rwa [List.take_append_drop] at h1
  have hlen : (rs.take p ++ ws ++ rs.drop p).length = n + n2 := by rw [hperm.length_eq, List.length_append, HN.out, HN2.out]
  have hL4 : p + n2 + (n - p) = n + n2 := by omega
  rw [hL4] at ho4 ⊢
  have KM := Lib.hid (mid_any ea ao (n + n2) co (rs.take p ++ ws ++ rs.drop p) n2 w4 (hg.below hb4) hlen ra (by omega))
  have HP := Lib.hid hperm
  have HLL := Lib.hid hlen
  have HR4 := Lib.hid (hr.below hb4)
  generalize rs.take p ++ ws ++ rs.drop p = L at *
  clear ho4 ra hperm hlen hg2 hg3 hg4 ho2 ho3
  by_cases hok : (clockF L n2).1 = 0
  · obtain ⟨hF, _, hk, hfar⟩ := clockF_zero hok
    have hV : midF L n2 = (midV L n2, 0, -1) := by rw [midF, if_pos hok, Int.toNat_natCast]
    rw [hV] at KM
    have hfr : ∀ x ∈ rs, farB x = false := fun x hx => hfar x (HP.out.mem_iff.2 (List.mem_append_left _ hx))
    have hbd := midV_bounds hok
    have hrs : rs ≠ [] := fun e => by have := HN.out; rw [e] at this; simp at this; omega
    have HB : Hid (Lib.minOf rs ≤ midV L n2 ∧ midV L n2 ≤ Lib.maxOf rs) := by
      have := mid_between HP.out (by rw [HN2.out]; omega) (Lib.minOf rs) (Lib.maxOf rs) (minOf_min hrs).2 (maxOf_max hrs).2
      rwa [HN2.out] at this
    have HSP : Hid (spreadF rs = Lib.maxOf rs - Lib.minOf rs) := by unfold Hid; rw [spreadF, if_neg hrs]
    have KS := Lib.hid (fun (W : World) (hb : Below w.heap.size w W) => spread_any (some ⟨b, off, none⟩) n cap rs W HN.out (hr.below hb) (by omega) hfr)
    have HFR := Lib.hid hfr
    generalize midV L n2 = V at *
    clear hok hF hV hk hfar hfr HLL HP
    go_wp2_with fail
    refine KM.out.mono ?_
    rintro e w5 ⟨v5, rfl, hE, hb5⟩
    obtain rfl := hE.nil
    have hv5 := onto' hb4 hb5
    clear hE hb5
    have hrw := hr.below hv5
    have hcell : ∀ j, j < n → w5.cell? ⟨b, off + j, none⟩ = some (.int .i64 (rs.getD j 0)) := fun j hj => by
      obtain ⟨b', off', e', _, q⟩ := hrw.intG j (by rw [HN.out]; exact hj)
      injection e' with e'; injection e' with e1 e2; subst e1 e2; exact q
    have HCELL := Lib.hid hcell
    have q0 := hcell 0 hn0
    rw [Nat.add_zero] at q0
    have H0 := Lib.hid (headD_getD rs)
    clear hcell
    go_wp2
    go_loop [11, 12, 13] (fun lo hi i => ∃ j : Nat, j ≤ n ∧ i = .int .i64 j ∧ lo = .int .i64 ((rs.take j).foldl min (rs.headD 0)) ∧ hi = .int .i64 ((rs.take j).foldl max (rs.headD 0))) (fun _ _ i => n - (intOf i).toNat)
    case atStart => exact ⟨0, Nat.zero_le _, rfl, by rw [H0.out]; rfl, by rw [H0.out]; rfl⟩
    case round =>
      obtain ⟨j, hj, rfl, rfl, rfl⟩ := hrel
      by_cases hlt : j < n
      · have q := HCELL.out j hlt
        have S1 := Lib.hid (foldl_take_succ min (rs.headD 0) rs j (by rw [HN.out]; exact hlt))
        have S2 := Lib.hid (foldl_take_succ max (rs.headD 0) rs j (by rw [HN.out]; exact hlt))
        generalize (rs.take j).foldl min (rs.headD 0) = lo at *
        generalize (rs.take j).foldl max (rs.headD 0) = hi at *
        generalize rs.getD j 0 = x at *
        have hi0 : (0 : Int) ≤ (j : Int) := by omega
        have hi1 : (j : Int) < (n : Int) := by omega
        by_cases h1 : x < lo
        · by_cases h2 : hi < x
          · go_wp2
            go_round
            case rel => exact ⟨j + 1, by omega, by go_num, by rw [S1.out, Int.min_eq_right (by omega)], by rw [S2.out, Int.max_eq_right (by omega)]⟩
            case measure => simp [intOf]; omega
          · go_wp2
            go_round
            case rel => exact ⟨j + 1, by omega, by go_num, by rw [S1.out, Int.min_eq_right (by omega)], by rw [S2.out, Int.max_eq_left (by omega)]⟩
            case measure => simp [intOf]; omega
        · by_cases h2 : hi < x
          · go_wp2
            go_round
            case rel => exact ⟨j + 1, by omega, by go_num, by rw [S1.out, Int.min_eq_left (by omega)], by rw [S2.out, Int.max_eq_right (by omega)]⟩
            case measure => simp [intOf]; omega
          · go_wp2
            go_round
            case rel => exact ⟨j + 1, by omega, by go_num, by rw [S1.out, Int.min_eq_left (by omega)], by rw [S2.out, Int.max_eq_left (by omega)]⟩
            case measure => simp [intOf]; omega
      · have e1 : (rs.take j).foldl min (rs.headD 0) = Lib.minOf rs := by rw [List.take_of_length_le (by rw [HN.out]; omega)]; rfl
        have e2 : (rs.take j).foldl max (rs.headD 0) = Lib.maxOf rs := by rw [List.take_of_length_le (by rw [HN.out]; omega)]; rfl
        rw [e1, e2]
        clear e1 e2
        have f1 := HFR.out _ (minOf_min hrs).1
        have f2 := HFR.out _ (maxOf_max hrs).1
        simp only [farB, decide_eq_false_iff_not] at f1 f2
        have KS5 := Lib.hid (KS.out _ hv5)
        rw [HSP.out] at KS5
        obtain ⟨g1, g2⟩ := HB.out
        generalize Lib.minOf rs = m at *
        generalize Lib.maxOf rs = M at *
        clear hrs
        go_wp2_with (go_at_call 11; refine KS5.out.mono ?_; rintro e w6 ⟨rfl, rfl⟩)
        go_ret
        exact ⟨ret_bool (by simp), hv5⟩
  · have hV : midF L n2 = (0, clockF L n2) := by rw [midF, if_neg hok]
    rw [hV] at KM
    have HOK := Lib.hid hok
    clear hok hV
    go_wp2_with fail
    refine KM.out.mono ?_
    rintro e w5 ⟨v5, rfl, hE, hb5⟩
    obtain ⟨t, x, rfl⟩ := hE.held HOK.out
    go_wp2
    go_ret
    exact ⟨rfl, onto' hb4 hb5⟩
set_option maxRecDepth 400000 in
set_option maxHeartbeats 3200000 in
theorem clockBetween_end (ea : Nat → Addr) (a a2 : Option Addr) (n n2 cap2 : Nat) (rs ws : List Int) (w : World) (hg : Glob w ea [2]) (hn : rs.length = n) (hr : RowAt w a (encInts rs)) (hn2 : ws.length = n2) (hr2 : RowAt w a2 (encInts ws)) (h : n ≤ 20) (h2 : n2 ≤ 10) (hn0 : 0 < n) :
    Calls Tryd.prog 3 #[.slice a n n, .slice a2 n2 cap2, .int .i64 n] w fun e w' => e = .returned (.bool true) ∧ Below w.heap.size w w' := by
  have C := Lib.hid (clocked_any ea w hg)
  obtain ⟨i0, hi, hz0, hz1, hz2⟩ := info_parts info_int
  have hi' := Lib.hid hi
  have hz0' := Lib.hid hz0
  have hz1' := Lib.hid hz1
  have hz2' := Lib.hid hz2
  have HN := Lib.hid hn
  have HN2 := Lib.hid hn2
  obtain ⟨b, off, rfl, hbl, _⟩ := hr.at (fun e => by have h1 := encInts_length rs; rw [e, hn] at h1; simp at h1; omega)
  have HD : Hid (RowAt w (some ⟨b, off, none⟩) (encInts (rs.drop n))) := by unfold Hid; rw [List.drop_eq_nil_of_le (by omega)]; exact Or.inl rfl
  have hd1 : decide ((20 : Int) < (n : Int)) = false := by simp; omega
  have hd2 : decide ((10 : Int) < (n2 : Int)) = false := by simp; omega
  have hd3 : decide ((n : Int) < 0) = false := by simp
  clear hi hz0 hz1 hz2 hn hn2
  go_enter Tryd.func3, Tryd.ntmps3
  go_wp2_with fail
  refine C.out.mono ?_
  rintro e w1 ⟨rfl, hb1⟩
  go_wp2_with (first
    | (at_builtin; refine wpList_append2 _ rfl (.tmp 38) (.tmp 41) 22 rfl w1.heap.size 3 i0 _ 1 8 Tryd.underlying22 hi'.out hz0'.out hz1'.out hz2'.out rfl (by decide) (.slice none 0 0) 0 [] rfl (World.ownsRow_nil _ _ _ _) (some ⟨b, off, none⟩) n n (encInts (rs.take n)) rfl ?_ ?_ ?_ ?_ ?_ ?_ ?_; (rw [encInts_length, List.length_take, HN.out]; omega); (rw [encInts_take]; exact (hr.below hb1).take n); exact encInts_one _; unfold maxLen; omega; omega; exact Nat.le_refl _; intro v2 w2 ho2 hg2 hq hm2; clear hq hm2; rw [List.nil_append, Nat.zero_add] at ho2; have hb2 := onto' hb1 ((Below.refl w1.heap.size w1).grown hg2 (Nat.le_refl _) (fun j e => by simp [Value.ownBlock] at e)); have hl2 : w1.heap.size ≤ w2.heap.size := hg2.size)
    | (at_builtin; refine wpList_append2 _ rfl (.tmp 43) (.tmp 44) 22 rfl w1.heap.size 3 i0 _ 1 8 Tryd.underlying22 hi'.out hz0'.out hz1'.out hz2'.out rfl (by decide) v2 n (encInts (rs.take n)) rfl ho2 a2 n2 cap2 (encInts ws) rfl ?_ ?_ ?_ ?_ ?_ ?_ ?_; (rw [encInts_length, HN2.out]; omega); exact hr2.below hb2; exact encInts_one _; unfold maxLen; omega; omega; exact hl2; intro v3 w3 ho3 hg3 hq hm3; clear hq hm3; have hb3 := hb2.grown hg3 hb2.size (fun j e => Nat.le_trans hb1.size (ho2.lt j e).1); have hl3 : w1.heap.size ≤ w3.heap.size := Nat.le_trans hl2 hg3.size)
    | (at_builtin; refine wpList_append2 _ rfl (.tmp 46) (.tmp 49) 22 rfl w1.heap.size 3 i0 _ 1 8 Tryd.underlying22 hi'.out hz0'.out hz1'.out hz2'.out rfl (by decide) v3 (n + n2) (encInts (rs.take n) ++ encInts ws) rfl ho3 (some ⟨b, off, none⟩) 0 0 (encInts (rs.drop n)) rfl ?_ ?_ ?_ ?_ ?_ ?_ ?_; (rw [encInts_length, List.length_drop, HN.out]; omega); exact HD.out.below hb3; exact encInts_one _; unfold maxLen; omega; omega; exact hl3; intro v4 w4 ho4 hg4 hq hm4; clear hq hm4; have hb4 := hb3.grown hg4 hb3.size (fun j e => Nat.le_trans hb1.size (ho3.lt j e).1)))
  rw [← encInts_append, ← encInts_append] at ho4
  obtain ⟨ao, co, rfl⟩ := owned_shape ho4
  obtain ⟨ra, _, na, _⟩ := RowAt.owned ho4
  have hperm : (rs.take n ++ ws ++ rs.drop n).Perm (rs ++ ws) := by
    have h1 : (rs.take n ++ ws ++ rs.drop n).Perm (rs.take n ++ rs.drop n ++ ws) := by
      rw [List.append_assoc, List.append_assoc]; exact List.Perm.append_left _ List.perm_append_comm
    rwa [List.take_append_drop] at h1
  have hlen : (rs.take n ++ ws ++ rs.drop n).length = n + n2 := by rw [hperm.length_eq, List.length_append, HN.out, HN2.out]
  have hL4 : n + n2 + 0 = n + n2 := by omega
  rw [hL4] at ho4 ⊢
  have KM := Lib.hid (mid_any ea ao (n + n2) co (rs.take n ++ ws ++ rs.drop n) n2 w4 (hg.below hb4) hlen ra (by omega))
  have HP := Lib.hid hperm
  have HLL := Lib.hid hlen
  have HR4 := Lib.hid (hr.below hb4)
  generalize rs.take n ++ ws ++ rs.drop n = L at *
  clear ho4 ra hperm hlen hg2 hg3 hg4 ho2 ho3
  by_cases hok : (clockF L n2).1 = 0
  · obtain ⟨hF, _, hk, hfar⟩ := clockF_zero hok
    have hV : midF L n2 = (midV L n2, 0, -1) := by rw [midF, if_pos hok, Int.toNat_natCast]
    rw [hV] at KM
    have hfr : ∀ x ∈ rs, farB x = false := fun x hx => hfar x (HP.out.mem_iff.2 (List.mem_append_left _ hx))
    have hbd := midV_bounds hok
    have hrs : rs ≠ [] := fun e => by have := HN.out; rw [e] at this; simp at this; omega
    have HB : Hid (Lib.minOf rs ≤ midV L n2 ∧ midV L n2 ≤ Lib.maxOf rs) := by
      have := mid_between HP.out (by rw [HN2.out]; omega) (Lib.minOf rs) (Lib.maxOf rs) (minOf_min hrs).2 (maxOf_max hrs).2
      rwa [HN2.out] at this
    have HSP : Hid (spreadF rs = Lib.maxOf rs - Lib.minOf rs) := by unfold Hid; rw [spreadF, if_neg hrs]
    have KS := Lib.hid (fun (W : World) (hb : Below w.heap.size w W) => spread_any (some ⟨b, off, none⟩) n n rs W HN.out (hr.below hb) (by omega) hfr)
    have HFR := Lib.hid hfr
    generalize midV L n2 = V at *
    clear hok hF hV hk hfar hfr HLL HP
    go_wp2_with fail
    refine KM.out.mono ?_
    rintro e w5 ⟨v5, rfl, hE, hb5⟩
    obtain rfl := hE.nil
    have hv5 := onto' hb4 hb5
    clear hE hb5
    have hrw := hr.below hv5
    have hcell : ∀ j, j < n → w5.cell? ⟨b, off + j, none⟩ = some (.int .i64 (rs.getD j 0)) := fun j hj => by
      obtain ⟨b', off', e', _, q⟩ := hrw.intG j (by rw [HN.out]; exact hj)
      injection e' with e'; injection e' with e1 e2; subst e1 e2; exact q
    have HCELL := Lib.hid hcell
    have q0 := hcell 0 hn0
    rw [Nat.add_zero] at q0
    have H0 := Lib.hid (headD_getD rs)
    clear hcell
    go_wp2
    go_loop [11, 12, 13] (fun lo hi i => ∃ j : Nat, j ≤ n ∧ i = .int .i64 j ∧ lo = .int .i64 ((rs.take j).foldl min (rs.headD 0)) ∧ hi = .int .i64 ((rs.take j).foldl max (rs.headD 0))) (fun _ _ i => n - (intOf i).toNat)
    case atStart => exact ⟨0, Nat.zero_le _, rfl, by rw [H0.out]; rfl, by rw [H0.out]; rfl⟩
    case round =>
      obtain ⟨j, hj, rfl, rfl, rfl⟩ := hrel
      by_cases hlt : j < n
      · have q := HCELL.out j hlt
        have S1 := Lib.hid (foldl_take_succ min (rs.headD 0) rs j (by rw [HN.out]; exact hlt))
        have S2 := Lib.hid (foldl_take_succ max (rs.headD 0) rs j (by rw [HN.out]; exact hlt))
        generalize (rs.take j).foldl min (rs.headD 0) = lo at *
        generalize (rs.take j).foldl max (rs.headD 0) = hi at *
        generalize rs.getD j 0 = x at *
        have hi0 : (0 : Int) ≤ (j : Int) := by omega
        have hi1 : (j : Int) < (n : Int) := by omega
        by_cases h1 : x < lo
        · by_cases h2 : hi < x
          · go_wp2
            go_round
            case rel => exact ⟨j + 1, by omega, by go_num, by rw [S1.out, Int.min_eq_right (by omega)], by rw [S2.out, Int.max_eq_right (by omega)]⟩
            case measure => simp [intOf]; omega
          · go_wp2
            go_round
            case rel => exact ⟨j + 1, by omega, by go_num, by rw [S1.out, Int.min_eq_right (by omega)], by rw [S2.out, Int.max_eq_left (by omega)]⟩
            case measure => simp [intOf]; omega
        · by_cases h2 : hi < x
          · go_wp2
            go_round
            case rel => exact ⟨j + 1, by omega, by go_num, by rw [S1.out, Int.min_eq_left (by omega)], by rw [S2.out, Int.max_eq_right (by omega)]⟩
            case measure => simp [intOf]; omega
          · go_wp2
            go_round
            case rel => exact ⟨j + 1, by omega, by go_num, by rw [S1.out, Int.min_eq_left (by omega)], by rw [S2.out, Int.max_eq_left (by omega)]⟩
            case measure => simp [intOf]; omega
      · have e1 : (rs.take j).foldl min (rs.headD 0) = Lib.minOf rs := by rw [List.take_of_length_le (by rw [HN.out]; omega)]; rfl
        have e2 : (rs.take j).foldl max (rs.headD 0) = Lib.maxOf rs := by rw [List.take_of_length_le (by rw [HN.out]; omega)]; rfl
        rw [e1, e2]
        clear e1 e2
        have f1 := HFR.out _ (minOf_min hrs).1
        have f2 := HFR.out _ (maxOf_max hrs).1
        simp only [farB, decide_eq_false_iff_not] at f1 f2
        have KS5 := Lib.hid (KS.out _ hv5)
        rw [HSP.out] at KS5
        obtain ⟨g1, g2⟩ := HB.out
        generalize Lib.minOf rs = m at *
        generalize Lib.maxOf rs = M at *
        clear hrs
        go_wp2_with (go_at_call 11; refine KS5.out.mono ?_; rintro e w6 ⟨rfl, rfl⟩)
        go_ret
        exact ⟨ret_bool (by simp), hv5⟩
  · have hV : midF L n2 = (0, clockF L n2) := by rw [midF, if_neg hok]
    rw [hV] at KM
    have HOK := Lib.hid hok
    clear hok hV
    go_wp2_with fail
    refine KM.out.mono ?_
    rintro e w5 ⟨v5, rfl, hE, hb5⟩
    obtain ⟨t, x, rfl⟩ := hE.held HOK.out
    go_wp2
    go_ret
    exact ⟨rfl, onto' hb4 hb5⟩
set_option maxRecDepth 400000 in
set_option maxHeartbeats 3200000 in
theorem clockBetween_zero (ea : Nat → Addr) (a a2 : Option Addr) (cap n2 cap2 : Nat) (ws : List Int) (w : World) (hg : Glob w ea [2]) (hn2 : ws.length = n2) (hr2 : RowAt w a2 (encInts ws)) (h2 : n2 ≤ 10) :
    Calls Tryd.prog 3 #[.slice a 0 cap, .slice a2 n2 cap2, .int .i64 0] w fun e w' => e = .returned (.bool true) ∧ Below w.heap.size w w' := by
  have C := Lib.hid (clocked_any ea w hg)
  obtain ⟨i0, hi, hz0, hz1, hz2⟩ := info_parts info_int
  have hi' := Lib.hid hi
  have hz0' := Lib.hid hz0
  have hz1' := Lib.hid hz1
  have hz2' := Lib.hid hz2
  have HN2 := Lib.hid hn2
  have hd2 : decide ((10 : Int) < (n2 : Int)) = false := by simp; omega
  clear hi hz0 hz1 hz2 hn2
  go_enter Tryd.func3, Tryd.ntmps3
  go_wp2_with fail
  refine C.out.mono ?_
  rintro e w1 ⟨rfl, hb1⟩
  go_wp2_with (first
    | (at_builtin; refine wpList_append2 _ rfl (.tmp 38) (.tmp 41) 22 rfl w1.heap.size 3 i0 _ 1 8 Tryd.underlying22 hi'.out hz0'.out hz1'.out hz2'.out rfl (by decide) (.slice none 0 0) 0 [] rfl (World.ownsRow_nil _ _ _ _) _ 0 _ [] rfl rfl (Or.inl rfl) ?_ ?_ ?_ ?_ ?_; (intro u hu; cases hu); unfold maxLen; omega; omega; exact Nat.le_refl _; intro v2 w2 ho2 hg2 hq hm2; clear hq hm2; have hb2 := onto' hb1 ((Below.refl w1.heap.size w1).grown hg2 (Nat.le_refl _) (fun j e => by simp [Value.ownBlock] at e)); have hl2 : w1.heap.size ≤ w2.heap.size := hg2.size)
    | (at_builtin; refine wpList_append2 _ rfl (.tmp 43) (.tmp 44) 22 rfl w1.heap.size 3 i0 _ 1 8 Tryd.underlying22 hi'.out hz0'.out hz1'.out hz2'.out rfl (by decide) v2 0 [] rfl ho2 a2 n2 cap2 (encInts ws) rfl ?_ ?_ ?_ ?_ ?_ ?_ ?_; (rw [encInts_length, HN2.out]; omega); exact hr2.below hb2; exact encInts_one _; unfold maxLen; omega; omega; exact hl2; intro v3 w3 ho3 hg3 hq hm3; clear hq hm3; have hb3 := hb2.grown hg3 hb2.size (fun j e => Nat.le_trans hb1.size (ho2.lt j e).1); have hl3 : w1.heap.size ≤ w3.heap.size := Nat.le_trans hl2 hg3.size; rw [List.nil_append, Nat.zero_add] at ho3)
    | (at_builtin; refine wpList_append2 _ rfl (.tmp 46) (.tmp 49) 22 rfl w1.heap.size 3 i0 _ 1 8 Tryd.underlying22 hi'.out hz0'.out hz1'.out hz2'.out rfl (by decide) v3 n2 (encInts ws) rfl ho3 _ 0 _ [] rfl rfl (Or.inl rfl) ?_ ?_ ?_ ?_ ?_; (intro u hu; cases hu); unfold maxLen; omega; omega; exact hl3; intro v4 w4 ho4 hg4 hq hm4; clear hq hm4; have hb4 := hb3.grown hg4 hb3.size (fun j e => Nat.le_trans hb1.size (ho3.lt j e).1)))
  all_goals
    rw [List.append_nil, Nat.add_zero] at ho4
    obtain ⟨ao, co, rfl⟩ := owned_shape ho4
    obtain ⟨ra, _, na, _⟩ := RowAt.owned ho4
    have KM := Lib.hid (mid_any ea ao n2 co ws n2 w4 (hg.below hb4) HN2.out ra (by omega))
    have hcl : clockF ws n2 = (2, -1) := by rw [clockF, if_pos (by rw [HN2.out]; omega)]
    have hV : midF ws n2 = (0, 2, -1) := by rw [midF, hcl]; simp
    rw [hV] at KM
    clear hcl hV ho4 ra
    go_wp2_with fail
    refine KM.out.mono ?_
    rintro e w5 ⟨v5, rfl, hE, hb5⟩
    obtain ⟨t, x, rfl⟩ := hE.held (by decide)
    go_wp2
    go_ret
    exact ⟨rfl, onto' hb4 hb5⟩

/-- The law's walk, whole. -/
theorem walk_ClockBetween (ea : Nat → Addr) (a : Option Addr) (n cap : Nat) (rs : List Int) (a2 : Option Addr) (n2 cap2 : Nat) (ws : List Int) (x : Int) (w : World) (hg : Glob w ea [2])
    (hn : rs.length = n) (hr : RowAt w a (encInts rs)) (hc : n ≤ cap) (hb : n ≤ 4611686018427387904) (hn2 : ws.length = n2) (hr2 : RowAt w a2 (encInts ws)) (_hc2 : n2 ≤ cap2) (hb2 : n2 ≤ 4611686018427387904) (_hx : -9223372036854775808 ≤ x ∧ x ≤ 9223372036854775807) :
    Calls Tryd.prog 3 #[.slice a n cap, .slice a2 n2 cap2, .int .i64 x] w fun e w' => e = .returned (.bool true) ∧ Below w.heap.size w w' := by
  by_cases h : 20 < n ∨ 10 < n2 ∨ x < 0 ∨ (n : Int) < x
  · exact clockBetween_guard ea a a2 n cap n2 cap2 x w hg hb hb2 h
  · obtain ⟨p, rfl⟩ : ∃ p : Nat, x = p := ⟨x.toNat, by omega⟩
    by_cases h0 : n = 0
    · subst h0
      obtain rfl : p = 0 := by omega
      exact clockBetween_zero ea a a2 cap n2 cap2 ws w hg hn2 hr2 (by omega)
    · by_cases hpc : p < cap
      · exact clockBetween_law ea a a2 n cap n2 cap2 rs ws p w hg hn hr hn2 hr2 (by omega) (by omega) (by omega) (by omega) hpc
      · obtain rfl : p = n := by omega
        obtain rfl : cap = p := by omega
        exact clockBetween_end ea a a2 cap n2 cap2 rs ws w hg hn hr hn2 hr2 (by omega) (by omega) (by omega)
end Go.Proofs.YtlpgafpmhihneaaDoor
