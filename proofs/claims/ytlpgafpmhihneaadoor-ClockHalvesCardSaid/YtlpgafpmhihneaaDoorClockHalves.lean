/- ClockHalves: the law's walk. -/
import Derived.Test.YtlpgafpmhihneaaDoorClockAny
import Derived.Test.YtlpgafpmhihneaaDoorFlat
namespace Go.Proofs.YtlpgafpmhihneaaDoor
open Go.RowKit

theorem encInts_append (l m : List Int) : encInts (l ++ m) = encInts l ++ encInts m := by simp [encInts]

set_option maxRecDepth 100000 in
theorem clockHalves_guard (ea : Nat → Addr) (a a2 a3 : Option Addr) (n cap n2 cap2 n3 cap3 : Nat) (w : World) (hg : Glob w ea [2]) (hc : n ≤ 4611686018427387904) (hc2 : n2 ≤ 4611686018427387904) (_hc3 : n3 ≤ 4611686018427387904) (h : 30 < n ∨ 8 < n2 ∨ n3 ≠ n2 ∨ n < 2 * n2 + 1) :
    Calls Tryd.prog 4 #[.slice a n cap, .slice a2 n2 cap2, .slice a3 n3 cap3] w fun e w' => e = .returned (.bool true) ∧ Below w.heap.size w w' := by
  have C := Lib.hid (clocked_any ea w hg)
  clear hg
  by_cases h1 : 30 < n
  · clear h
    go_enter Tryd.func4, Tryd.ntmps4
    go_wp2_with fail
    refine C.out.mono ?_
    rintro e w1 ⟨rfl, hb⟩
    go_wp2
    go_ret
    exact ⟨rfl, hb⟩
  · by_cases h2 : 8 < n2
    · clear h
      go_enter Tryd.func4, Tryd.ntmps4
      go_wp2_with fail
      refine C.out.mono ?_
      rintro e w1 ⟨rfl, hb⟩
      go_wp2
      go_ret
      exact ⟨rfl, hb⟩
    · by_cases h3 : n3 = n2
      · have h4 : n < 2 * n2 + 1 := by omega
        have h4' : (n : Int) < 2 * (n2 : Int) + 1 := by omega
        have hq : ((n3 : Int) != (n2 : Int)) = false := by simp; omega
        clear h h3
        go_enter Tryd.func4, Tryd.ntmps4
        go_wp2_with fail
        refine C.out.mono ?_
        rintro e w1 ⟨rfl, hb⟩
        go_wp2
        go_ret
        exact ⟨rfl, hb⟩
      · have hq : ((n3 : Int) != (n2 : Int)) = true := by simp; omega
        clear h h3
        go_enter Tryd.func4, Tryd.ntmps4
        go_wp2_with fail
        refine C.out.mono ?_
        rintro e w1 ⟨rfl, hb⟩
        go_wp2
        go_ret
        exact ⟨rfl, hb⟩

set_option maxRecDepth 400000 in
set_option maxHeartbeats 3200000 in
theorem clockHalves_law (ea : Nat → Addr) (a a2 a3 : Option Addr) (n cap k cap2 cap3 : Nat) (rs ws bs : List Int) (w : World) (hg : Glob w ea [2]) (hn : rs.length = n) (hr : RowAt w a (encInts rs)) (hn2 : ws.length = k) (hr2 : RowAt w a2 (encInts ws)) (hn3 : bs.length = k) (hr3 : RowAt w a3 (encInts bs))
    (h : n ≤ 30) (h2 : k ≤ 8) (h3 : 2 * k + 1 ≤ n) :
    Calls Tryd.prog 4 #[.slice a n cap, .slice a2 k cap2, .slice a3 k cap3] w fun e w' => e = .returned (.bool true) ∧ Below w.heap.size w w' := by
  have C := Lib.hid (clocked_any ea w hg)
  obtain ⟨i0, hi, hz0, hz1, hz2⟩ := info_parts info_int
  have hi' := Lib.hid hi
  have hz0' := Lib.hid hz0
  have hz1' := Lib.hid hz1
  have hz2' := Lib.hid hz2
  have HN := Lib.hid hn
  have HN2 := Lib.hid hn2
  have HN3 := Lib.hid hn3
  have h3' : 2 * (k : Int) + 1 ≤ (n : Int) := by omega
  have hrs : rs ≠ [] := fun e => by rw [e] at hn; simp at hn; omega
  have HRS := Lib.hid hrs
  have HSP : Hid (spreadF rs = Lib.maxOf rs - Lib.minOf rs) := by unfold Hid; rw [spreadF, if_neg hrs]
  have hpL : (rs ++ ws).Perm (rs ++ ws) := List.Perm.refl _
  have hpM : (bs ++ rs).Perm (rs ++ bs) := List.perm_append_comm
  have hhalf := mid_halves hpL hpM (by omega) (by omega) (Lib.minOf rs) (Lib.maxOf rs) (minOf_sorted hrs) (by rw [maxOf_sorted hrs])
  rw [hn2] at hhalf
  have HH := Lib.hid hhalf
  have hl1 : (rs ++ ws).length = n + k := by rw [List.length_append, hn, hn2]
  have hl2 : (bs ++ rs).length = k + n := by rw [List.length_append, hn, hn3]
  have HL1 := Lib.hid hl1
  have HL2 := Lib.hid hl2
  clear hi hz0 hz1 hz2 hn hn2 hn3 hrs hpL hpM hhalf hl1 hl2
  go_enter Tryd.func4, Tryd.ntmps4
  go_wp2_with fail
  refine C.out.mono ?_
  rintro e w1 ⟨rfl, hb1⟩
  go_wp2_with (first
    | (at_builtin; refine wpList_append2 _ rfl (.tmp 45) (.tmp 46) 22 rfl w1.heap.size 3 i0 _ 1 8 Tryd.underlying22 hi'.out hz0'.out hz1'.out hz2'.out rfl (by decide) (.slice none 0 0) 0 [] rfl (World.ownsRow_nil _ _ _ _) a n cap (encInts rs) rfl ?_ ?_ ?_ ?_ ?_ ?_ ?_; (rw [encInts_length, HN.out]; omega); exact hr.below hb1; exact encInts_one _; unfold maxLen; omega; omega; exact Nat.le_refl _; intro v2 w2 ho2 hg2 hq hm2; clear hq hm2; rw [List.nil_append, Nat.zero_add] at ho2; have hb2 := onto' hb1 ((Below.refl w1.heap.size w1).grown hg2 (Nat.le_refl _) (fun j e => by simp [Value.ownBlock] at e)); have hl2 : w1.heap.size ≤ w2.heap.size := hg2.size)
    | (at_builtin; refine wpList_append2 _ rfl (.tmp 48) (.tmp 49) 22 rfl w2.heap.size 3 i0 _ 1 8 Tryd.underlying22 hi'.out hz0'.out hz1'.out hz2'.out rfl (by decide) (.slice none 0 0) 0 [] rfl (World.ownsRow_nil _ _ _ _) a3 k cap3 (encInts bs) rfl ?_ ?_ ?_ ?_ ?_ ?_ ?_; (rw [encInts_length, HN3.out]; omega); exact hr3.below hb2; exact encInts_one _; unfold maxLen; omega; omega; exact Nat.le_refl _; intro v3 w3 ho3 hg3 hq hm3; clear hq hm3; rw [List.nil_append, Nat.zero_add] at ho3; have hb3 := onto' hb2 ((Below.refl w2.heap.size w2).grown hg3 (Nat.le_refl _) (fun j e => by simp [Value.ownBlock] at e)); have ho2' := ho2.kept hg3 (by by_cases e : v2.ownBlock = none; exact Or.inl e; exact Or.inr (by simpa [Value.ownBlock] using e)); have hl3 : w2.heap.size ≤ w3.heap.size := hg3.size; have hap : v3.ownBlock = none ∨ v3.ownBlock ≠ v2.ownBlock := (by by_cases e : v3.ownBlock = none; exact Or.inl e; exact Or.inr (fun e2 => by obtain ⟨j, ej⟩ := Option.ne_none_iff_exists'.1 e; have q1 := (ho3.lt j ej).1; have q2 := (ho2.lt j (e2 ▸ ej)).2; omega)))
    | (at_builtin; refine wpList_append2 _ rfl (.tmp 52) (.tmp 53) 22 rfl w1.heap.size 3 i0 _ 1 8 Tryd.underlying22 hi'.out hz0'.out hz1'.out hz2'.out rfl (by decide) v2 n (encInts rs) rfl ho2' a2 k cap2 (encInts ws) rfl ?_ ?_ ?_ ?_ ?_ ?_ ?_; (rw [encInts_length, HN2.out]; omega); exact hr2.below hb3; exact encInts_one _; unfold maxLen; omega; omega; omega; intro v4 w4 ho4 hg4 hq hm4; clear hq hm4; have hb4 := hb3.grown hg4 hb3.size (fun j e => Nat.le_trans hb1.size (ho2.lt j e).1); have ho3' := ho3.kept hg4 hap; have hl4 : w3.heap.size ≤ w4.heap.size := hg4.size))
  rw [← encInts_append] at ho4
  obtain ⟨ao, co, rfl⟩ := owned_shape ho4
  obtain ⟨ra, _, na, _⟩ := RowAt.owned ho4
  refine (mid_any ea ao (n + k) co (rs ++ ws) k w4 (hg.below hb4) HL1.out ra (by omega)).mono ?_
  rintro e w5 ⟨v5, rfl, hE5, hb5⟩
  have hv5 := onto' hb4 hb5
  have ho3'' := ho3'.kept (below_grows hb5 none) (by by_cases e : v3.ownBlock = none; exact Or.inl e; exact Or.inr e)
  have hl5 : w4.heap.size ≤ w5.heap.size := hb5.size
  clear ho4 ra hg2 hg3 hg4 ho2 ho2' ho3 ho3' hap
  have HF0 : Hid ((clockF (rs ++ ws) k).1 = 0 → ∀ x ∈ rs, farB x = false) := fun h x hx => (clockF_zero h).2.2.2 x (List.mem_append_left _ hx)
  generalize hL1 : rs ++ ws = L1 at *
  clear hL1
  go_wp2_with (at_builtin; refine wpList_append2 _ rfl (.tmp 60) (.tmp 61) 22 rfl w2.heap.size 3 i0 _ 1 8 Tryd.underlying22 hi'.out hz0'.out hz1'.out hz2'.out rfl (by decide) v3 k (encInts bs) rfl ho3'' a n cap (encInts rs) rfl ?_ ?_ ?_ ?_ ?_ ?_ ?_; (rw [encInts_length, HN.out]; omega); exact hr.below hv5; exact encInts_one _; unfold maxLen; omega; omega; omega; intro v6 w6 ho6 hg6 hq hm6; clear hq hm6; have hb6 := hv5.grown hg6 hv5.size (fun j e => Nat.le_trans hb2.size (ho3''.lt j e).1))
  rw [← encInts_append] at ho6
  obtain ⟨ao', co', rfl⟩ := owned_shape ho6
  obtain ⟨ra', _, na', _⟩ := RowAt.owned ho6
  refine (mid_any ea ao' (k + n) co' (bs ++ rs) k w6 (hg.below hb6) HL2.out ra' (by omega)).mono ?_
  rintro e w7 ⟨v7, rfl, hE7, hb7⟩
  have hv7 := onto' hb6 hb7
  generalize hL2 : bs ++ rs = L2 at *
  clear hL2 ho6 ra' hg6 ho3''
  by_cases ok1 : (midF L1 k).2.1 = 0
  · by_cases ok2 : (midF L2 k).2.1 = 0
    · have c1 : (clockF L1 k).1 = 0 := by
        by_cases h : (clockF L1 k).1 = 0
        · exact h
        · rw [midF, if_neg h] at ok1; exact absurd ok1 h
      have c2 : (clockF L2 k).1 = 0 := by
        by_cases h : (clockF L2 k).1 = 0
        · exact h
        · rw [midF, if_neg h] at ok2; exact absurd ok2 h
      have e1 : (midF L1 k).1 = midV L1 k := by rw [midF, if_pos c1, Int.toNat_natCast]
      have e2 : (midF L2 k).1 = midV L2 k := by rw [midF, if_pos c2, Int.toNat_natCast]
      have b1 := midV_bounds c1
      have b2 := midV_bounds c2
      rw [e1, e2]
      rw [ok1] at hE5
      rw [ok2] at hE7
      obtain rfl := hE5.nil
      obtain rfl := hE7.nil
      have HFR := Lib.hid (HF0.out c1)
      have KS := Lib.hid (spread_any a n cap rs w7 HN.out (hr.below hv7) (by omega) HFR.out)
      have f1 := HFR.out _ (minOf_min HRS.out).1
      have f2 := HFR.out _ (maxOf_max HRS.out).1
      simp only [farB, decide_eq_false_iff_not] at f1 f2
      rw [HSP.out] at KS
      obtain ⟨g1, g2⟩ := HH.out
      generalize Lib.minOf rs = m at *
      generalize Lib.maxOf rs = M at *
      generalize midV L1 k = V1 at *
      generalize midV L2 k = V2 at *
      clear ok1 ok2 c1 c2 e1 e2 hE5 hE7
      by_cases hneg : V1 - V2 < 0
      all_goals
        go_wp2_with (go_at_call 11; refine KS.out.mono ?_; rintro e w8 ⟨rfl, rfl⟩)
        go_ret
        exact ⟨ret_bool (by first | (simp; done) | (simp; omega)), hv7⟩
    · obtain ⟨t, x, rfl⟩ := hE7.held ok2
      rw [ok1] at hE5
      obtain rfl := hE5.nil
      go_wp2
      go_ret
      exact ⟨rfl, hv7⟩
  · obtain ⟨t, x, rfl⟩ := hE5.held ok1
    go_wp2
    go_ret
    exact ⟨rfl, hv7⟩

theorem walk_ClockHalves (ea : Nat → Addr) (a : Option Addr) (n cap : Nat) (rs : List Int) (a2 : Option Addr) (n2 cap2 : Nat) (ws : List Int) (a3 : Option Addr) (n3 cap3 : Nat) (bs : List Int) (w : World) (hg : Glob w ea [2])
    (hn : rs.length = n) (hr : RowAt w a (encInts rs)) (_hc : n ≤ cap) (hb : n ≤ 4611686018427387904) (hn2 : ws.length = n2) (hr2 : RowAt w a2 (encInts ws)) (_hc2 : n2 ≤ cap2) (hb2 : n2 ≤ 4611686018427387904) (hn3 : bs.length = n3) (hr3 : RowAt w a3 (encInts bs)) (_hc3 : n3 ≤ cap3) (hb3 : n3 ≤ 4611686018427387904) :
    Calls Tryd.prog 4 #[.slice a n cap, .slice a2 n2 cap2, .slice a3 n3 cap3] w fun e w' => e = .returned (.bool true) ∧ Below w.heap.size w w' := by
  by_cases h : 30 < n ∨ 8 < n2 ∨ n3 ≠ n2 ∨ n < 2 * n2 + 1
  · exact clockHalves_guard ea a a2 a3 n cap n2 cap2 n3 cap3 w hg hb hb2 hb3 h
  · obtain rfl : n3 = n2 := by omega
    exact clockHalves_law ea a a2 a3 n cap n3 cap2 cap3 rs ws bs w hg hn hr hn2 hr2 hn3 hr3 (by omega) (by omega) (by omega)
end Go.Proofs.YtlpgafpmhihneaaDoor
