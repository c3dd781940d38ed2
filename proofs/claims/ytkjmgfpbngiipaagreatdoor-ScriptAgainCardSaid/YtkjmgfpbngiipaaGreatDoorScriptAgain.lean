/- ScriptAgain: the law's walk. -/
import Derived.Test.YtkjmgfpbngiipaaGreatDoorScriptLaw
namespace Go.Proofs.YtkjmgfpbngiipaaGreatDoor
open Go.RowKit Go.Maps

theorem plays_take (txt : Nat → List UInt8) (l : List (List UInt8)) (y : YP) (k : Nat) : y.plays txt (l.take k) = (y.plays txt l).take k := by
  by_cases hk : k ≤ l.length
  · have h := plays_app txt (l.take k) (l.drop k) y
    rw [List.take_append_drop] at h
    have e : (y.plays txt (l.take k)).length = k := by rw [plays_len, List.length_take]; omega
    have h2 : (y.plays txt (l.take k) ++ (y.after (l.take k)).plays txt (l.drop k)).take k = y.plays txt (l.take k) := by
      rw [List.take_append_of_le_length (by omega), List.take_of_length_le (by omega)]
    rw [← h] at h2
    exact h2.symm
  · rw [List.take_of_length_le (by omega), List.take_of_length_le (by rw [plays_len]; omega)]
theorem encT_len (l : List (List UInt8)) : (encTexts l).length = l.length := by simp [encTexts]
theorem encT_take (l : List (List UInt8)) (k : Nat) : (encTexts l).take k = encTexts (l.take k) := by simp [encTexts]
theorem encT_one (l : List (List UInt8)) : ∀ u ∈ encTexts l, u.oneCell' = true := by
  intro u hu; obtain ⟨s, _, rfl⟩ := List.mem_map.1 hu; rfl

set_option maxRecDepth 200000 in
set_option maxHeartbeats 3200000 in
theorem scriptAgain_law (txt : Nat → List UInt8) (ea : Nat → Addr) (a : Option Addr) (n cap : Nat) (l : List (List UInt8)) (cut : Nat) (w : World) (hG : GlobC w ea) (hT : TxtEnv w) (hX : ErrTxt txt ea w)
    (hn : l.length = n) (hr : RowAt w a (encTexts l)) (hl : longT l 82 = false) (hcut : cut ≤ n) (h80 : n ≤ 80) (hcap : n ≤ cap) :
    Calls Tryz.prog 10 #[.slice a n cap, .int .i64 cut] w fun e w' => e = .returned (.bool true) ∧ Below w.heap.size w w' := by
  obtain ⟨_, h150⟩ := longT_not hl
  obtain ⟨i0, hi, hz0, hz1, hz2⟩ := info_parts ct_info_string
  have hi' := Lib.hid hi
  have hz0' := Lib.hid hz0
  have hz1' := Lib.hid hz1
  have hz2' := Lib.hid hz2
  clear hi hz0 hz1 hz2
  have K0 := Lib.hid (hello_any txt ea w hG hT hX)
  have KL := Lib.hid (fun (W : World) (hb : Below w.heap.size w W) => longLines4_any a n cap l 82 W hn (hr.below hb) (by omega))
  rw [longI_no hl] at KL
  have KR := Lib.hid (fun (W : World) (av : Option Addr) (m cv : Nat) (ls : List (List UInt8)) (hb : Below w.heap.size w W) (hm : ls.length = m) (hrr : RowAt W av (encTexts ls)) (h8 : m ≤ 80) (h15 : ∀ s ∈ ls, s.length ≤ 150) => sRun_any txt ea av m cv ls W (hG.below hb) (hT.below hb) (hX.below hb) hm hrr h8 h15)
  have HR := Lib.hid (fun (W : World) (hb : Below w.heap.size w W) => hr.below hb)
  have HRC := Lib.hid (fun (W : World) (hb : Below w.heap.size w W) => (hr.below hb).take cut)
  have HN := Lib.hid hn
  have H150 := Lib.hid h150
  have d1 : decide ((cut : Int) < 0) = false := decide_eq_false (by omega)
  have d2 : decide ((n : Int) < (cut : Int)) = false := decide_eq_false (by omega)
  have d3 : decide ((80 : Int) < (n : Int)) = false := decide_eq_false (by omega)
  have j0 : (0 : Int) ≤ (cut : Int) := by omega
  have j1 : (cut : Int) ≤ (cap : Int) := by omega
  clear hG hT hX hr hn hl h150
  go_enter Tryz.func10, Tryz.ntmps10
  go_wp2_with fail
  refine K0.out.mono ?_
  rintro e w1 ⟨rfl, hb1⟩
  have K1 := Lib.hid (KL.out w1 hb1)
  go_wp2_with fail
  refine K1.out.mono ?_
  rintro e w2 ⟨rfl, rfl⟩
  have HB1 := Lib.hid hb1
  clear K0 K1 KL
  go_wp2_with (at_builtin; refine wpList_append2 _ rfl (.tmp 32) (.tmp 33) 59 rfl w1.heap.size 9 i0 _ 1 16 Tryz.underlying59 hi'.out hz0'.out hz1'.out hz2'.out rfl (by decide) (.slice none 0 0) 0 [] rfl (World.ownsRow_nil _ _ _ _) a n cap (encTexts l) rfl ?_ ?_ ?_ ?_ ?_ ?_ ?_; (rw [encT_len, HN.out]; omega); (exact HR.out _ HB1.out); (exact encT_one _); (unfold maxLen; omega); (omega); (exact Nat.le_refl _); intro v3 w3 ho3 hg3 hq hm3; clear hq hm3; rw [List.nil_append, Nat.zero_add] at ho3)
  have hb3 : Below w1.heap.size w1 w3 := (Below.refl w1.heap.size w1).grown hg3 (Nat.le_refl _) (fun j e => by simp [Value.ownBlock] at e)
  obtain ⟨a3, c3, rfl⟩ := owned_shape ho3
  have hv3 := onto HB1.out hb3
  have K3 := Lib.hid (KR.out w3 a3 n c3 l hv3 HN.out (RowAt.owned ho3).1 h80 H150.out)
  clear ho3 hg3 hb3
  go_wp2_with fail
  refine K3.out.mono ?_
  rintro e w4 ⟨va, rfl, ho4, hb4⟩
  have hv4 := onto hv3 hb4
  obtain ⟨a4, c4, rfl⟩ := owned_shape ho4
  have HR4 := Lib.hid (RowAt.owned ho4)
  have HV4 := Lib.hid hv4
  clear K3 ho4 hv3 hb4 hv4
  go_wp2_with (at_builtin; refine wpList_append2 _ rfl (.tmp 49) (.tmp 52) 59 rfl w4.heap.size 9 i0 _ 1 16 Tryz.underlying59 hi'.out hz0'.out hz1'.out hz2'.out rfl (by decide) (.slice none 0 0) 0 [] rfl (World.ownsRow_nil _ _ _ _) a cut cap (encTexts (l.take cut)) rfl ?_ ?_ ?_ ?_ ?_ ?_ ?_; (rw [encT_len, List.length_take, HN.out]; omega); (rw [← encT_take]; exact HRC.out _ HV4.out); (exact encT_one _); (unfold maxLen; omega); (omega); (exact Nat.le_refl _); intro v5 w5 ho5 hg5 hq hm5; clear hq hm5; rw [List.nil_append, Nat.zero_add] at ho5)
  have hb5 : Below w4.heap.size w4 w5 := (Below.refl w4.heap.size w4).grown hg5 (Nat.le_refl _) (fun j e => by simp [Value.ownBlock] at e)
  obtain ⟨a5, c5, rfl⟩ := owned_shape ho5
  have hv5 := onto HV4.out hb5
  have K5 := Lib.hid (KR.out w5 a5 cut c5 (l.take cut) hv5 (by rw [List.length_take, HN.out]; omega) (RowAt.owned ho5).1 (by omega) (fun s hs => H150.out s (List.mem_of_mem_take hs)))
  have HR5 := Lib.hid (HR4.out.1.below hb5)
  have hc4 := HR4.out.2.2.1
  clear ho5 hg5 hb5 HR4
  go_wp2_with fail
  refine K5.out.mono ?_
  rintro e w6 ⟨vb, rfl, ho6, hb6⟩
  have hv6 := onto hv5 hb6
  obtain ⟨a6, c6, rfl⟩ := owned_shape ho6
  have HR6 := Lib.hid (RowAt.owned ho6).1
  have HR4' := Lib.hid (HR5.out.below hb6)
  have hlen : ((YP.new.plays txt l).take cut).length = cut := by rw [List.length_take, plays_len, HN.out]; omega
  have K6 := Lib.hid (sameT_any a4 a6 c4 c6 ((YP.new.plays txt l).take cut) w6 (by rw [← encT_take]; exact HR4'.out.take cut) (by rw [← plays_take]; exact HR6.out) (by rw [hlen]; omega))
  rw [hlen] at K6
  have j2 : (cut : Int) ≤ (c4 : Int) := by omega
  have HV6 := Lib.hid hv6
  clear K5 ho6 hb6 hv5 hlen hv6
  go_wp2_with fail
  refine K6.out.mono ?_
  rintro e w7 ⟨rfl, hb7⟩
  go_wp2
  go_ret
  exact ⟨rfl, onto HV6.out hb7⟩

set_option maxRecDepth 100000 in
set_option maxHeartbeats 3200000 in
/-- .. of too many lines. -/
theorem scriptAgain_many (txt : Nat → List UInt8) (ea : Nat → Addr) (a : Option Addr) (n cap : Nat) (l : List (List UInt8)) (cut : Nat) (w : World) (hG : GlobC w ea) (hT : TxtEnv w) (hX : ErrTxt txt ea w)
    (hn : l.length = n) (hr : RowAt w a (encTexts l)) (hl : longT l 82 = false) (hcut : cut ≤ n) (h80 : 80 < n) (hm : n ≤ 4611686018427387904) :
    Calls Tryz.prog 10 #[.slice a n cap, .int .i64 cut] w fun e w' => e = .returned (.bool true) ∧ Below w.heap.size w w' := by
  obtain ⟨h82, _⟩ := longT_not hl
  obtain ⟨i0, hi, hz0, hz1, hz2⟩ := info_parts ct_info_string
  have hi' := Lib.hid hi
  have hz0' := Lib.hid hz0
  have hz1' := Lib.hid hz1
  have hz2' := Lib.hid hz2
  clear hi hz0 hz1 hz2
  have K0 := Lib.hid (hello_any txt ea w hG hT hX)
  have KL := Lib.hid (fun (W : World) (hb : Below w.heap.size w W) => longLines4_any a n cap l 82 W hn (hr.below hb) hm)
  rw [longI_no hl] at KL
  have KR := Lib.hid (fun (W : World) (av : Option Addr) (cv : Nat) (hb : Below w.heap.size w W) => sRun_many ea av n cv W ((hG.below hb).glob.sub (by simp)) h80)
  have KC := Lib.hid (fun (W : World) (hb : Below w.heap.size w W) => coded4_any ea (errV ea 2) 2 (-1) 2 W (hG.below hb) (ErrIs.bare ea W 2) (by decide))
  have HR := Lib.hid (fun (W : World) (hb : Below w.heap.size w W) => hr.below hb)
  have HN := Lib.hid hn
  have HE := Lib.hid (errV_pos ea (k := 2) (by decide))
  have e1 : decide (((2 : Nat) : Int) = 2 ∧ (-1 : Int) = -1) = true := by decide
  rw [e1, HE.out] at KC
  rw [HE.out] at KR
  have d1 : decide ((cut : Int) < 0) = false := decide_eq_false (by omega)
  have d2 : decide ((n : Int) < (cut : Int)) = false := decide_eq_false (by omega)
  have d3 : decide ((80 : Int) < (n : Int)) = true := decide_eq_true (by omega)
  rw [hn] at h82
  clear hG hT hX hr hn hl
  go_enter Tryz.func10, Tryz.ntmps10
  go_wp2_with fail
  refine K0.out.mono ?_
  rintro e w1 ⟨rfl, hb1⟩
  have K1 := Lib.hid (KL.out w1 hb1)
  go_wp2_with fail
  refine K1.out.mono ?_
  rintro e w2 ⟨rfl, rfl⟩
  have HB1 := Lib.hid hb1
  clear K0 K1 KL
  go_wp2_with (at_builtin; refine wpList_append2 _ rfl (.tmp 32) (.tmp 33) 59 rfl w1.heap.size 9 i0 _ 1 16 Tryz.underlying59 hi'.out hz0'.out hz1'.out hz2'.out rfl (by decide) (.slice none 0 0) 0 [] rfl (World.ownsRow_nil _ _ _ _) a n cap (encTexts l) rfl ?_ ?_ ?_ ?_ ?_ ?_ ?_; (rw [encT_len, HN.out]; omega); (exact HR.out _ HB1.out); (exact encT_one _); (unfold maxLen; omega); (omega); (exact Nat.le_refl _); intro v3 w3 ho3 hg3 hq hm3; clear hq hm3; rw [List.nil_append, Nat.zero_add] at ho3)
  have hb3 : Below w1.heap.size w1 w3 := (Below.refl w1.heap.size w1).grown hg3 (Nat.le_refl _) (fun j e => by simp [Value.ownBlock] at e)
  obtain ⟨a3, c3, rfl⟩ := owned_shape ho3
  have hv3 := onto HB1.out hb3
  have K3 := Lib.hid (KR.out w3 a3 c3 hv3)
  clear ho3 hg3 hb3
  go_wp2_with fail
  refine K3.out.mono ?_
  rintro e w4 ⟨rfl, hb4⟩
  have hv4 := onto hv3 hb4
  have K4 := Lib.hid (KC.out w4 hv4)
  clear K3 hv3 hb4
  go_wp2_with fail
  refine K4.out.mono ?_
  rintro e w5 ⟨rfl, hb5⟩
  have hv5 := onto hv4 hb5
  go_wp2
  go_ret
  exact ⟨rfl, hv5⟩

set_option maxRecDepth 100000 in
theorem walk_ScriptAgain (ea : Nat → Addr) (a : Option Addr) (n cap : Nat) (l : List (List UInt8)) (cut : Int) (w : World) (hGS : GlobC w ea ∧ ∃ txt, ErrTxt txt ea w) (hT : TxtEnv w)
    (hn : l.length = n) (hr : RowAt w a (encTexts l)) (hcap : n ≤ cap) (hm : n ≤ 4611686018427387904) (hc : -9223372036854775808 ≤ cut ∧ cut ≤ 9223372036854775807) :
    Calls Tryz.prog 10 #[.slice a n cap, .int .i64 cut] w fun e w' => e = .returned (.bool true) ∧ Below w.heap.size w w' := by
  obtain ⟨hG, txt, hX⟩ := hGS
  cases hl : longT l 82
  rotate_left
  · skip
    have K0 := Lib.hid (hello_any txt ea w hG hT hX)
    have KL := Lib.hid (fun (W : World) (hb : Below w.heap.size w W) => longLines4_any a n cap l 82 W hn (hr.below hb) hm)
    rw [longI_yes hl] at KL
    clear hG hT hX hn hr hl
    go_enter Tryz.func10, Tryz.ntmps10
    go_wp2_with fail
    refine K0.out.mono ?_
    rintro e w1 ⟨rfl, hb1⟩
    have K1 := Lib.hid (KL.out w1 hb1)
    go_wp2_with fail
    refine K1.out.mono ?_
    rintro e w2 ⟨rfl, rfl⟩
    go_wp2
    go_ret
    exact ⟨rfl, hb1⟩
  by_cases h0 : cut < 0
  · skip
    have K0 := Lib.hid (hello_any txt ea w hG hT hX)
    have KL := Lib.hid (fun (W : World) (hb : Below w.heap.size w W) => longLines4_any a n cap l 82 W hn (hr.below hb) hm)
    rw [longI_no hl] at KL
    have d1 : decide (cut < 0) = true := decide_eq_true h0
    clear hG hT hX hn hr hl
    go_enter Tryz.func10, Tryz.ntmps10
    go_wp2_with fail
    refine K0.out.mono ?_
    rintro e w1 ⟨rfl, hb1⟩
    have K1 := Lib.hid (KL.out w1 hb1)
    go_wp2_with fail
    refine K1.out.mono ?_
    rintro e w2 ⟨rfl, rfl⟩
    go_wp2
    go_ret
    exact ⟨rfl, hb1⟩
  by_cases h1 : (n : Int) < cut
  · skip
    have K0 := Lib.hid (hello_any txt ea w hG hT hX)
    have KL := Lib.hid (fun (W : World) (hb : Below w.heap.size w W) => longLines4_any a n cap l 82 W hn (hr.below hb) hm)
    rw [longI_no hl] at KL
    have d1 : decide (cut < 0) = false := decide_eq_false h0
    have d2 : decide ((n : Int) < cut) = true := decide_eq_true h1
    clear hG hT hX hn hr hl
    go_enter Tryz.func10, Tryz.ntmps10
    go_wp2_with fail
    refine K0.out.mono ?_
    rintro e w1 ⟨rfl, hb1⟩
    have K1 := Lib.hid (KL.out w1 hb1)
    go_wp2_with fail
    refine K1.out.mono ?_
    rintro e w2 ⟨rfl, rfl⟩
    go_wp2
    go_ret
    exact ⟨rfl, hb1⟩
  obtain ⟨k, rfl⟩ : ∃ k : Nat, cut = k := ⟨cut.toNat, by omega⟩
  by_cases h80 : n ≤ 80
  · exact scriptAgain_law txt ea a n cap l k w hG hT hX hn hr hl (by omega) h80 hcap
  · exact scriptAgain_many txt ea a n cap l k w hG hT hX hn hr hl (by omega) (by omega) hm
end Go.Proofs.YtkjmgfpbngiipaaGreatDoor
