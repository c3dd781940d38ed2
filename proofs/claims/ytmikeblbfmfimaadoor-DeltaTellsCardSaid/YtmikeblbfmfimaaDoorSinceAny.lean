/- delta.Since and Join, one contract each. -/
import Derived.Test.YtmikeblbfmfimaaDoorDelta2
import Derived.Test.YtmikeblbfmfimaaDoorJoin
import Derived.Test.YtmikeblbfmfimaaDoorChkLe
namespace Go.Proofs.YtmikeblbfmfimaaDoor
open Go.RowKit

theorem since_chk (ea : Nat → Addr) (a : Option Addr) (n cap : Nat) (es : List Ent) (hv most : Int) (w : World) (hg : Glob w ea [7, 10, 4, 2, 3]) (hn : es.length = n) (hr : RowAt w a (encEnts es)) (hc : n ≤ 4611686018427387904) (h0 : (chk es).1 ≠ 0) :
    Calls Tryd.prog 41 #[.slice a n cap, .int .i64 hv, .int .i64 most] w fun e w' => ∃ v, e = .returned (.tuple #[.slice none 0 0, v]) ∧ ErrIs ea w' v (chk es).1 (chk es).2 ∧ Below w.heap.size w w' := by
  have H0 := Lib.hid h0
  clear h0
  go_enter Tryd.func41, Tryd.ntmps41
  go_wp2_with (go_at_call 16; refine (check_any ea _ _ _ es _ hg hn hr hc).mono ?_; rintro e w1 ⟨v, rfl, hE, hb⟩; obtain ⟨t, x, rfl⟩ := hE.held H0.out)
  go_ret2
  exact ⟨_, rfl, hE, hb⟩

theorem since_bound (ea : Nat → Addr) (a : Option Addr) (n cap : Nat) (es : List Ent) (hv most : Int) (w : World) (hg : Glob w ea [7, 10, 4, 2, 3]) (hn : es.length = n) (hr : RowAt w a (encEnts es)) (hc : n ≤ 4611686018427387904) (h0 : (chk es).1 = 0) (h : hv < 0 ∨ most < 1) :
    Calls Tryd.prog 41 #[.slice a n cap, .int .i64 hv, .int .i64 most] w fun e w' => e = .returned (.tuple #[.slice none 0 0, errV ea 2]) ∧ Below w.heap.size w w' := by
  have H0 := Lib.hid h0
  clear h0
  by_cases hlo : hv < 0
  all_goals
    go_enter Tryd.func41, Tryd.ntmps41
    go_wp2_with (go_at_call 16; refine (check_any ea _ _ _ es _ hg hn hr hc).mono ?_; rintro e w1 ⟨v, rfl, hE, hb⟩; rw [H0.out] at hE; obtain rfl := hE.nil)
    have g2 : w1.cell? ⟨gOf 2, 0, none⟩ = some (errV ea 2) := (hg.below hb).cell 2 (by simp)
    simp only [gOf] at g2
    go_quiet (fail)
    go_wp2
    go_ret2
    exact ⟨rfl, below_drewN hb _⟩

theorem since_gap (ea : Nat → Addr) (a : Option Addr) (n cap : Nat) (es : List Ent) (hv most : Int) (w : World) (hg : Glob w ea [7, 10, 4, 2, 3]) (hn : es.length = n) (hr : RowAt w a (encEnts es)) (hc : n ≤ 4611686018427387904) (h0 : (chk es).1 = 0) (h : 0 ≤ hv) (h1 : 1 ≤ most) (h2 : (n : Int) < hv) :
    Calls Tryd.prog 41 #[.slice a n cap, .int .i64 hv, .int .i64 most] w fun e w' => e = .returned (.tuple #[.slice none 0 0, errV ea 10]) ∧ Below w.heap.size w w' := by
  have H0 := Lib.hid h0
  clear h0
  go_enter Tryd.func41, Tryd.ntmps41
  go_wp2_with (go_at_call 16; refine (check_any ea _ _ _ es _ hg hn hr hc).mono ?_; rintro e w1 ⟨v, rfl, hE, hb⟩; rw [H0.out] at hE; obtain rfl := hE.nil)
  have g2 : w1.cell? ⟨gOf 10, 0, none⟩ = some (errV ea 10) := (hg.below hb).cell 10 (by simp)
  simp only [gOf] at g2
  go_quiet (fail)
  go_wp2
  go_ret2
  exact ⟨rfl, below_drewN hb _⟩

/-- delta.Since: the entries, the error, its place. -/
def sinceF (es : List Ent) (hv most : Int) : List Ent × Nat × Int :=
  if (chk es).1 ≠ 0 then ([], chk es) else if hv < 0 ∨ most < 1 then ([], 2, -1) else if (es.length : Int) < hv then ([], 10, -1) else (sinceL es hv.toNat most, 0, -1)
theorem sinceF_le (es : List Ent) (hv most : Int) : (sinceF es hv most).2.1 ≤ 11 := by
  have := chk_le es
  unfold sinceF; repeat (first | exact Nat.le_of_ble_eq_true rfl | assumption | split)

theorem since_any (ea : Nat → Addr) (a : Option Addr) (n cap : Nat) (es : List Ent) (hv most : Int) (w : World) (hg : Glob w ea [7, 10, 4, 2, 3]) (hn : es.length = n) (hr : RowAt w a (encEnts es)) (hm : n ≤ cap) (hc : n ≤ 4611686018427387904) :
    Calls Tryd.prog 41 #[.slice a n cap, .int .i64 hv, .int .i64 most] w fun e w' => ∃ a' m cap' v, e = .returned (.tuple #[.slice a' m cap', v]) ∧ RowAt w' a' (encEnts (sinceF es hv most).1) ∧ (sinceF es hv most).1.length = m ∧ m ≤ 4611686018427387904 ∧ ErrIs ea w' v (sinceF es hv most).2.1 (sinceF es hv most).2.2 ∧ Below w.heap.size w w' := by
  by_cases h0 : (chk es).1 = 0
  · by_cases h1 : hv < 0 ∨ most < 1
    · have hF : sinceF es hv most = ([], 2, -1) := by rw [sinceF, if_neg (by simp [h0]), if_pos h1]
      rw [hF]
      refine (since_bound ea a n cap es hv most w hg hn hr hc h0 h1).mono ?_
      rintro e w' ⟨rfl, hb⟩
      exact ⟨none, 0, 0, _, rfl, Or.inl rfl, rfl, by omega, ErrIs.bare ea w' 2, hb⟩
    · by_cases h2 : (n : Int) < hv
      · have hF : sinceF es hv most = ([], 10, -1) := by rw [sinceF, if_neg (by simp [h0]), if_neg h1, if_pos (by omega)]
        rw [hF]
        refine (since_gap ea a n cap es hv most w hg hn hr hc h0 (by omega) (by omega) h2).mono ?_
        rintro e w' ⟨rfl, hb⟩
        exact ⟨none, 0, 0, _, rfl, Or.inl rfl, rfl, by omega, ErrIs.bare ea w' 10, hb⟩
      · have hF : sinceF es hv most = (sinceL es hv.toNat most, 0, -1) := by rw [sinceF, if_neg (by simp [h0]), if_neg h1, if_neg (by omega)]
        rw [hF]
        have hn200 : n ≤ 200 := by
          have hx := h0
          unfold chk at hx; split at hx
          · simp at hx
          · omega
        have hh : hv = (hv.toNat : Int) := by omega
        have hC := since_ok ea a n cap es hv.toNat most w hg hn hr hm hn200 h0 (by omega) (by omega)
        rw [← hh] at hC
        refine hC.mono ?_
        rintro e w' ⟨a', m, cap', rfl, hra, hml, _, hb⟩
        exact ⟨a', m, cap', _, rfl, hra, hml.symm, by rw [hml, sinceL, List.length_take, List.length_drop]; omega, Or.inl ⟨rfl, (errV_zero ea).symm⟩, hb⟩
  · have hF : sinceF es hv most = ([], chk es) := by rw [sinceF, if_pos h0]
    rw [hF]
    refine (since_chk ea a n cap es hv most w hg hn hr hc h0).mono ?_
    rintro e w' ⟨v, rfl, hE, hb⟩
    exact ⟨none, 0, 0, v, rfl, Or.inl rfl, rfl, by omega, hE, hb⟩

theorem join_chk (ea : Nat → Addr) (a a2 : Option Addr) (n cap n2 cap2 : Nat) (es : List Ent) (w : World) (hg : Glob w ea [7, 10, 4, 2, 3]) (hn : es.length = n) (hr : RowAt w a (encEnts es)) (hc : n ≤ 1000) (h0 : (chk es).1 ≠ 0) :
    Calls Tryd.prog 44 #[.slice a n cap, .slice a2 n2 cap2] w fun e w' => ∃ v, e = .returned (.tuple #[.slice none 0 0, v]) ∧ ErrIs ea w' v (chk es).1 (chk es).2 ∧ Below w.heap.size w w' := by
  have H0 := Lib.hid h0
  clear h0
  go_enter Tryd.func44, Tryd.ntmps44
  go_wp2_with (go_at_call 16; refine (check_any ea _ _ _ es _ hg hn hr (by omega)).mono ?_; rintro e w1 ⟨v, rfl, hE, hb⟩; obtain ⟨t, x, rfl⟩ := hE.held H0.out)
  go_ret2
  exact ⟨_, rfl, hE, hb⟩

theorem join_chk2 (ea : Nat → Addr) (a a2 : Option Addr) (n cap n2 cap2 : Nat) (es fs : List Ent) (w : World) (hg : Glob w ea [7, 10, 4, 2, 3]) (hn : es.length = n) (hr : RowAt w a (encEnts es)) (hn2 : fs.length = n2) (hr2 : RowAt w a2 (encEnts fs)) (hc : n ≤ 1000) (hc2 : n2 ≤ 1000)
    (h0 : (chk es).1 = 0) (h1 : (chk (es ++ fs)).1 ≠ 0) :
    Calls Tryd.prog 44 #[.slice a n cap, .slice a2 n2 cap2] w fun e w' => ∃ v, e = .returned (.tuple #[.slice none 0 0, v]) ∧ ErrIs ea w' v (chk (es ++ fs)).1 (chk (es ++ fs)).2 ∧ Below w.heap.size w w' := by
  have H0 := Lib.hid h0
  have H1 := Lib.hid h1
  have HN := Lib.hid hn
  have HN2 := Lib.hid hn2
  clear h0 h1 hn hn2
  go_enter Tryd.func44, Tryd.ntmps44
  go_wp2_with fail
  refine (check_any ea _ _ _ es _ hg HN.out hr (by omega)).mono ?_
  rintro e w1 ⟨v, rfl, hE, hb⟩
  rw [H0.out] at hE
  obtain rfl := hE.nil
  clear hE
  go_wp2_with fail
  refine (concat_any w1.heap.size a a2 n cap n2 cap2 es fs _ (by simp) (by go_simp) (by go_simp) HN.out ((hr.below hb).below ((Below.refl _ _).alloc (Nat.le_refl _) _)) HN2.out ((hr2.below hb).below ((Below.refl _ _).alloc (Nat.le_refl _) _)) hc hc2).mono ?_
  rintro e w2 ⟨a', cap', rfl, hra, hca, hb2⟩
  have hb3 : Below w.heap.size w w2 := (hb.alloc hb.size _).trans (hb2.mono (by have := hb.size; simp; omega))
  clear hb2
  go_wp2_with fail
  refine (check_any ea _ _ _ (es ++ fs) _ (hg.below hb3) (by rw [List.length_append, HN.out, HN2.out]) hra (by omega)).mono ?_
  rintro e w3 ⟨v, rfl, hE, hb4⟩
  obtain ⟨t, x, rfl⟩ := hE.held H1.out
  go_wp2
  go_ret2
  exact ⟨_, rfl, hE, hb3.trans (hb4.mono hb3.size)⟩

def joinF (es fs : List Ent) : List Ent × Nat × Int :=
  if (chk es).1 ≠ 0 then ([], chk es) else if (chk (es ++ fs)).1 ≠ 0 then ([], chk (es ++ fs)) else (es ++ fs, 0, -1)
theorem joinF_le (es fs : List Ent) : (joinF es fs).2.1 ≤ 11 := by
  have := chk_le es
  have := chk_le (es ++ fs)
  unfold joinF; repeat (first | exact Nat.le_of_ble_eq_true rfl | assumption | split)

theorem join_any (ea : Nat → Addr) (a a2 : Option Addr) (n cap n2 cap2 : Nat) (es fs : List Ent) (w : World) (hg : Glob w ea [7, 10, 4, 2, 3]) (hn : es.length = n) (hr : RowAt w a (encEnts es)) (hn2 : fs.length = n2) (hr2 : RowAt w a2 (encEnts fs)) (hc : n ≤ 1000) (hc2 : n2 ≤ 1000) :
    Calls Tryd.prog 44 #[.slice a n cap, .slice a2 n2 cap2] w fun e w' => ∃ a' m cap' v, e = .returned (.tuple #[.slice a' m cap', v]) ∧ RowAt w' a' (encEnts (joinF es fs).1) ∧ (joinF es fs).1.length = m ∧ m ≤ 4611686018427387904 ∧ ErrIs ea w' v (joinF es fs).2.1 (joinF es fs).2.2 ∧ Below w.heap.size w w' := by
  by_cases h0 : (chk es).1 = 0
  · by_cases h1 : (chk (es ++ fs)).1 = 0
    · have hF : joinF es fs = (es ++ fs, 0, -1) := by rw [joinF, if_neg (by simp [h0]), if_neg (by simp [h1])]
      rw [hF]
      refine (join_ok ea a a2 n cap n2 cap2 es fs w hg hn hr hn2 hr2 hc hc2 h0 h1).mono ?_
      rintro e w' ⟨a', cap', rfl, hra, _, hb⟩
      exact ⟨a', _, cap', _, rfl, hra, by rw [List.length_append, hn, hn2], by omega, Or.inl ⟨rfl, (errV_zero ea).symm⟩, hb⟩
    · have hF : joinF es fs = ([], chk (es ++ fs)) := by rw [joinF, if_neg (by simp [h0]), if_pos h1]
      rw [hF]
      refine (join_chk2 ea a a2 n cap n2 cap2 es fs w hg hn hr hn2 hr2 hc hc2 h0 h1).mono ?_
      rintro e w' ⟨v, rfl, hE, hb⟩
      exact ⟨none, 0, 0, v, rfl, Or.inl rfl, rfl, by omega, hE, hb⟩
  · have hF : joinF es fs = ([], chk es) := by rw [joinF, if_pos h0]
    rw [hF]
    refine (join_chk ea a a2 n cap n2 cap2 es w hg hn hr hc h0).mono ?_
    rintro e w' ⟨v, rfl, hE, hb⟩
    exact ⟨none, 0, 0, v, rfl, Or.inl rfl, rfl, by omega, hE, hb⟩
end Go.Proofs.YtmikeblbfmfimaaDoor
