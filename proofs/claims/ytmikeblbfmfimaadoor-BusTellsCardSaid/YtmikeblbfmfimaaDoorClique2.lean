/- clique: Tally, Stays. -/
import Derived.Test.YtmikeblbfmfimaaDoorClique
namespace Go.Proofs.YtmikeblbfmfimaaDoor
open Go.RowKit

def goods (l : List Ent) : Int := ((l.filter (fun e => e.heard)).length : Int)
def bads (l : List Ent) : Int := ((l.filter (fun e => !e.heard)).length : Int)
def lastR (r : Int) (es : List Ent) : List Ent := es.drop ((es.length : Int) - r).toNat
theorem goods_le (l : List Ent) : 0 ≤ goods l ∧ goods l ≤ l.length := by have := List.length_filter_le (fun e : Ent => e.heard) l; simp only [goods]; omega
theorem bads_le (l : List Ent) : 0 ≤ bads l ∧ bads l ≤ l.length := by have := List.length_filter_le (fun e : Ent => !e.heard) l; simp only [bads]; omega
theorem goods_snoc (l : List Ent) (k : Nat) (hk : k < l.length) : goods (l.take (k + 1)) = goods (l.take k) + (if l[k].heard then 1 else 0) := by
  rw [List.take_succ_eq_append_getElem hk]; simp only [goods, List.filter_append]; by_cases h : l[k].heard = true <;> simp [h]
theorem bads_snoc (l : List Ent) (k : Nat) (hk : k < l.length) : bads (l.take (k + 1)) = bads (l.take k) + (if l[k].heard then 0 else 1) := by
  rw [List.take_succ_eq_append_getElem hk]; simp only [bads, List.filter_append]; by_cases h : l[k].heard = true <;> simp [h]

set_option maxHeartbeats 800000 in
theorem tally_ok (ea : Nat → Addr) (a : Option Addr) (n cap : Nat) (es : List Ent) (r : Int) (w : World) (hg : Glob w ea [7, 10, 4, 2, 3]) (hn : es.length = n) (hr : RowAt w a (encEnts es)) (hm : n ≤ cap) (hc : n ≤ 4611686018427387904)
    (h0 : (chk es).1 = 0) (h1 : 1 ≤ r) (h2 : r ≤ 32) :
    Calls Tryd.prog 18 #[.slice a n cap, .int .i64 r] w fun e w' => e = .returned (.tuple #[.int .i64 (goods (lastR r es)), .int .i64 (bads (lastR r es)), .nilIface]) ∧ Below w.heap.size w w' := by
  have H0 := Lib.hid h0
  clear h0
  go_enter Tryd.func18, Tryd.ntmps18
  go_wp2_with (go_at_call 16; refine (check_any ea _ _ _ es _ hg hn hr (by omega)).mono ?_; rintro e w1 ⟨v, rfl, hE, hb⟩; rw [H0.out] at hE; obtain rfl := hE.nil)
  all_goals first
    | (have hlt : r < n := by assumption
       have hr' : RowAt w1 (Option.map (fun x => x.add (((n : Int) - r).toNat * 4)) a) (encEnts (lastR r es)) := by rw [lastR, encEnts_drop, hn]; exact (hr.below hb).drop _
       have hl : (lastR r es).length = n - ((n : Int) - r).toNat := by rw [lastR, List.length_drop, hn]
       generalize Option.map (fun x : Addr => x.add (((n : Int) - r).toNat * 4)) a = a' at *
       generalize n - ((n : Int) - r).toNat = n' at *
       generalize cap - ((n : Int) - r).toNat = cap' at *)
    | (have hr' : RowAt w1 a (encEnts (lastR r es)) := by rw [lastR, show ((es.length : Int) - r).toNat = 0 by omega]; exact hr.below hb
       have hl : (lastR r es).length = n := by rw [lastR, List.length_drop]; omega
       obtain ⟨a', ha'⟩ : ∃ a', a' = a := ⟨_, rfl⟩
       obtain ⟨n', hn'⟩ : ∃ n', n' = n := ⟨_, rfl⟩
       rw [← ha'] at hr' ⊢
       rw [← hn'] at hl ⊢
       clear ha' hn')
  all_goals
    have hle : (lastR r es).length ≤ 4611686018427387904 := by rw [lastR, List.length_drop]; omega
    generalize htl : lastR r es = tl at *
    have HTL := Lib.hid htl
    clear htl
    clear hr hE H0 hg
    have HL := Lib.hid hl
    have hle' : n' ≤ 4611686018427387904 := by omega
    clear hl hn
    go_loopw [4, 5, 30] (fun g b i wr => ∃ k : Nat, k ≤ n' ∧ i = .int .i64 k ∧ g = .int .i64 (goods (tl.take k)) ∧ b = .int .i64 (bads (tl.take k)) ∧ Below w1.heap.size w1 wr) (fun _ _ i _ => n' - (intOf i).toNat)
    case atStart => exact ⟨0, Nat.zero_le _, rfl, rfl, rfl, Below.refl _ _⟩
    case round =>
      obtain ⟨k, hk, rfl, rfl, rfl, hbr⟩ := hrel
      have hg0 := goods_le (tl.take k)
      have hb0 := bads_le (tl.take k)
      have hlk : (tl.take k).length ≤ k := List.length_take_le _ _
      by_cases hlt : k < n'
      · have hkt : k < tl.length := by have := HL.out; omega
        obtain ⟨b, off, rfl, hbl, c0, c1, c2, c3⟩ := (hr'.below hbr).ent k hkt
        have HG := Lib.hid (goods_snoc tl k hkt)
        have HB := Lib.hid (bads_snoc tl k hkt)
        have hsz := hbr.size
        generalize tl[k] = ek at *
        clear hkt
        cases hh : ek.heard
        all_goals
          rw [hh] at c2
          have HH := Lib.hid hh
          clear hh
          go_wp2
          go_roundw
          case rel => exact ⟨k + 1, by omega, by go_num, by rw [HG.out, HH.out]; first | rfl | go_num, by rw [HB.out, HH.out]; first | rfl | go_num, hbr.alloc hsz _⟩
          case measure => simp [intOf]; omega
      · have hlt2 : tl.length ≤ k := by have := HL.out; omega
        have e1 : tl.take k = tl := List.take_of_length_le hlt2
        rw [e1]
        clear e1 hlt2
        go_wp2
        go_ret3
        rw [HTL.out]
        exact ⟨rfl, hb.trans (hbr.mono hb.size)⟩

/-- The history is not right: its fault. -/
theorem tally_chk (ea : Nat → Addr) (a : Option Addr) (n cap : Nat) (es : List Ent) (r : Int) (w : World) (hg : Glob w ea [7, 10, 4, 2, 3]) (hn : es.length = n) (hr : RowAt w a (encEnts es)) (_hm : n ≤ cap) (hc : n ≤ 4611686018427387904)
    (h0 : (chk es).1 ≠ 0) :
    Calls Tryd.prog 18 #[.slice a n cap, .int .i64 r] w fun e w' => ∃ v, e = .returned (.tuple #[.int .i64 0, .int .i64 0, v]) ∧ ErrIs ea w' v (chk es).1 (chk es).2 ∧ Below w.heap.size w w' := by
  have H0 := Lib.hid h0
  clear h0
  go_enter Tryd.func18, Tryd.ntmps18
  go_wp2_with (go_at_call 16; refine (check_any ea _ _ _ es _ hg hn hr (by omega)).mono ?_; rintro e w1 ⟨v, rfl, hE, hb⟩; obtain ⟨t, x, rfl⟩ := hE.held H0.out)
  go_ret3
  exact ⟨_, rfl, hE, hb⟩

set_option maxHeartbeats 400000 in
/-- The round is none. -/
theorem tally_round (ea : Nat → Addr) (a : Option Addr) (n cap : Nat) (es : List Ent) (r : Int) (w : World) (hg : Glob w ea [7, 10, 4, 2, 3]) (hn : es.length = n) (hr : RowAt w a (encEnts es)) (_hm : n ≤ cap) (hc : n ≤ 4611686018427387904)
    (h0 : (chk es).1 = 0) (h1 : ¬ (1 ≤ r ∧ r ≤ 32)) :
    Calls Tryd.prog 18 #[.slice a n cap, .int .i64 r] w fun e w' => e = .returned (.tuple #[.int .i64 0, .int .i64 0, errV ea 2]) ∧ Below w.heap.size w w' := by
  have H0 := Lib.hid h0
  clear h0
  have hg2 := hg.cell 2 (by simp)
  have l2 := hg.lt 2 (by simp)
  by_cases hlo : r < 1
  all_goals
    have hx : r < 1 ∨ 32 < r := by omega
    clear h1
    go_enter Tryd.func18, Tryd.ntmps18
    go_wp2_with (go_at_call 16; refine (check_any ea _ _ _ es _ hg hn hr (by omega)).mono ?_; rintro e w1 ⟨v, rfl, hE, hb⟩; rw [H0.out] at hE; obtain rfl := hE.nil)
    have g2 : w1.cell? ⟨gOf 2, 0, none⟩ = some (errV ea 2) := (hg.below hb).cell 2 (by simp)
    simp only [gOf] at g2
    go_quiet (fail)
    go_wp2
    go_ret3
    exact ⟨rfl, below_drewN hb _⟩
end Go.Proofs.YtmikeblbfmfimaaDoor
