/- delta.Since. -/
import Derived.Test.YtmikeblbfmfimaaDoorDelta
namespace Go.Proofs.YtmikeblbfmfimaaDoor
open Go.RowKit

/-- Those behind the first h, so many at most. -/
def sinceL (es : List Ent) (h : Nat) (most : Int) : List Ent := (es.drop h).take most.toNat

set_option maxRecDepth 100000 in
set_option maxHeartbeats 800000 in
theorem since_ok (ea : Nat → Addr) (a : Option Addr) (n cap : Nat) (es : List Ent) (hv : Nat) (most : Int) (w : World) (hg : Glob w ea [7, 10, 4, 2, 3]) (hn : es.length = n) (hr : RowAt w a (encEnts es)) (hm : n ≤ cap) (hc : n ≤ 200) (h0 : (chk es).1 = 0) (hh : hv ≤ n) (h1 : 1 ≤ most) :
    Calls Tryd.prog 41 #[.slice a n cap, .int .i64 hv, .int .i64 most] w fun e w' => ∃ a' m cap', e = .returned (.tuple #[.slice a' m cap', .nilIface]) ∧ RowAt w' a' (encEnts (sinceL es hv most)) ∧ m = (sinceL es hv most).length ∧ m ≤ cap' ∧ Below w.heap.size w w' := by
  have H0 := Lib.hid h0
  have HN := Lib.hid hn
  clear h0 hn
  go_enter Tryd.func41, Tryd.ntmps41
  go_wp2_with (go_at_call 16; refine (check_any ea _ _ _ es _ hg HN.out hr (by omega)).mono ?_; rintro e w1 ⟨v, rfl, hE, hb⟩; rw [H0.out] at hE; obtain rfl := hE.nil)
  all_goals
    refine (cloneEnts_any _ _ _ (sinceL es hv most) _ ?_ ?_ ?_).mono ?_
    · rw [sinceL, List.length_take, List.length_drop, HN.out]; omega
    · first
        | (have hr1 : RowAt w1 (Option.map (fun x : Addr => x.add (hv * 4)) a) (encEnts (sinceL es hv most)) := by
             rw [sinceL, encEnts_take, encEnts_drop]; exact ((hr.below hb).drop _).take _
           exact hr1)
        | (have hz : sinceL es hv most = [] := by
             rw [sinceL, List.drop_eq_nil_of_le (by rw [HN.out]; omega)]; exact List.take_nil
           rw [hz]; exact Or.inl rfl)
    · omega
    rintro e w5 ⟨a', cap', rfl, hra, hca, hb5⟩
    go_wp2
    go_ret2
    exact ⟨a', _, cap', rfl, hra, by rw [sinceL, List.length_take, List.length_drop, HN.out]; omega, hca, hb.trans (hb5.mono hb.size)⟩
end Go.Proofs.YtmikeblbfmfimaaDoor
