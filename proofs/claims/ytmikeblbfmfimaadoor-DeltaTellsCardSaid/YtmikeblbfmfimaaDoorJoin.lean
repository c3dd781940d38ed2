/- delta.Join, where both together are right. -/
import Derived.Test.YtmikeblbfmfimaaDoorConcat
import Derived.Test.YtmikeblbfmfimaaDoorDelta2
namespace Go.Proofs.YtmikeblbfmfimaaDoor
open Go.RowKit

set_option maxRecDepth 100000 in
set_option maxHeartbeats 800000 in
theorem join_ok (ea : Nat → Addr) (a a2 : Option Addr) (n cap n2 cap2 : Nat) (es fs : List Ent) (w : World) (hg : Glob w ea [7, 10, 4, 2, 3]) (hn : es.length = n) (hr : RowAt w a (encEnts es)) (hn2 : fs.length = n2) (hr2 : RowAt w a2 (encEnts fs)) (hc : n ≤ 1000) (hc2 : n2 ≤ 1000)
    (h0 : (chk es).1 = 0) (h1 : (chk (es ++ fs)).1 = 0) :
    Calls Tryd.prog 44 #[.slice a n cap, .slice a2 n2 cap2] w fun e w' => ∃ a' cap', e = .returned (.tuple #[.slice a' (n + n2) cap', .nilIface]) ∧ RowAt w' a' (encEnts (es ++ fs)) ∧ n + n2 ≤ cap' ∧ Below w.heap.size w w' := by
  have H0 := Lib.hid h0
  have H1 := Lib.hid h1
  have HN := Lib.hid hn
  have HN2 := Lib.hid hn2
  clear h0 h1 hn hn2
  go_enter Tryd.func44, Tryd.ntmps44
  go_wp2_with fail
  refine (check_any ea _ _ _ es _ hg HN.out hr (by omega)).mono ?_
  rintro e w1 ⟨v, rfl, hE, hb⟩
  rw [H0.out] at hE
  obtain rfl := hE.nil
  clear hE
  go_wp2_with fail
  refine (concat_any w1.heap.size a a2 n cap n2 cap2 es fs _ (by simp) (by go_simp) (by go_simp) HN.out ((hr.below hb).below ((Below.refl _ _).alloc (Nat.le_refl _) _)) HN2.out ((hr2.below hb).below ((Below.refl _ _).alloc (Nat.le_refl _) _)) hc hc2).mono ?_
  rintro e w2 ⟨a', cap', rfl, hra, hca, hb2⟩
  have hb3 : Below w.heap.size w w2 := (hb.alloc hb.size _).trans (hb2.mono (by have := hb.size; simp; omega))
  clear hb2
  go_wp2_with fail
  refine (check_any ea _ _ _ (es ++ fs) _ (hg.below hb3) (by rw [List.length_append, HN.out, HN2.out]) hra (by omega)).mono ?_
  rintro e w3 ⟨v, rfl, hE, hb4⟩
  rw [H1.out] at hE
  obtain rfl := hE.nil
  go_wp2
  go_ret2
  exact ⟨a', cap', rfl, hra.below hb4, hca, hb3.trans (hb4.mono hb3.size)⟩
end Go.Proofs.YtmikeblbfmfimaaDoor
