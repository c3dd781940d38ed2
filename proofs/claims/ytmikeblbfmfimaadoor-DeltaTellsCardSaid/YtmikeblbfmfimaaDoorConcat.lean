/- slices.Concat of two histories. -/
import Derived.Test.YtmikeblbfmfimaaDoorGrow
namespace Go.Proofs.YtmikeblbfmfimaaDoor
open Go.RowKit

set_option maxRecDepth 100000 in
set_option maxHeartbeats 800000 in
theorem concat_any (g : Nat) (a a2 : Option Addr) (n cap n2 cap2 : Nat) (es fs : List Ent) (w : World) (hg : g < w.heap.size) (c0 : w.cell? ⟨g, 0, none⟩ = some (.slice a n cap)) (c1 : w.cell? ⟨g, 1, none⟩ = some (.slice a2 n2 cap2))
    (hn : es.length = n) (hr : RowAt w a (encEnts es)) (hn2 : fs.length = n2) (hr2 : RowAt w a2 (encEnts fs)) (hc : n ≤ 1000) (hc2 : n2 ≤ 1000) :
    Calls Tryd.prog 79 #[.slice (some ⟨g, 0, none⟩) 2 2] w fun e w' => ∃ a' cap', e = .returned (.slice a' (n + n2) cap') ∧ RowAt w' a' (encEnts (es ++ fs)) ∧ n + n2 ≤ cap' ∧ Below w.heap.size w w' := by
  obtain ⟨i0, hi, hz0, hz1, hz2⟩ := info_parts info_entry
  have hi' := Lib.hid hi
  have hz0' := Lib.hid hz0
  have hz1' := Lib.hid hz1
  have hz2' := Lib.hid hz2
  have HN := Lib.hid hn
  have HN2 := Lib.hid hn2
  clear hi hz0 hz1 hz2 hn hn2
  go_enter Tryd.func79, Tryd.ntmps79
  go_wp2
  refine wp_loop_rounds 3 ?_
  rw [rounds_succ]
  go_wp2
  rw [rounds_succ]
  go_wp2
  rw [rounds_succ]
  go_wp2_with fail
  rw [show ((n : Int) + (n2 : Int)) = ((n + n2 : Nat) : Int) from by omega]
  refine (growEnts_any (n + n2) w (by omega)).mono ?_
  rintro e w1 ⟨v, rfl, hown, hb⟩
  have e0 := (hb.cell (p := ⟨g, 0, none⟩) hg).trans c0
  have e1 := (hb.cell (p := ⟨g, 1, none⟩) hg).trans c1
  go_wp2
  refine wp_loop_rounds 3 ?_
  rw [rounds_succ]
  go_wp2_with (at_builtin; refine wpList_append2 _ rfl (.tmp 31) (.tmp 32) 35 rfl w.heap.size 76 i0 _ 4 32 Tryd.underlying35 hi'.out hz0'.out hz1'.out hz2'.out rfl (by decide) v 0 [] rfl ?_ a n cap (encEnts es) rfl ?_ ?_ ?_ ?_ ?_ ?_ ?_; exact hown; (rw [encEnts_length]; have h1 := HN.out; have h2 := HN2.out; omega); exact hr.below hb; exact encEnts_one _; unfold maxLen; omega; omega; exact hb.size; intro v1 w2 ho1 hg1 hq hm1; clear hq hm1; rw [List.nil_append, Nat.zero_add] at ho1; have hb2 := hb.grown hg1 hb.size (fun j e => (hown.lt j e).1); clear hown hg1; have d0 := (hb2.cell (p := ⟨g, 0, none⟩) hg).trans c0; have d1 := (hb2.cell (p := ⟨g, 1, none⟩) hg).trans c1)
  rw [rounds_succ]
  go_wp2_with (at_builtin; refine wpList_append2 _ rfl (.tmp 31) (.tmp 32) 35 rfl w.heap.size 76 i0 _ 4 32 Tryd.underlying35 hi'.out hz0'.out hz1'.out hz2'.out rfl (by decide) v1 n (encEnts es) rfl ?_ a2 n2 cap2 (encEnts fs) rfl ?_ ?_ ?_ ?_ ?_ ?_ ?_; exact ho1; (rw [encEnts_length]; have h1 := HN.out; have h2 := HN2.out; omega); exact hr2.below hb2; exact encEnts_one _; unfold maxLen; omega; omega; exact hb2.size; intro v2 w3 ho2 hg2 hq hm2; clear hq hm2; have hb3 := hb2.grown hg2 hb2.size (fun j e => (ho1.lt j e).1); clear ho1 hg2)
  rw [rounds_succ]
  go_wp2
  go_ret
  obtain ⟨a', cap', rfl⟩ := owned_shape ho2
  obtain ⟨h1, _, h2, _⟩ := RowAt.owned ho2
  exact ⟨a', cap', rfl, by simp only [encEnts, List.flatMap_append]; exact h1, h2, hb3⟩
end Go.Proofs.YtmikeblbfmfimaaDoor
