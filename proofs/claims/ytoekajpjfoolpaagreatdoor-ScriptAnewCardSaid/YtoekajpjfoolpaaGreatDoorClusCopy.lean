/- Copy of a board: its pairs' map is the same. · cluster: Copy. -/
import Derived.Test.YtoekajpjfoolpaaGreatDoorMode
import Derived.StillTailTactics
import Derived.Test.YtoekajpjfoolpaaGreatDoorClusTell
namespace Go.Proofs.YtoekajpjfoolpaaGreatDoor
open Go.RowKit

set_option maxRecDepth 100000 in
/-- Copy of a board. -/
theorem boardCp_any (b mb : Nat) (l : List (Int × Int)) (now asked : Int) (w : World) (h : BoardM w b mb l now asked) :
    Calls Tryz.prog 67 #[.pointer (some ⟨b, 0, none⟩)] w fun e w' => ∃ c, e = .returned (.pointer (some ⟨c, 0, none⟩)) ∧ w.heap.size ≤ c ∧ BoardM w' c mb l now asked ∧ Below w.heap.size w w' := by
  obtain ⟨h1, h2, h3⟩ := h
  have c0 : w.cell? ⟨b, 0, none⟩ = some (.map (some mb)) := cell_of_row w b 0 _ _ _ h1
  have c1 : w.cell? ⟨b, 1, none⟩ = some (.int .i64 now) := cell_of_row w b 1 _ _ _ h1
  have c2 : w.cell? ⟨b, 2, none⟩ = some (.int .i64 asked) := cell_of_row w b 2 _ _ _ h1
  have hlt : b < w.heap.size := (Array.getElem?_eq_some_iff.1 h1).1
  have H3 := Lib.hid h3
  clear h1 h2 h3
  go_enter Tryz.func67, Tryz.ntmps67
  go_wp2
  go_still_tail 13, (by kernel_rfl)
  have hRB : ∀ m : Nat, BoardM ((w.drewN m).alloc (.cells #[.map (some mb), .int .i64 now, .int .i64 asked] 179)) w.heap.size mb l now asked := fun m => by
    have h1 := heap_alloc_new (w.drewN m) (.cells #[.map (some mb), .int .i64 now, .int .i64 asked] 179)
    have hm := H3.out.lt
    exact ⟨by simpa using h1, by omega, (H3.out.drewN m).kept (below_grows ((Below.refl _ _).alloc (Nat.le_refl _) _) none) (by simp)⟩
  have HRB := Lib.hid hRB
  clear hRB
  go_wp2
  go_ret
  exact ⟨_, rfl, Nat.le_refl _, HRB.out _, (below_drewN (Below.refl _ _) _).alloc (by simp) _⟩
end Go.Proofs.YtoekajpjfoolpaaGreatDoor
namespace Go.Proofs.YtoekajpjfoolpaaGreatDoor
open Go.RowKit Go.Maps

/-- Where a copy lies: its blocks are new; its plan's row and its board's map are the same. -/
structure Fresh (b : Nat) (L : CL) : Prop where
  cb : b ≤ L.cb
  bb : b ≤ L.bb
  mb : b ≤ L.mb
set_option maxRecDepth 100000 in
set_option maxHeartbeats 3200000 in
theorem cCopy_any (L : CL) (c : CP) (w : World) (h : ClusAt w L c) (hl : ∀ i x, c.f i = some x → x.h.length ≤ 1000) :
    Calls Tryz.prog 15 #[.pointer (some ⟨L.cb, 0, none⟩)] w fun e w' => ∃ L' : CL, e = .returned (.pointer (some ⟨L'.cb, 0, none⟩)) ∧ ClusAt w' L' c ∧ Fresh w.heap.size L' ∧ Below w.heap.size w w' := by
  obtain ⟨c0, c1, c2, c3⟩ := h.cells
  obtain ⟨l1, l2, l3, l4⟩ := h.lt
  obtain ⟨q, hq, hN⟩ := h.nodes
  have H := Lib.hid h
  have HN := Lib.hid hN
  have HL := Lib.hid hl
  have hmm := @run_makeMap Tryz.prog
  clear h hN hl
  go_enter Tryz.func15, Tryz.ntmps15
  have hb1 : Below w.heap.size w (w.alloc (.map #[] 0)) := (Below.refl _ _).alloc (Nat.le_refl _) _
  have k3 := (hb1.cell (p := ⟨L.cb, 3, none⟩) l1).trans c3
  have HN1 := Lib.hid (HN.out.below hb1)
  have HM1 := Lib.hid (NodesP.made w)
  go_wp2_with (first | (at_range; refine wpList_range_p rfl _ rfl rfl HN1.out ?_; intro w0 hR0 hb0 hz0) | fail)
  go_frame
  have hz1 : (w.alloc (.map #[] 0)).heap.size = w.heap.size + 1 := by simp
  have hM0 : NodesP w0 w.heap.size (fun i => if (c.f i).isSome then none else c.f i) 0 := by
    have e : (fun i => if (c.f i).isSome then none else c.f i) = fun _ => (none : Option NP) := funext fun i => by cases c.f i <;> rfl
    rw [e]; exact HM1.out.below hb0
  have hbw : Below w.heap.size w w0 := hb1.trans (hb0.mono (by simp))
  rw [hz1] at hR0 ⊢
  go_loopw [12] (fun _ wr => ∃ (left : Int → Bool) (cnt q2 : Nat), RangeP wr L.mb (w.heap.size + 1) c.f q left cnt ∧ NodesP wr w.heap.size (fun i => if left i then none else c.f i) q2 ∧ q2 + cnt ≤ q ∧ Below w.heap.size w wr) (fun _ wr => wr.rangeLeft L.mb (w.heap.size + 1))
  case atStart => exact ⟨_, q, 0, hR0, hM0, by omega, hbw⟩
  case round =>
    clear hR0 hM0 hbw hb0 hb1 HN1 HM1 hz1 hmm k3
    obtain ⟨left, cnt, q2, hR, hM, hqc, hb⟩ := hrel
    have HM := Lib.hid hM
    have HR := Lib.hid hR
    have HB := Lib.hid hb
    clear hM hb
    go_wp2_with (at_next; refine wpList_next_p rfl _ rfl rfl hR ?_ ?_)
    · intro hc0 hl0
      have hMd : NodesP wr w.heap.size c.f q2 := by
        have e : (fun i => if left i = true then none else c.f i) = c.f := funext fun i => by rw [hl0 i]; rfl
        have hM := HM.out
        rw [e] at hM; exact hM
      have hcd := H.out.below HB.out
      have hbd : Below w.heap.size w wr.drew := below_drewN HB.out 1
      have C := Lib.hid (boardCp_any L.bb L.mm allPairs c.now c.asked wr.drew (hcd.below (below_drewN (Below.refl _ _) 1)).board)
      obtain ⟨k0, k1, k2, k3⟩ := (hcd.drewN 1).cells
      have k0 : wr.drew.cell? ⟨L.cb, 0, none⟩ = _ := k0
      have k1 : wr.drew.cell? ⟨L.cb, 1, none⟩ = _ := k1
      have k2 : wr.drew.cell? ⟨L.cb, 2, none⟩ = _ := k2
      have hlw := (hcd.drewN 1).lt.1
      have HMd := Lib.hid hMd
      have HCd := Lib.hid hcd
      clear hMd hcd c0 c1 c2 c3 k3
      go_wp2
      go_region_held3 (fun w' => w'.cell? ⟨L.cb, 0, none⟩ = some (.slice L.pa c.plan.length L.pc) ∧ w'.cell? ⟨L.cb, 1, none⟩ = some (.int .i64 c.time) ∧ w'.cell? ⟨L.cb, 2, none⟩ = some (.pointer (some ⟨L.bb, 0, none⟩))) (go_keep)
        ((go_at_call 67; (with_reducible refine C.out.mono ?_); rintro e w7 ⟨cb', rfl, hcb', hB7, hb7⟩; have d0 := (hb7.cell (p := ⟨L.cb, 0, none⟩) hlw).trans k0; have d1 := (hb7.cell (p := ⟨L.cb, 1, none⟩) hlw).trans k1; have d2 := (hb7.cell (p := ⟨L.cb, 2, none⟩) hlw).trans k2; have HB7 := Lib.hid hB7; clear hB7))
      go_wp2
      go_ret
      have hlt7 : w7.heap.size = w7.heap.size := rfl
      have hfin : Below w.heap.size w (w7.alloc (.cells #[.slice L.pa c.plan.length L.pc, .int .i64 c.time, .pointer (some ⟨cb', 0, none⟩), .map (some w.heap.size)] 103)) := (hbd.trans (hb7.mono hbd.size)).alloc (Nat.le_trans hbd.size hb7.size) _
      have hal : Below w7.heap.size w7 (w7.alloc (.cells #[.slice L.pa c.plan.length L.pc, .int .i64 c.time, .pointer (some ⟨cb', 0, none⟩), .map (some w.heap.size)] 103)) := (Below.refl _ _).alloc (Nat.le_refl _) _
      have hpl := ((HCd.out.below (below_drewN (Below.refl _ _) 1)).below hb7).below hal
      have hmm := H.out.lt
      refine ⟨⟨w7.heap.size, cb', w.heap.size, L.mm, L.pa, L.pc⟩, rfl, ⟨?_, hpl.plan, HB7.out.kept (below_grows hal none) (by simp) (by simp), ⟨q2, by omega, ((HMd.out.below (below_drewN (Below.refl _ _) 1)).below hb7).below hal⟩, by dsimp only; omega⟩, ⟨Nat.le_trans hbd.size hb7.size, Nat.le_trans hbd.size hcb', Nat.le_refl _⟩, hfin⟩
      exact World.alloc_heap_new w7 _
    · intro i x sa sc w1 cnt1 hwi hli hgi hrow hR1 hlt hg1 hz1 hen
      have hb1 : Below w.heap.size w w1 := HB.out.grown hg1 HB.out.size (fun j e => by injection e with e; omega)
      have hM1 := HM.out
      have HZ1 := Lib.hid hz1
      clear hz1
      obtain ⟨W2, hW2, S2, hb2, hz2, hc2⟩ := new6 w1 105 (.int .i64 x.st) (.int .i64 x.val) (.int .i64 x.m) (.int .i64 x.d) (.int .i64 x.s) (.slice sa x.h.length sc)
      have K := Lib.hid (cloneEnts_own sa _ sc x.h W2 rfl (ownsRow_at (hrow.below hb2)) (by have := HL.out i x hgi; omega))
      have HM1 : Hid (NodesP w1 w.heap.size (fun i => if left i then none else c.f i) q2) := hM1.fr (S := fun k => k = w.heap.size + 1) (Fr.grown hg1 (fun k e => by injection e with e; exact e.symm)) (by omega) (fun k cur hk e => by
        obtain ⟨s, seen, c, hi⟩ := HR.out.iter
        subst e; rw [hi] at hk; cases hk)
      clear hM1 hc2 hz2
      go_wp2_with fail
      rw [← hW2]
      refine K.out.mono ?_
      rintro e w3 ⟨a', cap', rfl, ho3, hb3⟩
      obtain ⟨⟨cur3, ho⟩, n0, n1, n2, n3, n4, n5, nf, nl⟩ := S2.below hb3
      have f5 := nf 5
      have hR3 : Hid (RangeP (w3.setCell ⟨w1.heap.size, 5, none⟩ (.slice a' x.h.length cap')) L.mb (w.heap.size + 1) c.f q (fun j => left j && !(j == i)) cnt1) := ((hR1.below hb2).below hb3).setCell (p := ⟨w1.heap.size, 5, none⟩) ho (by decide) _
      have hM3 : Hid (NodesP (w3.setCell ⟨w1.heap.size, 5, none⟩ (.slice a' x.h.length cap')) w.heap.size (fun i => if left i then none else c.f i) q2) := ((HM1.out.below hb2).below hb3).setCell (p := ⟨w1.heap.size, 5, none⟩) ho (by decide) _
      have hr3 : Hid (HRow (w3.setCell ⟨w1.heap.size, 5, none⟩ (.slice a' x.h.length cap')) (.slice a' x.h.length cap') x.h) := by
        have h0 : HRow w3 (.slice a' x.h.length cap') x.h := ownsRow_rebase ho3 (Nat.zero_le _)
        exact h0.fr (S := fun k => k = w1.heap.size) ((Fr.refl (fun k => k = w1.heap.size) w3).setCell (p := ⟨w1.heap.size, 5, none⟩) (Or.inl rfl) _) (fun k cur hk e => by
          subst e; rw [ho] at hk; injection hk with hk; injection hk with _ e2; revert e2; decide)
      have HB3 : Hid (Below w.heap.size w (w3.setCell ⟨w1.heap.size, 5, none⟩ (.slice a' x.h.length cap'))) := (onto (onto hb1 hb2) hb3).setCell (by have := hb1.size; simpa using this) _
      have HO := Lib.hid ho
      have HO3 := Lib.hid ho3
      clear hb3 ho3 ho hb2 hb1 hR1 hrow hg1
      go_wp2_with (at_mapUpdate; refine wpList_put_nodes rfl _ _ _ rfl (mb := w.heap.size) (g := fun i => if left i then none else c.f i) (q := q2) (i := i) (x := x) (sl := .slice a' x.h.length cap') rfl hM3.out (by omega) rfl rfl hwi hr3.out ?_; intro w5 hN5 hg5)
      obtain ⟨es, clock, hmap⟩ := hM3.out.map
      have hR5 : Hid (RangeP w5 L.mb (w.heap.size + 1) c.f q (fun j => left j && !(j == i)) cnt1) := hR3.out.other (by omega) hmap hg5
      have hN6 : Hid (NodesP w5 w.heap.size (fun j => if (left j && !(j == i)) = true then none else c.f j) (q2 + 1)) := by
        have e1 : putN (fun i => if left i then none else c.f i) i x = fun j => if (left j && !(j == i)) = true then none else c.f j := funext fun j => by
          unfold putN
          by_cases e : j = i
          · subst e; simp [hgi]
          · have e2 : (j == i) = false := by simpa using e
            rw [if_neg e, e2]; simp
        have h0 := hN5
        rw [e1] at h0
        simp only [hli, if_true, Option.isSome_none, Bool.false_eq_true, if_false] at h0
        exact h0
      have HB5 : Hid (Below w.heap.size w w5) := HB3.out.grown hg5 HB3.out.size (fun j e => by injection e with e; omega)
      clear hN5 hg5 hmap
      go_roundw
      case rel => (repeat apply Exists.intro); exact ⟨⟨_, cnt1, q2 + 1, hR5.out, hN6.out, by omega, HB5.out⟩, rfl⟩
      case measure => rw [hR5.out.left_eq, HR.out.left_eq]; exact hlt
end Go.Proofs.YtoekajpjfoolpaaGreatDoor
