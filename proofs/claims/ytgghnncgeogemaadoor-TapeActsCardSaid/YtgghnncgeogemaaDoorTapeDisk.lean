/- a disk: NewDisk, Cut, On, Power, Bytes, write. -/
import Derived.Test.YtgghnncgeogemaaDoorTapeRow
import Derived.RegionTactic
import Derived.Deep.RegionHeld3
namespace Go.Proofs.YtgghnncgeogemaaDoor
open Go.RowKit

/-- A disk. -/
structure Dk where
  b : List UInt8
  off : Bool
  cut : Int
/-- A disk, in memory: at or behind 'base'. -/
def DiskAt (w : World) (base D : Nat) (s : Dk) : Prop := base ≤ D ∧ s.b.length ≤ 262144 ∧ ∃ v, Blok w D 51 #[v, .bool s.off, .int .i64 s.cut] ∧ DRow w base v s.b

theorem blok_ne {w : World} {D g : Nat} {cs cur : Array Value} {fz : Nat × Nat} (h : Blok w D 51 cs) (hg : w.heap[g]? = some (.cells cur 5 fz)) : g ≠ D := by
  rintro rfl
  rw [show w.heap[g]? = _ from h] at hg
  simp at hg
theorem DRow.apart {w : World} {base D : Nat} {cs : Array Value} {v : Value} {bs : List UInt8} (hv : DRow w base v bs) (h : Blok w D 51 cs) : ∀ g, v.ownBlock = some g → g ≠ D := fun g hg => by
  obtain ⟨_, cur, fz, hc⟩ := hv.bytes g hg
  exact blok_ne h hc
theorem Step.setDisk {base : Nat} {w : World} {D : Nat} {cs : Array Value} (h : Blok w D 51 cs) (hb : base ≤ D) (i : Nat) (v : Value) : Step base w (w.setCell ⟨D, i, none⟩ v) := by
  refine ⟨(Below.refl _ _).setCell hb _, fun k c t fz hk _ h2 => ?_⟩
  have hne : k ≠ D := by
    rintro rfl
    rw [show w.heap[k]? = _ from h] at hk
    simp at hk
    exact h2 hk.2.1.symm
  exact (heap_setCell_other _ _ _ _ (by simpa using hne)).trans hk
theorem Step.grown {base : Nat} {w w' : World} {v : Value} {bs : List UInt8} (hv : DRow w base v bs) (hg : w.grownBy w' v.ownBlock) (hb : base ≤ w.heap.size) : Step base w w' := by
  refine ⟨(Below.refl _ _).grown hg hb (fun k hk => (hv.bytes k hk).1), fun k c t fz hk h1 _ => ?_⟩
  refine (hg.block k (Array.getElem?_eq_some_iff.1 hk).1 (fun e => ?_)).trans hk
  obtain ⟨_, cur, fz', hc⟩ := hv.bytes k e.symm
  rw [hc] at hk
  simp at hk
  exact h1 hk.2.1.symm
theorem Step.drew {base : Nat} (w : World) : Step base w w.drew := ⟨(Below.refl _ _).drew, fun _ _ _ _ h _ _ => h⟩
theorem DiskAt.below {w w' : World} {base D : Nat} {s : Dk} (h : DiskAt w base D s) (hb : Below w.heap.size w w') : DiskAt w' base D s := by
  obtain ⟨h1, h2, v, h3, h4⟩ := h
  exact ⟨h1, h2, v, h3.kept hb, h4.below hb⟩
theorem DiskAt.weak {w : World} {base base' D : Nat} {s : Dk} (h : DiskAt w base D s) (hb : base' ≤ base) : DiskAt w base' D s := by
  obtain ⟨h1, h2, v, h3, h4⟩ := h
  refine ⟨by omega, h2, v, h3, ?_⟩
  rcases h4 with h | ⟨g, cap, cur, fz, e, q1, q2⟩
  · exact Or.inl h
  · exact Or.inr ⟨g, cap, cur, fz, e, by omega, q2⟩
theorem DiskAt.lt {w : World} {base D : Nat} {s : Dk} (h : DiskAt w base D s) : D < w.heap.size := by
  obtain ⟨_, _, v, h3, _⟩ := h
  exact h3.lt
/-- One field is set. -/
theorem DiskAt.set {w : World} {base D : Nat} {v : Value} {b : List UInt8} {o : Bool} {c : Int} (hB : base ≤ D) (hl : b.length ≤ 262144) (h : Blok w D 51 #[v, .bool o, .int .i64 c]) (hv : DRow w base v b) :
    (∀ o', DiskAt (w.setCell ⟨D, 1, none⟩ (.bool o')) base D ⟨b, o', c⟩) ∧ (∀ c', DiskAt (w.setCell ⟨D, 2, none⟩ (.int .i64 c')) base D ⟨b, o, c'⟩) := by
  have hk : ∀ i x, DRow (w.setCell ⟨D, i, none⟩ x) base v b := fun i x => hv.kept fun g hg => heap_setCell_other _ _ _ _ (by simpa using hv.apart h g hg)
  exact ⟨fun o' => ⟨hB, hl, v, by have := h.set 1 (.bool o'); simpa using this, hk _ _⟩, fun c' => ⟨hB, hl, v, by have := h.set 2 (.int .i64 c'); simpa using this, hk _ _⟩⟩

set_option maxHeartbeats 800000 in
theorem newDisk_any (bs : List UInt8) (w : World) (h : bs.length ≤ 262144) :
    Calls Tryd.prog 6 #[.string ⟨bs.toArray⟩] w fun e w' => ∃ D, e = .returned (.tuple #[.pointer (some ⟨D, 0, none⟩), .nilIface]) ∧ DiskAt w' w.heap.size D ⟨bs, false, -1⟩ ∧ Below w.heap.size w w' := by
  obtain ⟨cap, hrun, hrow, hb⟩ := run_conv_text w bs h
  have hd : decide ((262144 : Int) < (bs.length : Int)) = false := decide_eq_false (by omega)
  have hB := hb.alloc hb.size (.cells #[.slice (some ⟨w.heap.size, 0, none⟩) bs.length cap, .bool false, .int .i64 (-1)] 51)
  generalize Lib.bytesWorld w 5 ⟨bs.toArray⟩ = w1 at *
  have hD : DiskAt (w1.alloc (.cells #[.slice (some ⟨w.heap.size, 0, none⟩) bs.length cap, .bool false, .int .i64 (-1)] 51)) w.heap.size w1.heap.size ⟨bs, false, -1⟩ :=
    ⟨hb.size, h, _, Blok.new _ _ _, hrow.below ((Below.refl _ _).alloc (Nat.le_refl _) _)⟩
  go_enter Tryd.func6, Tryd.ntmps6
  go_wp2
  go_ret2
  exact ⟨_, rfl, hD, hB⟩

/-- Cut. -/
def cutF (s : Dk) (n : Int) : Dk × Nat := if n < 0 then (s, 2) else if s.off then (s, 11) else (⟨s.b, s.off, n⟩, 0)
set_option maxHeartbeats 800000 in
theorem diskCut_any (ea : Nat → Addr) (base D : Nat) (s : Dk) (n : Int) (w : World) (hg : Glob w ea [2, 11]) (hD : DiskAt w base D s) :
    Calls Tryd.prog 7 #[.pointer (some ⟨D, 0, none⟩), .int .i64 n] w fun e w' => e = .returned (errV ea (cutF s n).2) ∧ DiskAt w' base D (cutF s n).1 ∧ Step base w w' := by
  have g2 := hg.cell 2 (by simp)
  have g11 := hg.cell 11 (by simp)
  simp only [gOf] at g2 g11
  have hD' := hD
  obtain ⟨b, o, c⟩ := s
  obtain ⟨hB, hl, v, hK, hv⟩ := hD
  have c1 := hK.cell 1 rfl
  have c2 := hK.cell 2 rfl
  have q2 := hK.frozen 2
  by_cases h : n < 0
  · have hF : cutF ⟨b, o, c⟩ n = (⟨b, o, c⟩, 2) := by rw [cutF, if_pos h]
    rw [hF]
    go_enter Tryd.func7, Tryd.ntmps7
    go_wp2
    go_ret
    exact ⟨rfl, hD', Step.refl _ _⟩
  · cases o
    · have hF : cutF ⟨b, false, c⟩ n = (⟨b, false, n⟩, 0) := by rw [cutF, if_neg h]; rfl
      rw [hF, errV_zero]
      have hd : decide (n < 0) = false := decide_eq_false h
      go_enter Tryd.func7, Tryd.ntmps7
      go_wp2
      go_ret
      exact ⟨rfl, (DiskAt.set hB hl hK hv).2 n, Step.setDisk hK hB _ _⟩
    · have hF : cutF ⟨b, true, c⟩ n = (⟨b, true, c⟩, 11) := by rw [cutF, if_neg h]; rfl
      rw [hF]
      have hd : decide (n < 0) = false := decide_eq_false h
      go_enter Tryd.func7, Tryd.ntmps7
      go_wp2
      go_ret
      exact ⟨rfl, hD', Step.refl _ _⟩

theorem diskOn_any (base D : Nat) (s : Dk) (w : World) (hD : DiskAt w base D s) :
    Calls Tryd.prog 17 #[.pointer (some ⟨D, 0, none⟩)] w fun e w' => e = .returned (.tuple #[]) ∧ DiskAt w' base D ⟨s.b, false, -1⟩ ∧ Step base w w' := by
  obtain ⟨b, o, c⟩ := s
  obtain ⟨hB, hl, v, hK, hv⟩ := hD
  have c1 := hK.cell 1 rfl
  have c2 := hK.cell 2 rfl
  have q1 := hK.frozen 1
  have q2 := hK.frozen 2
  go_enter Tryd.func17, Tryd.ntmps17
  go_wp2
  have h1 := (DiskAt.set hB hl hK hv).1 false
  have hS := Step.setDisk hK hB 1 (.bool false)
  have hK1 : Blok (w.setCell ⟨D, 1, none⟩ (.bool false)) D 51 #[v, .bool false, .int .i64 c] := by have := hK.set 1 (.bool false); simpa using this
  have hv1 : DRow (w.setCell ⟨D, 1, none⟩ (.bool false)) base v b := hv.kept fun g hg => heap_setCell_other _ _ _ _ (by simpa using hv.apart hK g hg)
  refine bodyPost_end (results_none rfl _ _ _) rfl ?_
  exact ⟨rfl, (DiskAt.set hB hl hK1 hv1).2 (-1), hS.trans (Step.setDisk hK1 hB _ _)⟩

theorem diskPower_any (base D : Nat) (s : Dk) (w : World) (hD : DiskAt w base D s) :
    Calls Tryd.prog 11 #[.pointer (some ⟨D, 0, none⟩)] w fun e w' => e = .returned (.bool (!s.off)) ∧ w = w' := by
  obtain ⟨b, o, c⟩ := s
  obtain ⟨hB, hl, v, hK, hv⟩ := hD
  have c1 := hK.cell 1 rfl
  go_enter Tryd.func11, Tryd.ntmps11
  go_wp2
  go_ret
  exact ⟨rfl, rfl⟩

theorem diskBytes_any (base D : Nat) (s : Dk) (w : World) (hD : DiskAt w base D s) :
    Calls Tryd.prog 13 #[.pointer (some ⟨D, 0, none⟩)] w fun e w' => e = .returned (.string ⟨s.b.toArray⟩) ∧ w = w' := by
  obtain ⟨b, o, c⟩ := s
  obtain ⟨hB, hl, v, hK, hv⟩ := hD
  have hrun := run_text_back w base v b hv
  have c0 := hK.cell 0 rfl
  clear hK hv
  go_enter Tryd.func13, Tryd.ntmps13
  go_wp2
  go_ret
  exact ⟨rfl, rfl⟩

/-- write. -/
def wrF (s : Dk) (t : List UInt8) : Dk × Nat :=
  if s.off then (s, 11) else if 0 ≤ s.cut ∧ s.cut < t.length then (⟨s.b ++ t.take s.cut.toNat, true, s.cut⟩, 11) else (⟨s.b ++ t, false, if 0 ≤ s.cut then s.cut - t.length else s.cut⟩, 0)
/-- The bytes are set. -/
theorem disk_put {w w1 : World} {base D : Nat} {v v' : Value} {b t : List UInt8} {o : Bool} {c : Int} (hB : base ≤ D) (hb : base ≤ w.heap.size) (hK : Blok w D 51 #[v, .bool o, .int .i64 c]) (hv : DRow w base v b) (hl : (b ++ t).length ≤ 262144)
    (h1 : DRow w1 base v' (b ++ t)) (hg : w.grownBy w1 v.ownBlock) :
    Blok w1 D 51 #[v, .bool o, .int .i64 c] ∧ Blok (w1.setCell ⟨D, 0, none⟩ v') D 51 #[v', .bool o, .int .i64 c] ∧ DRow (w1.setCell ⟨D, 0, none⟩ v') base v' (b ++ t) ∧ DiskAt (w1.setCell ⟨D, 0, none⟩ v') base D ⟨b ++ t, o, c⟩ ∧ Step base w (w1.setCell ⟨D, 0, none⟩ v') := by
  have k1 : Blok w1 D 51 #[v, .bool o, .int .i64 c] := (hg.block D hK.lt (fun e => hv.apart hK D e.symm rfl)).trans hK
  have k2 : Blok (w1.setCell ⟨D, 0, none⟩ v') D 51 #[v', .bool o, .int .i64 c] := by have := k1.set 0 v'; simpa using this
  have k3 : DRow (w1.setCell ⟨D, 0, none⟩ v') base v' (b ++ t) := h1.kept fun g hg => heap_setCell_other _ _ _ _ (by simpa using h1.apart k1 g hg)
  exact ⟨k1, k2, k3, ⟨hB, hl, v', k2, k3⟩, (Step.grown hv hg hb).trans (Step.setDisk k1 hB _ _)⟩

theorem oper_append_text {o : Oper} {a : Act} {w w' : World} {K : Act → World → Prop} {Q : Exit → Act → World → Prop} (sl x : Operand)
    (ho : o.op = .call { callee := .builtin .append, args := #[sl, x], argTypes := #[49, 9] }) (v v' : Value) (t : List UInt8) (hs : a.eval sl = v) (hx : a.eval x = .string ⟨t.toArray⟩)
    (hrun : (Builtin.append_ #[49, 9] o.type #[v, .string ⟨t.toArray⟩]).run Tryd.prog w = .ok v' w') (h : K (a.put o.dst v') w') : Oper.wp Tryd.prog o a w K Q := by
  unfold Oper.wp execOp
  simp only [ho, resolve, invoke, builtin, Sem.run_bind, Sem.run_pure, Result.andThen_ok, List.map_toArray, List.map_cons, List.map_nil, hs, hx, hrun]
  exact h
theorem wpList_append_text {ops : Array Oper} {rest : List Oper} {o : Oper} {a : Act} {Q : Exit → Act → World → Prop} {w w' : World} (hgd : o.guard = none) (sl x : Operand)
    (ho : o.op = .call { callee := .builtin .append, args := #[sl, x], argTypes := #[49, 9] }) (v v' : Value) (t : List UInt8) (hs : a.eval sl = v) (hx : a.eval x = .string ⟨t.toArray⟩)
    (hrun : (Builtin.append_ #[49, 9] o.type #[v, .string ⟨t.toArray⟩]).run Tryd.prog w = .ok v' w') (h : wpList Tryd.prog ops Q rest (a.put o.dst v') w') : wpList Tryd.prog ops Q (o :: rest) a w :=
  wpList_plain hgd fun _ hK => oper_append_text sl x ho v v' t hs hx hrun (hK _ _ h)

set_option maxRecDepth 100000 in
set_option maxHeartbeats 1600000 in
theorem diskWrite_any (ea : Nat → Addr) (base D : Nat) (s : Dk) (t : List UInt8) (w : World) (hg : Glob w ea [11]) (hD : DiskAt w base D s) (hb : base ≤ w.heap.size) (hlt : s.b.length + t.length ≤ 262144) (hgb : gOf 11 < base) (hc : -9223372036854775808 ≤ s.cut ∧ s.cut ≤ 9223372036854775807) :
    Calls Tryd.prog 21 #[.pointer (some ⟨D, 0, none⟩), .string ⟨t.toArray⟩] w fun e w' => e = .returned (errV ea (wrF s t).2) ∧ DiskAt w' base D (wrF s t).1 ∧ Step base w w' := by
  have g11 := hg.cell 11 (by simp)
  simp only [gOf] at g11
  have hD' := hD
  obtain ⟨b, o, c⟩ := s
  obtain ⟨hB, hl, v, hK, hv⟩ := hD
  have hlt : b.length + t.length ≤ 262144 := hlt
  have hc : -9223372036854775808 ≤ c ∧ c ≤ 9223372036854775807 := hc
  obtain ⟨av, cv, rfl⟩ := hv.shape
  have c0 := hK.cell 0 rfl
  have c1 := hK.cell 1 rfl
  have c2 := hK.cell 2 rfl
  cases o
  · by_cases h0 : 0 ≤ c
    · by_cases h1 : c < t.length
      · have hF : wrF ⟨b, false, c⟩ t = (⟨b ++ t.take c.toNat, true, c⟩, 11) := by rw [wrF]; simp [h0, h1]
        rw [hF]
        obtain ⟨v', w1, hrun, hrow, hgr, _⟩ := run_append_text w.drew base 49 _ b (t.take c.toNat) hv (by rw [List.length_take]; omega) hb
        obtain ⟨a2, cap2, rfl⟩ := hrow.shape
        obtain ⟨k1, k2, k3, k4, k5⟩ := disk_put (w := w.drew) hB hb hK hv (by rw [List.length_append, List.length_take]; omega) hrow hgr
        simp only [List.length_append, List.length_take] at hrun k1 k2 k3 k4 k5
        have hk6 := Step.setDisk k2 hB 1 (.bool true)
        have d0 : decide (0 ≤ c) = true := decide_eq_true h0
        have d1 : decide (c < (t.length : Int)) = true := decide_eq_true h1
        have hx : ∀ W : World, (Instr.slice 9 (.string ⟨t.toArray⟩) none (some (.int .i64 c)) none).run Tryd.prog W = .ok (.string ⟨(t.take c.toNat).toArray⟩) W := fun W => by
          rw [run_slice_string_h W 9 ⟨t.toArray⟩ Tryd.underlying9 .i64 c h0 (by show c ≤ (t.length : Int); omega)]
          congr 2
          apply ByteArray.ext; apply Array.ext'; simp
        have e0 := k1.cell 0 rfl
        have f0 := k1.frozen 0
        have e1 := k2.cell 1 rfl
        have f1 := k2.frozen 1
        have e2 := k1.cell 2 rfl
        have e3 := k2.cell 2 rfl
        have hgw := (k5.below.cell (p := ⟨gOf 11, 0, none⟩) hgb).trans (show w.drew.cell? ⟨gOf 11, 0, none⟩ = some (errV ea 11) from hg.cell 11 (by simp))
        have hn1 : ¬ (gOf 11 = D) := by omega
        have hn2 : ¬ (D = gOf 11) := by omega
        simp only [gOf] at hgw hn1 hn2
        go_enter Tryd.func21, Tryd.ntmps21
        go_wp2
        refine wp_region_any (by kernel_rfl) ?_
        try (change wpAny _ _ _ _ _ _ _ (World.drew _))
        refine wpAny_take (i := 0) (v := ?_) rfl (by kernel_rfl) (by kernel_rfl) (by kernel_rfl) (fun _ _ _ h => h) (Or.inl ⟨by rfl, ?_⟩) ?_
        rotate_left
        · (intro w; go_simp; try with_reducible rfl)
        refine wpAny_take (i := 1) (v := ?_) rfl (by kernel_rfl) (by kernel_rfl) (by kernel_rfl) (fun _ _ _ h => h) (Or.inl ⟨by rfl, ?_⟩) ?_
        rotate_left
        · (intro w; go_simp; try with_reducible rfl)
        refine wpAny_take (i := 2) (v := ?_) rfl (by kernel_rfl) (by kernel_rfl) (by kernel_rfl) (fun _ _ _ h => h) (Or.inl ⟨by rfl, ?_⟩) ?_
        rotate_left
        · (intro w; go_simp; try with_reducible rfl)
        refine wpAny_take (i := 3) (v := ?_) rfl (by kernel_rfl) (by kernel_rfl) (by kernel_rfl) (fun _ _ _ h => h) (Or.inl ⟨by rfl, ?_⟩) ?_
        rotate_left
        · (intro w; go_simp; try with_reducible rfl)
        refine wpAny_take (i := 5) (v := ?_) rfl (by kernel_rfl) (by kernel_rfl) (by kernel_rfl) (fun _ _ _ h => h) (Or.inl ⟨by rfl, ?_⟩) ?_
        rotate_left
        · (intro w; go_simp; try with_reducible rfl)
        refine wpAny_take (i := 6) (v := ?_) rfl (by kernel_rfl) (by kernel_rfl) (by kernel_rfl) (fun _ _ _ h => h) (Or.inl ⟨by rfl, ?_⟩) ?_
        rotate_left
        · (intro w; go_simp; try with_reducible rfl)
        refine wpAny_take (i := 7) (v := ?_) rfl (by kernel_rfl) (by kernel_rfl) (by kernel_rfl) (fun _ _ _ h => h) (Or.inl ⟨by rfl, ?_⟩) ?_
        rotate_left
        · (intro w; go_simp; try with_reducible rfl)
        refine wpAny_take (i := 8) (v := ?_) rfl (by kernel_rfl) (by kernel_rfl) (by kernel_rfl) (fun _ _ _ h => h) (Or.inl ⟨by rfl, ?_⟩) ?_
        rotate_left
        · (intro w; go_simp; try with_reducible rfl)
        refine wpAny_ready (rs := [4, 9]) (by kernel_rfl) (by simp) ?_
        refine AllReady.cons rfl (fun K hK => ?_) ?_
        · go_simp; refine hK _ _ ?_
          refine wpAny_ready (rs := [9]) (by kernel_rfl) (by simp) ?_
          refine AllReady.cons rfl (fun K hK => ?_) AllReady.nil
          go_simp; refine hK _ _ ?_
          refine wpAny_ready (rs := [10]) (by kernel_rfl) (by simp) ?_
          refine AllReady.cons rfl (fun K hK => ?_) AllReady.nil
          go_simp; refine hK _ _ ?_
          refine wpAny_ready (rs := [11]) (by kernel_rfl) (by simp) ?_
          refine AllReady.cons rfl (fun K hK => ?_) AllReady.nil
          rw [if_pos (by rfl)]; refine oper_append_text (.tmp 28) (.tmp 34) rfl _ _ (t.take c.toNat) rfl rfl hrun ?_; refine hK _ _ ?_
          refine wpAny_ready (rs := [12]) (by kernel_rfl) (by simp) ?_
          refine AllReady.cons rfl (fun K hK => ?_) AllReady.nil
          go_simp; refine hK _ _ ?_
          refine wpAny_ready (rs := [13]) (by kernel_rfl) (by simp) ?_
          refine AllReady.cons rfl (fun K hK => ?_) AllReady.nil
          go_simp; refine hK _ _ ?_
          refine wpAny_ready (rs := [14]) (by kernel_rfl) (by simp) ?_
          refine AllReady.cons rfl (fun K hK => ?_) AllReady.nil
          go_simp; refine hK _ _ ?_
          refine wpAny_done (by kernel_rfl) ?_ _
          go_wp2
          go_ret
          exact ⟨rfl, (DiskAt.set hB (by rw [List.length_append, List.length_take]; omega) k2 k3).1 true, ((Step.drew w).trans k5).trans hk6⟩
        refine AllReady.cons rfl (fun K hK => ?_) AllReady.nil
        go_simp; refine hK _ _ ?_
        refine wpAny_ready (rs := [4, 10]) (by kernel_rfl) (by simp) ?_
        refine AllReady.cons rfl (fun K hK => ?_) ?_
        · go_simp; refine hK _ _ ?_
          refine wpAny_ready (rs := [10]) (by kernel_rfl) (by simp) ?_
          refine AllReady.cons rfl (fun K hK => ?_) AllReady.nil
          go_simp; refine hK _ _ ?_
          refine wpAny_ready (rs := [11]) (by kernel_rfl) (by simp) ?_
          refine AllReady.cons rfl (fun K hK => ?_) AllReady.nil
          rw [if_pos (by rfl)]; refine oper_append_text (.tmp 28) (.tmp 34) rfl _ _ (t.take c.toNat) rfl rfl hrun ?_; refine hK _ _ ?_
          refine wpAny_ready (rs := [12]) (by kernel_rfl) (by simp) ?_
          refine AllReady.cons rfl (fun K hK => ?_) AllReady.nil
          go_simp; refine hK _ _ ?_
          refine wpAny_ready (rs := [13]) (by kernel_rfl) (by simp) ?_
          refine AllReady.cons rfl (fun K hK => ?_) AllReady.nil
          go_simp; refine hK _ _ ?_
          refine wpAny_ready (rs := [14]) (by kernel_rfl) (by simp) ?_
          refine AllReady.cons rfl (fun K hK => ?_) AllReady.nil
          go_simp; refine hK _ _ ?_
          refine wpAny_done (by kernel_rfl) ?_ _
          go_wp2
          go_ret
          exact ⟨rfl, (DiskAt.set hB (by rw [List.length_append, List.length_take]; omega) k2 k3).1 true, ((Step.drew w).trans k5).trans hk6⟩
        refine AllReady.cons rfl (fun K hK => ?_) AllReady.nil
        go_simp; refine hK _ _ ?_
        refine wpAny_ready (rs := [4]) (by kernel_rfl) (by simp) ?_
        refine AllReady.cons rfl (fun K hK => ?_) AllReady.nil
        go_simp; refine hK _ _ ?_
        refine wpAny_ready (rs := [11]) (by kernel_rfl) (by simp) ?_
        refine AllReady.cons rfl (fun K hK => ?_) AllReady.nil
        rw [if_pos (by rfl)]; refine oper_append_text (.tmp 28) (.tmp 34) rfl _ _ (t.take c.toNat) rfl rfl hrun ?_; refine hK _ _ ?_
        refine wpAny_ready (rs := [12]) (by kernel_rfl) (by simp) ?_
        refine AllReady.cons rfl (fun K hK => ?_) AllReady.nil
        go_simp; refine hK _ _ ?_
        refine wpAny_ready (rs := [13]) (by kernel_rfl) (by simp) ?_
        refine AllReady.cons rfl (fun K hK => ?_) AllReady.nil
        go_simp; refine hK _ _ ?_
        refine wpAny_ready (rs := [14]) (by kernel_rfl) (by simp) ?_
        refine AllReady.cons rfl (fun K hK => ?_) AllReady.nil
        go_simp; refine hK _ _ ?_
        refine wpAny_done (by kernel_rfl) ?_ _
        go_wp2
        go_ret
        exact ⟨rfl, (DiskAt.set hB (by rw [List.length_append, List.length_take]; omega) k2 k3).1 true, ((Step.drew w).trans k5).trans hk6⟩
      · have hF : wrF ⟨b, false, c⟩ t = (⟨b ++ t, false, c - t.length⟩, 0) := by rw [wrF]; simp [h0, h1]
        rw [hF, errV_zero]
        have hK2 : Blok (w.setCell ⟨D, 2, none⟩ (.int .i64 (c - t.length))) D 51 #[.slice av b.length cv, .bool false, .int .i64 (c - t.length)] := by have := hK.set 2 (.int .i64 (c - t.length)); simpa using this
        have hv2 : DRow (w.setCell ⟨D, 2, none⟩ (.int .i64 (c - t.length))) base (.slice av b.length cv) b := hv.kept fun g hg => heap_setCell_other _ _ _ _ (by simpa using hv.apart hK g hg)
        have hS2 := Step.setDisk hK hB 2 (.int .i64 (c - t.length))
        obtain ⟨v', w1, hrun, hrow, hgr, _⟩ := run_append_text (w.setCell ⟨D, 2, none⟩ (.int .i64 (c - t.length))) base 49 _ b t hv2 (by omega) (by simpa using hb)
        obtain ⟨a2, cap2, rfl⟩ := hrow.shape
        obtain ⟨k1, k2, k3, k4, k5⟩ := disk_put hB (by simpa using hb) hK2 hv2 (by rw [List.length_append]; exact hlt) hrow hgr
        simp only [List.length_append] at hrun k1 k2 k3 k4 k5
        have d0 : decide (0 ≤ c) = true := decide_eq_true h0
        have d1 : decide (c < (t.length : Int)) = false := decide_eq_false h1
        have e0 := k1.cell 0 rfl
        have f0 := k1.frozen 0
        have c0' := hK2.cell 0 rfl
        have q2 := hK.frozen 2
        go_enter Tryd.func21, Tryd.ntmps21
        go_wp2_with (at_builtin; refine wpList_append_text rfl _ _ rfl _ _ t rfl rfl hrun ?_)
        go_ret
        exact ⟨rfl, k4, hS2.trans k5⟩
    · have hF : wrF ⟨b, false, c⟩ t = (⟨b ++ t, false, c⟩, 0) := by rw [wrF]; simp [h0]
      rw [hF, errV_zero]
      obtain ⟨v', w1, hrun, hrow, hgr, _⟩ := run_append_text w base 49 _ b t hv (by omega) hb
      obtain ⟨a2, cap2, rfl⟩ := hrow.shape
      obtain ⟨k1, k2, k3, k4, k5⟩ := disk_put hB hb hK hv (by rw [List.length_append]; exact hlt) hrow hgr
      simp only [List.length_append] at hrun k1 k2 k3 k4 k5
      have d0 : decide (0 ≤ c) = false := decide_eq_false h0
      have e0 := k1.cell 0 rfl
      have f0 := k1.frozen 0
      go_enter Tryd.func21, Tryd.ntmps21
      go_wp2_with (at_builtin; refine wpList_append_text rfl _ _ rfl _ _ t rfl rfl hrun ?_)
      go_ret
      exact ⟨rfl, k4, k5⟩
  · have hF : wrF ⟨b, true, c⟩ t = (⟨b, true, c⟩, 11) := by rw [wrF]; rfl
    rw [hF]
    go_enter Tryd.func21, Tryd.ntmps21
    go_wp2
    go_ret
    exact ⟨rfl, hD', Step.refl _ _⟩
end Go.Proofs.YtgghnncgeogemaaDoor
