/- fold.one: one entry of a text. -/
import Derived.Test.YtbfocagicagehaaDoorFoldPlain
import Derived.Test.YtbfocagicagehaaDoorTxt
namespace Go.Proofs.YtbfocagicagehaaDoor
open Go.RowKit

theorem cutSuffix_any (l p : List UInt8) (w : World) (hl : l.length ≤ 4294967280) :
    Calls Tryd.prog 44 #[.string ⟨l.toArray⟩, .string ⟨p.toArray⟩] w fun e w' => e = .returned (.tuple #[.string ⟨(Lib.trimSuffix l p).toArray⟩, .bool (Lib.hasSuffix l p)]) ∧ w = w' :=
  (Tryd.strings_CutSuffix ⟨l.toArray⟩ ⟨p.toArray⟩ w (by simp [ByteArray.size]; omega)).mono fun _ _ h => ⟨h.1, h.2.symm⟩
theorem cut_any (l p : List UInt8) (w : World) (hT : TxtEnv w) (hl : l.length ≤ 4294967280) :
    Calls Tryd.prog 46 #[.string ⟨l.toArray⟩, .string ⟨p.toArray⟩] w fun e w' => e = .returned (.tuple #[.string ⟨(Lib.cut l p).1.toArray⟩, .string ⟨(Lib.cut l p).2.1.toArray⟩, .bool (Lib.cut l p).2.2]) ∧ Below w.heap.size w w' := by
  obtain ⟨m, _, hm⟩ := hT.mx
  refine (Tryd.strings_Cut ⟨l.toArray⟩ ⟨p.toArray⟩ m w (by simp [ByteArray.size]; omega) hm).mono ?_
  rintro e w' ⟨rfl, k, rfl⟩
  exact ⟨rfl, below_drewN (Below.refl _ _) k⟩
theorem cut_le (l p : List UInt8) : (Lib.cut l p).1.length ≤ l.length ∧ (Lib.cut l p).2.1.length ≤ l.length := by
  unfold Lib.cut
  split
  · simp only [List.length_take, List.length_drop]; omega
  · simp
theorem trimSuffix_le (l p : List UInt8) : (Lib.trimSuffix l p).length ≤ l.length := by
  unfold Lib.trimSuffix
  split
  · simp only [List.length_take]; omega
  · exact Nat.le_refl _

theorem ent_cells {W : World} {b : Nat} {x0 x1 x2 x3 : Value} (h : W.heap[b]? = some (.cells #[x0, x1, x2, x3] 38 (0, 0))) :
    W.cell? ⟨b, 0, none⟩ = some x0 ∧ W.cell? ⟨b, 1, none⟩ = some x1 ∧ W.cell? ⟨b, 2, none⟩ = some x2 ∧ W.cell? ⟨b, 3, none⟩ = some x3
    ∧ W.frozen? ⟨b, 0, none⟩ = false ∧ W.frozen? ⟨b, 1, none⟩ = false ∧ W.frozen? ⟨b, 2, none⟩ = false ∧ W.frozen? ⟨b, 3, none⟩ = false := by
  simp [World.cell?, World.frozen?, h]
set_option maxRecDepth 100000 in
set_option maxHeartbeats 1600000 in
theorem one_any (s : List UInt8) (w : World) (hT : TxtEnv w) (hs : s.length ≤ 4294967280) :
    Calls Tryd.prog 25 #[.string ⟨s.toArray⟩] w fun e w' => e = .returned (.tuple #[.agg #[.int .i64 0, .int .i64 (oneE s).frm, .bool (oneE s).heard, .int .i64 (oneE s).value], .bool (oneB s)]) ∧ Below w.heap.size w w' := by
  have hb0 : Below w.heap.size w (w.alloc (.cells #[.int .i64 0, .int .i64 0, .bool false, .int .i64 0] 38)) := (Below.refl _ _).alloc (Nat.le_refl _) _
  have HT := Lib.hid (fun (W : World) (h : Below w.heap.size w W) => hT.below h)
  have KS := Lib.hid (fun (W : World) => cutSuffix_any s [33] W hs)
  cases hx : Lib.hasSuffix s [33]
  · have KC := Lib.hid (fun (W : World) (h : Below w.heap.size w W) => cut_any s [58] W (hT.below h) hs)
    have KA := Lib.hid (fun (W : World) (h : Below w.heap.size w W) => number_any (Lib.cut s [58]).1 W (hT.below h) (Nat.le_trans (cut_le s [58]).1 hs))
    have KB := Lib.hid (fun (W : World) (h : Below w.heap.size w W) => number_any (Lib.cut s [58]).2.1 W (hT.below h) (Nat.le_trans (cut_le s [58]).2 hs))
    have HE : Hid (oneE s = ⟨0, numN (Lib.cut s [58]).1, true, numN (Lib.cut s [58]).2.1⟩ ∧ oneB s = ((Lib.cut s [58]).2.2 && numIs (Lib.cut s [58]).1 && numIs (Lib.cut s [58]).2.1)) := by unfold Hid; rw [oneE, oneB, if_neg (by simp [hx]), if_neg (by simp [hx])]; exact ⟨rfl, rfl⟩
    rw [hx] at KS
    generalize Lib.trimSuffix s [33] = ts at *
    generalize (Lib.cut s [58]).1 = x1 at *
    generalize (Lib.cut s [58]).2.1 = x2 at *
    generalize (Lib.cut s [58]).2.2 = x3 at *
    generalize numN x1 = n1 at *
    generalize numN x2 = n2 at *
    generalize numIs x1 = i1 at *
    generalize numIs x2 = i2 at *
    clear hT hx
    go_enter Tryd.func25, Tryd.ntmps25
    go_wp2_with fail
    refine (KS.out _).mono ?_
    rintro e1 w1 ⟨he1, hw1⟩
    subst he1 hw1
    go_wp2_with fail
    refine (KC.out _ hb0).mono ?_
    rintro e2 w2 ⟨he2, hb2⟩
    subst he2
    have hv2 := hb0.trans (hb2.mono hb0.size)
    have hbx : Below (w.alloc (.cells #[.int .i64 0, .int .i64 0, .bool false, .int .i64 0] 38)).heap.size (w.alloc (.cells #[.int .i64 0, .int .i64 0, .bool false, .int .i64 0] 38)) w2 := hb2
    go_wp2_with fail
    refine (KA.out _ hv2).mono ?_
    rintro e3 w3 ⟨he3, hb3⟩
    subst he3
    have hv3 := hv2.trans (hb3.mono hv2.size)
    have hbx := hbx.trans (hb3.mono hbx.size)
    go_wp2_with fail
    refine (KB.out _ hv3).mono ?_
    rintro e4 w4 ⟨he4, hb4⟩
    subst he4
    have hv4 := hv3.trans (hb4.mono hv3.size)
    have hbx := hbx.trans (hb4.mono hbx.size)
    have hE4 : w4.heap[w.heap.size]? = some (.cells #[.int .i64 0, .int .i64 0, .bool false, .int .i64 0] 38 (0, 0)) := (hbx.block w.heap.size (by simp)).trans (World.alloc_heap_new w _)
    obtain ⟨d0, d1, d2, d3, f0, f1, f2, f3⟩ := ent_cells hE4
    clear hbx hE4 hb2 hb3 hb4 hv3 hv2 hb0 KS KC KA KB HT
    have HV := Lib.hid hv4
    clear hv4
    obtain ⟨r, hr⟩ : ∃ r, r = (x3 && i1 && i2) := ⟨_, rfl⟩
    rw [← hr] at HE
    cases x3 <;> cases i1 <;> cases i2
    all_goals
      simp only [Bool.and_true, Bool.and_false, Bool.and_self] at hr
      go_wp2
      refine bodyPost_ret (v := .tuple #[.agg #[.int .i64 0, .int .i64 n1, .bool true, .int .i64 n2], .bool r]) (by simp [results, Tryd.results25, go_sem, d0, d1, d2, d3, hr]) rfl ?_
      refine ⟨by rw [HE.out.1, HE.out.2], ?_⟩
      repeat (refine Below.setCell ?_ (by simp) _)
      exact HV.out
  · have KA := Lib.hid (fun (W : World) (h : Below w.heap.size w W) => number_any (Lib.trimSuffix s [33]) W (hT.below h) (Nat.le_trans (trimSuffix_le s [33]) hs))
    have HE : Hid (oneE s = ⟨0, numN (Lib.trimSuffix s [33]), false, 0⟩ ∧ oneB s = numIs (Lib.trimSuffix s [33])) := by unfold Hid; rw [oneE, oneB, if_pos hx, if_pos hx]; exact ⟨rfl, rfl⟩
    rw [hx] at KS
    generalize Lib.trimSuffix s [33] = ts at *
    generalize numN ts = n1 at *
    generalize numIs ts = i1 at *
    clear hT hx
    go_enter Tryd.func25, Tryd.ntmps25
    go_wp2_with fail
    refine (KS.out _).mono ?_
    rintro e1 w1 ⟨he1, hw1⟩
    subst he1 hw1
    go_wp2_with fail
    refine (KA.out _ hb0).mono ?_
    rintro e2 w2 ⟨he2, hb2⟩
    subst he2
    have hv4 := hb0.trans (hb2.mono hb0.size)
    have hE4 : w2.heap[w.heap.size]? = some (.cells #[.int .i64 0, .int .i64 0, .bool false, .int .i64 0] 38 (0, 0)) := (hb2.block w.heap.size (by simp)).trans (World.alloc_heap_new w _)
    obtain ⟨d0, d1, d2, d3, f0, f1, f2, f3⟩ := ent_cells hE4
    clear hE4 hb2 hb0 KS KA HT
    go_wp2
    refine bodyPost_ret (v := .tuple #[.agg #[.int .i64 0, .int .i64 n1, .bool false, .int .i64 0], .bool i1]) (by simp [results, Tryd.results25, go_sem, d0, d1, d2, d3]) rfl ?_
    refine ⟨by rw [HE.out.1, HE.out.2], ?_⟩
    repeat (refine Below.setCell ?_ (by simp) _)
    exact hv4
end Go.Proofs.YtbfocagicagehaaDoor
