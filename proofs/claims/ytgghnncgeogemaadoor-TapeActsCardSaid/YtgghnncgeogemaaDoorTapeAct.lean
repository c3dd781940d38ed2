/- tape.Append, tape.Recover. -/
import Derived.Test.YtgghnncgeogemaaDoorTapeDisk
import Derived.Test.YtgghnncgeogemaaDoorTapeRead
namespace Go.Proofs.YtgghnncgeogemaaDoor
open Go.RowKit

/-- Append. -/
def apF (s : Dk) (t : List UInt8) : Dk × Nat := if 4000 < t.length then (s, 2) else if 262144 < s.b.length + (recB t).length then (s, 7) else wrF s (recB t)

set_option maxRecDepth 100000 in
set_option maxHeartbeats 1600000 in
theorem tapeAppend_any (ea : Nat → Addr) (base D : Nat) (s : Dk) (t : List UInt8) (w : World) (hg : Glob w ea [2, 7, 11]) (hT : TxtEnv w) (hD : DiskAt w base D s) (hb : base ≤ w.heap.size) (ht : t.length ≤ 4294967280) (hgb : gOf 11 < base) (hc : -9223372036854775808 ≤ s.cut ∧ s.cut ≤ 9223372036854775807) :
    Calls Tryd.prog 8 #[.pointer (some ⟨D, 0, none⟩), .string ⟨t.toArray⟩] w fun e w' => e = .returned (errV ea (apF s t).2) ∧ DiskAt w' base D (apF s t).1 ∧ Step base w w' := by
  have KR := Lib.hid (fun (W : World) (h : Below w.heap.size w W) => record_any t W (hT.below h) ht)
  have KW := Lib.hid (fun (W : World) (h : Below w.heap.size w W) (hl : s.b.length + (recB t).length ≤ 262144) => diskWrite_any ea base D s (recB t) W ((hg.below h).sub (by simp)) (hD.below h) (Nat.le_trans hb h.size) hl hgb hc)
  have g2 := hg.cell 2 (by simp)
  have hG := Lib.hid (fun (W : World) (h : Below w.heap.size w W) => (hg.below h).cell 7 (by simp))
  simp only [gOf] at g2 hG
  have hrl := recB_le t ht
  have hbl : s.b.length ≤ 262144 := hD.2.1
  have hwr : IntKind.i64.wrap (262144 - (s.b.length : Int)) = 262144 - (s.b.length : Int) := IntWalk.i64_in _ (by omega)
  by_cases h1 : 4000 < t.length
  · have hF : apF s t = (s, 2) := by rw [apF, if_pos h1]
    rw [hF]
    have d1 : decide ((4000 : Int) < (t.length : Int)) = true := decide_eq_true (by omega)
    clear KR KW hG hT hwr
    go_enter Tryd.func8, Tryd.ntmps8
    go_wp2
    go_ret
    exact ⟨rfl, hD, Step.refl _ _⟩
  · have d1 : decide ((4000 : Int) < (t.length : Int)) = false := decide_eq_false (by omega)
    have hD' := hD
    obtain ⟨hB, hl, v, hK, hv⟩ := hD
    obtain ⟨av, cv, rfl⟩ := hv.shape
    have hK1 : Blok w.drew D 51 #[.slice av s.b.length cv, .bool s.off, .int .i64 s.cut] := hK
    have k0 := hK1.cell 0 rfl
    have hv1 : Below w.heap.size w w.drew := (Below.refl _ _).drew
    have A1 := Lib.hid (KR.out _ hv1)
    by_cases h2 : 262144 < s.b.length + (recB t).length
    · have hF : apF s t = (s, 7) := by rw [apF, if_neg h1, if_pos h2]
      rw [hF]
      have d2 : decide (IntKind.i64.wrap (262144 - (s.b.length : Int)) < ((recB t).length : Int)) = true := by rw [hwr]; exact decide_eq_true (by omega)
      clear hwr
      generalize recB t = rt at *
      generalize s.b.length = bl at *
      clear KW hT hv
      go_enter Tryd.func8, Tryd.ntmps8
      go_wp2
      go_region_held3 (fun w' => w'.cell? ⟨D, 0, none⟩ = some (.slice av bl cv)) (go_keep)
        (first
          | (go_at_call 20; (with_reducible refine A1.out.mono ?_); rintro e w2 ⟨rfl, hb2⟩; have hv2 := hv1.trans (hb2.mono hv1.size); have k0 := (hK1.kept hb2).cell 0 rfl; have g7 := hG.out _ hv2; clear hb2))
      go_wp2
      go_ret
      exact ⟨rfl, hD'.below hv2, Step.of hv2 hb⟩
    · have hF : apF s t = wrF s (recB t) := by rw [apF, if_neg h1, if_neg h2]
      rw [hF]
      have d2 : decide (IntKind.i64.wrap (262144 - (s.b.length : Int)) < ((recB t).length : Int)) = false := by rw [hwr]; exact decide_eq_false (by omega)
      clear hwr
      have K2 := Lib.hid (fun W h => KW.out W h (by omega))
      generalize wrF s (recB t) = st at *
      generalize recB t = rt at *
      generalize s.b.length = bl at *
      clear KW hT hv
      go_enter Tryd.func8, Tryd.ntmps8
      go_wp2
      go_region_held3 (fun w' => w'.cell? ⟨D, 0, none⟩ = some (.slice av bl cv)) (go_keep)
        (first
          | (go_at_call 20; (with_reducible refine A1.out.mono ?_); rintro e w2 ⟨rfl, hb2⟩; have hv2 := hv1.trans (hb2.mono hv1.size); have k0 := (hK1.kept hb2).cell 0 rfl; clear hb2))
      go_wp2_with fail
      refine (KR.out _ hv2).mono ?_
      rintro e w3 ⟨rfl, hb3⟩
      have hv3 := hv2.trans (hb3.mono hv2.size)
      go_wp2_with fail
      refine (K2.out _ hv3).mono ?_
      rintro e w4 ⟨rfl, hD4, hS4⟩
      go_wp2
      go_ret
      exact ⟨rfl, hD4, (Step.of hv3 hb).trans hS4⟩

/-- A row that is no disk abides a store into the disk. -/
theorem ownsRow_disk {w : World} {base D size n : Nat} {e : TypeId} {cs : Array Value} {v : Value} {xs : List Value} (h : w.ownsRow base e size v n xs) (hK : Blok w D 51 cs) (he : e ≠ 51) (i : Nat) (u : Value) : (w.setCell ⟨D, i, none⟩ u).ownsRow base e size v n xs := by
  refine ⟨h.1, ?_⟩
  rcases h.2 with h | ⟨g, cap, cur, h1, h2, h3, h4⟩
  · exact Or.inl h
  · have hne : g ≠ D := by
      rintro rfl
      rw [show w.heap[g]? = _ from hK] at h3
      simp at h3
      exact he h3.2.symm
    exact Or.inr ⟨g, cap, cur, h1, h2, (heap_setCell_other _ _ _ _ (by simpa using hne)).trans h3, h4⟩
set_option maxRecDepth 100000 in
set_option maxHeartbeats 1600000 in
theorem recover_any (base D : Nat) (s : Dk) (l : List (List UInt8)) (hP : Parse s.b l) (w : World) (hD : DiskAt w base D s) (hb : base ≤ w.heap.size) (hvars : ∀ W, Step base w W → TxtEnv W) :
    Calls Tryd.prog 9 #[.pointer (some ⟨D, 0, none⟩)] w fun e w' => ∃ v, e = .returned (.tuple #[v, .nilIface]) ∧ w'.ownsRow w.heap.size 9 1 v l.length (encTexts l) ∧ DiskAt w' base D ⟨s.b.take (l.flatMap recB).length, false, -1⟩ ∧ Step base w w' := by
  have KO := Lib.hid (diskOn_any base D s w hD)
  have hbl : s.b.length ≤ 262144 := hD.2.1
  have KR := Lib.hid (fun (W : World) (h : Step base w W) => readT_any s.b l hP W (hvars W h) (by omega))
  obtain ⟨hPl, r, hPb, _⟩ := hP
  have hn : (l.flatMap recB).length ≤ s.b.length := by rw [hPb, List.length_append]; omega
  clear hD hPb hPl
  generalize (l.flatMap recB).length = n at *
  go_enter Tryd.func9, Tryd.ntmps9
  go_wp2_with fail
  refine KO.out.mono ?_
  rintro e w1 ⟨rfl, hD1, hS1⟩
  obtain ⟨hB, hl, v, hK, hv⟩ := hD1
  obtain ⟨av, cv, rfl⟩ := hv.shape
  have hrun := run_text_back w1 base _ _ hv
  have k0 := hK.cell 0 rfl
  go_wp2_with fail
  refine (KR.out _ hS1).mono ?_
  rintro e w2 ⟨rv, rfl, hown, hb2⟩
  have hS2 := hS1.trans (Step.of hb2 (Nat.le_trans hb hS1.size))
  have hK2 := hK.kept hb2
  have hv2 := hv.below hb2
  have c0 := hK2.cell 0 rfl
  have q0 := hK2.frozen 0
  have hi0 : (0 : Int) ≤ (n : Int) := by omega
  obtain ⟨hcut, hcv⟩ := hv2.cut2 hn
  have hi1 : (n : Int) ≤ (cv : Int) := by omega
  go_wp2
  go_ret2
  have hl2 : (s.b.take n).length = n := by rw [List.length_take]; omega
  have hK3 : Blok (w2.setCell ⟨D, 0, none⟩ (.slice av n n)) D 51 #[.slice av n n, .bool false, .int .i64 (-1)] := by have := hK2.set 0 (.slice av n n); simpa using this
  have hv3 : DRow (w2.setCell ⟨D, 0, none⟩ (.slice av n n)) base (.slice av n n) (s.b.take n) := hcut.kept fun g hg => heap_setCell_other _ _ _ _ (by simpa using hcut.apart hK2 g hg)
  refine ⟨_, rfl, ?_, ⟨hB, by show (s.b.take n).length ≤ 262144; omega, _, hK3, hv3⟩, hS2.trans (Step.setDisk hK2 hB _ _)⟩
  refine ownsRow_disk (ownsRow_rebase hown hS1.size) hK2 (by decide) _ _
end Go.Proofs.YtgghnncgeogemaaDoor
