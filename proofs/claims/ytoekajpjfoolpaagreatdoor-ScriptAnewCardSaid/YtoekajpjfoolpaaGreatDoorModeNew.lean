/- mode.New; asPairs of the law. -/
import Derived.Test.YtoekajpjfoolpaaGreatDoorMode
import Derived.Deep.RegionHeld3
import Derived.Deep.AppendLies
import Derived.RegionTactic
namespace Go.Proofs.YtoekajpjfoolpaaGreatDoor
open Go.RowKit Go.Maps

theorem info_pair : (Tryz.prog.info? 96).map (fun i => (i.zero, i.size, i.bytes)) = some (some (.agg #[.int .i64 0, .int .i64 0]), 2, 16) := by kernel_rfl


/-- What mode.New answers: a board, or a fault at the first pair that is none. -/
def NewPost (ea : Nat → Addr) (l : List (Int × Int)) (w : World) (e : Ending) (w' : World) : Prop :=
  ((∀ p ∈ l, pairB p = true) ∧ ∃ b, e = .returned (.tuple #[.pointer (some ⟨b, 0, none⟩), .nilIface]) ∧ w.heap.size ≤ b ∧ BoardAt w' b l 0 (-1) ∧ Below w.heap.size w w')
  ∨ (∃ i, ∃ h : i < l.length, pairB l[i] = false ∧ (∀ j, ∀ h' : j < i, pairB (l[j]'(by omega)) = true) ∧ ∃ v, e = .returned (.tuple #[.pointer none, v]) ∧ ErrIs ea w' v 2 i ∧ Below w.heap.size w w')

set_option maxRecDepth 100000 in
set_option maxHeartbeats 1600000 in
theorem new_any (ea : Nat → Addr) (a : Option Addr) (n cap : Nat) (l : List (Int × Int)) (w : World) (hg : Glob w ea [2]) (hn : l.length = n) (hr : RowAt w a (encPairs l)) (h : n ≤ 16) :
    Calls Tryz.prog 45 #[.slice a n cap] w (NewPost ea l w) := by
  have HN := Lib.hid hn
  have hmm := @run_makeMap Tryz.prog
  have H2 := Lib.hid (errV_pos ea (k := 2) (by decide))
  clear hn
  go_enter Tryz.func45, Tryz.ntmps45
  go_wp2
  have hb0 : Below w.heap.size w ((w.alloc (.map #[] 0)).alloc (.cells #[.map (some w.heap.size), .int .i64 0, .int .i64 (-1)] 179)) := ((Below.refl _ _).alloc (Nat.le_refl _) _).alloc (by simp) _
  have hB0 : Hid (((w.alloc (.map #[] 0)).alloc (.cells #[.map (some w.heap.size), .int .i64 0, .int .i64 (-1)] 179)).heap[w.heap.size + 1]? = some (.cells #[.map (some w.heap.size), .int .i64 0, .int .i64 (-1)] 179 (0, 0))) := by
    have h1 := heap_alloc_new (w.alloc (.map #[] 0)) (.cells #[.map (some w.heap.size), .int .i64 0, .int .i64 (-1)] 179)
    unfold Hid; simpa using h1
  have hM0 : PairMap ((w.alloc (.map #[] 0)).alloc (.cells #[.map (some w.heap.size), .int .i64 0, .int .i64 (-1)] 179)) w.heap.size [] := ⟨0, Nat.le_refl _, (World.ownsMap_made w _ _ _).alloc _⟩
  go_loopw [16] (fun i wr => ∃ k : Nat, k ≤ n ∧ i = .int .i64 k ∧ Hid (∀ p ∈ l.take k, pairB p = true) ∧ Hid (wr.heap[w.heap.size + 1]? = some (.cells #[.map (some w.heap.size), .int .i64 0, .int .i64 (-1)] 179 (0, 0))) ∧ PairMap wr w.heap.size (l.take k) ∧ Below w.heap.size w wr) (fun i _ => n - (intOf i).toNat)
  case atStart => exact ⟨0, Nat.zero_le _, rfl, by unfold Hid; simp, hB0, hM0, hb0⟩
  case round =>
    clear hb0 hB0 hM0 hmm
    obtain ⟨k, hk, rfl, HA, HB, hM, hb⟩ := hrel
    have hsz := hb.size
    have hlt1 : w.heap.size + 1 < wr.heap.size := (Array.getElem?_eq_some_iff.1 HB.out).1
    by_cases hlt : k < n
    · have hkt : k < l.length := by have := HN.out; omega
      obtain ⟨b, off, rfl, hbl, c0, c1⟩ := hr.pair k hkt
      have ht : Hid (l.take (k + 1) = l.take k ++ [l[k]]) := List.take_succ_eq_append_getElem hkt
      have d0 := (hb.cell (p := ⟨b, off + k * 2, none⟩) hbl).trans c0
      have d1 := (hb.cell (p := ⟨b, off + k * 2 + 1, none⟩) hbl).trans c1
      have hi0 : (0 : Int) ≤ (k : Int) := by omega
      have hi1 : (k : Int) < (n : Int) := by omega
      have hbx : Below w.heap.size w (wr.alloc (.cells #[.int .i64 l[k].1, .int .i64 l[k].2] 96)) := hb.alloc hsz _
      clear c0 c1
      cases hp : pairB l[k]
      · have HP := Lib.hid hp
        have hA : ∀ j, ∀ h' : j < k, pairB (l[j]'(by omega)) = true := fun j h' => HA.out _ (by
          have : (l.take k)[j]'(by simp; omega) = l[j]'(by omega) := List.getElem_take
          rw [← this]; exact List.getElem_mem _)
        have HAA := Lib.hid hA
        have g2 := (hg.below hbx).cell 2 (by simp)
        simp only [gOf] at g2
        rw [H2.out] at g2
        clear hp hA
        generalize hs : l[k] = s at *
        have HS := Lib.hid hs
        clear hs
        cases hm1 : modeB s.1
        · have HM1 := Lib.hid hm1
          clear hm1
          go_wp2_with (go_at_call 108; refine (mode_any _ _).mono ?_; rintro e w1 ⟨rfl, rfl⟩; rw [HM1.out])
          go_region
          go_wp2
          go_ret2
          refine Or.inr ⟨k, hkt, by rw [HS.out]; exact HP.out, HAA.out, _, rfl, ?_, ?_⟩
          · exact Or.inr ⟨by omega, by decide, _, rfl, by simp, by simp, by simp; exact H2.out.symm⟩
          · exact (below_drewN hbx 1).alloc (by simp; omega) _
        · have hm2 : modeB s.2 = false := by
            have h2 := HP.out
            rw [pairB, hm1, Bool.true_and] at h2; exact h2
          have HM1 := Lib.hid hm1
          have HM2 := Lib.hid hm2
          clear hm1 hm2
          go_wp2_with fail
          refine (mode_any _ _).mono ?_
          rintro e w1 ⟨rfl, rfl⟩
          rw [HM1.out]
          go_wp2_with fail
          refine (mode_any _ _).mono ?_
          rintro e w1 ⟨rfl, rfl⟩
          rw [HM2.out]
          go_wp2
          go_region
          go_wp2
          go_ret2
          refine Or.inr ⟨k, hkt, by rw [HS.out]; exact HP.out, HAA.out, _, rfl, ?_, ?_⟩
          · exact Or.inr ⟨by omega, by decide, _, rfl, by simp, by simp, by simp; exact H2.out.symm⟩
          · exact (below_drewN hbx 1).alloc (by simp; omega) _
      · have hA2 : Hid (∀ p ∈ l.take (k + 1), pairB p = true) := by
          unfold Hid; rw [ht.out]; intro p hp'
          rcases List.mem_append.1 hp' with h1 | h1
          · exact HA.out p h1
          · rw [List.mem_singleton.1 h1]; exact hp
        have hm1 : modeB l[k].1 = true := by simp only [pairB, Bool.and_eq_true] at hp; exact hp.1
        have hm2 : modeB l[k].2 = true := by simp only [pairB, Bool.and_eq_true] at hp; exact hp.2
        have hlen : (l.take k).length ≤ 16 := Nat.le_trans (List.length_take_le _ _) (by omega)
        generalize l[k] = s at *
        have HM1 := Lib.hid hm1
        have HM2 := Lib.hid hm2
        have hcb : (wr.alloc (.cells #[.int .i64 s.1, .int .i64 s.2] 96)).cell? ⟨w.heap.size + 1, 0, none⟩ = some (.map (some w.heap.size)) := by
          rw [World.cell?_alloc_lt _ _ ⟨w.heap.size + 1, 0, none⟩ hlt1]; exact cell_of_row wr _ 0 _ _ _ HB.out
        obtain ⟨m, hml, hown⟩ := hM
        clear hm1 hm2 hp hkt
        go_wp2_with fail
        refine (mode_any _ _).mono ?_
        rintro e w1 ⟨rfl, rfl⟩
        rw [HM1.out]
        go_wp2_with fail
        refine (mode_any _ _).mono ?_
        rintro e w1 ⟨rfl, rfl⟩
        rw [HM2.out]
        go_wp2
        have e0 : (wr.alloc (.cells #[.int .i64 s.1, .int .i64 s.2] 96)).cell? ⟨wr.heap.size, 0, none⟩ = some (.int .i64 s.1) := by simp
        have e1 : (wr.alloc (.cells #[.int .i64 s.1, .int .i64 s.2] 96)).cell? ⟨wr.heap.size, 1, none⟩ = some (.int .i64 s.2) := by simp
        have hown2 := hown.alloc (.cells #[.int .i64 s.1, .int .i64 s.2] 96)
        have hz2 : (wr.alloc (.cells #[.int .i64 s.1, .int .i64 s.2] 96)).heap.size = wr.heap.size + 1 := by simp
        have hB2 : Hid ((wr.alloc (.cells #[.int .i64 s.1, .int .i64 s.2] 96)).heap[w.heap.size + 1]? = some (.cells #[.map (some w.heap.size), .int .i64 0, .int .i64 (-1)] 179 (0, 0))) := by
          unfold Hid
          exact ((below_grows ((Below.refl wr.heap.size wr).alloc (Nat.le_refl _) _) none).block (w.heap.size + 1) hlt1 (by simp)).trans HB.out
        obtain ⟨W2, hW2⟩ : ∃ W2, W2 = wr.alloc (.cells #[.int .i64 s.1, .int .i64 s.2] 96) := ⟨_, rfl⟩
        rw [← hW2] at e0 e1 hown2 hcb hbx hB2 hz2 ⊢
        have HZ2 := Lib.hid hz2
        clear hW2 hz2
        go_still_tail 5, (by kernel_rfl)
        change wpList _ _ _ _ _ W2.drew
        go_wp2_with (at_mapUpdate; refine wpList_mapUpdate_own _ rfl _ _ _ 177 rfl 96 4 keyedPair Tryz.underlying177 _ w.heap.size m _ rfl hown2.drew (by unfold maxLen; omega) _ _ _ rfl rfl (key_at HM1.out HM2.out) _ [] (plainElem_bool Tryz.underlying4 true) ?_; intro w3 hown3 hgrow3)
        have hb3 : Below w.heap.size w w3 := (below_drewN hbx 1).grown hgrow3 hbx.size (fun j e => by cases e; exact Nat.le_refl _)
        have HB3 : Hid (w3.heap[w.heap.size + 1]? = some (.cells #[.map (some w.heap.size), .int .i64 0, .int .i64 (-1)] 179 (0, 0))) := by
          unfold Hid
          rw [hgrow3.block (w.heap.size + 1) (by show w.heap.size + 1 < W2.heap.size; rw [HZ2.out]; omega) (by simp)]
          exact hB2.out
        go_roundw
        case rel => exact ⟨k + 1, by omega, by go_num, hA2, HB3, ⟨m + 1, by rw [ht.out, List.length_append, List.length_singleton]; omega, by rw [ht.out, mapD_snoc]; exact hown3⟩, hb3⟩
        case measure => simp [intOf]; omega
    · have ht : l.take k = l := List.take_of_length_le (by have := HN.out; omega)
      rw [ht] at hM
      have HA2 : Hid (∀ p ∈ l, pairB p = true) := by unfold Hid at HA ⊢; rw [ht] at HA; exact HA
      clear ht
      go_wp2
      go_ret2
      exact Or.inl ⟨HA2.out, w.heap.size + 1, rfl, by omega, ⟨w.heap.size, HB.out, by omega, hM⟩, hb⟩
end Go.Proofs.YtoekajpjfoolpaaGreatDoor
