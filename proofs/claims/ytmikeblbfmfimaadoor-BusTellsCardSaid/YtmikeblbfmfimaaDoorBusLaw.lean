/- BusOne: the law's walk. -/
import Derived.Test.YtmikeblbfmfimaaDoorHearErr
import Derived.Test.YtmikeblbfmfimaaDoorHeardFact
import Derived.Laws.StructEq
import Derived.Laws.Closers25
namespace Go.Proofs.YtmikeblbfmfimaaDoor
open Go.RowKit

theorem longS_len {ss : List Snt} (h : longS ss = false) : ss.length ≤ 45 := by
  simp only [longS, Bool.or_eq_false_iff, decide_eq_false_iff_not] at h; omega

/-- What the law counts. -/
def busP (l : List Int) (long slot : Int) (tx : ByteArray) (s : Snt) : Bool := decide (0 ≤ s.tick ∧ s.tick ≤ 1000000 ∧ s.node = whoV l slot.toNat ∧ s.text = tx ∧ s.tick / long = slot)

theorem isEmpty_of {x : ByteArray} (h : x = ByteArray.empty) : x.toList.isEmpty = true := by rw [← decide_eq_emptyBytes, decide_eq_true h]
theorem isEmpty_not {x : ByteArray} (h : x ≠ ByteArray.empty) : x.toList.isEmpty = false := by rw [← decide_eq_emptyBytes, decide_eq_false h]
theorem beq_not {x y : ByteArray} (h : x ≠ y) : (x.toList == y.toList) = false := by
  rw [beq_eq_false_iff_ne, ByteArray.toList_eq, ByteArray.toList_eq]
  intro e
  obtain ⟨⟨x⟩⟩ := x
  obtain ⟨⟨y⟩⟩ := y
  exact h (by simpa using e)
theorem beq_yes {x y : ByteArray} (h : x = y) : (x.toList == y.toList) = true := by rw [h]; simp
theorem outAt_some {hs : List ByteArray} {lost : List Int} {k : Nat} (h : outAt hs lost k ≠ ByteArray.empty) : hs = [outAt hs lost k] ∧ ((k : Int) + 1) ∉ lost := by
  match hs, h with
  | [], h => exact absurd rfl h
  | [t], h =>
    by_cases hin : ((k : Int) + 1) ∈ lost
    · exact absurd (by simp [outAt, hin]) h
    · exact ⟨by simp [outAt, hin], hin⟩
  | _ :: _ :: _, h => exact absurd rfl h

/-- One was heard, with that text: just one counts. -/
theorem busP_one {l : List Int} {long : Int} {sl : Nat} {tx : ByteArray} {ss : List Snt} (hp : (planF l).1 = 0) (hlong : 1 ≤ long) (hlong2 : long ≤ 1000000) (h : heardL l long sl ss = [tx]) :
    (ss.filter (busP l long sl tx)).length = 1 := by
  have he : ss.filter (busP l long sl tx) = ss.filter (isHeard l long sl) := by
    refine List.filter_congr (fun s hs => ?_)
    rw [busP, isHeard, decide_eq_decide]
    have hE : slotE long s.tick = 0 ↔ 0 ≤ s.tick ∧ s.tick ≤ 1000000 := by
      constructor
      · intro h; have := slotE_ok h; exact ⟨this.2.2.1, this.2.2.2⟩
      · intro h; rw [slotE, if_pos ⟨hlong, hlong2, h.1, h.2⟩]
    have hP : slotE long s.tick = 0 → s.tick / long = sl → ((passF l long s.node s.tick).1 = 0 ↔ whoV l sl = s.node) := by
      intro h1 h2
      rw [passF, if_neg (by simp [h1]), if_neg (by simp [hp]), h2, Int.toNat_natCast]
      by_cases h3 : whoV l sl = s.node <;> simp [h3]
    constructor
    · rintro ⟨h1, h2, h3, h4, h5⟩
      exact ⟨hE.2 ⟨h1, h2⟩, h5, (hP (hE.2 ⟨h1, h2⟩) h5).2 (by rw [h3, Int.toNat_natCast])⟩
    · rintro ⟨h1, h2, h3⟩
      have hm : s.text ∈ heardL l long sl ss := by
        rw [heardL]; exact List.mem_map.2 ⟨s, List.mem_filter.2 ⟨hs, by simp [isHeard, h1, h2, h3]⟩, rfl⟩
      rw [h, List.mem_singleton] at hm
      exact ⟨(hE.1 h1).1, (hE.1 h1).2, by rw [Int.toNat_natCast]; exact ((hP h1 h2).1 h3).symm, hm, h2⟩
  rw [he, ← List.length_map (f := Snt.text), ← heardL, h]; rfl

theorem filt_snoc {α : Type} (p : α → Bool) (l : List α) (k : Nat) (hk : k < l.length) : (((l.take (k + 1)).filter p).length : Int) = ((l.take k).filter p).length + (if p l[k] = true then 1 else 0) := by
  rw [List.take_succ_eq_append_getElem hk, List.filter_append, List.length_append]
  by_cases h : p l[k] = true
  · rw [if_pos h, List.filter_cons_of_pos h]; simp
  · rw [if_neg h, List.filter_cons_of_neg h]; simp

end Go.Proofs.YtmikeblbfmfimaaDoor
