/- strings.Split at a separator of one byte; strings.LastIndexByte. -/
import Derived.Test.YtgghnncgeogemaaGreatDoorTxt
import Derived.Test.YtgghnncgeogemaaGreatDoorCrewText
import Derived.Lib.Split
import Derived.Lib.SplitLaws
import Derived.Lib.LastIndexByte
namespace Go.Proofs.YtgghnncgeogemaaGreatDoor
open Go.RowKit

theorem index_one (c : UInt8) : ∀ l : List UInt8, Lib.index l [c] = Lib.indexByte l c
  | [] => rfl
  | b :: l => by
    rw [Lib.index, Lib.indexByte, index_one c l]
    have : ([c] : List UInt8).isPrefixOf (b :: l) = (b == c) := by simp [List.isPrefixOf, Bool.beq_comm]
    rw [this]
theorem splitK_cut (c : UInt8) : ∀ (k : Nat) (l : List UInt8), (cutL c l).length ≤ k + 1 → Lib.splitK [c] 0 k l = cutL c l
  | 0, l, h => by
    have hge := Lib.indexByte_ge l c
    by_cases hi : Lib.indexByte l c = -1
    · rw [cutL_miss c l hi]; rfl
    · exfalso
      obtain ⟨_, h2⟩ := cutL_hit c l (Lib.indexByte l c).toNat (by omega)
      have := List.length_pos_iff.2 (cutL_ne c (l.drop ((Lib.indexByte l c).toNat + 1)))
      rw [h2, List.length_cons] at h; omega
  | k + 1, l, h => by
    have hge := Lib.indexByte_ge l c
    rw [Lib.splitK, index_one]
    by_cases hi : Lib.indexByte l c = -1
    · rw [if_pos (by simp [hi]), cutL_miss c l hi]
    · obtain ⟨_, h2⟩ := cutL_hit c l (Lib.indexByte l c).toNat (by omega)
      rw [if_neg (by simp [hi]), h2, Nat.add_zero, List.length_singleton, splitK_cut c k _ (by rw [h2, List.length_cons] at h; omega)]
theorem count_cut (c : UInt8) : ∀ l : List UInt8, Lib.count l [c] + 1 = (cutL c l).length
  | [] => rfl
  | b :: l => by
    have ih := count_cut c l
    rw [cutL]
    by_cases hb : b = c
    · subst hb
      rw [Lib.count_cons_eq, if_pos (by simp), List.length_cons]; omega
    · rw [Lib.count_cons_ne b c l hb, if_neg (by simpa using hb), ih]
      split
      · rename_i h; exact absurd h (cutL_ne c l)
      · rename_i h; rw [h]; rfl
theorem splitB_cut (c : UInt8) (l : List UInt8) : (Lib.splitB ⟨#[c]⟩ 0 (Lib.countB ⟨l.toArray⟩ ⟨#[c]⟩) ⟨l.toArray⟩).map Value.string = encTexts (cutL c l) := by
  have h1 := Lib.splitB_data ⟨#[c]⟩ 0 (Lib.countB ⟨l.toArray⟩ ⟨#[c]⟩) ⟨l.toArray⟩
  have h2 : Lib.splitK [c] 0 (Lib.countB ⟨l.toArray⟩ ⟨#[c]⟩) l = cutL c l := splitK_cut c _ l (by rw [← count_cut c l]; exact Nat.le_refl _)
  have h3 : (Lib.splitB ⟨#[c]⟩ 0 (Lib.countB ⟨l.toArray⟩ ⟨#[c]⟩) ⟨l.toArray⟩).map (·.data.toList) = cutL c l := h1.trans h2
  rw [← h3, encTexts, List.map_map]
  exact List.map_congr_left fun x _ => by simp
theorem split_any (c : UInt8) (l : List UInt8) (w : World) (hT : TxtEnv w) (hl : l.length ≤ 4294967280) :
    Calls Tryz.prog 81 #[.string ⟨l.toArray⟩, .string ⟨#[c]⟩] w fun e w' => e = .returned (.slice (some ⟨w.heap.size, 0, none⟩) (cutL c l).length (cutL c l).length) ∧ w' = w.alloc (.cells (encTexts (cutL c l)).toArray 9) := by
  obtain ⟨m, _, hm⟩ := hT.mx
  have h := Tryz.strings_Split ⟨l.toArray⟩ ⟨#[c]⟩ m w (by simp [ByteArray.size]; omega) hm (by simp [ByteArray.size])
  rw [splitB_cut, show Lib.countB ⟨l.toArray⟩ ⟨#[c]⟩ + 1 = (cutL c l).length from count_cut c l] at h
  exact h

/-- The last place of a byte in a text. -/
theorem lastIndex_tail (c : UInt8) (a b : List UInt8) (hb : c ∉ b) : Lib.lastIndexByte ⟨(a ++ c :: b).toArray⟩ (c.toNat : Int) = a.length := by
  have hat : ∀ j, j < (a ++ c :: b).length → ((⟨(a ++ c :: b).toArray⟩ : ByteArray).data[j]!) = (a ++ c :: b).getD j 0 := fun j hj => by
    show (a ++ c :: b).toArray[j]! = _
    rw [getElem!_pos _ j (by simpa using hj), List.getD_eq_getElem?_getD, List.getElem?_eq_getElem hj]; simp
  have hsz : (⟨(a ++ c :: b).toArray⟩ : ByteArray).size = (a ++ c :: b).length := by simp [ByteArray.size]
  have hl : (a ++ c :: b).length = a.length + 1 + b.length := by simp; omega
  have hmid : (a ++ c :: b).getD a.length 0 = c := by simp [List.getD_eq_getElem?_getD]
  rcases Lib.lastIndexByte_spec ⟨(a ++ c :: b).toArray⟩ (c.toNat : Int) with ⟨_, h⟩ | ⟨i, hi, e, h1, h2⟩
  · exact absurd (by rw [hat _ (by omega), hmid]) (h a.length (by rw [hsz]; omega))
  · rw [hsz] at hi h2
    rw [e]
    by_cases hlt : i < a.length
    · exact absurd (by rw [hat _ (by omega), hmid]) (h2 a.length hlt (by omega))
    · by_cases hgt : a.length < i
      · exfalso
        rw [hat i hi] at h1
        have : (a ++ c :: b).getD i 0 = b.getD (i - a.length - 1) 0 := by
          rw [List.getD_eq_getElem?_getD, List.getElem?_append_right (by omega), List.getElem?_cons, if_neg (by omega), List.getD_eq_getElem?_getD]
        rw [this] at h1
        have hc : b.getD (i - a.length - 1) 0 = c := UInt8.toNat_inj.1 (by omega)
        rw [List.getD_eq_getElem?_getD, List.getElem?_eq_getElem (by omega), Option.getD_some] at hc
        exact hb (hc ▸ List.getElem_mem _)
      · omega
theorem lastIndexByte_any (c : Int) (l : List UInt8) (w : World) (hl : l.length ≤ 4294967280) :
    Calls Tryz.prog 85 #[.string ⟨l.toArray⟩, .int .u8 c] w fun e w' => e = .returned (.int .i64 (Lib.lastIndexByte ⟨l.toArray⟩ c)) ∧ w = w' :=
  (Tryz.strings_LastIndexByte ⟨l.toArray⟩ c (by simp [ByteArray.size]; omega) w).mono fun _ _ h => ⟨h.1, h.2.symm⟩
end Go.Proofs.YtgghnncgeogemaaGreatDoor
