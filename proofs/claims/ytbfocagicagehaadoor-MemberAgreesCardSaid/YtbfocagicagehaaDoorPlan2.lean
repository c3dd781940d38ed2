/- plan: Who, Next, Crew, Share. -/
import Derived.Test.YtbfocagicagehaaDoorPlan
namespace Go.Proofs.YtbfocagicagehaaDoor
open Go.RowKit

theorem intD {w : World} {a : Option Addr} {l : List Int} (h : RowAt w a (encInts l)) (k : Nat) (hk : k < l.length) :
    ∃ b off, a = some ⟨b, off, none⟩ ∧ b < w.heap.size ∧ w.cell? ⟨b, off + k, none⟩ = some (.int .i64 (l.getD k 0)) := by
  obtain ⟨b, off, e, hb, hc⟩ := h.int k hk
  exact ⟨b, off, e, hb, by rw [hc, List.getD_eq_getElem?_getD, List.getElem?_eq_getElem hk]; rfl⟩

/-- Who has a slot of a right plan. -/
def whoV (l : List Int) (s : Nat) : Int := l.getD (s % l.length) 0

theorem rightF_ok {l : List Int} {s : Int} (h : (rightF l s).1 = 0) : (planF l).1 = 0 ∧ 0 ≤ s ∧ s ≤ 1000000 := by
  unfold rightF at h
  split at h
  · rename_i h0
    split at h
    · rename_i hs; exact ⟨h0, hs.1, hs.2⟩
    · simp at h
  · rename_i h0; exact absurd h h0

theorem who_ok (ea : Nat → Addr) (a : Option Addr) (n cap : Nat) (l : List Int) (s : Nat) (w : World) (hg : Glob w ea [5, 7, 4, 2]) (hn : l.length = n) (hr : RowAt w a (encInts l)) (h : (rightF l s).1 = 0) :
    Calls Tryd.prog 17 #[.slice a n cap, .int .i64 s] w fun e w' => e = .returned (.tuple #[.int .i64 (whoV l s), .nilIface]) ∧ Below w.heap.size w w' := by
  have hF := planF_ok (rightF_ok h).1
  have hs := (rightF_ok h).2.2
  have hlen := hF.2.1
  have hlen2 := hF.2.2.1
  have hm : s % n < n := Nat.mod_lt _ (by omega)
  obtain ⟨b, off, rfl, hbl, c0⟩ := intD hr (s % n) (by omega)
  have hV : Hid (whoV l s = l.getD (s % n) 0) := by unfold Hid; rw [whoV, hn]
  have hc : n ≤ 4611686018427387904 := by omega
  have hn0 : 0 < n := by omega
  have hnz : ((n : Int) == 0) = false := by simp; omega
  have HN := Lib.hid hn
  have H := Lib.hid h
  clear hF hlen hlen2 h hn
  generalize l.getD (s % n) 0 = x at *
  go_enter Tryd.func17, Tryd.ntmps17
  go_wp2_with (go_at_call 31; refine (right_any ea _ _ _ l _ _ hg HN.out hr hc).mono ?_; rintro e w1 ⟨v, rfl, hE, hb⟩; rw [H.out] at hE; obtain rfl := hE.nil; have c1 := (hb.cell (p := ⟨b, off + s % n, none⟩) hbl).trans c0)
  go_ret2
  rw [hV.out]
  exact ⟨rfl, hb⟩
theorem who_err (ea : Nat → Addr) (a : Option Addr) (n cap : Nat) (l : List Int) (s : Int) (w : World) (hg : Glob w ea [5, 7, 4, 2]) (hn : l.length = n) (hr : RowAt w a (encInts l)) (hc : n ≤ 4611686018427387904) (h : (rightF l s).1 ≠ 0) :
    Calls Tryd.prog 17 #[.slice a n cap, .int .i64 s] w fun e w' => ∃ v, e = .returned (.tuple #[.int .i64 0, v]) ∧ ErrIs ea w' v (rightF l s).1 (rightF l s).2 ∧ Below w.heap.size w w' := by
  have HN := Lib.hid hn
  have H := Lib.hid h
  clear h hn
  go_enter Tryd.func17, Tryd.ntmps17
  go_wp2_with (go_at_call 31; refine (right_any ea _ _ _ l _ _ hg HN.out hr hc).mono ?_; rintro e w1 ⟨v, rfl, hE, hb⟩; obtain ⟨t, x, rfl⟩ := hE.held H.out)
  go_ret2
  exact ⟨_, rfl, hE, hb⟩

theorem first_or_none (p : Nat → Prop) : ∀ n : Nat, (∃ k, k < n ∧ p k ∧ ∀ j, j < k → ¬ p j) ∨ ∀ j, j < n → ¬ p j
  | 0 => Or.inr (fun j h => by omega)
  | n + 1 => by
    rcases first_or_none p n with ⟨k, hk, h1, h2⟩ | h
    · exact Or.inl ⟨k, by omega, h1, h2⟩
    · by_cases hp : p n
      · exact Or.inl ⟨n, by omega, hp, h⟩
      · exact Or.inr (fun j hj => by
          rcases Nat.lt_succ_iff_lt_or_eq.1 hj with h' | rfl
          · exact h j h'
          · exact hp)

theorem next_loop_cell {w : World} {a : Option Addr} {l : List Int} {n : Nat} (s k : Nat) (hr : RowAt w a (encInts l)) (hn : l.length = n) (h0 : 0 < n) :
    ∃ b off, a = some ⟨b, off, none⟩ ∧ b < w.heap.size ∧ w.cell? ⟨b, off + (s + k) % n, none⟩ = some (.int .i64 (whoV l (s + k))) := by
  obtain ⟨b, off, e, hb, hc⟩ := intD hr ((s + k) % n) (by rw [hn]; exact Nat.mod_lt _ h0)
  exact ⟨b, off, e, hb, by rw [hc, whoV, hn]⟩

theorem count_snoc (l : List Int) (x : Int) (k : Nat) (hk : k < l.length) : ((l.take (k + 1)).count x : Int) = (l.take k).count x + (if l.getD k 0 == x then 1 else 0) := by
  rw [List.take_succ_eq_append_getElem hk, List.count_append, List.getD_eq_getElem?_getD, List.getElem?_eq_getElem hk]
  simp only [List.count_singleton, Option.getD_some]
  split <;> simp

end Go.Proofs.YtbfocagicagehaaDoor
