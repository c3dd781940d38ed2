/- an act on a cluster, in memory: four cells; its lost nodes lie in a row of their own. · longActs, of the laws. -/
import Derived.Test.YtoekajpjfoolpaaGreatDoorLib
namespace Go.Proofs.YtoekajpjfoolpaaGreatDoor
open Go.RowKit

structure ActR where
  kind : List UInt8
  n : Int
  m : Int
  la : Option Addr
  lc : Nat
  lost : List Int
  deriving Inhabited
def ActR.cells (a : ActR) : List Value := [.string ⟨a.kind.toArray⟩, .int .i64 a.n, .int .i64 a.m, .slice a.la a.lost.length a.lc]
theorem ActR.len (a : ActR) : a.cells.length = 4 := rfl
def encActs (l : List ActR) : List Value := l.flatMap ActR.cells
/-- What is so of an act among the arguments. -/
def ActR.Ok (w : World) (a : ActR) : Prop := (Lit.int .i64 a.n).wf = true ∧ (Lit.int .i64 a.m).wf = true ∧ RowAt w a.la (encInts a.lost) ∧ a.lost.length ≤ maxLen ∧ a.kind.length ≤ maxLen
theorem ActR.Ok.below {w w' : World} {a : ActR} (h : a.Ok w) (hb : Below w.heap.size w w') : a.Ok w' := ⟨h.1, h.2.1, h.2.2.1.below hb, h.2.2.2⟩
/-- An act of a row. -/
theorem act_at {w : World} {a : Option Addr} {l : List ActR} (h : RowAt w a (encActs l)) (k : Nat) (hk : k < l.length) :
    ∃ b off, a = some ⟨b, off, none⟩ ∧ b < w.heap.size ∧ w.cell? ⟨b, off + k * 4, none⟩ = some (.string ⟨l[k].kind.toArray⟩) ∧ w.cell? ⟨b, off + k * 4 + 1, none⟩ = some (.int .i64 l[k].n) ∧ w.cell? ⟨b, off + k * 4 + 2, none⟩ = some (.int .i64 l[k].m) ∧ w.cell? ⟨b, off + k * 4 + 3, none⟩ = some (.slice l[k].la l[k].lost.length l[k].lc) := by
  obtain ⟨b, off, e, hlt, hc⟩ := h.flat 4 ActR.len (by omega) k hk
  exact ⟨b, off, e, hlt, by simpa using hc 0 _ rfl, hc 1 _ rfl, hc 2 _ rfl, hc 3 _ rfl⟩
end Go.Proofs.YtoekajpjfoolpaaGreatDoor
namespace Go.Proofs.YtoekajpjfoolpaaGreatDoor
open Go.RowKit

def longA1 (a : ActR) : Bool := decide (20 < a.kind.length) || decide (20 < a.lost.length)
def longA (l : List ActR) (most : Int) : Bool := decide (most < (l.length : Int)) || l.any longA1
theorem any_take_snoc {α : Type} (l : List α) (p : α → Bool) (k : Nat) (hk : k < l.length) : (l.take (k + 1)).any p = ((l.take k).any p || p l[k]) := by
  rw [List.take_succ_eq_append_getElem hk, List.any_append]; simp
set_option maxRecDepth 100000 in
theorem longActs_any (a : Option Addr) (n cap : Nat) (l : List ActR) (most : Int) (w : World) (hn : l.length = n) (hr : RowAt w a (encActs l)) (hc : n ≤ 4611686018427387904) :
    Calls Tryz.prog 9 #[.slice a n cap, .int .i64 most] w fun e w' => e = .returned (.bool (longA l most)) ∧ w = w' := by
  subst hn
  have HR := Lib.hid hr
  clear hr
  by_cases hm : most < (l.length : Int)
  · have hb : decide (most < (l.length : Int)) = true := decide_eq_true hm
    have HA : Hid (longA l most = true) := by unfold Hid longA; rw [hb]; rfl
    clear hm
    go_enter Tryz.func9, Tryz.ntmps9
    go_wp2
    go_ret
    exact ⟨ret_bool HA.out.symm, rfl⟩
  · have hb : decide (most < (l.length : Int)) = false := decide_eq_false hm
    have HA : Hid (longA l most = l.any longA1) := by unfold Hid longA; rw [hb]; rfl
    clear hm
    go_enter Tryz.func9, Tryz.ntmps9
    go_wp2
    go_loop [5] (fun i => ∃ k : Nat, k ≤ l.length ∧ i = .int .i64 k ∧ Hid ((l.take k).any longA1 = false)) (fun i => l.length - (intOf i).toNat)
    case atStart => exact ⟨0, Nat.zero_le _, rfl, rfl⟩
    case round =>
      obtain ⟨k, hk, rfl, hx⟩ := hrel
      by_cases hlt : k < l.length
      · obtain ⟨b, off, rfl, hbl, c0, c1, c2, c3⟩ := act_at HR.out k hlt
        have HT := Lib.hid (any_take_snoc l longA1 k hlt)
        have HM : Hid (l[k] ∈ l) := List.getElem_mem hlt
        have hi0 : (0 : Int) ≤ (k : Int) := by omega
        have hi1 : (k : Int) < (l.length : Int) := by omega
        generalize l[k] = ak at *
        by_cases h1 : 20 < ak.kind.length
        · have d1 : decide ((20 : Int) < (ak.kind.length : Int)) = true := decide_eq_true (by omega)
          have HL : Hid (longA l most = true) := by
            unfold Hid; rw [HA.out, List.any_eq_true]
            exact ⟨ak, HM.out, by rw [longA1, decide_eq_true h1]; rfl⟩
          clear h1 c1 c2 c3
          go_wp2
          go_ret
          exact ⟨ret_bool HL.out.symm, rfl⟩
        · have d1 : decide ((20 : Int) < (ak.kind.length : Int)) = false := decide_eq_false (by omega)
          have e1 : decide (20 < ak.kind.length) = false := decide_eq_false h1
          by_cases h2 : 20 < ak.lost.length
          · have d2 : decide ((20 : Int) < (ak.lost.length : Int)) = true := decide_eq_true (by omega)
            have HL : Hid (longA l most = true) := by
              unfold Hid; rw [HA.out, List.any_eq_true]
              exact ⟨ak, HM.out, by rw [longA1, decide_eq_true h2, Bool.or_true]⟩
            clear h1 h2 e1 c1 c2
            go_wp2
            go_ret
            exact ⟨ret_bool HL.out.symm, rfl⟩
          · have d2 : decide ((20 : Int) < (ak.lost.length : Int)) = false := decide_eq_false (by omega)
            have HL : Hid (longA1 ak = false) := by unfold Hid longA1; rw [e1, decide_eq_false h2]; rfl
            clear h1 h2 e1 c1 c2
            go_wp2
            go_round
            case rel => exact ⟨k + 1, by omega, by go_num, by unfold Hid; rw [HT.out, hx.out, HL.out]; rfl⟩
            case measure => simp [intOf]; omega
      · obtain rfl : k = l.length := by omega
        go_wp2
        go_ret
        exact ⟨ret_bool (by rw [HA.out, ← hx.out, List.take_length]), rfl⟩
/-- Not long: what that says. -/
theorem longA_not {l : List ActR} {most : Int} (h : longA l most = false) : (l.length : Int) ≤ most ∧ ∀ a ∈ l, a.kind.length ≤ 20 ∧ a.lost.length ≤ 20 := by
  simp only [longA, Bool.or_eq_false_iff, decide_eq_false_iff_not, List.any_eq_false, longA1, Bool.or_eq_true, decide_eq_true_eq, not_or] at h
  exact ⟨by omega, fun a ha => by have := h.2 a ha; omega⟩
end Go.Proofs.YtoekajpjfoolpaaGreatDoor
