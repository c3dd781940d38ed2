/- clique: the contracts of each, Check, Tally, Stays. · clique: Tally, Stays. · clique.Stays; the reference's InInts; the closed fact of cliques. · chk: its codes. No program in sight but chk's own text. -/
import Derived.Test.YtgghnncgeogemaaGreatDoorProg
import Derived.Test.YtgghnncgeogemaaGreatDoorLib
import Derived.BigQuiet
import Derived.Deep.QuietTactic
namespace Go.Proofs.YtgghnncgeogemaaGreatDoor
open Go.RowKit

/-- What is wrong with entry i. -/
def chkE (i : Int) (e : Ent) : Nat :=
  if e.slot ≠ i then 10 else if nodeB e.frm = false then 4 else if numB e.value = false then 2 else if e.heard = false ∧ e.value ≠ 0 then 3 else 0

def chkFrom (i : Int) : List Ent → Nat × Int
  | [] => (0, -1)
  | e :: r => if chkE i e = 0 then chkFrom (i + 1) r else (chkE i e, i)
/-- clique.Check of a history. -/
def chk (es : List Ent) : Nat × Int := if 200 < es.length then (7, -1) else chkFrom 0 es

end Go.Proofs.YtgghnncgeogemaaGreatDoor
namespace Go.Proofs.YtgghnncgeogemaaGreatDoor
open Go.RowKit

def goods (l : List Ent) : Int := ((l.filter (fun e => e.heard)).length : Int)
def bads (l : List Ent) : Int := ((l.filter (fun e => !e.heard)).length : Int)
def lastR (r : Int) (es : List Ent) : List Ent := es.drop ((es.length : Int) - r).toNat
theorem goods_le (l : List Ent) : 0 ≤ goods l ∧ goods l ≤ l.length := by have := List.length_filter_le (fun e : Ent => e.heard) l; simp only [goods]; omega
theorem bads_le (l : List Ent) : 0 ≤ bads l ∧ bads l ≤ l.length := by have := List.length_filter_le (fun e : Ent => !e.heard) l; simp only [bads]; omega
theorem goods_snoc (l : List Ent) (k : Nat) (hk : k < l.length) : goods (l.take (k + 1)) = goods (l.take k) + (if l[k].heard then 1 else 0) := by
  rw [List.take_succ_eq_append_getElem hk]; simp only [goods, List.filter_append]; by_cases h : l[k].heard = true <;> simp [h]
theorem bads_snoc (l : List Ent) (k : Nat) (hk : k < l.length) : bads (l.take (k + 1)) = bads (l.take k) + (if l[k].heard then 0 else 1) := by
  rw [List.take_succ_eq_append_getElem hk]; simp only [bads, List.filter_append]; by_cases h : l[k].heard = true <;> simp [h]

end Go.Proofs.YtgghnncgeogemaaGreatDoor
namespace Go.Proofs.YtgghnncgeogemaaGreatDoor
open Go.RowKit

def staysB (r : Int) (es : List Ent) : Bool := decide (bads (lastR r es) < goods (lastR r es))

theorem inInts_any (x : Int) (a : Option Addr) (n cap : Nat) (l : List Int) (w : World) (hn : l.length = n) (hr : RowAt w a (encInts l)) (hc : n ≤ 4611686018427387904) :
    Calls Tryz.prog 56 #[.int .i64 x, .slice a n cap] w fun e w' => e = .returned (.bool (decide (x ∈ l))) ∧ w = w' := by
  go_enter Tryz.func56, Tryz.ntmps56
  go_wp2
  go_loop [5] (fun i => ∃ k : Nat, k ≤ n ∧ i = .int .i64 k ∧ Hid (x ∉ l.take k)) (fun i => n - (intOf i).toNat)
  case atStart => exact ⟨0, Nat.zero_le _, rfl, by unfold Hid; simp⟩
  case round =>
    obtain ⟨k, hk, rfl, HK⟩ := hrel
    by_cases hlt : k < n
    · obtain ⟨b, off, rfl, hbl, c0⟩ := hr.int k (by omega)
      have hkt : k < l.length := by omega
      have ht : l.take (k + 1) = l.take k ++ [l[k]] := List.take_succ_eq_append_getElem hkt
      by_cases hx : l[k] = x
      · have hm : x ∈ l := hx ▸ List.getElem_mem hkt
        have HM := Lib.hid hm
        have hb : (l[k] == x) = true := by simp [hx]
        clear hx hm ht
        go_wp2
        go_ret
        exact ⟨ret_bool (by simp [HM.out]), rfl⟩
      · have HN : Hid (x ∉ l.take (k + 1)) := by
          unfold Hid at HK ⊢; rw [ht, List.mem_append, not_or]; exact ⟨HK, by simpa using fun e => hx e.symm⟩
        have hb : (l[k] == x) = false := by simp [hx]
        clear hx ht
        go_wp2
        go_round
        case rel => exact ⟨k + 1, by omega, by go_num, HN⟩
        case measure => simp [intOf]; omega
    · have HN : Hid (x ∉ l) := by unfold Hid at HK ⊢; rwa [List.take_of_length_le (by omega)] at HK
      go_wp2
      go_ret
      exact ⟨ret_bool (by simp [HN.out]), rfl⟩

end Go.Proofs.YtgghnncgeogemaaGreatDoor
namespace Go.Proofs.YtgghnncgeogemaaGreatDoor

theorem chkFrom_zero : ∀ (es : List Ent) (i : Int), (chkFrom i es).1 = 0 → chkFrom i es = (0, -1)
  | [], _, _ => rfl
  | e :: r, i, h => by
    rw [chkFrom] at h ⊢
    split
    · rename_i hz; rw [if_pos hz] at h; exact chkFrom_zero r _ h
    · rename_i hz; rw [if_neg hz] at h; exact absurd h hz
theorem chk_zero {es : List Ent} (h : (chk es).1 = 0) : chk es = (0, -1) := by
  unfold chk at h ⊢
  split
  · rename_i hl; rw [if_pos hl] at h; simp at h
  · rename_i hl; rw [if_neg hl] at h; exact chkFrom_zero es 0 h
theorem chkE_le (i : Int) (e : Ent) : chkE i e ≤ 11 := by unfold chkE; repeat (first | omega | split)
theorem chkFrom_le : ∀ (es : List Ent) (i : Int), (chkFrom i es).1 ≤ 11
  | [], _ => by simp [chkFrom]
  | e :: r, i => by
    rw [chkFrom]; split
    · exact chkFrom_le r _
    · exact chkE_le i e
theorem chk_le (es : List Ent) : (chk es).1 ≤ 11 := by
  unfold chk; split
  · simp
  · exact chkFrom_le es 0

end Go.Proofs.YtgghnncgeogemaaGreatDoor
