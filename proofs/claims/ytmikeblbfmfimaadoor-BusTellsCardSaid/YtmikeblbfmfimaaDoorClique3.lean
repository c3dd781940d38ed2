/- clique.Stays; the reference's InInts; the closed fact of cliques. -/
import Derived.Test.YtmikeblbfmfimaaDoorClique2
namespace Go.Proofs.YtmikeblbfmfimaaDoor
open Go.RowKit

def staysB (r : Int) (es : List Ent) : Bool := decide (bads (lastR r es) < goods (lastR r es))

theorem stays_ok (ea : Nat → Addr) (a : Option Addr) (n cap : Nat) (es : List Ent) (r : Int) (w : World) (hg : Glob w ea [7, 10, 4, 2, 3]) (hn : es.length = n) (hr : RowAt w a (encEnts es)) (hm : n ≤ cap) (hc : n ≤ 4611686018427387904)
    (h0 : (chk es).1 = 0) (h1 : 1 ≤ r) (h2 : r ≤ 32) :
    Calls Tryd.prog 20 #[.slice a n cap, .int .i64 r] w fun e w' => e = .returned (.tuple #[.bool (staysB r es), .nilIface]) ∧ Below w.heap.size w w' := by
  have H0 := Lib.hid h0
  clear h0
  go_enter Tryd.func20, Tryd.ntmps20
  go_wp2_with (go_at_call 18; refine (tally_ok ea _ _ _ es _ _ hg hn hr hm hc H0.out h1 h2).mono ?_; rintro e w1 ⟨rfl, hb⟩)
  go_ret2
  exact ⟨rfl, hb⟩
theorem stays_chk (ea : Nat → Addr) (a : Option Addr) (n cap : Nat) (es : List Ent) (r : Int) (w : World) (hg : Glob w ea [7, 10, 4, 2, 3]) (hn : es.length = n) (hr : RowAt w a (encEnts es)) (hm : n ≤ cap) (hc : n ≤ 4611686018427387904)
    (h0 : (chk es).1 ≠ 0) :
    Calls Tryd.prog 20 #[.slice a n cap, .int .i64 r] w fun e w' => ∃ v, e = .returned (.tuple #[.bool false, v]) ∧ ErrIs ea w' v (chk es).1 (chk es).2 ∧ Below w.heap.size w w' := by
  have H0 := Lib.hid h0
  clear h0
  go_enter Tryd.func20, Tryd.ntmps20
  go_wp2_with (go_at_call 18; refine (tally_chk ea _ _ _ es _ _ hg hn hr hm hc H0.out).mono ?_; rintro e w1 ⟨v, rfl, hE, hb⟩; obtain ⟨t, x, rfl⟩ := hE.held H0.out)
  go_ret2
  exact ⟨_, rfl, hE, hb⟩
theorem stays_round (ea : Nat → Addr) (a : Option Addr) (n cap : Nat) (es : List Ent) (r : Int) (w : World) (hg : Glob w ea [7, 10, 4, 2, 3]) (hn : es.length = n) (hr : RowAt w a (encEnts es)) (hm : n ≤ cap) (hc : n ≤ 4611686018427387904)
    (h0 : (chk es).1 = 0) (h1 : ¬ (1 ≤ r ∧ r ≤ 32)) :
    Calls Tryd.prog 20 #[.slice a n cap, .int .i64 r] w fun e w' => e = .returned (.tuple #[.bool false, errV ea 2]) ∧ Below w.heap.size w w' := by
  have H0 := Lib.hid h0
  have H1 := Lib.hid h1
  have h2 : errV ea 2 = .iface 109 (.pointer (some (ea 2))) := errV_pos ea (by decide)
  have H2 := Lib.hid h2
  clear h0 h1 h2
  go_enter Tryd.func20, Tryd.ntmps20
  go_wp2_with (go_at_call 18; refine (tally_round ea _ _ _ es _ _ hg hn hr hm hc H0.out H1.out).mono ?_; rintro e w1 ⟨rfl, hb⟩; rw [H2.out])
  go_ret2
  rw [H2.out]
  exact ⟨rfl, hb⟩

theorem inInts_any (x : Int) (a : Option Addr) (n cap : Nat) (l : List Int) (w : World) (hn : l.length = n) (hr : RowAt w a (encInts l)) (hc : n ≤ 4611686018427387904) :
    Calls Tryd.prog 72 #[.int .i64 x, .slice a n cap] w fun e w' => e = .returned (.bool (decide (x ∈ l))) ∧ w = w' := by
  go_enter Tryd.func72, Tryd.ntmps72
  go_wp2
  go_loop [5] (fun i => ∃ k : Nat, k ≤ n ∧ i = .int .i64 k ∧ Hid (x ∉ l.take k)) (fun i => n - (intOf i).toNat)
  case atStart => exact ⟨0, Nat.zero_le _, rfl, by unfold Hid; simp⟩
  case round =>
    obtain ⟨k, hk, rfl, HK⟩ := hrel
    by_cases hlt : k < n
    · obtain ⟨b, off, rfl, hbl, c0⟩ := hr.int k (by omega)
      have hkt : k < l.length := by omega
      have ht : l.take (k + 1) = l.take k ++ [l[k]] := List.take_succ_eq_append_getElem hkt
      by_cases hx : l[k] = x
      · have hm : x ∈ l := hx ▸ List.getElem_mem hkt
        have HM := Lib.hid hm
        have hb : (l[k] == x) = true := by simp [hx]
        clear hx hm ht
        go_wp2
        go_ret
        exact ⟨ret_bool (by simp [HM.out]), rfl⟩
      · have HN : Hid (x ∉ l.take (k + 1)) := by
          unfold Hid at HK ⊢; rw [ht, List.mem_append, not_or]; exact ⟨HK, by simpa using fun e => hx e.symm⟩
        have hb : (l[k] == x) = false := by simp [hx]
        clear hx ht
        go_wp2
        go_round
        case rel => exact ⟨k + 1, by omega, by go_num, HN⟩
        case measure => simp [intOf]; omega
    · have HN : Hid (x ∉ l) := by unfold Hid at HK ⊢; rwa [List.take_of_length_le (by omega)] at HK
      go_wp2
      go_ret
      exact ⟨ret_bool (by simp [HN.out]), rfl⟩

end Go.Proofs.YtmikeblbfmfimaaDoor
