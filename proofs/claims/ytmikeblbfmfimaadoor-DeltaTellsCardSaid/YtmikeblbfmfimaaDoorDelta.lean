/- delta: Agree, Since, Join. -/
import Derived.Test.YtmikeblbfmfimaaDoorEntOps
namespace Go.Proofs.YtmikeblbfmfimaaDoor
open Go.RowKit

/-- How many entries in front are the same. -/
def agreeN : List Ent → List Ent → Nat
  | e :: r, f :: s => if e = f then agreeN r s + 1 else 0
  | _, _ => 0
theorem agreeN_le : ∀ (l m : List Ent), agreeN l m ≤ l.length ∧ agreeN l m ≤ m.length ∧ l.take (agreeN l m) = m.take (agreeN l m)
  | [], _ => by simp [agreeN]
  | _ :: _, [] => by simp [agreeN]
  | e :: r, f :: s => by
    have ih := agreeN_le r s
    rw [agreeN]
    split
    · rename_i h
      subst h
      refine ⟨by simp; omega, by simp; omega, by simp [ih.2.2]⟩
    · simp

set_option maxRecDepth 100000 in
set_option maxHeartbeats 800000 in
theorem agree_any (a a2 : Option Addr) (n cap n2 cap2 : Nat) (es fs : List Ent) (w : World) (hn : es.length = n) (hr : RowAt w a (encEnts es)) (hn2 : fs.length = n2) (hr2 : RowAt w a2 (encEnts fs)) (hc : n ≤ 4611686018427387904) :
    Calls Tryd.prog 46 #[.slice a n cap, .slice a2 n2 cap2] w fun e w' => e = .returned (.int .i64 (agreeN es fs)) ∧ Below w.heap.size w w' := by
  have HN := Lib.hid hn
  have HN2 := Lib.hid hn2
  clear hn hn2
  go_enter Tryd.func46, Tryd.ntmps46
  go_wp2
  go_loopw [5] (fun i wr => ∃ k : Nat, k ≤ n ∧ k ≤ n2 ∧ i = .int .i64 k ∧ Hid (agreeN (es.drop k) (fs.drop k) + k = agreeN es fs) ∧ Below w.heap.size w wr) (fun i _ => n - (intOf i).toNat)
  case atStart => exact ⟨0, Nat.zero_le _, Nat.zero_le _, rfl, rfl, Below.refl _ _⟩
  case round =>
    obtain ⟨k, hk, hk2, rfl, HK, hb⟩ := hrel
    by_cases hlt : k < n
    · by_cases hlt2 : k < n2
      · have hk1 : k < es.length := by have := HN.out; omega
        have hk2' : k < fs.length := by have := HN2.out; omega
        obtain ⟨b, off, rfl, hbl, c0, c1, c2, c3⟩ := (hr.below hb).ent k hk1
        obtain ⟨b', off', rfl, hbl', d0, d1, d2, d3⟩ := (hr2.below hb).ent k hk2'
        have ht1 := Lib.hid (List.drop_eq_getElem_cons hk1)
        have ht2 := Lib.hid (List.drop_eq_getElem_cons hk2')
        have hi0 : (0 : Int) ≤ (k : Int) := by omega
        have hi1 : (k : Int) < (n : Int) := by omega
        have hi2 : (k : Int) < (n2 : Int) := by omega
        by_cases he : es[k] = fs[k]
        · have HS : Hid (agreeN (es.drop (k + 1)) (fs.drop (k + 1)) + (k + 1) = agreeN es fs) := by unfold Hid at HK ⊢; rw [← HK, ht1.out, ht2.out, agreeN, if_pos he]; omega
          have hne : ∀ W : World, (binOp .eql 76 (.agg #[.int .i64 es[k].slot, .int .i64 es[k].frm, .bool es[k].heard, .int .i64 es[k].value]) (.agg #[.int .i64 fs[k].slot, .int .i64 fs[k].frm, .bool fs[k].heard, .int .i64 fs[k].value])).run Tryd.prog W = .ok (.bool true) W := fun W => by
            have h1 := run_ent_eql W es[k] fs[k]
            rw [show entEq es[k] fs[k] = true from decide_eq_true he] at h1
            exact h1
          clear ht1 ht2 he HK
          generalize es[k] = e at *
          generalize fs[k] = f at *
          go_wp2
          go_quiet (fail)
          go_wp2
          go_roundw
          case rel => exact ⟨k + 1, by omega, by omega, by go_num, HS, below_drewN hb _⟩
          case measure => simp [intOf]; omega
        · have HS : Hid (agreeN es fs = k) := by unfold Hid at HK ⊢; rw [← HK, ht1.out, ht2.out, agreeN, if_neg he]; omega
          have hne : ∀ W : World, (binOp .eql 76 (.agg #[.int .i64 es[k].slot, .int .i64 es[k].frm, .bool es[k].heard, .int .i64 es[k].value]) (.agg #[.int .i64 fs[k].slot, .int .i64 fs[k].frm, .bool fs[k].heard, .int .i64 fs[k].value])).run Tryd.prog W = .ok (.bool false) W := fun W => by
            have h1 := run_ent_eql W es[k] fs[k]
            rw [show entEq es[k] fs[k] = false from decide_eq_false he] at h1
            exact h1
          clear ht1 ht2 he HK
          generalize es[k] = e at *
          generalize fs[k] = f at *
          go_wp2
          go_quiet (fail)
          go_wp2
          go_ret
          exact ⟨ret_int (by rw [HS.out]), below_drewN hb _⟩
      · have HS : Hid (agreeN es fs = k) := by
          unfold Hid at HK ⊢
          have hq : fs.length ≤ k := by have := HN2.out; omega
          rw [← HK, List.drop_eq_nil_of_le hq]
          cases es.drop k <;> simp [agreeN]
        have hi2 : decide ((k : Int) < (n2 : Int)) = false := by simp; omega
        have hi1 : (k : Int) < (n : Int) := by omega
        clear HK
        go_wp2
        go_quiet (fail)
        go_wp2
        go_ret
        exact ⟨ret_int (by rw [HS.out]), below_drewN hb _⟩
    · have HS : Hid (agreeN es fs = k) := by
        unfold Hid at HK ⊢
        have hq : es.length ≤ k := by have := HN.out; omega
        rw [← HK, List.drop_eq_nil_of_le hq]
        simp [agreeN]
      have hi1 : decide ((k : Int) < (n : Int)) = false := by simp; omega
      clear HK
      go_wp2
      go_quiet (fail)
      go_wp2
      go_ret
      exact ⟨ret_int (by rw [HS.out]), below_drewN hb _⟩
end Go.Proofs.YtmikeblbfmfimaaDoor
