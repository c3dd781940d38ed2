/- the reference's isFar, MidOf, SpreadOf, SetOf. -/
import Derived.Test.YtlpgafpmhihneaaDoorClockAny
import Derived.Test.YtlpgafpmhihneaaDoorRefBase
import Derived.Test.YtlpgafpmhihneaaDoorFlat
import Derived.RegionTactic
namespace Go.Proofs.YtlpgafpmhihneaaDoor
open Go.RowKit

theorem isFar_any (n : Int) (w : World) : Calls Tryd.prog 44 #[.int .i64 n] w fun e w' => e = .returned (.bool (farB n)) ∧ w = w' := by
  by_cases h : n < -1000000
  · have HF := Lib.hid (show farB n = true by simp [farB]; omega)
    go_enter Tryd.func44, Tryd.ntmps44
    go_wp2
    go_ret
    exact ⟨ret_bool HF.out.symm, rfl⟩
  · have hd : decide (n < -1000000) = false := by simpa using h
    by_cases h2 : 1000000 < n
    · have HF := Lib.hid (show farB n = true by simp [farB]; omega)
      go_enter Tryd.func44, Tryd.ntmps44
      go_wp2
      go_ret
      exact ⟨ret_bool HF.out.symm, rfl⟩
    · have HF := Lib.hid (show farB n = false by simp [farB]; omega)
      go_enter Tryd.func44, Tryd.ntmps44
      go_wp2
      go_ret
      exact ⟨ret_bool HF.out.symm, rfl⟩

/-- One number put into its place among sorted ones. -/
def insAt (x : List Int) (v : Int) (m : Nat) : List Int := x.take m ++ [v] ++ x.drop m
theorem insAt_perm (x : List Int) (v : Int) (m : Nat) : (insAt x v m).Perm (x ++ [v]) := by
  unfold insAt
  have h1 : (x.take m ++ [v] ++ x.drop m).Perm (x.take m ++ x.drop m ++ [v]) := by
    rw [List.append_assoc, List.append_assoc]; exact List.Perm.append_left _ List.perm_append_comm
  rwa [List.take_append_drop] at h1
theorem insAt_sorted {x : List Int} (hs : x.Pairwise (· ≤ ·)) (v : Int) (m : Nat) (hm : m ≤ x.length) (h1 : ∀ j, j < m → x.getD j 0 ≤ v) (h2 : ∀ j, m ≤ j → j < x.length → v < x.getD j 0) : (insAt x v m).Pairwise (· ≤ ·) := by
  unfold insAt
  have hlo : ∀ a ∈ x.take m, a ≤ v := fun a ha => by
    obtain ⟨i, hi, rfl⟩ := List.getElem_of_mem ha
    have hi' : i < m := by rw [List.length_take] at hi; omega
    have := h1 i hi'
    rw [List.getD_eq_getElem?_getD, List.getElem?_eq_getElem (by omega)] at this
    rw [List.getElem_take]; exact this
  have hhi : ∀ a ∈ x.drop m, v ≤ a := fun a ha => by
    obtain ⟨i, hi, rfl⟩ := List.getElem_of_mem ha
    have hi' : m + i < x.length := by rw [List.length_drop] at hi; omega
    have := h2 (m + i) (by omega) hi'
    rw [List.getD_eq_getElem?_getD, List.getElem?_eq_getElem hi'] at this
    rw [List.getElem_drop]; exact Int.le_of_lt this
  rw [List.pairwise_append, List.pairwise_append]
  refine ⟨⟨hs.sublist (List.take_sublist _ _), by simp, fun a ha b hb => by simp at hb; subst hb; exact hlo a ha⟩, hs.sublist (List.drop_sublist _ _), fun a ha b hb => ?_⟩
  rcases List.mem_append.1 ha with ha | ha
  · exact Int.le_trans (hlo a ha) (hhi b hb)
  · simp at ha; subst ha; exact hhi b hb
theorem sortL_ins (l : List Int) (k : Nat) (hk : k < l.length) (m : Nat) (hm : m ≤ k) (h1 : ∀ j, j < m → (sortL (l.take k)).getD j 0 ≤ l.getD k 0) (h2 : ∀ j, m ≤ j → j < k → l.getD k 0 < (sortL (l.take k)).getD j 0) :
    sortL (l.take (k + 1)) = insAt (sortL (l.take k)) (l.getD k 0) m := by
  have hl : (sortL (l.take k)).length = k := by rw [sortL_length, List.length_take]; omega
  have hp : (sortL (l.take (k + 1))).Perm (insAt (sortL (l.take k)) (l.getD k 0) m) := by
    refine (sortL_perm _).trans (List.Perm.trans ?_ (insAt_perm _ _ m).symm)
    rw [List.take_succ_eq_append_getElem hk, List.getD_eq_getElem?_getD, List.getElem?_eq_getElem hk]
    exact List.Perm.append_right _ (sortL_perm _).symm
  exact hp.eq_of_pairwise (le := (· ≤ ·)) (by intro a b _ _ h1 h2; exact Int.le_antisymm h1 h2) (sortL_sorted _) (insAt_sorted (sortL_sorted _) _ m (by omega) h1 (fun j a b => h2 j a (by omega)))
theorem ownsRow_weak {W : World} {base base' : Nat} {e : TypeId} {size : Nat} {v : Value} {k : Nat} {xs : List Value} (h : W.ownsRow base e size v k xs) (hb : base' ≤ base) : W.ownsRow base' e size v k xs :=
  ⟨h.1, h.2.imp id (fun ⟨g, cap, cur, e1, e2, e3⟩ => ⟨g, cap, cur, e1, Nat.le_trans hb e2, e3⟩)⟩
theorem half_below (n : Int) (_h : n < 0) : -((1 - n) / 2) = n / 2 := by omega

set_option maxRecDepth 100000 in
set_option maxHeartbeats 800000 in
theorem midOf_bound (a : Option Addr) (n cap : Nat) (k : Int) (w : World) (hc : n ≤ 1000) (h : k < 0 ∨ (n : Int) < k ∨ (n : Int) < 2 * k + 1) :
    Calls Tryd.prog 12 #[.slice a n cap, .int .i64 k] w fun e w' => e = .returned (.tuple #[.int .i64 0, .agg #[.int .i64 2, .int .i64 (-1)]]) ∧ Below w.heap.size w w' := by
  by_cases h1 : k < 0 ∨ (n : Int) < k
  · clear h
    go_enter Tryd.func12, Tryd.ntmps12
    go_wp2_with (go_at_call 43; refine (bare_any _ _).mono ?_; rintro e w1 ⟨rfl, hb⟩; obtain ⟨c0, c1, f0, f1, z1, hw1⟩ := own2 hb)
    all_goals first
      | omega
      | (refine bodyPost_ret (v := .tuple #[.int .i64 0, .agg #[.int .i64 2, .int .i64 (-1)]]) (by simp [results, Tryd.results12, go_sem, c0, c1]) rfl ?_
         exact ⟨rfl, (hw1.setCell (by simp) _).setCell (by simp) _⟩)
  · have b0 : 0 ≤ k := by omega
    have b1 : k ≤ n := by omega
    have b2 : (n : Int) < 2 * k + 1 := by omega
    clear h h1
    go_enter Tryd.func12, Tryd.ntmps12
    go_wp2_with (go_at_call 43; refine (bare_any _ _).mono ?_; rintro e w1 ⟨rfl, hb⟩; obtain ⟨c0, c1, f0, f1, z1, hw1⟩ := own2 hb)
    refine bodyPost_ret (v := .tuple #[.int .i64 0, .agg #[.int .i64 2, .int .i64 (-1)]]) (by simp [results, Tryd.results12, go_sem, c0, c1]) rfl ?_
    exact ⟨rfl, (hw1.setCell (by simp) _).setCell (by simp) _⟩

set_option maxRecDepth 400000 in
set_option maxHeartbeats 3200000 in
theorem midOf_ok (a : Option Addr) (n cap : Nat) (l : List Int) (q : Nat) (w : World) (hn : l.length = n) (hr : RowAt w a (encInts l)) (hc : n ≤ 1000) (hq : 2 * q + 1 ≤ n) :
    Calls Tryd.prog 12 #[.slice a n cap, .int .i64 q] w fun e w' => e = .returned (.tuple #[.int .i64 (midF l q).1, .agg #[.int .i64 (midF l q).2.1, .int .i64 (midF l q).2.2]]) ∧ Below w.heap.size w w' := by
  have HFar : Hid (0 ≤ farIdx 0 l → midF l q = (0, 2, farIdx 0 l)) := by
    unfold Hid; intro h
    have hcF : clockF l q = (2, farIdx 0 l) := by rw [clockF, if_neg (by omega), if_neg (by omega)]
    rw [midF, hcF, if_neg (by simp)]
  have HOk : Hid (farIdx 0 l < 0 → midF l q = (midV l q, 0, -1)) := by
    unfold Hid; intro h
    have hcF : clockF l q = (0, -1) := by rw [clockF, if_neg (by omega), if_pos h]
    rw [midF, hcF, if_pos rfl, Int.toNat_natCast]
  obtain ⟨i0, hi, hz0, hz1, hz2⟩ := info_parts info_int
  have hi' := Lib.hid hi
  have hz0' := Lib.hid hz0
  have hz1' := Lib.hid hz1
  have hz2' := Lib.hid hz2
  have HN := Lib.hid hn
  obtain ⟨b, off, rfl, hbl, hcells⟩ := hr.at (fun e => by have h1 := encInts_length l; rw [e, hn] at h1; simp at h1; omega)
  have hw0 : Below w.heap.size w (w.alloc (.cells #[.int .i64 0, .int .i64 0] 32)) := (Below.refl _ _).alloc (Nat.le_refl _) _
  have HC := Lib.hid (fun (j : Nat) (hj : j < n) => show w.cell? ⟨b, off + j, none⟩ = some (.int .i64 (l.getD j 0)) from hcells j _ (by simp [encInts, List.getD_eq_getElem?_getD, hn, hj]))
  have q0 : (0 : Int) ≤ (q : Int) := by omega
  have q1 : 2 * (q : Int) + 1 ≤ (n : Int) := by omega
  have hdA : decide ((q : Int) < 0) = false := by simp
  have hdB : decide (n < q) = false := by simp; omega
  have hdC : decide ((n : Int) < 2 * (q : Int) + 1) = false := by simp; omega
  clear hi hz0 hz1 hz2 hn hcells hr
  go_enter Tryd.func12, Tryd.ntmps12
  go_wp2
  have e0 : (w.alloc (.cells #[.int .i64 0, .int .i64 0] 32)).cell? ⟨w.heap.size, 0, none⟩ = some (.int .i64 0) := by simp
  have e1 : (w.alloc (.cells #[.int .i64 0, .int .i64 0] 32)).cell? ⟨w.heap.size, 1, none⟩ = some (.int .i64 0) := by simp
  have g0 : (w.alloc (.cells #[.int .i64 0, .int .i64 0] 32)).frozen? ⟨w.heap.size, 0, none⟩ = false := by simp
  have g1 : (w.alloc (.cells #[.int .i64 0, .int .i64 0] 32)).frozen? ⟨w.heap.size, 1, none⟩ = false := by simp
  have hsz : w.heap.size < (w.alloc (.cells #[.int .i64 0, .int .i64 0] 32)).heap.size := by simp
  generalize hW0 : w.alloc (.cells #[.int .i64 0, .int .i64 0] 32) = W0 at *
  clear hW0
  go_loopw [6, 7] (fun v i wr => ∃ k : Nat, k ≤ n ∧ i = .int .i64 k ∧ Hid (farIdx k (l.drop k) = farIdx 0 l) ∧ wr.ownsRow W0.heap.size 3 1 v k (encInts (sortL (l.take k))) ∧ (k = 0 → v = .slice none 0 0) ∧ Below W0.heap.size W0 wr) (fun _ i _ => n - (intOf i).toNat)
  case atStart => exact ⟨0, Nat.zero_le _, rfl, rfl, by rw [List.take_zero, show sortL [] = [] by simp [sortL]]; exact World.ownsRow_nil _ _ _ _, fun _ => rfl, Below.refl _ _⟩
  case round =>
    obtain ⟨k, hk, rfl, HK, ho, hnil, hbr⟩ := hrel
    have hszr := hbr.size
    have hbw := onto' hw0 hbr
    obtain ⟨c0, c1, f0, f1, z0⟩ := keep2 hbr hsz e0 e1 g0 g1
    by_cases hlt : k < n
    · have hkt : k < l.length := by have := HN.out; omega
      have d0 := (hbw.cell (p := ⟨b, off + k, none⟩) hbl).trans (HC.out k hlt)
      have hdr : l.drop k = l.getD k 0 :: l.drop (k + 1) := by rw [List.drop_eq_getElem_cons hkt, List.getD_eq_getElem?_getD, List.getElem?_eq_getElem hkt]; rfl
      have hi0 : (0 : Int) ≤ (k : Int) := by omega
      have hi1 : (k : Int) < (n : Int) := by omega
      have HINS := Lib.hid (fun m hm h1 h2 => sortL_ins l k hkt m hm h1 h2)
      generalize l.getD k 0 = x at *
      clear hkt
      cases hx : farB x
      · have HS : Hid (farIdx (k + 1 : Nat) (l.drop (k + 1)) = farIdx 0 l) := by unfold Hid at HK ⊢; rw [← HK, hdr, farIdx, hx]; rfl
        have HX := Lib.hid hx
        clear hdr hx HK
        obtain ⟨ao, co, rfl⟩ := owned_shape ho
        go_wp2_with (go_at_call 44; refine (isFar_any _ _).mono ?_; rintro e w1 ⟨rfl, rfl⟩; rw [HX.out])
        obtain ⟨ra, _, na, ma⟩ := RowAt.owned ho
        have HSL : Hid ((sortL (l.take k)).length = k) := by unfold Hid; rw [sortL_length, List.length_take]; have := HN.out; omega
        obtain ⟨wo, hwo⟩ : ∃ wo : World, wo = wr := ⟨_, rfl⟩
        rw [← hwo] at ho hbr hszr hbw c0 c1 f0 f1 z0 d0 ra ⊢
        clear hwo
        clear wr
        have HSS : Hid ((sortL (l.take k)).Pairwise (· ≤ ·)) := sortL_sorted _
        generalize sortL (l.take k) = S at *
        by_cases hk0 : k = 0
        · subst hk0
          have hv := hnil rfl
          injection hv with hv1 hv2 hv3
          subst hv1 hv3
          have hS : S = [] := List.eq_nil_of_length_eq_zero HSL.out
          subst hS
          have d0 : wo.cell? ⟨b, off, none⟩ = some (.int .i64 x) := by simpa using d0
          refine wp_loop_rounds 1 ?_
          rw [rounds_succ]
          go_wp2
          go_quiet (fail)
          obtain ⟨W1, hW1⟩ : ∃ W1, W1 = wo.drewN nq := ⟨_, rfl⟩
          rw [← hW1]
          have hbW1 : Below wo.heap.size wo W1 := by rw [hW1]; exact below_drewN (Below.refl _ _) _
          have hbW : Below W0.heap.size W0 W1 := onto' hbr hbW1
          have dW := (hbW1.cell (p := ⟨b, off, none⟩) (Nat.lt_of_lt_of_le hbl hbw.size)).trans d0
          have hblW : b < W1.heap.size := Nat.lt_of_lt_of_le (Nat.lt_of_lt_of_le hbl hbw.size) hbW1.size
          have hsW1 := hbW1.size
          clear hW1
          have hTW : RowAt W1 none [] := Or.inl rfl
          have hDW : RowAt W1 none [] := Or.inl rfl
          go_wp2_with (first
            | (at_builtin; refine wpList_append2 _ rfl (.tmp 60) (.tmp 63) 22 rfl W1.heap.size 3 i0 _ 1 8 Tryd.underlying22 hi'.out hz0'.out hz1'.out hz2'.out rfl (by decide) (.slice none 0 0) 0 [] rfl (World.ownsRow_nil _ _ _ _) none 0 0 [] rfl ?_ ?_ ?_ ?_ ?_ ?_ ?_; rfl; exact hTW; (intro u hu; cases hu); unfold maxLen; omega; omega; exact Nat.le_refl _; intro v2 w2 ho2 hg2 hq hm2; clear hq hm2; rw [List.nil_append, Nat.zero_add] at ho2; have hB2 := (Below.refl W1.heap.size W1).grown hg2 (Nat.le_refl _) (fun j e => by simp [Value.ownBlock] at e); have dd := (hB2.cell (p := ⟨b, off, none⟩) hblW).trans dW; have hs2 := hB2.size)
            | (at_builtin; refine wpList_append2 _ rfl (.tmp 65) (.tmp 70) 22 rfl W1.heap.size 3 i0 _ 1 8 Tryd.underlying22 hi'.out hz0'.out hz1'.out hz2'.out rfl (by decide) v2 0 [] rfl (ho2.alloc _) _ 1 1 [.int .i64 x] rfl rfl ?_ ?_ ?_ ?_ ?_ ?_; exact RowAt.new_at _ [.int .i64 x] _ _ (by simp); (intro u hu; simp at hu; subst hu; rfl); unfold maxLen; omega; omega; (simp; omega); intro v3 w3 ho3 hg3 hq hm3; clear hq hm3; have hB3 := (hB2.alloc hs2 _).grown hg3 (by simp; omega) (fun j e => (ho2.lt j e).1); have hs3 := hB3.size)
            | (at_builtin; refine wpList_append2 _ rfl (.tmp 72) (.tmp 75) 22 rfl W1.heap.size 3 i0 _ 1 8 Tryd.underlying22 hi'.out hz0'.out hz1'.out hz2'.out rfl (by decide) v3 (0 + 1) (([] : List Value) ++ [.int .i64 x]) rfl ho3 none 0 0 [] rfl ?_ ?_ ?_ ?_ ?_ ?_ ?_; rfl; exact hDW.below hB3; (intro u hu; cases hu); unfold maxLen; omega; omega; exact hs3; intro v4 w4 ho4 hg4 hq hm4; clear hq hm4; have hB4 := hB3.grown hg4 hs3 (fun j e => (ho3.lt j e).1)))
          have hins : Hid (([] : List Value) ++ [.int .i64 x] ++ [] = encInts (insAt [] x 0)) := by unfold Hid; simp [insAt, encInts]
          rw [hins.out] at ho4
          go_roundw
          case rel => exact ⟨0 + 1, by omega, by go_num, HS, by rw [HINS.out 0 (by omega) (fun j hj => by omega) (fun j a b => by omega)]; exact ownsRow_weak ho4 (Nat.le_trans hszr hsW1), by omega, onto' hbW hB4⟩
          case measure => simp [intOf]; omega
        · obtain ⟨g, og, rfl, hgl, _⟩ := ra.intG 0 (by rw [HSL.out]; omega)
          go_loopw [9] (fun t wr => ∃ m : Nat, m ≤ k ∧ t = .int .i64 m ∧ Hid (∀ j, m ≤ j → j < k → x < S.getD j 0) ∧ Below wo.heap.size wo wr ∧ wr.heap.size = wo.heap.size) (fun t _ => (intOf t).toNat)
          case atStart => exact ⟨k, Nat.le_refl _, rfl, fun j a b => by omega, Below.refl _ _, rfl⟩
          case round =>
            obtain ⟨m, hm, rfl, HX2, hbm, hzm⟩ := hrel
            have dm := (hbm.cell (p := ⟨b, off + k, none⟩) (Nat.lt_of_lt_of_le hbl hbw.size)).trans d0
            have hsW := hbm.size
            by_cases hm0 : m = 0
            · subst hm0
              go_wp2
              go_quiet (fail)
              obtain ⟨W1, hW1⟩ : ∃ W1, W1 = wr.drewN nq := ⟨_, rfl⟩
              rw [← hW1]
              have hbW1 : Below wo.heap.size wo W1 := by rw [hW1]; exact below_drewN hbm _
              have hbW : Below W0.heap.size W0 W1 := onto' hbr hbW1
              have raW := ra.below hbW1
              have dW := (hbW1.cell (p := ⟨b, off + k, none⟩) (Nat.lt_of_lt_of_le hbl hbw.size)).trans d0
              have hblW : b < W1.heap.size := Nat.lt_of_lt_of_le (Nat.lt_of_lt_of_le hbl hbw.size) hbW1.size
              have hsW1 := hbW1.size
              clear hW1
              have hTW : RowAt W1 (some ⟨g, og, none⟩) [] := Or.inl rfl
              have hDW := raW
              have hco : 0 < co := by omega
              go_wp2_with (first
                | (at_builtin; refine wpList_append2 _ rfl (.tmp 60) (.tmp 63) 22 rfl W1.heap.size 3 i0 _ 1 8 Tryd.underlying22 hi'.out hz0'.out hz1'.out hz2'.out rfl (by decide) (.slice none 0 0) 0 [] rfl (World.ownsRow_nil _ _ _ _) (some ⟨g, og, none⟩) 0 co [] rfl ?_ ?_ ?_ ?_ ?_ ?_ ?_; rfl; exact hTW; (intro u hu; cases hu); unfold maxLen; omega; omega; exact Nat.le_refl _; intro v2 w2 ho2 hg2 hq hm2; clear hq hm2; rw [List.nil_append, Nat.zero_add] at ho2; have hB2 := (Below.refl W1.heap.size W1).grown hg2 (Nat.le_refl _) (fun j e => by simp [Value.ownBlock] at e); have dd := (hB2.cell (p := ⟨b, off + k, none⟩) hblW).trans dW; have hs2 := hB2.size)
                | (at_builtin; refine wpList_append2 _ rfl (.tmp 65) (.tmp 70) 22 rfl W1.heap.size 3 i0 _ 1 8 Tryd.underlying22 hi'.out hz0'.out hz1'.out hz2'.out rfl (by decide) v2 0 [] rfl (ho2.alloc _) _ 1 1 [.int .i64 x] rfl rfl ?_ ?_ ?_ ?_ ?_ ?_; exact RowAt.new_at _ [.int .i64 x] _ _ (by simp); (intro u hu; simp at hu; subst hu; rfl); unfold maxLen; omega; omega; (simp; omega); intro v3 w3 ho3 hg3 hq hm3; clear hq hm3; have hB3 := (hB2.alloc hs2 _).grown hg3 (by simp; omega) (fun j e => (ho2.lt j e).1); have hs3 := hB3.size)
                | (at_builtin; refine wpList_append2 _ rfl (.tmp 72) (.tmp 75) 22 rfl W1.heap.size 3 i0 _ 1 8 Tryd.underlying22 hi'.out hz0'.out hz1'.out hz2'.out rfl (by decide) v3 (0 + 1) (([] : List Value) ++ [.int .i64 x]) rfl ho3 (some ⟨g, og, none⟩) k co (encInts (S)) rfl ?_ ?_ ?_ ?_ ?_ ?_ ?_; (rw [encInts_length, HSL.out]; omega); exact hDW.below hB3; exact encInts_one _; unfold maxLen; omega; omega; exact hs3; intro v4 w4 ho4 hg4 hq hm4; clear hq hm4; have hB4 := hB3.grown hg4 hs3 (fun j e => (ho3.lt j e).1)))
              have hins : Hid (([] : List Value) ++ [.int .i64 x] ++ encInts S = encInts (insAt S x 0)) := by unfold Hid; simp [insAt, encInts]
              rw [hins.out, show 0 + 1 + k = k + 1 by omega] at ho4
              go_roundw
              case rel => exact ⟨k + 1, by omega, by go_num, HS, by rw [HINS.out 0 (by omega) (fun j hj => by omega) HX2.out]; exact ownsRow_weak ho4 (Nat.le_trans hszr hsW1), by omega, onto' hbW hB4⟩
              case measure => simp [intOf]; omega
            · obtain ⟨g', og', e', _, cm⟩ := (ra.below hbm).intG (m - 1) (by rw [HSL.out]; omega)
              injection e' with e'; injection e' with e1' e2'; subst e1' e2'
              have i2 : (0 : Int) ≤ (m : Int) - 1 := by omega
              have i3 : (m : Int) - 1 < (k : Int) := by omega
              have i4 : ((m : Int) - 1).toNat = m - 1 := by omega
              have w2' : IntKind.i64.wrap ((m : Int) - 1) = (m : Int) - 1 := IntWalk.i64_in _ (by omega)
              have hgt0 : decide (0 < m) = true := by simp; omega
              have hgt1 : 0 < m := by omega
              generalize hy : S.getD (m - 1) 0 = y at *
              have HY := Lib.hid hy
              clear hy
              by_cases hlt2 : x < y
              · have HX3 : Hid (∀ j, m - 1 ≤ j → j < k → x < S.getD j 0) := fun j a b => by
                  by_cases hj : j = m - 1
                  · subst hj; rw [HY.out]; exact hlt2
                  · exact HX2.out j (by omega) b
                have hdl : decide (x < y) = true := by simpa using hlt2
                go_wp2
                go_quiet (fail)
                clear w2'
                go_wp2
                go_roundw
                case rel => exact ⟨m - 1, by omega, by go_num, HX3, below_drewN hbm _, hzm⟩
                case measure => simp [intOf]; omega
              · have hdl : decide (x < y) = false := by simpa using hlt2
                go_wp2
                have HLE : Hid (∀ j, j < m → S.getD j 0 ≤ x) := fun j hj => by
                  have := sorted_le HSS.out (i := j) (j := m - 1) (by omega) (by rw [HSL.out]; omega)
                  rw [HY.out] at this; omega
                go_quiet (fail)
                clear w2'
                obtain ⟨W1, hW1⟩ : ∃ W1, W1 = wr.drewN nq := ⟨_, rfl⟩
                rw [← hW1]
                have hbW1 : Below wo.heap.size wo W1 := by rw [hW1]; exact below_drewN hbm _
                have hbW : Below W0.heap.size W0 W1 := onto' hbr hbW1
                have raW := ra.below hbW1
                have dW := (hbW1.cell (p := ⟨b, off + k, none⟩) (Nat.lt_of_lt_of_le hbl hbw.size)).trans d0
                have hblW : b < W1.heap.size := Nat.lt_of_lt_of_le (Nat.lt_of_lt_of_le hbl hbw.size) hbW1.size
                have hsW1 := hbW1.size
                have HGT := HX2
                clear hW1
                have hTW : RowAt W1 (some ⟨g, og, none⟩) (encInts (S.take m)) := by rw [encInts_take]; exact raW.take m
                by_cases hmc : m < co
                · have hDW : RowAt W1 (some ⟨g, og + m, none⟩) (encInts (S.drop m)) := by
                    have h := raW.drop m
                    rw [Option.map_some, show (⟨g, og, none⟩ : Addr).add m = ⟨g, og + m, none⟩ by (unfold Addr.add; split <;> simp_all)] at h
                    rwa [encInts_drop]
                  go_wp2_with (first
                    | (at_builtin; refine wpList_append2 _ rfl (.tmp 60) (.tmp 63) 22 rfl W1.heap.size 3 i0 _ 1 8 Tryd.underlying22 hi'.out hz0'.out hz1'.out hz2'.out rfl (by decide) (.slice none 0 0) 0 [] rfl (World.ownsRow_nil _ _ _ _) (some ⟨g, og, none⟩) m co (encInts (S.take m)) rfl ?_ ?_ ?_ ?_ ?_ ?_ ?_; (rw [encInts_length, List.length_take, HSL.out]; omega); exact hTW; exact encInts_one _; unfold maxLen; omega; omega; exact Nat.le_refl _; intro v2 w2 ho2 hg2 hq hm2; clear hq hm2; rw [List.nil_append, Nat.zero_add] at ho2; have hB2 := (Below.refl W1.heap.size W1).grown hg2 (Nat.le_refl _) (fun j e => by simp [Value.ownBlock] at e); have dd := (hB2.cell (p := ⟨b, off + k, none⟩) hblW).trans dW; have hs2 := hB2.size)
                    | (at_builtin; refine wpList_append2 _ rfl (.tmp 65) (.tmp 70) 22 rfl W1.heap.size 3 i0 _ 1 8 Tryd.underlying22 hi'.out hz0'.out hz1'.out hz2'.out rfl (by decide) v2 m (encInts (S.take m)) rfl (ho2.alloc _) _ 1 1 [.int .i64 x] rfl rfl ?_ ?_ ?_ ?_ ?_ ?_; exact RowAt.new_at _ [.int .i64 x] _ _ (by simp); (intro u hu; simp at hu; subst hu; rfl); unfold maxLen; omega; omega; (simp; omega); intro v3 w3 ho3 hg3 hq hm3; clear hq hm3; have hB3 := (hB2.alloc hs2 _).grown hg3 (by simp; omega) (fun j e => (ho2.lt j e).1); have hs3 := hB3.size)
                    | (at_builtin; refine wpList_append2 _ rfl (.tmp 72) (.tmp 75) 22 rfl W1.heap.size 3 i0 _ 1 8 Tryd.underlying22 hi'.out hz0'.out hz1'.out hz2'.out rfl (by decide) v3 (m + 1) (encInts (S.take m) ++ [.int .i64 x]) rfl ho3 (some ⟨g, og + m, none⟩) (k - m) (co - m) (encInts (S.drop m)) rfl ?_ ?_ ?_ ?_ ?_ ?_ ?_; (rw [encInts_length, List.length_drop, HSL.out]; omega); exact hDW.below hB3; exact encInts_one _; unfold maxLen; omega; omega; exact hs3; intro v4 w4 ho4 hg4 hq hm4; clear hq hm4; have hB4 := hB3.grown hg4 hs3 (fun j e => (ho3.lt j e).1)))
                  have hins : Hid (encInts (S.take m) ++ [.int .i64 x] ++ encInts (S.drop m) = encInts (insAt S x m)) := by unfold Hid; simp [insAt, encInts]
                  rw [hins.out, show m + 1 + (k - m) = k + 1 by omega] at ho4
                  go_roundw
                  case rel => exact ⟨k + 1, by omega, by go_num, HS, by rw [HINS.out m (by omega) HLE.out HGT.out]; exact ownsRow_weak ho4 (Nat.le_trans hszr hsW1), by omega, onto' hbW hB4⟩
                  case measure => simp [intOf]; omega
                · obtain rfl : m = k := by omega
                  obtain rfl : co = m := by omega
                  have hDW : RowAt W1 (some ⟨g, og, none⟩) (encInts (S.drop co)) := by rw [List.drop_eq_nil_of_le (by rw [HSL.out]; omega)]; exact Or.inl rfl
                  go_wp2_with (first
                    | (at_builtin; refine wpList_append2 _ rfl (.tmp 60) (.tmp 63) 22 rfl W1.heap.size 3 i0 _ 1 8 Tryd.underlying22 hi'.out hz0'.out hz1'.out hz2'.out rfl (by decide) (.slice none 0 0) 0 [] rfl (World.ownsRow_nil _ _ _ _) (some ⟨g, og, none⟩) co co (encInts (S.take co)) rfl ?_ ?_ ?_ ?_ ?_ ?_ ?_; (rw [encInts_length, List.length_take, HSL.out]; omega); exact hTW; exact encInts_one _; unfold maxLen; omega; omega; exact Nat.le_refl _; intro v2 w2 ho2 hg2 hq hm2; clear hq hm2; rw [List.nil_append, Nat.zero_add] at ho2; have hB2 := (Below.refl W1.heap.size W1).grown hg2 (Nat.le_refl _) (fun j e => by simp [Value.ownBlock] at e); have dd := (hB2.cell (p := ⟨b, off + co, none⟩) hblW).trans dW; have hs2 := hB2.size)
                    | (at_builtin; refine wpList_append2 _ rfl (.tmp 65) (.tmp 70) 22 rfl W1.heap.size 3 i0 _ 1 8 Tryd.underlying22 hi'.out hz0'.out hz1'.out hz2'.out rfl (by decide) v2 co (encInts (S.take co)) rfl (ho2.alloc _) _ 1 1 [.int .i64 x] rfl rfl ?_ ?_ ?_ ?_ ?_ ?_; exact RowAt.new_at _ [.int .i64 x] _ _ (by simp); (intro u hu; simp at hu; subst hu; rfl); unfold maxLen; omega; omega; (simp; omega); intro v3 w3 ho3 hg3 hq hm3; clear hq hm3; have hB3 := (hB2.alloc hs2 _).grown hg3 (by simp; omega) (fun j e => (ho2.lt j e).1); have hs3 := hB3.size)
                    | (at_builtin; refine wpList_append2 _ rfl (.tmp 72) (.tmp 75) 22 rfl W1.heap.size 3 i0 _ 1 8 Tryd.underlying22 hi'.out hz0'.out hz1'.out hz2'.out rfl (by decide) v3 (co + 1) (encInts (S.take co) ++ [.int .i64 x]) rfl ho3 (some ⟨g, og, none⟩) 0 0 (encInts (S.drop co)) rfl ?_ ?_ ?_ ?_ ?_ ?_ ?_; (rw [encInts_length, List.length_drop, HSL.out]; omega); exact hDW.below hB3; exact encInts_one _; unfold maxLen; omega; omega; exact hs3; intro v4 w4 ho4 hg4 hq hm4; clear hq hm4; have hB4 := hB3.grown hg4 hs3 (fun j e => (ho3.lt j e).1)))
                  have hins : Hid (encInts (S.take co) ++ [.int .i64 x] ++ encInts (S.drop co) = encInts (insAt S x co)) := by unfold Hid; simp [insAt, encInts]
                  rw [hins.out, show co + 1 + 0 = co + 1 by omega] at ho4
                  go_roundw
                  case rel => exact ⟨co + 1, by omega, by go_num, HS, by rw [HINS.out co (by omega) HLE.out HGT.out]; exact ownsRow_weak ho4 (Nat.le_trans hszr hsW1), by omega, onto' hbW hB4⟩
                  case measure => simp [intOf]; omega
      · have HS : Hid (farIdx 0 l = k) := by unfold Hid at HK ⊢; rw [← HK, hdr, farIdx, hx]; rfl
        have HX := Lib.hid hx
        clear hdr hx HK
        go_wp2_with (go_at_call 44; refine (isFar_any _ _).mono ?_; rintro e w1 ⟨rfl, rfl⟩; rw [HX.out])
        refine bodyPost_ret (v := .tuple #[.int .i64 0, .agg #[.int .i64 2, .int .i64 k]]) (by simp [results, Tryd.results12, go_sem, c0, c1]) rfl ?_
        rw [HFar.out (by rw [HS.out]; omega), HS.out]
        exact ⟨rfl, (hbw.setCell (by simp) _).setCell (by simp) _⟩
    · obtain rfl : k = n := by omega
      have hS : Hid (farIdx 0 l = -1) := by unfold Hid at HK ⊢; rw [← HK, List.drop_eq_nil_of_le (by have := HN.out; omega)]; rfl
      have hall : l.take k = l := List.take_of_length_le (by have := HN.out; omega)
      rw [hall] at ho
      have hfar := (farIdx_neg l 0 (by omega)).1 (by rw [hS.out]; omega)
      have hfx : ∀ j, j < k → -1000000 ≤ (sortL l).getD j 0 ∧ (sortL l).getD j 0 ≤ 1000000 := fun j hj => by
        have := hfar _ ((sortL_perm l).mem_iff.1 (getD_mem (x := sortL l) (k := j) (by rw [sortL_length]; have := HN.out; omega)))
        simp only [farB, decide_eq_false_iff_not] at this; omega
      have b1 := hfx q (by omega)
      have b2 := hfx (k - 1 - q) (by omega)
      have HM : Hid (midV l q = ((sortL l).getD q 0 + (sortL l).getD (k - 1 - q) 0) / 2) := by unfold Hid; rw [midV, HN.out]
      have HSL : (sortL l).length = k := by rw [sortL_length]; exact HN.out
      obtain ⟨ao, co, rfl⟩ := owned_shape ho
      obtain ⟨ra, _, na, _⟩ := RowAt.owned ho
      obtain ⟨bx, ox, rfl, hbx, p0⟩ := ra.intG q (by omega)
      obtain ⟨bx', ox', e', _, p1⟩ := ra.intG (k - 1 - q) (by omega)
      injection e' with e'; injection e' with e1' e2'; subst e1' e2'
      clear HK hall hfar hfx ho ra HSL hnil
      generalize hA : (sortL l).getD q 0 = A at *
      generalize hB : (sortL l).getD (k - 1 - q) 0 = B at *
      clear hA hB
      have w1' : IntKind.i64.wrap (A + B) = A + B := IntWalk.i64_in _ (by omega)
      have w2' : IntKind.i64.wrap ((k : Int) - 1) = (k : Int) - 1 := IntWalk.i64_in _ (by omega)
      have w3' : IntKind.i64.wrap ((k : Int) - 1 - (q : Int)) = (k : Int) - 1 - (q : Int) := IntWalk.i64_in _ (by omega)
      have w4' : ((k : Int) - 1 - (q : Int)).toNat = k - 1 - q := by omega
      have i1 : (q : Int) < (k : Int) := by omega
      have i2 : (0 : Int) ≤ (k : Int) - 1 - (q : Int) := by omega
      have i3 : (k : Int) - 1 - (q : Int) < (k : Int) := by omega
      go_wp2
      go_quiet (fail)
      clear w1' w2' w3' w4'
      obtain ⟨W1, hW1⟩ : ∃ W1, W1 = wr.drewN nq := ⟨_, rfl⟩
      rw [← hW1]
      have hbW1 : Below wr.heap.size wr W1 := by rw [hW1]; exact below_drewN (Below.refl _ _) _
      have hbF := onto' hbw hbW1
      obtain ⟨c0, c1, f0, f1, z0⟩ := keep2 hbW1 z0 c0 c1 f0 f1
      clear hW1
      by_cases hneg : A + B < 0
      · have hh := Lib.hid (half_below (A + B) hneg)
        have hd1 : 0 ≤ (1 - (A + B)) / 2 := by omega
        have hd2 : (1 - (A + B)) / 2 ≤ 2000001 := by omega
        go_wp2_with (go_at_call 45; refine (fine_any _).mono ?_; rintro e w5 ⟨rfl, hb5⟩; obtain ⟨c0, c1, f0, f1, z5⟩ := keep2 hb5 z0 c0 c1 f0 f1)
        refine bodyPost_ret (v := .tuple #[.int .i64 (-((1 - (A + B)) / 2)), .agg #[.int .i64 0, .int .i64 (-1)]]) (by simp [results, Tryd.results12, go_sem, c0, c1]) rfl ?_
        rw [HOk.out (by rw [hS.out]; omega), HM.out, hh.out]
        exact ⟨rfl, ((onto' hbF hb5).setCell (by simp) _).setCell (by simp) _⟩
      · go_wp2_with (go_at_call 45; refine (fine_any _).mono ?_; rintro e w5 ⟨rfl, hb5⟩; obtain ⟨c0, c1, f0, f1, z5⟩ := keep2 hb5 z0 c0 c1 f0 f1)
        refine bodyPost_ret (v := .tuple #[.int .i64 ((A + B) / 2), .agg #[.int .i64 0, .int .i64 (-1)]]) (by simp [results, Tryd.results12, go_sem, c0, c1]) rfl ?_
        rw [HOk.out (by rw [hS.out]; omega), HM.out]
        exact ⟨rfl, ((onto' hbF hb5).setCell (by simp) _).setCell (by simp) _⟩
theorem midOf_any (a : Option Addr) (n cap : Nat) (l : List Int) (k : Int) (w : World) (hn : l.length = n) (hr : RowAt w a (encInts l)) (hc : n ≤ 1000) :
    Calls Tryd.prog 12 #[.slice a n cap, .int .i64 k] w fun e w' => e = .returned (.tuple #[.int .i64 (midF l k).1, .agg #[.int .i64 (midF l k).2.1, .int .i64 (midF l k).2.2]]) ∧ Below w.heap.size w w' := by
  by_cases h : k < 0 ∨ (n : Int) < k ∨ (n : Int) < 2 * k + 1
  · have hm : midF l k = (0, 2, -1) := by
      have hcF : clockF l k = (2, -1) := by rw [clockF, hn, if_pos h]
      rw [midF, hcF, if_neg (by simp)]
    rw [hm]; exact midOf_bound a n cap k w hc h
  · obtain ⟨q, rfl⟩ : ∃ q : Nat, k = q := ⟨k.toNat, by omega⟩
    exact midOf_ok a n cap l q w hn hr hc (by omega)
/-- Spread's plain law. -/
theorem spread_law (l : List Int) (m : Int) (h1 : ∀ a, a < l.length → ∀ b, b < l.length → l.getD a 0 - l.getD b 0 ≤ m)
    (h2 : m = 0 ∨ ∃ a b, a < l.length ∧ b < l.length ∧ m = l.getD a 0 - l.getD b 0) : spreadF l = m := by
  rw [spreadF]
  split
  · rename_i hl
    subst hl
    rcases h2 with h | ⟨a, _, ha, _⟩
    · exact h.symm
    · simp at ha
  · rename_i hl
    obtain ⟨hM, hM'⟩ := maxOf_max hl
    obtain ⟨hm, hm'⟩ := minOf_min hl
    obtain ⟨i, hi, ei⟩ := List.mem_iff_getElem.1 hM
    obtain ⟨j, hj, ej⟩ := List.mem_iff_getElem.1 hm
    have h3 := h1 i hi j hj
    rw [List.getD_eq_getElem?_getD, List.getD_eq_getElem?_getD, List.getElem?_eq_getElem hi, List.getElem?_eq_getElem hj, Option.getD_some, Option.getD_some, ei, ej] at h3
    have h4 := hm' _ hM
    rcases h2 with h | ⟨a, b, ha, hb, h⟩
    · omega
    · have h5 := hM' _ (getD_mem ha)
      have h6 := hm' _ (getD_mem hb)
      omega
theorem spreadOf_any (a : Option Addr) (n cap : Nat) (l : List Int) (w : World) (hn : l.length = n) (hr : RowAt w a (encInts l)) (hc : n ≤ 1000) (hfar : ∀ x ∈ l, farB x = false) :
    Calls Tryd.prog 17 #[.slice a n cap] w fun e w' => e = .returned (.int .i64 (spreadF l)) ∧ Below w.heap.size w w' := by
  have HL : Hid (∀ m : Int, (∀ a, a < n → ∀ b, b < n → l.getD a 0 - l.getD b 0 ≤ m) → (m = 0 ∨ ∃ a b, a < n ∧ b < n ∧ m = l.getD a 0 - l.getD b 0) → spreadF l = m) := by
    unfold Hid; rw [← hn]; exact spread_law l
  by_cases h0 : n = 0
  · subst h0
    have HS : Hid (spreadF l = 0) := HL.out 0 (fun a h => by omega) (Or.inl rfl)
    clear HL hfar hr hn
    go_enter Tryd.func17, Tryd.ntmps17
    go_wp2
    refine wp_loop_rounds 1 ?_
    rw [rounds_succ]
    go_wp2
    go_ret
    exact ⟨ret_int HS.out.symm, Below.refl _ _⟩
  · obtain ⟨b, off, rfl, hbl, hcells⟩ := hr.at (fun e => by have h1 := encInts_length l; rw [e, hn] at h1; simp at h1; omega)
    have HC := Lib.hid (fun (j : Nat) (hj : j < n) => show w.cell? ⟨b, off + j, none⟩ = some (.int .i64 (l.getD j 0)) from hcells j _ (by simp [encInts, List.getD_eq_getElem?_getD, hn, hj]))
    have HF : Hid (∀ j, j < n → -1000000 ≤ l.getD j 0 ∧ l.getD j 0 ≤ 1000000) := fun j hj => by
      have := hfar _ (getD_mem (x := l) (k := j) (by omega))
      simp only [farB, decide_eq_false_iff_not] at this; omega
    clear hfar hcells hr hn
    go_enter Tryd.func17, Tryd.ntmps17
    go_wp2
    go_loopw [3, 4] (fun t i wr => ∃ (m : Int) (k : Nat), k ≤ n ∧ t = .int .i64 m ∧ i = .int .i64 k ∧ Hid (∀ a, a < k → ∀ b, b < n → l.getD a 0 - l.getD b 0 ≤ m) ∧ Hid (m = 0 ∨ ∃ a b, a < n ∧ b < n ∧ m = l.getD a 0 - l.getD b 0) ∧ Below w.heap.size w wr) (fun _ i _ => n - (intOf i).toNat)
    case atStart => exact ⟨0, 0, Nat.zero_le _, rfl, rfl, fun a h => by omega, Or.inl rfl, Below.refl _ _⟩
    case round =>
      obtain ⟨m, k, hk, rfl, rfl, HA, HB, hbw⟩ := hrel
      by_cases hlt : k < n
      · have hi0 : (0 : Int) ≤ (k : Int) := by omega
        have hi1 : (k : Int) < (n : Int) := by omega
        go_wp2
        go_loopw [3, 5] (fun t i wr => ∃ (m' : Int) (j : Nat), j ≤ n ∧ t = .int .i64 m' ∧ i = .int .i64 j ∧ m ≤ m' ∧ Hid (∀ b, b < j → l.getD k 0 - l.getD b 0 ≤ m') ∧ Hid (m' = 0 ∨ ∃ a b, a < n ∧ b < n ∧ m' = l.getD a 0 - l.getD b 0) ∧ Below w.heap.size w wr) (fun _ i _ => n - (intOf i).toNat)
        case atStart => exact ⟨m, 0, Nat.zero_le _, rfl, rfl, Int.le_refl _, fun a h => by omega, HB, hbw⟩
        case round =>
          obtain ⟨m', j, hj, rfl, rfl, hmm, HD, HE, hbv⟩ := hrel
          by_cases hlt2 : j < n
          · have hj0 : (0 : Int) ≤ (j : Int) := by omega
            have hj1 : (j : Int) < (n : Int) := by omega
            have dk := (hbv.cell (p := ⟨b, off + k, none⟩) hbl).trans (HC.out k hlt)
            have dj := (hbv.cell (p := ⟨b, off + j, none⟩) hbl).trans (HC.out j hlt2)
            have f1 := HF.out k hlt
            have f2 := HF.out j hlt2
            have HX : Hid (∃ a b, a < n ∧ b < n ∧ l.getD k 0 - l.getD j 0 = l.getD a 0 - l.getD b 0) := ⟨k, j, hlt, hlt2, rfl⟩
            have HY : Hid (∀ M : Int, m' ≤ M → l.getD k 0 - l.getD j 0 ≤ M → ∀ b, b < j + 1 → l.getD k 0 - l.getD b 0 ≤ M) := fun M h1 h2 b hb => by
              by_cases e : b = j
              · subst e; exact h2
              · exact Int.le_trans (HD.out b (by omega)) h1
            generalize l.getD k 0 = x at *
            generalize l.getD j 0 = y at *
            have hw : IntKind.i64.wrap (x - y) = x - y := IntWalk.i64_in _ (by omega)
            by_cases hgt : m' < x - y
            · have hdl : decide (m' < x - y) = true := by simpa using hgt
              go_wp2
              go_quiet (fail)
              clear hw
              go_wp2
              go_quiet (fail)
              go_wp2
              go_roundw
              case rel => exact ⟨x - y, j + 1, by omega, rfl, by go_num, by omega, HY.out _ (by omega) (Int.le_refl _), Or.inr HX.out, by first | exact below_drewN hbv _ | exact below_drewN (below_drewN hbv _) _ | exact (below_drewN hbv _).drew | exact below_drewN hbv.drew _⟩
              case measure => simp [intOf]; omega
            · have hdl : decide (m' < x - y) = false := by simpa using hgt
              go_wp2
              go_quiet (fail)
              clear hw
              go_wp2
              go_roundw
              case rel => exact ⟨m', j + 1, by omega, rfl, by go_num, by omega, HY.out _ (Int.le_refl _) (by omega), HE, below_drewN hbv _⟩
              case measure => simp [intOf]; omega
          · obtain rfl : j = n := by omega
            go_wp2
            go_roundw
            case rel => exact ⟨m', k + 1, by omega, rfl, by go_num, fun a ha b hb => by
                by_cases e : a = k
                · subst e; exact HD.out b hb
                · exact Int.le_trans (HA.out a (by omega) b hb) hmm, HE, hbv⟩
            case measure => simp [intOf]; omega
      · obtain rfl : k = n := by omega
        have HS := Lib.hid (HL.out m HA.out HB.out)
        go_wp2
        go_ret
        exact ⟨ret_int HS.out.symm, hbw⟩
end Go.Proofs.YtlpgafpmhihneaaDoor
