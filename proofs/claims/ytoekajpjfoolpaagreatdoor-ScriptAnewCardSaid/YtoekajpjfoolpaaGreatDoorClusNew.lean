/- cluster.New. -/
import Derived.Test.YtoekajpjfoolpaaGreatDoorClusCopy
import Derived.Test.YtoekajpjfoolpaaGreatDoorModeNew
import Derived.Test.YtoekajpjfoolpaaGreatDoorPlan
namespace Go.Proofs.YtoekajpjfoolpaaGreatDoor
open Go.RowKit Go.Maps

set_option maxRecDepth 100000 in
set_option maxHeartbeats 400000 in
theorem cloneInts_own (a : Option Addr) (n cap : Nat) (es : List Int) (w : World) (hn : es.length = n) (hr : RowAt w a (encInts es)) (hc : n ≤ 4398046511104) :
    Calls Tryz.prog 46 #[.slice a n cap] w fun e w' => ∃ a' cap', e = .returned (.slice a' n cap') ∧ w'.ownsRow w.heap.size 3 1 (.slice a' n cap') n (encInts es) ∧ Below w.heap.size w w' := by
  have HN := Lib.hid hn
  obtain ⟨i0, hi, hz0, hz1, hz2⟩ := info_parts info_int
  have hi' := Lib.hid hi
  have hz0' := Lib.hid hz0
  have hz1' := Lib.hid hz1
  have hz2' := Lib.hid hz2
  clear hi hz0 hz1 hz2 hn
  have hq := fun (W : World) (a : Option Addr) (l c : Nat) => Lib.run_eql_slice_nil (P := Tryz.prog) W 22 3 a l c 0 0 Tryz.underlying22
  cases a with
  | none =>
    have hnil : es = [] := by
      rcases hr with h | ⟨b, off, h, _⟩
      · have := encInts_length es; rw [h] at this; exact List.eq_nil_of_length_eq_zero (by simp at this; omega)
      · cases h
    have h0 : n = 0 := by have := HN.out; rw [hnil] at this; exact this.symm
    subst h0
    have HNIL := Lib.hid hnil
    clear hnil
    go_enter Tryz.func46, Tryz.ntmps46
    go_wp2
    go_ret
    exact ⟨none, 0, rfl, by rw [HNIL.out]; exact World.ownsRow_nil _ _ _ _, Below.refl _ _⟩
  | some ad =>
    have hown : (w.alloc (.cells #[] 3)).ownsRow w.heap.size 3 1 (.slice (some ⟨w.heap.size, 0, none⟩) 0 0) 0 [] := World.ownsRow_made w #[] 0 (Nat.le_refl _) (by simp [maxLen]) rfl
    go_enter Tryz.func46, Tryz.ntmps46
    go_wp2_with (at_builtin; refine wpList_append2 _ rfl (.tmp 5) (.tmp 6) 22 rfl w.heap.size 3 i0 _ 1 8 Tryz.underlying22 hi'.out hz0'.out hz1'.out hz2'.out rfl (by decide) (.slice (some ⟨w.heap.size, 0, none⟩) 0 0) 0 [] rfl ?_ _ n cap (encInts es) rfl (by rw [encInts_length, HN.out]; omega) ?_ ?_ ?_ ?_ ?_ ?_; exact hown; exact hr.below ((Below.refl _ _).alloc (Nat.le_refl _) _); exact encInts_one _; unfold maxLen; omega; omega; (simp); intro v1 w5 ho1 hg1 hq hm1; clear hq hm1)
    go_ret
    obtain ⟨a', cap', rfl⟩ := owned_shape ho1
    rw [List.nil_append, Nat.zero_add] at ho1
    refine ⟨a', cap', by simp, ho1, ((Below.refl _ _).alloc (Nat.le_refl _) _).grown hg1 (by simp) (fun j e => ?_)⟩
    simp [Value.ownBlock] at e
    omega

/-- A new cluster's nodes. -/
def newN (ds : List Int) (all : Int) : Int → Option NP := fun i => if i ∈ ds then some ⟨2, 0, all, 0, 0, []⟩ else none
theorem newN_nil (all : Int) : newN [] all = fun _ => none := funext fun i => by simp [newN]
theorem newN_put (ds : List Int) (all i : Int) : putN (newN ds all) i ⟨2, 0, all, 0, 0, []⟩ = newN (ds ++ [i]) all := funext fun j => by
  unfold putN newN
  by_cases e : j = i
  · subst e; simp
  · simp [e]
theorem node_wfN {n : Int} (h : nodeB n = true) : (Lit.int .i64 n).wf = true := by
  simp only [nodeB, decide_eq_true_eq] at h
  have h1 : IntKind.i64.min = -9223372036854775808 := by decide +kernel
  have h2 : IntKind.i64.max = 9223372036854775807 := by decide +kernel
  simp only [Lit.wf, Bool.and_eq_true, decide_eq_true_eq, h1, h2]
  omega
theorem RowAt.frN {S : Nat → Prop} {w w' : World} {a : Option Addr} {cs : List Value} (h : RowAt w a cs) (hf : Fr S w w') (hS : ∀ k, S k → ∃ es clock, w.heap[k]? = some (.map es clock)) : RowAt w' a cs := by
  rcases h with h | ⟨b, off, rfl, hlt, hc⟩
  · exact Or.inl h
  · by_cases hcs : cs = []
    · exact Or.inl hcs
    · obtain ⟨v, r, rfl⟩ := List.exists_cons_of_ne_nil hcs
      have hn : ¬ S b := fun hs => by
        obtain ⟨es, clock, hm⟩ := hS b hs
        have := hc 0 v rfl
        simp [World.cell?, hm] at this
      refine Or.inr ⟨b, off, rfl, Nat.lt_of_lt_of_le hlt hf.size, fun i u hu => ?_⟩
      have h1 := hc i u hu
      simp only [World.cell?, hf.block b hlt hn] at h1 ⊢
      exact h1
theorem pairs_take (k : Nat) (hk : k < 16) : allPairs.take (k + 1) = allPairs.take k ++ [(((k / 4 : Nat) : Int), ((k % 4 : Nat) : Int))] := by
  have h : ∀ k : Fin 16, allPairs.take (k.val + 1) = allPairs.take k.val ++ [(((k.val / 4 : Nat) : Int), ((k.val % 4 : Nat) : Int))] := by decide
  exact h ⟨k, hk⟩

set_option maxRecDepth 100000 in
set_option maxHeartbeats 1600000 in
theorem cNew_bad (ea : Nat → Addr) (a : Option Addr) (n cap : Nat) (l : List Int) (w : World) (hg : Glob w ea [5, 7, 4]) (hn : l.length = n) (hr : RowAt w a (encInts l)) (hc : n ≤ 4611686018427387904) (hb : (planF l).1 ≠ 0) :
    Calls Tryz.prog 10 #[.slice a n cap] w fun e w' => ∃ v, e = .returned (.tuple #[.pointer none, v]) ∧ ErrIs ea w' v (planF l).1 (planF l).2 ∧ Below w.heap.size w w' := by
  have C := Lib.hid (planCrew_any ea a n cap l w hg hn hr hc)
  have HB := Lib.hid hb
  clear hg hn hr hb
  go_enter Tryz.func10, Tryz.ntmps10
  go_wp2_with fail
  refine C.out.mono ?_
  rintro e w1 ⟨v, rfl, hE, hb1⟩
  obtain ⟨t, x, rfl⟩ := hE.held HB.out
  have HE := Lib.hid hE
  clear hE
  go_wp2
  go_ret2
  exact ⟨_, rfl, HE.out, hb1⟩

set_option maxRecDepth 100000 in
set_option maxHeartbeats 6400000 in
theorem cNew_ok (ea : Nat → Addr) (a : Option Addr) (n cap : Nat) (l : List Int) (w : World) (hg : Glob w ea [2, 5, 7, 4]) (hn : l.length = n) (hr : RowAt w a (encInts l)) (hp : (planF l).1 = 0) :
    Calls Tryz.prog 10 #[.slice a n cap] w fun e w' => ∃ L : CL, e = .returned (.tuple #[.pointer (some ⟨L.cb, 0, none⟩), .nilIface]) ∧ ClusAt w' L (CP.new l) ∧ Fresh w.heap.size L ∧ Below w.heap.size w w' := by
  have hpl := planF_ok hp
  have C := Lib.hid (planCrew_any ea a n cap l w (hg.sub (by simp)) hn hr (by omega))
  rw [hpl.1, planCrewF, if_pos hp] at C
  obtain ⟨i0, hi, hz0, hz1, hz2⟩ := info_parts info_pair
  have hi' := Lib.hid hi
  have hz0' := Lib.hid hz0
  have hz1' := Lib.hid hz1
  have hz2' := Lib.hid hz2
  have HG := Lib.hid hg
  have HN := Lib.hid hn
  have HR := Lib.hid hr
  have HPL := Lib.hid hpl
  clear hi hz0 hz1 hz2 hg hn hr hpl hp
  go_enter Tryz.func10, Tryz.ntmps10
  go_wp2_with fail
  refine C.out.mono ?_
  rintro e w1 ⟨v, rfl, hE, hb1⟩
  obtain rfl := hE.nil
  clear hE
  generalize hall : ((crewOf l : Nat) : Int) = all at *
  have HALL := Lib.hid hall
  clear hall C
  go_wp2
  go_loopw [6, 21] (fun v i wr => ∃ k : Nat, k ≤ 4 ∧ i = .int .i64 k ∧ wr.ownsRow w1.heap.size 96 2 v (4 * k) (encPairs (allPairs.take (4 * k))) ∧ Below w1.heap.size w1 wr) (fun _ i _ => 4 - (intOf i).toNat)
  case atStart => exact ⟨0, by omega, rfl, World.ownsRow_nil _ _ _ _, Below.refl _ _⟩
  case round =>
    obtain ⟨k, hk, rfl, ho, hb⟩ := hrel
    by_cases hlt : k < 4
    · have hi1 : (k : Int) < 4 := by omega
      have hk0 : (0 : Int) ≤ (k : Int) := by omega
      obtain ⟨wo, rfl⟩ : ∃ wo : World, wo = wr := ⟨_, rfl⟩
      have HBO := Lib.hid hb
      clear hb
      go_wp2
      go_loopw [6, 24] (fun v j wr => ∃ m : Nat, m ≤ 4 ∧ j = .int .i64 m ∧ wr.ownsRow w1.heap.size 96 2 v (4 * k + m) (encPairs (allPairs.take (4 * k + m))) ∧ Below w1.heap.size w1 wr) (fun _ j _ => 4 - (intOf j).toNat)
      case atStart => exact ⟨0, by omega, rfl, ho, HBO.out⟩
      case round =>
        clear ho
        obtain ⟨m, hm, rfl, ho, hb⟩ := hrel
        by_cases hlm : m < 4
        · have hj1 : (m : Int) < 4 := by omega
          have hm0 : (0 : Int) ≤ (m : Int) := by omega
          have ht := Lib.hid (pairs_take (4 * k + m) (by omega))
          have e1 : (4 * k + m) / 4 = k := by omega
          have e2 : (4 * k + m) % 4 = m := by omega
          have ht2 : Hid (allPairs.take (4 * k + (m + 1)) = allPairs.take (4 * k + m) ++ [((k : Int), (m : Int))]) := by
            have h := ht.out
            rw [e1, e2] at h; exact h
          have HO := Lib.hid ho
          have HB := Lib.hid hb
          have hsz := hb.size
          clear ho hb e1 e2 ht
          go_wp2_with (at_builtin; refine wpList_append2 _ rfl (.tmp 27) (.tmp 31) 94 rfl w1.heap.size 96 i0 _ 2 16 Tryz.underlying94 hi'.out hz0'.out hz1'.out hz2'.out rfl (by decide) u6 (4 * k + m) (encPairs (allPairs.take (4 * k + m))) rfl ?_ (some ⟨wr.heap.size, 0, none⟩) 1 1 (pairC ((k : Int), (m : Int))) rfl rfl ?_ ?_ ?_ ?_ ?_ ?_; exact HO.out.alloc _; exact RowAt.new_at _ (pairC ((k : Int), (m : Int))) _ _ rfl; exact pairC_one _; unfold maxLen; omega; omega; (simp; omega); intro v5 w5 ho5 hg5 hq5 hm5; clear hq5 hm5)
          have hb5 : Below w1.heap.size w1 w5 := (HB.out.alloc hsz _).grown hg5 (by simp; omega) (fun j e => (HO.out.lt j e).1)
          have ho6 : w5.ownsRow w1.heap.size 96 2 v5 (4 * k + (m + 1)) (encPairs (allPairs.take (4 * k + (m + 1)))) := by rw [ht2.out, encPairs_snoc]; exact ho5
          clear ho5 hg5
          go_roundw
          case rel => exact ⟨m + 1, by omega, by go_num, ho6, hb5⟩
          case measure => simp [intOf]; omega
        · obtain rfl : m = 4 := by omega
          have ho6 : wr.ownsRow w1.heap.size 96 2 u6 (4 * (k + 1)) (encPairs (allPairs.take (4 * (k + 1)))) := ho
          have hb6 := hb
          clear ho hb
          go_wp2
          go_roundw
          case rel => exact ⟨k + 1, by omega, by go_num, ho6, hb6⟩
          case measure => simp [intOf]; omega
    · obtain rfl : k = 4 := by omega
      have ho6 : wr.ownsRow w1.heap.size 96 2 u6 16 (encPairs allPairs) := ho
      obtain ⟨pa, pc, rfl⟩ := owned_shape ho6
      have hbr : Below w.heap.size w wr := onto hb1 hb
      have CM : Hid (Calls Tryz.prog 45 #[.slice pa 16 pc] wr fun e w' => ∃ b, e = .returned (.tuple #[.pointer (some ⟨b, 0, none⟩), .nilIface]) ∧ wr.heap.size ≤ b ∧ BoardAt w' b allPairs 0 (-1) ∧ Below wr.heap.size wr w') := by
        refine (new_any ea pa 16 pc allPairs wr ((HG.out.below hbr).sub (by simp)) rfl (ownsRow_at ho6) (by omega)).mono ?_
        rintro e w' (⟨_, b, h1, h2, h3, h4⟩ | ⟨i, hi, hp, _⟩)
        · exact ⟨b, h1, h2, h3, h4⟩
        · have := allPairs_ok _ (List.getElem_mem hi); rw [hp] at this; simp at this
      have HBR := Lib.hid hbr
      clear ho ho6 hb hbr
      go_wp2_with fail
      refine CM.out.mono ?_
      rintro e w5 ⟨bb, rfl, hbb, ⟨mm, hB⟩, hb5⟩
      have hb5' : Below w.heap.size w w5 := onto HBR.out hb5
      have CC := Lib.hid (cloneInts_own a n cap l w5 HN.out (HR.out.below hb5') (by have := HPL.out; have := HN.out; omega))
      have hbb0 : w.heap.size ≤ bb := Nat.le_trans HBR.out.size hbb
      have HBB := Lib.hid hB
      have HB5 := Lib.hid hb5'
      clear hB hb5 hb5' CM
      go_wp2_with fail
      refine CC.out.mono ?_
      rintro e w6 ⟨la, lc, rfl, hol, hb6⟩
      have hmk := @run_makeMap Tryz.prog
      have hb6' : Below w.heap.size w w6 := onto HB5.out hb6
      have hBB6 := HBB.out.kept (below_grows hb6 none) (by simp) (by simp)
      have hmmlt : mm < w6.heap.size := hBB6.2.2.lt
      have HBB6 := Lib.hid hBB6
      have HOL := Lib.hid hol
      have HB6 := Lib.hid hb6'
      clear hb6 hb6' hBB6 hol CC
      go_wp2
      obtain ⟨W7, hW7⟩ : ∃ W7, W7 = (w6.alloc (.map #[] 0)).alloc (.cells #[.slice la n lc, .int .i64 0, .pointer (some ⟨bb, 0, none⟩), .map (some w6.heap.size)] 103) := ⟨_, rfl⟩
      have hb67 : Below w6.heap.size w6 W7 := by rw [hW7]; exact ((Below.refl _ _).alloc (Nat.le_refl _) _).alloc (by simp) _
      have hblk : W7.heap[w6.heap.size + 1]? = some (.cells #[.slice la n lc, .int .i64 0, .pointer (some ⟨bb, 0, none⟩), .map (some w6.heap.size)] 103 (0, 0)) := by
        rw [hW7]
        have h1 := heap_alloc_new (w6.alloc (.map #[] 0)) (.cells #[.slice la n lc, .int .i64 0, .pointer (some ⟨bb, 0, none⟩), .map (some w6.heap.size)] 103)
        simpa using h1
      have hN7 : NodesP W7 w6.heap.size (newN (l.take 0) all) 0 := by
        rw [hW7, List.take_zero, newN_nil]
        exact (NodesP.made w6).below ((Below.refl _ _).alloc (Nat.le_refl _) _)
      have hz7 : W7.heap.size = w6.heap.size + 2 := by rw [hW7]; simp
      rw [← hW7]
      clear hW7 hmk
      have HBLK := Lib.hid hblk
      have HZ7 := Lib.hid hz7
      have HB67 := Lib.hid hb67
      have HM7 := Lib.hid hN7.map
      clear hblk hz7 hb67
      go_loopw [51] (fun i wr => ∃ k q : Nat, k ≤ n ∧ i = .int .i64 k ∧ NodesP wr w6.heap.size (newN (l.take k) all) q ∧ q ≤ k ∧ Fr (fun j => j = w6.heap.size) W7 wr) (fun i _ => n - (intOf i).toNat)
      case atStart => exact ⟨0, 0, Nat.zero_le _, rfl, hN7, Nat.le_refl _, Fr.refl _ _⟩
      case round =>
        clear hN7
        obtain ⟨k, q, hk, rfl, hN, hq, hF⟩ := hrel
        have hn32 : n ≤ 32 := by have := HPL.out; have := HN.out; omega
        by_cases hlt : k < n
        · have hkl : k < l.length := by have := HN.out; omega
          have hrw := ((HR.out.below HB6.out).below HB67.out).frN hF (fun j e => by subst e; exact HM7.out)
          obtain ⟨b, off, rfl, hbl, c0⟩ := hrw.int k hkl
          have hnn := HPL.out.2.2.2 _ (List.getElem_mem hkl)
          have hwn := node_wfN hnn
          have HTK := Lib.hid (List.take_succ_eq_append_getElem hkl)
          have k3 : wr.cell? ⟨w6.heap.size + 1, 3, none⟩ = some (.map (some w6.heap.size)) := by
            have h1 := cell_of_row W7 _ 3 _ _ _ HBLK.out
            have h2 := hF.block (w6.heap.size + 1) (by have := HZ7.out; omega) (by omega)
            simp only [World.cell?, h2] at h1 ⊢
            exact h1
          have hi0 : (0 : Int) ≤ (k : Int) := by omega
          have hi1 : (k : Int) < (n : Int) := by omega
          generalize l[k] = x at *
          have HNx := Lib.hid hN
          have HF := Lib.hid hF
          clear hN hF hrw hkl hnn
          go_wp2_with (at_mapUpdate; refine wpList_put_nodes rfl _ _ _ rfl (mb := w6.heap.size) (g := newN (l.take k) all) (q := q) (i := x) (x := ⟨2, 0, all, 0, 0, []⟩) (sl := .slice none 0 0) rfl HNx.out (by omega) rfl rfl hwn (HRow.nil _) ?_; intro w9 hN9 hg9)
          have hN9' : Hid (∃ q', q' ≤ k + 1 ∧ NodesP w9 w6.heap.size (newN (l.take (k + 1)) all) q') := by
            rw [newN_put, ← HTK.out] at hN9
            refine ⟨_, ?_, hN9⟩
            split <;> omega
          have HF9 : Hid (Fr (fun j => j = w6.heap.size) W7 w9) := HF.out.trans (Fr.grown hg9 (fun k e => by injection e with e; exact e.symm))
          clear hN9 hg9
          obtain ⟨q', hq', hNq⟩ := hN9'
          go_roundw
          case rel => (first | exact ⟨k + 1, q', by omega, by go_num, hNq, hq', HF9.out⟩ | ((repeat apply Exists.intro); exact ⟨⟨k + 1, q', by omega, by go_num, hNq, hq', HF9.out⟩, rfl⟩))
          case measure => simp [intOf]; omega
        · obtain rfl : k = n := by omega
          have hfull : newN (l.take k) all = (CP.new l).f := by
            rw [List.take_of_length_le (by have := HN.out; omega), ← HALL.out]; rfl
          rw [hfull] at hN
          have hb7 : Below w.heap.size w W7 := onto HB6.out HB67.out
          have hbr : Below w.heap.size w wr := hF.base hb7 (fun j e => by rw [e]; exact HB6.out.size)
          have hz := HZ7.out
          have hln := HN.out
          have hA : ClusAt wr ⟨w6.heap.size + 1, bb, w6.heap.size, mm, la, lc⟩ (CP.new l) := by
            have hpl6 : W7.ownsRow 0 3 1 (.slice la l.length lc) l.length (encInts l) := by rw [hln]; exact ownsRow_below (ownsRow_rebase HOL.out (Nat.zero_le _)) HB67.out
            refine ⟨?_, ?_, ?_, ⟨q, by omega, hN⟩, by dsimp only; omega⟩
            · have := (hF.block (w6.heap.size + 1) (by omega) (by omega)).trans HBLK.out
              rw [← hln] at this
              exact this
            · exact ownsRow_fr hpl6 hF (fun j cur hj e => by
                obtain ⟨es2, clock2, hm2⟩ := HM7.out
                rw [e, hm2] at hj; cases hj)
            · exact (HBB6.out.kept (below_grows HB67.out none) (by simp) (by simp)).fr hF (fun e => by have := (Array.getElem?_eq_some_iff.1 HBB6.out.1).1; omega) (by omega)
          have HA := Lib.hid hA
          have HBR2 := Lib.hid hbr
          clear hN hF hfull hb7 hA hbr
          go_wp2
          go_ret2
          exact ⟨_, rfl, HA.out, ⟨by have := HB6.out.size; dsimp only; omega, hbb0, HB6.out.size⟩, HBR2.out⟩
end Go.Proofs.YtoekajpjfoolpaaGreatDoor
