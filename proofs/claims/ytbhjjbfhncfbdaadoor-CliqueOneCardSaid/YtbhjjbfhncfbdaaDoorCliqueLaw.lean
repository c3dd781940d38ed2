/- CliqueOne: the law's walk. -/
import Derived.Test.YtbhjjbfhncfbdaaDoorCliqueFact
import Derived.Test.YtbhjjbfhncfbdaaDoorCliquePlain
import Derived.Test.YtbhjjbfhncfbdaaDoorAppend
namespace Go.Proofs.YtbhjjbfhncfbdaaDoor
open Go.RowKit

theorem info_entry : (Tryd.prog.info? 29).map (fun i => (i.zero, i.size, i.bytes)) = some (some (.agg #[.int .i64 0, .int .i64 0, .bool false, .int .i64 0]), 4, 32) := by kernel_rfl

theorem clique_long (ea : Nat → Addr) (a a2 : Option Addr) (n cap n2 cap2 : Nat) (r : Int) (w : World) (hg : Glob w ea [7, 10, 4, 2, 3]) (hc : n ≤ 4611686018427387904) (h : 60 < n) :
    Calls Tryd.prog 3 #[.slice a n cap, .slice a2 n2 cap2, .int .i64 r] w fun e w' => e = .returned (.bool true) ∧ Below w.heap.size w w' := by
  go_enter Tryd.func3, Tryd.ntmps3
  go_wp2_with (go_at_call 9; refine (cliqued_any ea _ hg).mono ?_; rintro e w1 ⟨rfl, hb⟩)
  go_ret
  exact ⟨rfl, hb⟩

theorem clique_bad (ea : Nat → Addr) (a a2 : Option Addr) (n cap n2 cap2 : Nat) (es : List Ent) (r : Int) (w : World) (hg : Glob w ea [7, 10, 4, 2, 3]) (hn : es.length = n) (hr : RowAt w a (encEnts es)) (h : n ≤ 60) (h0 : (chk es).1 ≠ 0) :
    Calls Tryd.prog 3 #[.slice a n cap, .slice a2 n2 cap2, .int .i64 r] w fun e w' => e = .returned (.bool true) ∧ Below w.heap.size w w' := by
  have H0 := Lib.hid h0
  clear h0
  go_enter Tryd.func3, Tryd.ntmps3
  go_wp2_with (first
    | (go_at_call 9; refine (cliqued_any ea _ hg).mono ?_; rintro e w1 ⟨rfl, hb⟩)
    | (go_at_call 10; refine (check_any ea _ _ _ es _ (hg.below hb) hn (hr.below hb) (by omega)).mono ?_; rintro e w2 ⟨v, rfl, hE, hb2⟩; obtain ⟨t, x, rfl⟩ := hE.held H0.out))
  go_ret
  exact ⟨rfl, hb.trans (hb2.mono hb.size)⟩

set_option maxHeartbeats 1600000 in
set_option maxRecDepth 100000 in
theorem clique_law (ea : Nat → Addr) (a a2 : Option Addr) (n cap n2 cap2 : Nat) (es : List Ent) (ws : List Int) (r : Int) (w : World) (hg : Glob w ea [7, 10, 4, 2, 3]) (hn : es.length = n) (hr : RowAt w a (encEnts es))
    (hn2 : ws.length = n2) (hr2 : RowAt w a2 (encInts ws)) (hc2 : n2 ≤ 4611686018427387904) (h : n ≤ 60) (h0 : (chk es).1 = 0) :
    Calls Tryd.prog 3 #[.slice a n cap, .slice a2 n2 cap2, .int .i64 r] w fun e w' => e = .returned (.bool true) ∧ Below w.heap.size w w' := by
  have H0 := Lib.hid h0
  clear h0
  obtain ⟨i0, hi, hz0, hz1, hz2⟩ := info_parts info_entry
  have hi' := Lib.hid hi
  have hz0' := Lib.hid hz0
  have hz1' := Lib.hid hz1
  have hz2' := Lib.hid hz2
  clear hi hz0 hz1 hz2
  go_enter Tryd.func3, Tryd.ntmps3
  go_wp2_with (first
    | (go_at_call 9; refine (cliqued_any ea _ hg).mono ?_; rintro e w1 ⟨rfl, hb⟩)
    | (go_at_call 10; refine (check_any ea _ _ _ es _ (hg.below hb) hn (hr.below hb) (by omega)).mono ?_; rintro e w2 ⟨v, rfl, hE, hb2⟩; rw [H0.out] at hE; obtain rfl := hE.nil))
  have hb3 : Below w.heap.size w w2 := hb.trans (hb2.mono hb.size)
  clear hE hb hb2
  go_loopw [8, 9, 10] (fun va vb i wr => ∃ k : Nat, k ≤ n ∧ i = .int .i64 k ∧ wr.ownsRow w.heap.size 29 4 va k (encEnts ((sideF ws true 0 es).take k)) ∧ wr.ownsRow w.heap.size 29 4 vb k (encEnts ((sideF ws false 0 es).take k))
      ∧ Hid (va.ownBlock = none ∨ va.ownBlock ≠ vb.ownBlock) ∧ Below w.heap.size w wr) (fun _ _ i _ => n - (intOf i).toNat)
  case atStart => exact ⟨0, Nat.zero_le _, rfl, World.ownsRow_nil _ _ _ _, World.ownsRow_nil _ _ _ _, Or.inl rfl, hb3⟩
  case round =>
    obtain ⟨k, hk, rfl, hoa, hob, hd, hbr⟩ := hrel
    by_cases hlt : k < n
    · have hkt : k < es.length := by omega
      obtain ⟨b, off, rfl, hbl, c0, c1, c2, c3⟩ := (hr.below hbr).ent k hkt
      have hsa := Lib.hid (sideF_snoc ws true es k hkt)
      have hsb := Lib.hid (sideF_snoc ws false es k hkt)
      have hsz := hbr.size
      generalize es[k] = ek at *
      by_cases hw : (k : Int) ∈ ws
      · have HW := Lib.hid hw
        clear hw
        have hne1 := Lib.hid (own_ne hoa (b := wr.heap.size + 1) (by omega))
        go_wp2_with (first
          | (go_at_call 11; refine (inInts_any _ _ _ _ ws _ hn2 ?_ hc2).mono ?_; exact hr2.below ((hbr.alloc hsz _).alloc (by simp; omega) _); rintro e w4 ⟨rfl, rfl⟩; simp only [HW.out, decide_true])
          | (at_builtin; refine wpList_append2 _ rfl (.tmp 50) (.tmp 52) 22 rfl w.heap.size 29 i0 _ 4 32 Tryd.underlying22 hi'.out hz0'.out hz1'.out hz2'.out rfl (by decide) u8 k (encEnts ((sideF ws true 0 es).take k)) rfl ?_ _ 1 1 (ek).cells rfl rfl ?_ ?_ ?_ ?_ ?_ ?_; exact ((hoa.alloc _).alloc _).alloc _; exact RowAt.new_at _ (ek).cells _ _ (by simp); exact Ent.one _; unfold maxLen; omega; omega; (simp; omega); intro v1 w5 ho1 hg1 hq hm1; clear hq; have d0 := grown_cell hg1 (b := wr.heap.size + 1) (i := 0) (v := .int .i64 k) (by go_simp) hne1.out; have d1 := grown_cell hg1 (b := wr.heap.size + 1) (i := 1) (v := .int .i64 ek.frm) (by go_simp) hne1.out; have d2 := grown_cell hg1 (b := wr.heap.size + 1) (i := 2) (v := .bool false) (by go_simp) hne1.out; have d3 := grown_cell hg1 (b := wr.heap.size + 1) (i := 3) (v := .int .i64 0) (by go_simp) hne1.out; have hob5 := (((hob.alloc _).alloc _).alloc _).kept hg1 (apart_symm hd.out); have hbr5 := (((hbr.alloc hsz _).alloc (by simp; omega) _).alloc (by simp; omega) _).grown hg1 (by simp; omega) (fun j e => (hoa.lt j e).1); have hd1 := Lib.hid (apart_first hd.out hob (by simp; omega) hm1); have hsz5 : wr.heap.size + 3 ≤ w5.heap.size := (by have := hg1.size; simp at this; omega); clear hm1 hg1)
          | (at_builtin; refine wpList_append2 _ rfl (.tmp 54) (.tmp 56) 22 rfl w.heap.size 29 i0 _ 4 32 Tryd.underlying22 hi'.out hz0'.out hz1'.out hz2'.out rfl (by decide) u9 k (encEnts ((sideF ws false 0 es).take k)) rfl ?_ _ 1 1 ((⟨k, ek.frm, false, 0⟩ : Ent)).cells rfl rfl ?_ ?_ ?_ ?_ ?_ ?_; exact hob5.alloc _; exact RowAt.new_at _ ((⟨k, ek.frm, false, 0⟩ : Ent)).cells _ _ (by simp); exact Ent.one _; unfold maxLen; omega; omega; (simp; omega); intro v2 w6 ho2 hg2 hq hm2; clear hq; have hoa6 := (ho1.alloc _).kept hg2 hd1.out; have hbr6 := (hbr5.alloc (by omega) _).grown hg2 (by simp; omega) (fun j e => (hob5.lt j e).1); have hd2 := Lib.hid (apart_second hd1.out ho1 (by simp) hm2); clear hm2 hg2))
        go_roundw
        case rel => exact ⟨k + 1, by omega, by go_num, by rw [hsa.out, encEnts_snoc]; simpa [HW.out] using hoa6, by rw [hsb.out, encEnts_snoc]; simpa [HW.out] using ho2, hd2, hbr6⟩
        case measure => simp [intOf]; omega
      · have HW := Lib.hid hw
        clear hw
        have hne1 := Lib.hid (own_ne hoa (b := wr.heap.size) (by omega))
        go_wp2_with (first
          | (go_at_call 11; refine (inInts_any _ _ _ _ ws _ hn2 ?_ hc2).mono ?_; exact hr2.below ((hbr.alloc hsz _).alloc (by simp; omega) _); rintro e w4 ⟨rfl, rfl⟩; simp only [HW.out, decide_false])
          | (at_builtin; refine wpList_append2 _ rfl (.tmp 58) (.tmp 60) 22 rfl w.heap.size 29 i0 _ 4 32 Tryd.underlying22 hi'.out hz0'.out hz1'.out hz2'.out rfl (by decide) u8 k (encEnts ((sideF ws true 0 es).take k)) rfl ?_ _ 1 1 ((⟨k, ek.frm, false, 0⟩ : Ent)).cells rfl rfl ?_ ?_ ?_ ?_ ?_ ?_; exact ((hoa.alloc _).alloc _).alloc _; exact RowAt.new_at _ ((⟨k, ek.frm, false, 0⟩ : Ent)).cells _ _ (by simp); exact Ent.one _; unfold maxLen; omega; omega; (simp; omega); intro v1 w5 ho1 hg1 hq hm1; clear hq; have d0 := grown_cell hg1 (b := wr.heap.size) (i := 0) (v := .int .i64 ek.slot) (by go_simp) hne1.out; have d1 := grown_cell hg1 (b := wr.heap.size) (i := 1) (v := .int .i64 ek.frm) (by go_simp) hne1.out; have d2 := grown_cell hg1 (b := wr.heap.size) (i := 2) (v := .bool ek.heard) (by go_simp) hne1.out; have d3 := grown_cell hg1 (b := wr.heap.size) (i := 3) (v := .int .i64 ek.value) (by go_simp) hne1.out; have hob5 := (((hob.alloc _).alloc _).alloc _).kept hg1 (apart_symm hd.out); have hbr5 := (((hbr.alloc hsz _).alloc (by simp; omega) _).alloc (by simp; omega) _).grown hg1 (by simp; omega) (fun j e => (hoa.lt j e).1); have hd1 := Lib.hid (apart_first hd.out hob (by simp; omega) hm1); have hsz5 : wr.heap.size + 3 ≤ w5.heap.size := (by have := hg1.size; simp at this; omega); clear hm1 hg1)
          | (at_builtin; refine wpList_append2 _ rfl (.tmp 62) (.tmp 64) 22 rfl w.heap.size 29 i0 _ 4 32 Tryd.underlying22 hi'.out hz0'.out hz1'.out hz2'.out rfl (by decide) u9 k (encEnts ((sideF ws false 0 es).take k)) rfl ?_ _ 1 1 (ek).cells rfl rfl ?_ ?_ ?_ ?_ ?_ ?_; exact hob5.alloc _; exact RowAt.new_at _ (ek).cells _ _ (by simp); exact Ent.one _; unfold maxLen; omega; omega; (simp; omega); intro v2 w6 ho2 hg2 hq hm2; clear hq; have hoa6 := (ho1.alloc _).kept hg2 hd1.out; have hbr6 := (hbr5.alloc (by omega) _).grown hg2 (by simp; omega) (fun j e => (hob5.lt j e).1); have hd2 := Lib.hid (apart_second hd1.out ho1 (by simp) hm2); clear hm2 hg2))
        go_roundw
        case rel => exact ⟨k + 1, by omega, by go_num, by rw [hsa.out, encEnts_snoc]; simpa [HW.out] using hoa6, by rw [hsb.out, encEnts_snoc]; simpa [HW.out] using ho2, hd2, hbr6⟩
        case measure => simp [intOf]; omega
    · obtain rfl : k = n := by omega
      have ta : (sideF ws true 0 es).take k = sideF ws true 0 es := List.take_of_length_le (by rw [sideF_length]; omega)
      have tb : (sideF ws false 0 es).take k = sideF ws false 0 es := List.take_of_length_le (by rw [sideF_length]; omega)
      rw [ta] at hoa
      rw [tb] at hob
      clear ta tb
      obtain ⟨aa, ca, rfl⟩ := owned_shape hoa
      obtain ⟨ab, cb, rfl⟩ := owned_shape hob
      obtain ⟨ra, _, na, ma⟩ := RowAt.owned hoa
      obtain ⟨rb, _, nb, mb⟩ := RowAt.owned hob
      have ka := Lib.hid (chk_side ws true es H0.out)
      have kb := Lib.hid (chk_side ws false es H0.out)
      have la := Lib.hid (sideF_length ws true 0 es)
      have lb := Lib.hid (sideF_length ws false 0 es)
      have hos := Lib.hid (one_stays ws r es)
      have hgr := hg.below hbr
      generalize sideF ws true 0 es = A at *
      generalize sideF ws false 0 es = B at *
      have hca : k ≤ 4611686018427387904 := by omega
      have hcb := hca
      clear hoa hob hd
      by_cases hround : 1 ≤ r ∧ r ≤ 32
      · have C1 := Lib.hid (stays_ok ea aa k ca A r wr hgr (by rw [la.out]; exact hn) ra na hca (by rw [ka.out]) hround.1 hround.2)
        have C2 := Lib.hid (fun (W : World) (hb : Below wr.heap.size wr W) => stays_ok ea ab k cb B r W (hgr.below hb) (by rw [lb.out]; exact hn) (rb.below hb) nb hcb (by rw [kb.out]) hround.1 hround.2)
        clear ra rb
        go_wp2_with fail
        refine C1.out.mono ?_
        rintro e w4 ⟨rfl, hb4⟩
        go_wp2_with fail
        refine (C2.out _ hb4).mono ?_
        rintro e w5 ⟨rfl, hb5⟩
        have hbf := hbr.trans ((hb4.trans (hb5.mono hb4.size)).mono hbr.size)
        have hos' := hos.out
        clear hb4 hb5
        cases hp : staysB r A
        · go_wp2
          go_ret
          exact ⟨rfl, hbf⟩
        · rw [hp, Bool.true_and] at hos'
          rw [hos']
          clear hos' hp
          go_wp2
          go_ret
          exact ⟨rfl, hbf⟩
      · have C1 := Lib.hid (stays_round ea aa k ca A r wr hgr (by rw [la.out]; exact hn) ra na hca (by rw [ka.out]) hround)
        have C2 := Lib.hid (fun (W : World) (hb : Below wr.heap.size wr W) => stays_round ea ab k cb B r W (hgr.below hb) (by rw [lb.out]; exact hn) (rb.below hb) nb hcb (by rw [kb.out]) hround)
        have h2 := Lib.hid (errV_pos ea (k := 2) (by decide))
        clear ra rb
        go_wp2_with fail
        refine C1.out.mono ?_
        rintro e w4 ⟨rfl, hb4⟩
        rw [h2.out]
        go_wp2_with fail
        refine (C2.out _ hb4).mono ?_
        rintro e w5 ⟨rfl, hb5⟩
        rw [h2.out]
        have hbf := hbr.trans ((hb4.trans (hb5.mono hb4.size)).mono hbr.size)
        clear hb4 hb5
        by_cases hlo : r < 1
        · go_wp2
          go_ret
          exact ⟨rfl, hbf⟩
        · have hhi : 32 < r := by omega
          clear hround
          go_wp2
          go_ret
          exact ⟨rfl, hbf⟩

/-- The law's walk, whole. -/
theorem walk_CliqueOne (ea : Nat → Addr) (a : Option Addr) (n cap : Nat) (es : List Ent) (a2 : Option Addr) (n2 cap2 : Nat) (ws : List Int) (r : Int) (w : World) (hg : Glob w ea [2, 3, 4, 7, 10])
    (hn : es.length = n) (hr : RowAt w a (encEnts es)) (_hc : n ≤ cap) (hb : n ≤ 4611686018427387904) (hn2 : ws.length = n2) (hr2 : RowAt w a2 (encInts ws)) (_hc2 : n2 ≤ cap2) (hb2 : n2 ≤ 4611686018427387904) (_hx : -9223372036854775808 ≤ r ∧ r ≤ 9223372036854775807) :
    Calls Tryd.prog 3 #[.slice a n cap, .slice a2 n2 cap2, .int .i64 r] w fun e w' => e = .returned (.bool true) ∧ Below w.heap.size w w' := by
  have hg' : Glob w ea [7, 10, 4, 2, 3] := hg.sub (by simp)
  by_cases h : 60 < n
  · exact clique_long ea a a2 n cap n2 cap2 r w hg' hb h
  · by_cases h0 : (chk es).1 = 0
    · exact clique_law ea a a2 n cap n2 cap2 es ws r w hg' hn hr hn2 hr2 hb2 (by omega) h0
    · exact clique_bad ea a a2 n cap n2 cap2 es r w hg' hn hr (by omega) h0
end Go.Proofs.YtbhjjbfhncfbdaaDoor
