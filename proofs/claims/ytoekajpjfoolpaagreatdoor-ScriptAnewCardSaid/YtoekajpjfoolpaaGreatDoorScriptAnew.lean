/- ScriptAnew: a yard opened anew changes no answer. -/
import Derived.Test.YtoekajpjfoolpaaGreatDoorScriptLaw
import Derived.Test.YtoekajpjfoolpaaGreatDoorRefCut
namespace Go.Proofs.YtoekajpjfoolpaaGreatDoor
open Go.RowKit Go.Maps

/-- A line that cuts no power. -/
def noCut (t : List UInt8) : Prop := (cutL 32 t).getD 0 [] ≠ cutW
theorem play_up {y : YP} (h : y.d.up) {t : List UInt8} (ht : noCut t) : (y.play t).1.d.up := by
  unfold YP.play
  rw [if_neg ht]
  split
  · unfold YP.againP
    split
    · exact ⟨rfl, rfl⟩
    · exact h
  split
  · unfold YP.midP
    split <;> exact h
  split
  · unfold YP.nextP
    split <;> exact h
  split
  · unfold YP.textP
    split <;> exact h
  exact doF_up h t
theorem after_up : ∀ (l : List (List UInt8)) (y : YP), y.d.up → (∀ t ∈ l, noCut t) → (y.after l).d.up
  | [], _, h, _ => h
  | t :: r, y, h, hl => after_up r _ (play_up h (hl t (by simp))) (fun x hx => hl x (List.mem_cons_of_mem _ hx))
/-- 'again' leaves a yard whose power is on as it is. -/
theorem again_same {k : Nat} {y : YP} {dn : List (List UInt8)} (h : InvY k y dn) (hu : y.d.up) : y.play againW = (y, okB, 0) := by
  have h1 : cutL 32 againW = [againW] := by decide +kernel
  unfold YP.play
  rw [h1]
  rw [if_neg (by decide), if_pos (by rfl)]
  unfold YP.againP
  rw [if_pos (by rfl), recsOf_eq h.parse]
  have e := h.flat hu
  obtain ⟨c, d⟩ := y
  dsimp only at e ⊢
  rw [e]
/-- The answers with 'again' between are the same ones, and its own. -/
theorem plays_anew (txt : Nat → List UInt8) (l m : List (List UInt8)) (hlen : l.length ≤ 100) (h150 : ∀ t ∈ l, t.length ≤ 150) (hc : ∀ t ∈ l, noCut t) : YP.new.plays txt (l ++ againW :: m) = YP.new.plays txt l ++ okB :: (YP.new.after l).plays txt m := by
  rw [plays_app]
  obtain ⟨dn, hI⟩ := after_inv l 0 YP.new [] inv_new (by omega) h150
  have h1 := again_same hI (after_up l YP.new ⟨rfl, rfl⟩ hc)
  rw [YP.plays, h1]
  rfl
/-- The lines with 'again' between, as far as they are built. -/
def anewL (l : List (List UInt8)) (m k : Nat) : List (List UInt8) := if k ≤ m then l.take k else l.take m ++ againW :: (l.take k).drop m
theorem anewL_next {l : List (List UInt8)} {m k : Nat} (hk : k < l.length) : anewL l m (k + 1) = (if k = m then anewL l m k ++ [againW] else anewL l m k) ++ [l[k]] := by
  unfold anewL
  have e := List.take_succ_eq_append_getElem hk
  by_cases h1 : k = m
  · subst h1
    rw [if_neg (by omega), if_pos rfl, if_pos (Nat.le_refl _), e, List.drop_append_of_le_length (by rw [List.length_take]; omega), List.drop_eq_nil_of_le (by rw [List.length_take]; omega)]
    simp
  · rw [if_neg h1]
    by_cases h2 : k < m
    · rw [if_pos (by omega), if_pos (by omega), e]
    · rw [if_neg (by omega), if_neg (by omega), e, List.drop_append_of_le_length (by rw [List.length_take]; omega)]
      simp
theorem anewL_len {l : List (List UInt8)} {m k : Nat} (hk : k ≤ l.length) : (anewL l m k).length = if k ≤ m then k else k + 1 := by
  unfold anewL
  split
  · rw [List.length_take]; omega
  · rw [List.length_append, List.length_cons, List.length_drop, List.length_take, List.length_take]; omega
theorem anewL_all {l : List (List UInt8)} {m : Nat} (hm : m < l.length) : anewL l m l.length = l.take m ++ againW :: l.drop m := by
  unfold anewL
  rw [if_neg (by omega), List.take_length]
theorem anewL_none {l : List (List UInt8)} : anewL l l.length l.length = l := by
  unfold anewL
  rw [if_pos (Nat.le_refl _), List.take_length]
theorem anewL_150 {l : List (List UInt8)} {m k : Nat} (h : ∀ t ∈ l, t.length ≤ 150) : ∀ t ∈ anewL l m k, t.length ≤ 150 := by
  unfold anewL
  split
  · exact fun t ht => h t (List.mem_of_mem_take ht)
  · intro t ht
    rcases List.mem_append.1 ht with ht | ht
    · exact h t (List.mem_of_mem_take ht)
    · rcases List.mem_cons.1 ht with rfl | ht
      · decide
      · exact h t (List.mem_of_mem_take (List.mem_of_mem_drop ht))
/-- Each answer is the one of the yard that was not opened anew. -/
theorem anew_answers (txt : Nat → List UInt8) {l : List (List UInt8)} {m : Nat} (hm : m ≤ l.length) (hlen : l.length ≤ 100) (h150 : ∀ t ∈ l, t.length ≤ 150) (hc : ∀ t ∈ l, noCut t) (i : Nat) :
    (YP.new.plays txt (anewL l m l.length))[if m < l.length ∧ m ≤ i then i + 1 else i]? = (YP.new.plays txt l)[i]? := by
  by_cases h1 : m < l.length
  · rw [anewL_all h1, plays_anew txt (l.take m) (l.drop m) (by rw [List.length_take]; omega) (fun t ht => h150 t (List.mem_of_mem_take ht)) (fun t ht => hc t (List.mem_of_mem_take ht))]
    have h2 : YP.new.plays txt l = YP.new.plays txt (l.take m) ++ (YP.new.after (l.take m)).plays txt (l.drop m) := by
      have := plays_app txt (l.take m) (l.drop m) YP.new
      rwa [List.take_append_drop] at this
    have h3 : (YP.new.plays txt (l.take m)).length = m := by rw [plays_len, List.length_take]; omega
    rw [h2]
    by_cases h4 : m ≤ i
    · rw [if_pos ⟨h1, h4⟩, List.getElem?_append_right (by omega), List.getElem?_append_right (by omega), h3, show i + 1 - m = (i - m) + 1 by omega, List.getElem?_cons_succ]
    · rw [if_neg (fun h => h4 h.2), List.getElem?_append_left (by omega), List.getElem?_append_left (by omega)]
  · obtain rfl : m = l.length := by omega
    rw [anewL_none, if_neg (fun h => h1 h.1)]

/-- A row abides what grows another one. -/
theorem row_other {w w' : World} {base size n : Nat} {v : Value} {xs : List Value} {row : Option Nat} (h : w.ownsRow base 9 size v n xs) (hg : w.grownBy w' row) (hne : ∀ g, v.ownBlock = some g → row ≠ some g) : w'.ownsRow base 9 size v n xs := by
  refine h.kept hg ?_
  rcases h.2 with ⟨rfl, _⟩ | ⟨g, cap, cur, rfl, _⟩
  · exact .inl rfl
  · exact .inr fun e => hne g rfl e.symm
theorem apart_moved {w : World} {base size n : Nat} {x x' y : Value} {ys : List Value} (hy : w.ownsRow base 9 size y n ys) (hm : Moved w x x') (ha : ∀ g, x.ownBlock = some g → y.ownBlock ≠ some g) : ∀ g, x'.ownBlock = some g → y.ownBlock ≠ some g := by
  intro g hg e
  have hlt := (hy.lt g e).2
  rcases hm with hm | hm
  · exact ha g (hm ▸ hg) e
  · obtain ⟨j, h1, h2⟩ := hm
    rw [h2] at hg
    injection hg with hg
    omega
theorem encT_lenA (l : List (List UInt8)) : (encTexts l).length = l.length := by simp [encTexts]

set_option maxRecDepth 200000 in
set_option maxHeartbeats 3200000 in
theorem scriptAnew_law (txt : Nat → List UInt8) (ea : Nat → Addr) (a : Option Addr) (n cap : Nat) (l : List (List UInt8)) (m : Nat) (w : World) (hG : GlobC w ea) (hT : TxtEnv w) (hX : ErrTxt txt ea w)
    (hn : l.length = n) (hr : RowAt w a (encTexts l)) (hl : longT l 60 = false) (hm : m ≤ n) :
    Calls Tryz.prog 6 #[.slice a n cap, .int .i64 m] w fun e w' => e = .returned (.bool true) ∧ Below w.heap.size w w' := by
  obtain ⟨h60, h150⟩ := longT_not hl
  obtain ⟨i0, hi, hz0, hz1, hz2⟩ := info_parts ct_info_string
  have hi' := Lib.hid hi
  have hz0' := Lib.hid hz0
  have hz1' := Lib.hid hz1
  have hz2' := Lib.hid hz2
  clear hi hz0 hz1 hz2
  have K0 := Lib.hid (hello_any txt ea w hG hT hX)
  have KL := Lib.hid (fun (W : World) (hb : Below w.heap.size w W) => longLines4_any a n cap l 60 W hn (hr.below hb) (by omega))
  rw [longI_no hl] at KL
  have KR := Lib.hid (fun (W : World) (av : Option Addr) (m cv : Nat) (ls : List (List UInt8)) (hb : Below w.heap.size w W) (hm : ls.length = m) (hrr : RowAt W av (encTexts ls)) (h8 : m ≤ 80) (h15 : ∀ s ∈ ls, s.length ≤ 150) => sRun_any txt ea av m cv ls W (hG.below hb) (hT.below hb) (hX.below hb) hm hrr h8 h15)
  have KC := Lib.hid (fun (W : World) (s : List UInt8) (hs : s.length ≤ 150) => refCut_any s 32 W (by omega))
  rw [show (((32 : UInt8).toNat : Nat) : Int) = 32 from rfl] at KC
  have HR := Lib.hid hr
  have HN := Lib.hid hn
  have H150 := Lib.hid h150
  have d1 : decide ((m : Int) < 0) = false := decide_eq_false (by omega)
  have d2 : decide ((n : Int) < (m : Int)) = false := decide_eq_false (by omega)
  have d3 : decide (n < m) = false := decide_eq_false (by omega)
  have d4 : ¬ ((n : Int) < (m : Int)) := by omega
  rw [hn] at h60
  clear hG hT hX hr hn hl h150
  go_enter Tryz.func6, Tryz.ntmps6
  go_wp2_with fail
  refine K0.out.mono ?_
  rintro e w1 ⟨rfl, hb1⟩
  have K1 := Lib.hid (KL.out w1 hb1)
  go_wp2_with fail
  refine K1.out.mono ?_
  rintro e w2 ⟨rfl, rfl⟩
  clear K0 K1 KL
  have HB1 := Lib.hid hb1
  go_wp2
  go_loopw [6, 7, 8] (fun x yv i wr => ∃ k : Nat, k ≤ n ∧ i = .int .i64 k ∧ Hid (∀ t ∈ l.take k, noCut t) ∧ Hid (wr.ownsRow w.heap.size 9 1 x k (encTexts (l.take k))) ∧ Hid (wr.ownsRow w.heap.size 9 1 yv (anewL l m k).length (encTexts (anewL l m k))) ∧ Hid (∀ g, x.ownBlock = some g → yv.ownBlock ≠ some g) ∧ Hid (Below w.heap.size w wr)) (fun _ _ i _ => n - (intOf i).toNat)
  case atStart => exact ⟨0, Nat.zero_le _, rfl, by unfold Hid; simp, World.ownsRow_nil _ _ _ _, by unfold Hid anewL; rw [if_pos (Nat.zero_le _)]; exact World.ownsRow_nil _ _ _ _, by unfold Hid; simp [Value.ownBlock], HB1⟩
  case round =>
    obtain ⟨k, hk, rfl, hnc, hx, hy, hap, hb⟩ := hrel
    by_cases hlt : k < n
    · have hkt : k < l.length := by have := HN.out; omega
      obtain ⟨b, off, rfl, hbl, cw⟩ := text_at HR.out k hkt
      have hs150 := H150.out _ (List.getElem_mem hkt)
      have c0 := (hb.out.cell (p := ⟨b, off + k, none⟩) hbl).trans cw
      have hi0 : (0 : Int) ≤ (k : Int) := by omega
      have hi1 : (k : Int) < (n : Int) := by omega
      have HTK : Hid (l.take (k + 1) = l.take k ++ [l[k]]) := List.take_succ_eq_append_getElem hkt
      have HAN := Lib.hid (anewL_next (m := m) hkt)
      generalize l[k] = s at *
      have K1 := Lib.hid (KC.out wr s hs150)
      go_wp2_with fail
      refine K1.out.mono ?_
      rintro e w5 ⟨ao, q, co, rfl, hrow, hq, _, hb5⟩
      have hne := cutL_ne 32 s
      have hq0 : 0 < q := by rw [← hq]; exact List.length_pos_iff.2 hne
      obtain ⟨b1, o1, rfl, hb1l, hc1⟩ := hrow.at (fun e => by have h1 := congrArg List.length e; rw [encT_lenA, List.length_nil] at h1; omega)
      have q0 : w5.cell? ⟨b1, o1, none⟩ = some (.string ⟨((cutL 32 s).getD 0 []).toArray⟩) := by
        obtain ⟨x0, r0, e0⟩ := List.exists_cons_of_ne_nil hne
        rw [e0]
        have := hc1 0 (.string ⟨x0.toArray⟩) (by rw [e0]; rfl)
        simpa using this
      have hv5 := onto hb.out hb5
      have c5 := (hv5.cell (p := ⟨b, off + k, none⟩) hbl).trans cw
      have HNC : Hid ((cutL 32 s).getD 0 [] ≠ cutW → ∀ t ∈ l.take (k + 1), noCut t) := fun h t ht => by
        rw [HTK.out] at ht
        rcases List.mem_append.1 ht with ht | ht
        · exact hnc.out t ht
        · rw [List.mem_singleton.1 ht]; exact h
      clear hrow hc1 hq hne K1 c0
      generalize (cutL 32 s).getD 0 [] = w0 at *
      by_cases e0 : w0 = [99, 117, 116]
      · subst e0
        go_wp2
        go_ret
        exact ⟨rfl, hv5⟩
      · have HNC2 := Lib.hid (HNC.out e0)
        have g0 : (w0 == [99, 117, 116]) = false := by simpa using e0
        have hx5 := ownsRow_below hx.out hb5
        have hy5 := ownsRow_below hy.out hb5
        have hlk : (anewL l m k).length ≤ k + 1 := by
          rw [anewL_len (by have := HN.out; omega)]; split <;> omega
        obtain ⟨ax, cx, rfl⟩ := owned_shape hx5
        obtain ⟨ay, cy, rfl⟩ := owned_shape hy5
        clear e0 HNC hnc hx hy hb
        by_cases hkm : k = m
        · have g1 : ((k : Int) == (m : Int)) = true := beq_iff_eq.2 (by omega)
          have hal13 : Below w5.heap.size w5 (w5.alloc (.cells #[.string ⟨#[97, 103, 97, 105, 110]⟩] 9)) := (Below.refl _ _).alloc (Nat.le_refl _) _
          have HW13 := Lib.hid (RowAt.new_at w5 [.string ⟨#[97, 103, 97, 105, 110]⟩] 9 _ rfl)
          have HV13 := Lib.hid (onto hv5 hal13)
          have HY13 := Lib.hid (hy5.alloc (.cells #[.string ⟨#[97, 103, 97, 105, 110]⟩] 9))
          clear hal13
          have HKM := Lib.hid hkm
          clear hkm
          go_wp2_with (first | (at_builtin; refine wpList_append2 _ rfl (.tmp 53) (.tmp 54) 43 rfl w.heap.size 9 i0 _ 1 16 Tryz.underlying43 hi'.out hz0'.out hz1'.out hz2'.out rfl (by decide) _ (anewL l m k).length (encTexts (anewL l m k)) rfl HY13.out (some ⟨w5.heap.size, 0, none⟩) 1 1 [.string ⟨#[97, 103, 97, 105, 110]⟩] rfl rfl HW13.out ?_ ?_ ?_ ?_ ?_; (simp [Value.oneCell']); (unfold maxLen; omega); (omega); (exact HV13.out.size); intro y6 w6 hy6 hg6 hq6 hm6; clear hq6; have hv6 := HV13.out.grown hg6 HV13.out.size (fun j e => (HY13.out.lt j e).1); have c6 := (hv6.cell (p := ⟨b, off + k, none⟩) hbl).trans cw; have hx6 := row_other (hx5.alloc (.cells #[.string ⟨#[97, 103, 97, 105, 110]⟩] 9)) hg6 (fun g e h => hap.out g e h); have hap6' := apart_moved (hx5.alloc (.cells #[.string ⟨#[97, 103, 97, 105, 110]⟩] 9)) hm6 (fun g e h => hap.out g h e); have hap6 := (fun (g : Nat) e h => hap6' g h e); clear hg6 hm6 hap6'; obtain ⟨ay6, cy6, rfl⟩ := owned_shape hy6; have hal14 : Below w6.heap.size w6 (w6.alloc (.cells #[.string ⟨s.toArray⟩] 9)) := (Below.refl _ _).alloc (Nat.le_refl _) _; have HW14 := Lib.hid (RowAt.new_at w6 [.string ⟨s.toArray⟩] 9 _ rfl); have HV14 := Lib.hid (onto hv6 hal14); have HX14 := Lib.hid (hx6.alloc (.cells #[.string ⟨s.toArray⟩] 9)); clear hal14) | (at_builtin; refine wpList_append2 _ rfl (.tmp 56) (.tmp 61) 43 rfl w.heap.size 9 i0 _ 1 16 Tryz.underlying43 hi'.out hz0'.out hz1'.out hz2'.out rfl (by decide) _ k (encTexts (l.take k)) rfl HX14.out (some ⟨w6.heap.size, 0, none⟩) 1 1 [.string ⟨s.toArray⟩] rfl rfl HW14.out ?_ ?_ ?_ ?_ ?_; (simp [Value.oneCell']); (unfold maxLen; omega); (omega); (exact HV14.out.size); intro x1 w7 ho7 hg7 hq7 hm7; clear hq7; have hv7 := HV14.out.grown hg7 HV14.out.size (fun j e => (HX14.out.lt j e).1); have c7 := (hv7.cell (p := ⟨b, off + k, none⟩) hbl).trans cw; have hy7 := row_other (hy6.alloc (.cells #[.string ⟨s.toArray⟩] 9)) hg7 (fun g e h => hap6 g h e); have hap7 := apart_moved (hy6.alloc (.cells #[.string ⟨s.toArray⟩] 9)) hm7 hap6; clear hg7 hm7; have hal15 : Below w7.heap.size w7 (w7.alloc (.cells #[.string ⟨s.toArray⟩] 9)) := (Below.refl _ _).alloc (Nat.le_refl _) _; have HW15 := Lib.hid (RowAt.new_at w7 [.string ⟨s.toArray⟩] 9 _ rfl); have HV15 := Lib.hid (onto hv7 hal15); have HY15 := Lib.hid (hy7.alloc (.cells #[.string ⟨s.toArray⟩] 9)); have HX15 := Lib.hid (ho7.alloc (.cells #[.string ⟨s.toArray⟩] 9)); clear hal15 hy7 ho7) | (at_builtin; refine wpList_append2 _ rfl (.tmp 63) (.tmp 68) 43 rfl w.heap.size 9 i0 _ 1 16 Tryz.underlying43 hi'.out hz0'.out hz1'.out hz2'.out rfl (by decide) _ ((anewL l m k).length + 1) (encTexts (anewL l m k) ++ encTexts [againW]) rfl HY15.out (some ⟨w7.heap.size, 0, none⟩) 1 1 [.string ⟨s.toArray⟩] rfl rfl HW15.out ?_ ?_ ?_ ?_ ?_; (simp [Value.oneCell']); (unfold maxLen; omega); (omega); (exact HV15.out.size); intro y1 w8 ho8 hg8 hq8 hm8; clear hq8; have hv8 := HV15.out.grown hg8 HV15.out.size (fun j e => (HY15.out.lt j e).1); have hx8 := row_other HX15.out hg8 (fun g e h => hap7 g e h); have hap8 := apart_moved HX15.out hm8 (fun g e h => hap7 g h e)))
          go_roundw
          case rel => exact ⟨k + 1, by omega, by go_num, HNC2, by rw [HTK.out, encT_snoc]; exact hx8, by rw [HAN.out, if_pos HKM.out, List.length_append, List.length_append, List.length_singleton, List.length_singleton, encT_snoc, encT_snoc]; exact ho8, fun g e h => hap8 g h e, hv8⟩
          case measure => simp [intOf]; omega
        · skip
          have g1 : ((k : Int) == (m : Int)) = false := beq_eq_false_iff_ne.2 (by omega)
          have hap6 := hap.out
          have hy6 := hy5
          have hal14 : Below w5.heap.size w5 (w5.alloc (.cells #[.string ⟨s.toArray⟩] 9)) := (Below.refl _ _).alloc (Nat.le_refl _) _
          have HW14 := Lib.hid (RowAt.new_at w5 [.string ⟨s.toArray⟩] 9 _ rfl)
          have HV14 := Lib.hid (onto hv5 hal14)
          have HX14 := Lib.hid (hx5.alloc (.cells #[.string ⟨s.toArray⟩] 9))
          clear hal14
          go_wp2_with (first | (at_builtin; refine wpList_append2 _ rfl (.tmp 56) (.tmp 61) 43 rfl w.heap.size 9 i0 _ 1 16 Tryz.underlying43 hi'.out hz0'.out hz1'.out hz2'.out rfl (by decide) _ k (encTexts (l.take k)) rfl HX14.out (some ⟨w5.heap.size, 0, none⟩) 1 1 [.string ⟨s.toArray⟩] rfl rfl HW14.out ?_ ?_ ?_ ?_ ?_; (simp [Value.oneCell']); (unfold maxLen; omega); (omega); (exact HV14.out.size); intro x1 w7 ho7 hg7 hq7 hm7; clear hq7; have hv7 := HV14.out.grown hg7 HV14.out.size (fun j e => (HX14.out.lt j e).1); have c7 := (hv7.cell (p := ⟨b, off + k, none⟩) hbl).trans cw; have hy7 := row_other (hy6.alloc (.cells #[.string ⟨s.toArray⟩] 9)) hg7 (fun g e h => hap6 g h e); have hap7 := apart_moved (hy6.alloc (.cells #[.string ⟨s.toArray⟩] 9)) hm7 hap6; clear hg7 hm7; have hal15 : Below w7.heap.size w7 (w7.alloc (.cells #[.string ⟨s.toArray⟩] 9)) := (Below.refl _ _).alloc (Nat.le_refl _) _; have HW15 := Lib.hid (RowAt.new_at w7 [.string ⟨s.toArray⟩] 9 _ rfl); have HV15 := Lib.hid (onto hv7 hal15); have HY15 := Lib.hid (hy7.alloc (.cells #[.string ⟨s.toArray⟩] 9)); have HX15 := Lib.hid (ho7.alloc (.cells #[.string ⟨s.toArray⟩] 9)); clear hal15 hy7 ho7) | (at_builtin; refine wpList_append2 _ rfl (.tmp 63) (.tmp 68) 43 rfl w.heap.size 9 i0 _ 1 16 Tryz.underlying43 hi'.out hz0'.out hz1'.out hz2'.out rfl (by decide) _ (anewL l m k).length (encTexts (anewL l m k)) rfl HY15.out (some ⟨w7.heap.size, 0, none⟩) 1 1 [.string ⟨s.toArray⟩] rfl rfl HW15.out ?_ ?_ ?_ ?_ ?_; (simp [Value.oneCell']); (unfold maxLen; omega); (omega); (exact HV15.out.size); intro y1 w8 ho8 hg8 hq8 hm8; clear hq8; have hv8 := HV15.out.grown hg8 HV15.out.size (fun j e => (HY15.out.lt j e).1); have hx8 := row_other HX15.out hg8 (fun g e h => hap7 g e h); have hap8 := apart_moved HX15.out hm8 (fun g e h => hap7 g h e)))
          go_roundw
          case rel => exact ⟨k + 1, by omega, by go_num, HNC2, by rw [HTK.out, encT_snoc]; exact hx8, by rw [HAN.out, if_neg hkm, List.length_append, List.length_singleton, encT_snoc]; exact ho8, fun g e h => hap8 g h e, hv8⟩
          case measure => simp [intOf]; omega
    · obtain rfl : k = n := by omega
      have HL : Hid (l.take k = l) := by unfold Hid; rw [← HN.out, List.take_length]
      have hnc' : ∀ t ∈ l, noCut t := by have := hnc.out; rwa [HL.out] at this
      rw [HL.out] at hx
      have HYL : Hid ((anewL l m k).length = if k ≤ m then k else k + 1) := anewL_len (by have := HN.out; omega)
      have HANS := Lib.hid (fun i => anew_answers txt (l := l) (m := m) (by rw [HN.out]; exact hm) (by rw [HN.out]; omega) H150.out hnc' i)
      obtain ⟨ax, cx, rfl⟩ := owned_shape hx.out
      obtain ⟨ay, cy, rfl⟩ := owned_shape hy.out
      have HRX := Lib.hid (RowAt.owned hx.out).1
      have HRY := Lib.hid (RowAt.owned hy.out).1
      have K1 := Lib.hid (KR.out wr ax k cx l hb.out HN.out HRX.out (by omega) H150.out)
      clear hnc hnc' hx hy hap KC
      go_wp2_with fail
      refine K1.out.mono ?_
      rintro e w5 ⟨vx, rfl, ho5, hb5⟩
      have hv5 := onto hb.out hb5
      obtain ⟨a5, c5, rfl⟩ := owned_shape ho5
      have HO5 := Lib.hid (RowAt.owned ho5).1
      obtain ⟨q, hq⟩ : ∃ q, q = (anewL l m k).length := ⟨_, rfl⟩
      rw [← hq] at HYL
      rw [← hq]
      have HQ := Lib.hid hq.symm
      have K2 := Lib.hid (KR.out w5 ay q cy (anewL l m k) hv5 HQ.out (HRY.out.below hb5) (by have := HYL.out; split at this <;> omega) (anewL_150 H150.out))
      clear K1 ho5 hq hb5
      go_wp2_with fail
      refine K2.out.mono ?_
      rintro e w6 ⟨vy, rfl, ho6, hb6⟩
      have hv6 := onto hv5 hb6
      obtain ⟨a6, c6, rfl⟩ := owned_shape ho6
      have HO6 := Lib.hid (RowAt.owned ho6).1
      have HO5' := Lib.hid (HO5.out.below hb6)
      have HV6 := Lib.hid hv6
      clear K2 ho6 hb6 hv5 hv6 HO5
      have hpl : (YP.new.plays txt l).length = k := by rw [plays_len, HN.out]
      have hql : (YP.new.plays txt (anewL l m l.length)).length = q := by rw [plays_len, HN.out, HQ.out]
      rw [show anewL l m k = anewL l m l.length by rw [HN.out]] at HO6
      generalize YP.new.plays txt l = ps at *
      generalize YP.new.plays txt (anewL l m l.length) = qs at *
      have HPL := Lib.hid hpl
      have HQL := Lib.hid hql
      clear hpl hql
      go_wp2
      go_loopw [14] (fun i wr => ∃ j : Nat, j ≤ k ∧ i = .int .i64 j ∧ Below w6.heap.size w6 wr) (fun i _ => k - (intOf i).toNat)
      case atStart => exact ⟨0, Nat.zero_le _, rfl, Below.refl _ _⟩
      case round =>
        obtain ⟨j, hj, rfl, hbj⟩ := hrel
        by_cases hlj : j < k
        · have hjp : j < ps.length := by rw [HPL.out]; exact hlj
          obtain ⟨b5, o5, rfl, hb5l, x0⟩ := text_at (HO5'.out.below hbj) j hjp
          have hA := HANS.out j
          rw [HN.out, List.getElem?_eq_getElem hjp] at hA
          have hQ := HYL.out
          have i0' : (0 : Int) ≤ (j : Int) := by omega
          have i1' : (j : Int) < (k : Int) := by omega
          by_cases hs : m < k ∧ m ≤ j
          · rw [if_pos hs] at hA
            rw [if_neg (by omega)] at hQ
            have hjq : j + 1 < qs.length := by rw [HQL.out]; omega
            obtain ⟨b6, o6, rfl, hb6l, y0⟩ := text_at (HO6.out.below hbj) (j + 1) hjq
            rw [List.getElem?_eq_getElem hjq] at hA
            rw [Option.some.inj hA] at y0
            generalize ps[j] = s1 at *
            have e1 : decide ((k : Int) < (q : Int)) = true := decide_eq_true (by omega)
            have e2 : decide ((m : Int) ≤ (j : Int)) = true := decide_eq_true (by omega)
            have e3 : k < q := by omega
            have e4 : m ≤ j := hs.2
            have i2' : ((j : Int) + 1) < (q : Int) := by omega
            clear hA hs hjp hjq
            have HQ' := Lib.hid hQ
            clear hQ
            go_wp2
            go_quiet (fail)
            go_wp2
            go_roundw
            case rel => exact ⟨j + 1, by omega, by go_num, below_drewN hbj _⟩
            case measure => simp [intOf]; omega
          · rw [if_neg hs] at hA
            have hjq : j < qs.length := by rw [HQL.out]; split at hQ <;> omega
            obtain ⟨b6, o6, rfl, hb6l, y0⟩ := text_at (HO6.out.below hbj) j hjq
            rw [List.getElem?_eq_getElem hjq] at hA
            rw [Option.some.inj hA] at y0
            generalize ps[j] = s1 at *
            have i2' : (j : Int) < (q : Int) := by rw [HQL.out] at hjq; omega
            by_cases hs2 : m < k
            · have hjm : ¬ m ≤ j := fun h => hs ⟨hs2, h⟩
              rw [if_neg (by omega)] at hQ
              have e1 : decide ((k : Int) < (q : Int)) = true := decide_eq_true (by omega)
              have e2 : decide ((m : Int) ≤ (j : Int)) = false := decide_eq_false (by omega)
              have e3 : k < q := by omega
              have HQ' := Lib.hid hQ
              clear hA hs hjp hjq hQ
              go_wp2
              go_quiet (fail)
              go_wp2
              go_roundw
              case rel => exact ⟨j + 1, by omega, by go_num, below_drewN hbj _⟩
              case measure => simp [intOf]; omega
            · rw [if_pos (by omega)] at hQ
              have e1 : decide ((k : Int) < (q : Int)) = false := decide_eq_false (by omega)
              have e3 : ¬ k < q := by omega
              have HQ' := Lib.hid hQ
              clear hA hs hjp hjq hQ
              go_wp2
              go_quiet (fail)
              go_wp2
              go_roundw
              case rel => exact ⟨j + 1, by omega, by go_num, below_drewN hbj _⟩
              case measure => simp [intOf]; omega
        · go_wp2
          go_ret
          exact ⟨rfl, onto HV6.out hbj⟩
set_option maxRecDepth 200000 in
set_option maxHeartbeats 3200000 in
theorem walk_ScriptAnew (ea : Nat → Addr) (a : Option Addr) (n cap : Nat) (l : List (List UInt8)) (cut : Int) (w : World) (hGS : GlobC w ea ∧ ∃ txt, ErrTxt txt ea w) (hT : TxtEnv w)
    (hn : l.length = n) (hr : RowAt w a (encTexts l)) (_hcap : n ≤ cap) (hm : n ≤ 4611686018427387904) (hc : -9223372036854775808 ≤ cut ∧ cut ≤ 9223372036854775807) :
    Calls Tryz.prog 6 #[.slice a n cap, .int .i64 cut] w fun e w' => e = .returned (.bool true) ∧ Below w.heap.size w w' := by
  obtain ⟨hG, txt, hX⟩ := hGS
  cases hl : longT l 60
  rotate_left
  · skip
    have K0 := Lib.hid (hello_any txt ea w hG hT hX)
    have KL := Lib.hid (fun (W : World) (hb : Below w.heap.size w W) => longLines4_any a n cap l 60 W hn (hr.below hb) hm)
    rw [longI_yes hl] at KL
    clear hG hT hX hn hr hl
    go_enter Tryz.func6, Tryz.ntmps6
    go_wp2_with fail
    refine K0.out.mono ?_
    rintro e w1 ⟨rfl, hb1⟩
    have K1 := Lib.hid (KL.out w1 hb1)
    go_wp2_with fail
    refine K1.out.mono ?_
    rintro e w2 ⟨rfl, rfl⟩
    go_wp2
    go_ret
    exact ⟨rfl, hb1⟩
  by_cases h0 : cut < 0
  · skip
    have K0 := Lib.hid (hello_any txt ea w hG hT hX)
    have KL := Lib.hid (fun (W : World) (hb : Below w.heap.size w W) => longLines4_any a n cap l 60 W hn (hr.below hb) hm)
    rw [longI_no hl] at KL
    have d1 : decide (cut < 0) = true := decide_eq_true h0
    clear hG hT hX hn hr hl
    go_enter Tryz.func6, Tryz.ntmps6
    go_wp2_with fail
    refine K0.out.mono ?_
    rintro e w1 ⟨rfl, hb1⟩
    have K1 := Lib.hid (KL.out w1 hb1)
    go_wp2_with fail
    refine K1.out.mono ?_
    rintro e w2 ⟨rfl, rfl⟩
    go_wp2
    go_ret
    exact ⟨rfl, hb1⟩
  by_cases h1 : (n : Int) < cut
  · skip
    have K0 := Lib.hid (hello_any txt ea w hG hT hX)
    have KL := Lib.hid (fun (W : World) (hb : Below w.heap.size w W) => longLines4_any a n cap l 60 W hn (hr.below hb) hm)
    rw [longI_no hl] at KL
    have d1 : decide (cut < 0) = false := decide_eq_false h0
    have d2 : decide ((n : Int) < cut) = true := decide_eq_true h1
    clear hG hT hX hn hr hl
    go_enter Tryz.func6, Tryz.ntmps6
    go_wp2_with fail
    refine K0.out.mono ?_
    rintro e w1 ⟨rfl, hb1⟩
    have K1 := Lib.hid (KL.out w1 hb1)
    go_wp2_with fail
    refine K1.out.mono ?_
    rintro e w2 ⟨rfl, rfl⟩
    go_wp2
    go_ret
    exact ⟨rfl, hb1⟩
  obtain ⟨k, rfl⟩ : ∃ k : Nat, cut = k := ⟨cut.toNat, by omega⟩
  exact scriptAnew_law txt ea a n cap l k w hG hT hX hn hr hl (by omega)
end Go.Proofs.YtoekajpjfoolpaaGreatDoor
