/- fold.one: one entry of a text. · fold.Read. -/
import Derived.Test.YtbfocagicagehaaGreatDoorFoldPlain
import Derived.Test.YtbfocagicagehaaGreatDoorTxt
import Derived.Test.YtbfocagicagehaaGreatDoorFoldText
namespace Go.Proofs.YtbfocagicagehaaGreatDoor
open Go.RowKit

theorem cutSuffix_any (l p : List UInt8) (w : World) (hl : l.length ≤ 4294967280) :
    Calls Tryz.prog 100 #[.string ⟨l.toArray⟩, .string ⟨p.toArray⟩] w fun e w' => e = .returned (.tuple #[.string ⟨(Lib.trimSuffix l p).toArray⟩, .bool (Lib.hasSuffix l p)]) ∧ w = w' :=
  (Tryz.strings_CutSuffix ⟨l.toArray⟩ ⟨p.toArray⟩ w (by simp [ByteArray.size]; omega)).mono fun _ _ h => ⟨h.1, h.2.symm⟩
theorem cut_any (l p : List UInt8) (w : World) (hT : TxtEnv w) (hl : l.length ≤ 4294967280) :
    Calls Tryz.prog 101 #[.string ⟨l.toArray⟩, .string ⟨p.toArray⟩] w fun e w' => e = .returned (.tuple #[.string ⟨(Lib.cut l p).1.toArray⟩, .string ⟨(Lib.cut l p).2.1.toArray⟩, .bool (Lib.cut l p).2.2]) ∧ Below w.heap.size w w' := by
  obtain ⟨m, _, hm⟩ := hT.mx
  refine (Tryz.strings_Cut ⟨l.toArray⟩ ⟨p.toArray⟩ m w (by simp [ByteArray.size]; omega) hm).mono ?_
  rintro e w' ⟨rfl, k, rfl⟩
  exact ⟨rfl, below_drewN (Below.refl _ _) k⟩
theorem cut_le (l p : List UInt8) : (Lib.cut l p).1.length ≤ l.length ∧ (Lib.cut l p).2.1.length ≤ l.length := by
  unfold Lib.cut
  split
  · simp only [List.length_take, List.length_drop]; omega
  · simp
theorem trimSuffix_le (l p : List UInt8) : (Lib.trimSuffix l p).length ≤ l.length := by
  unfold Lib.trimSuffix
  split
  · simp only [List.length_take]; omega
  · exact Nat.le_refl _

theorem ent_cells {W : World} {b : Nat} {x0 x1 x2 x3 : Value} (h : W.heap[b]? = some (.cells #[x0, x1, x2, x3] 82 (0, 0))) :
    W.cell? ⟨b, 0, none⟩ = some x0 ∧ W.cell? ⟨b, 1, none⟩ = some x1 ∧ W.cell? ⟨b, 2, none⟩ = some x2 ∧ W.cell? ⟨b, 3, none⟩ = some x3
    ∧ W.frozen? ⟨b, 0, none⟩ = false ∧ W.frozen? ⟨b, 1, none⟩ = false ∧ W.frozen? ⟨b, 2, none⟩ = false ∧ W.frozen? ⟨b, 3, none⟩ = false := by
  simp [World.cell?, World.frozen?, h]
set_option maxRecDepth 100000 in
set_option maxHeartbeats 1600000 in
theorem one_any (s : List UInt8) (w : World) (hT : TxtEnv w) (hs : s.length ≤ 4294967280) :
    Calls Tryz.prog 71 #[.string ⟨s.toArray⟩] w fun e w' => e = .returned (.tuple #[.agg #[.int .i64 0, .int .i64 (oneE s).frm, .bool (oneE s).heard, .int .i64 (oneE s).value], .bool (oneB s)]) ∧ Below w.heap.size w w' := by
  have hb0 : Below w.heap.size w (w.alloc (.cells #[.int .i64 0, .int .i64 0, .bool false, .int .i64 0] 82)) := (Below.refl _ _).alloc (Nat.le_refl _) _
  have HT := Lib.hid (fun (W : World) (h : Below w.heap.size w W) => hT.below h)
  have KS := Lib.hid (fun (W : World) => cutSuffix_any s [33] W hs)
  cases hx : Lib.hasSuffix s [33]
  · have KC := Lib.hid (fun (W : World) (h : Below w.heap.size w W) => cut_any s [58] W (hT.below h) hs)
    have KA := Lib.hid (fun (W : World) (h : Below w.heap.size w W) => number_any (Lib.cut s [58]).1 W (hT.below h) (Nat.le_trans (cut_le s [58]).1 hs))
    have KB := Lib.hid (fun (W : World) (h : Below w.heap.size w W) => number_any (Lib.cut s [58]).2.1 W (hT.below h) (Nat.le_trans (cut_le s [58]).2 hs))
    have HE : Hid (oneE s = ⟨0, numN (Lib.cut s [58]).1, true, numN (Lib.cut s [58]).2.1⟩ ∧ oneB s = ((Lib.cut s [58]).2.2 && numIs (Lib.cut s [58]).1 && numIs (Lib.cut s [58]).2.1)) := by unfold Hid; rw [oneE, oneB, if_neg (by simp [hx]), if_neg (by simp [hx])]; exact ⟨rfl, rfl⟩
    rw [hx] at KS
    generalize Lib.trimSuffix s [33] = ts at *
    generalize (Lib.cut s [58]).1 = x1 at *
    generalize (Lib.cut s [58]).2.1 = x2 at *
    generalize (Lib.cut s [58]).2.2 = x3 at *
    generalize numN x1 = n1 at *
    generalize numN x2 = n2 at *
    generalize numIs x1 = i1 at *
    generalize numIs x2 = i2 at *
    clear hT hx
    go_enter Tryz.func71, Tryz.ntmps71
    go_wp2_with fail
    refine (KS.out _).mono ?_
    rintro e1 w1 ⟨he1, hw1⟩
    subst he1 hw1
    go_wp2_with fail
    refine (KC.out _ hb0).mono ?_
    rintro e2 w2 ⟨he2, hb2⟩
    subst he2
    have hv2 := hb0.trans (hb2.mono hb0.size)
    have hbx : Below (w.alloc (.cells #[.int .i64 0, .int .i64 0, .bool false, .int .i64 0] 82)).heap.size (w.alloc (.cells #[.int .i64 0, .int .i64 0, .bool false, .int .i64 0] 82)) w2 := hb2
    go_wp2_with fail
    refine (KA.out _ hv2).mono ?_
    rintro e3 w3 ⟨he3, hb3⟩
    subst he3
    have hv3 := hv2.trans (hb3.mono hv2.size)
    have hbx := hbx.trans (hb3.mono hbx.size)
    go_wp2_with fail
    refine (KB.out _ hv3).mono ?_
    rintro e4 w4 ⟨he4, hb4⟩
    subst he4
    have hv4 := hv3.trans (hb4.mono hv3.size)
    have hbx := hbx.trans (hb4.mono hbx.size)
    have hE4 : w4.heap[w.heap.size]? = some (.cells #[.int .i64 0, .int .i64 0, .bool false, .int .i64 0] 82 (0, 0)) := (hbx.block w.heap.size (by simp)).trans (World.alloc_heap_new w _)
    obtain ⟨d0, d1, d2, d3, f0, f1, f2, f3⟩ := ent_cells hE4
    clear hbx hE4 hb2 hb3 hb4 hv3 hv2 hb0 KS KC KA KB HT
    have HV := Lib.hid hv4
    clear hv4
    obtain ⟨r, hr⟩ : ∃ r, r = (x3 && i1 && i2) := ⟨_, rfl⟩
    rw [← hr] at HE
    cases x3 <;> cases i1 <;> cases i2
    all_goals
      simp only [Bool.and_true, Bool.and_false, Bool.and_self] at hr
      go_wp2
      refine bodyPost_ret (v := .tuple #[.agg #[.int .i64 0, .int .i64 n1, .bool true, .int .i64 n2], .bool r]) (by simp [results, Tryz.results71, go_sem, d0, d1, d2, d3, hr]) rfl ?_
      refine ⟨by rw [HE.out.1, HE.out.2], ?_⟩
      repeat (refine Below.setCell ?_ (by simp) _)
      exact HV.out
  · have KA := Lib.hid (fun (W : World) (h : Below w.heap.size w W) => number_any (Lib.trimSuffix s [33]) W (hT.below h) (Nat.le_trans (trimSuffix_le s [33]) hs))
    have HE : Hid (oneE s = ⟨0, numN (Lib.trimSuffix s [33]), false, 0⟩ ∧ oneB s = numIs (Lib.trimSuffix s [33])) := by unfold Hid; rw [oneE, oneB, if_pos hx, if_pos hx]; exact ⟨rfl, rfl⟩
    rw [hx] at KS
    generalize Lib.trimSuffix s [33] = ts at *
    generalize numN ts = n1 at *
    generalize numIs ts = i1 at *
    clear hT hx
    go_enter Tryz.func71, Tryz.ntmps71
    go_wp2_with fail
    refine (KS.out _).mono ?_
    rintro e1 w1 ⟨he1, hw1⟩
    subst he1 hw1
    go_wp2_with fail
    refine (KA.out _ hb0).mono ?_
    rintro e2 w2 ⟨he2, hb2⟩
    subst he2
    have hv4 := hb0.trans (hb2.mono hb0.size)
    have hE4 : w2.heap[w.heap.size]? = some (.cells #[.int .i64 0, .int .i64 0, .bool false, .int .i64 0] 82 (0, 0)) := (hb2.block w.heap.size (by simp)).trans (World.alloc_heap_new w _)
    obtain ⟨d0, d1, d2, d3, f0, f1, f2, f3⟩ := ent_cells hE4
    clear hE4 hb2 hb0 KS KA HT
    go_wp2
    refine bodyPost_ret (v := .tuple #[.agg #[.int .i64 0, .int .i64 n1, .bool false, .int .i64 0], .bool i1]) (by simp [results, Tryz.results71, go_sem, d0, d1, d2, d3]) rfl ?_
    refine ⟨by rw [HE.out.1, HE.out.2], ?_⟩
    repeat (refine Below.setCell ?_ (by simp) _)
    exact hv4
end Go.Proofs.YtbfocagicagehaaGreatDoor
namespace Go.Proofs.YtbfocagicagehaaGreatDoor
open Go.RowKit Go.Shelf

attribute [local go_sem] Oper.semAt_some

theorem cells_new (w : World) (cs : List Value) (t : TypeId) : ∀ j u, cs[j]? = some u → (w.alloc (.cells cs.toArray t)).cell? ((⟨w.heap.size, 0, none⟩ : Addr).add j) = some u := fun j u hu => by
  have h := (RowAt.new_at w cs t _ rfl).cell hu
  have e : ((⟨w.heap.size, 0, none⟩ : Addr).add j) = ⟨w.heap.size, 0 + j, none⟩ := by unfold Addr.add; split <;> simp_all
  rw [e]; exact h
theorem fr_info : (Tryz.prog.info? 82).map (fun i => (i.zero, i.size, i.bytes)) = some (some (.agg #[.int .i64 0, .int .i64 0, .bool false, .int .i64 0]), 4, 32) := by kernel_rfl

/-- The loop's boxes between two rounds. -/
def FoldI (B : Nat) (w : World) (pre : List (List UInt8)) (W : World) : Prop :=
  (∃ (es : List Ent) (v : Value), Hid (histAcc pre = some es) ∧ Boxed W (B + 2) 22 v ∧ W.ownsRow (B + 6) 82 4 v es.length (encEnts es)) ∧
    Boxed W B 22 (.slice none 0 0) ∧ Boxed W (B + 1) 29 .nilIface ∧ Below B w W ∧ B + 6 ≤ W.heap.size
def FoldX (ea : Nat → Addr) (B : Nat) (w : World) (c : Code) (pre : List (List UInt8)) (W : World) : Prop :=
  c = .ret ∧ histAcc pre = none ∧ Boxed W B 22 (.slice none 0 0) ∧ Boxed W (B + 1) 29 (.iface 215 (.pointer (some (ea 1)))) ∧ Below B w W
theorem row_later {W W' : World} {base : Nat} {e : TypeId} {size : Nat} {v : Value} {k : Nat} {xs : List Value} {row : Option Nat} (h : W.ownsRow base e size v k xs) (hg : W.grownBy W' row)
    (hr : ∀ r, row = some r → r < base ∨ ∃ o : Obj, W.heap[r]? = some o ∧ o.isCells = false) : W'.ownsRow base e size v k xs := by
  refine h.kept hg ?_
  rcases h.2 with ⟨rfl, _⟩ | ⟨g, cap, cur, rfl, hb, hgb, _⟩
  · exact .inl rfl
  · refine .inr fun e' => ?_
    have e'' : row = some g := e'.symm
    rcases hr g e'' with h1 | ⟨o, ho, hc⟩
    · omega
    · rw [hgb] at ho; cases ho; cases hc
theorem foldI_later {B : Nat} {w : World} {pre : List (List UInt8)} {W W' : World} {row : Option Nat} (h : FoldI B w pre W) (hg : W.grownBy W' row) (hr : ∀ r, row = some r → B + 3 ≤ r ∧ (r < B + 6 ∨ ∃ o : Obj, W.heap[r]? = some o ∧ o.isCells = false)) : FoldI B w pre W' := by
  obtain ⟨⟨es, v, h1, h2, h3⟩, h5, h6, h7, h8⟩ := h
  have hne : ∀ k, k < B + 3 → some k ≠ row := fun k hk e => by have := (hr k e.symm).1; omega
  exact ⟨⟨es, v, h1, h2.kept hg (hne _ (by omega)), row_later h3 hg (fun r e => (hr r e).2)⟩, h5.kept hg (hne _ (by omega)), h6.kept hg (hne _ (by omega)), h7.grown hg (by omega) (fun k e => by have := (hr k e).1; omega), Nat.le_trans h8 hg.size⟩
theorem foldX_later {ea : Nat → Addr} {B : Nat} {w : World} {c : Code} {pre : List (List UInt8)} {W W' : World} {row : Option Nat} (h : FoldX ea B w c pre W) (hg : W.grownBy W' row) (hr : ∀ r, row = some r → B + 3 ≤ r) : FoldX ea B w c pre W' := by
  obtain ⟨h0, h1, h5, h6, h7⟩ := h
  have hne : ∀ k, k < B + 3 → some k ≠ row := fun k hk e => by have := hr k e.symm; omega
  exact ⟨h0, h1, h5.kept hg (hne _ (by omega)), h6.kept hg (hne _ (by omega)), h7.grown hg (by have := h5.lt; omega) (fun k e => by have := hr k e; omega)⟩

theorem ownsRow_set {W : World} {base : Nat} {e : TypeId} {size : Nat} {v : Value} {k : Nat} {xs : List Value} (h : W.ownsRow base e size v k xs) {b : Nat} (hb : b < base) (u : Value) : (W.setCell ⟨b, 0, none⟩ u).ownsRow base e size v k xs :=
  h.kept (grownBy_setCell' W b u) (.inr (ownBlock_ge h hb).symm)
/-- An error abides where a box is stored that holds no number. -/
theorem ErrIs.setBox {ea : Nat → Addr} {w : World} {v : Value} {code : Nat} {pl : Int} {b : Nat} (h : ErrIs ea w v code pl) (hc : ∀ k i, w.cell? ⟨b, 0, none⟩ ≠ some (.int k i)) (x : Value) :
    ErrIs ea (w.setCell ⟨b, 0, none⟩ x) v code pl := by
  rcases h with h | ⟨h0, h1, g, rfl, hlt, h2, h3⟩
  · exact Or.inl h
  · have hne : b ≠ g := by
      rintro rfl
      exact hc _ _ h2
    refine Or.inr ⟨h0, h1, g, rfl, by simpa using hlt, ?_, ?_⟩
    · exact (World.cell?_setCell_other _ _ _ _ (fun e => hne (congrArg Addr.block e))).trans h2
    · exact (World.cell?_setCell_other _ _ _ _ (fun e => hne (congrArg Addr.block e))).trans h3
theorem ErrIs.putD {ea : Nat → Addr} {w : World} {v : Value} {code : Nat} {pl : Int} {D : Nat} (h : ErrIs ea w v code pl) (hD : w.heap[D]? = some (.deferred (some []))) (o' : Obj) : ErrIs ea (w.putObj D o') v code pl := by
  rcases h with h | ⟨h0, h1, g, rfl, hlt, h2, h3⟩
  · exact Or.inl h
  · have hne : g ≠ D := by
      rintro rfl
      simp [World.cell?, hD] at h2
    have hh : (w.putObj D o').heap[g]? = w.heap[g]? := World.putObj_heap_other hne
    refine Or.inr ⟨h0, h1, g, rfl, by simpa [World.putObj] using hlt, ?_, ?_⟩
    · rw [← h2]; simp only [World.cell?, hh]
    · rw [← h3]; simp only [World.cell?, hh]

set_option maxRecDepth 100000 in
set_option maxHeartbeats 4000000 in
theorem foldRead_in (ea : Nat → Addr) (s : List UInt8) (w : World) (hs : s.length ≤ 4000) (hg : Glob w ea [1, 2, 3, 4, 7, 10]) (hT : TxtEnv w) (hne : s ≠ [45]) :
    CallsIn Fence.wide 3 Tryz.prog 17 #[.string ⟨s.toArray⟩] w fun e W' => ∃ v a n cap, e = .returned (.tuple #[.slice a n cap, v]) ∧ ErrIs ea W' v (foldR s).1.1 (foldR s).1.2 ∧ RowAt W' a (encEnts (foldR s).2) ∧ (foldR s).2.length = n ∧ n ≤ cap ∧ Below w.heap.size w W' := by
  have HF0 : Hid (histAcc (cutL 44 s) = none → foldR s = ((1, -1), [])) := by unfold Hid; intro h; rw [foldR, if_neg (by omega), if_neg hne, h]
  have HF1 : Hid (∀ es, histAcc (cutL 44 s) = some es → foldR s = if (chk es).1 = 0 then ((0, -1), es) else (chk es, [])) := by unfold Hid; intro es h; rw [foldR, if_neg (by omega), if_neg hne, h]
  have HG := Lib.hid (fun (W : World) (h : Below w.heap.size w W) => hg.below h)
  have HT := Lib.hid (fun (W : World) (h : Below w.heap.size w W) => hT.below h)
  have hgl := hg.lt 1 (by simp)
  simp only [gOf] at hgl
  have hq : (s == [45]) = false := by simpa using hne
  have hlong : decide ((4000 : Int) < (s.length : Int)) = false := by simp; omega
  clear hg hT hne
  obtain ⟨i0, hi0, hz0, hz1, hz2⟩ := info_parts fr_info
  refine callsIn_of_wp_marks Tryz.func17 rfl trivial ?_ rfl
  simp only [Tryz.ntmps17, List.size_toArray, List.length_cons, List.length_nil, Nat.reduceAdd, Nat.reduceSub, Array.replicate_succ, Array.replicate_zero, List.push_toArray, List.append_toArray, List.nil_append, List.cons_append]
  gi_wp2_with (refine ⟨trivial, ?_⟩; gi_at_call 70; refine (callsIn_wide.2 (splitSeq_any s 44 _)).mono ?_; rintro e w' ⟨rfl, rfl⟩)
  clear hq hlong
  obtain ⟨W0, hW0⟩ : ∃ W0, W0 = ((w.alloc (.cells #[.slice none 0 0] 22)).alloc (.cells #[.nilIface] 29)).alloc (.cells #[.slice none 0 0] 22) := ⟨_, rfl⟩
  have hzz : W0.heap.size = w.heap.size + 3 := by rw [hW0]; simp
  have hb0 : Below w.heap.size w W0 := by rw [hW0]; exact (((Below.refl _ w).alloc (Nat.le_refl _) _).alloc (by simp) _).alloc (by simp; omega) _
  have hx0 : Boxed W0 w.heap.size 22 (.slice none 0 0) := by rw [hW0]; exact ((Boxed.new w _ _).alloc _).alloc _
  have hx1 : Boxed W0 (w.heap.size + 1) 29 .nilIface := by
    rw [hW0]; have := (Boxed.new (w.alloc (.cells #[.slice none 0 0] 22)) 29 .nilIface).alloc (.cells #[.slice none 0 0] 22)
    rw [World.size_alloc] at this; exact this
  have hx2 : Boxed W0 (w.heap.size + 2) 22 (.slice none 0 0) := by
    rw [hW0]; have := Boxed.new ((w.alloc (.cells #[.slice none 0 0] 22)).alloc (.cells #[.nilIface] 29)) 22 (.slice none 0 0)
    rw [World.size_alloc, World.size_alloc] at this; exact this
  rw [← hW0]
  clear hW0
  have hz1' := splitWorld_size W0 s 44
  have hb1 := splitWorld_below W0 s 44
  have hsp := splitWorld_at W0 s 44
  generalize splitWorld W0 s 44 = W1 at *
  rw [hzz] at hsp
  simp only [Nat.add_assoc, Nat.reduceAdd]
  have hI0 : FoldI w.heap.size w [] W1 := ⟨⟨[], _, rfl, boxed_call hx2 hb1, World.ownsRow_nil _ _ _ _⟩, boxed_call hx0 hb1, boxed_call hx1 hb1, hb0.trans (hb1.mono (by omega)), by omega⟩
  clear hb1 hx0 hx1 hx2 hb0
  have hz : W1.heap.size = w.heap.size + 6 := by omega
  generalize hB : w.heap.size = B at *
  refine wpIn_rangeFunc_box rfl (by omega) (gf := 122) (lb := #[.pointer (some ⟨B + 4, 0, none⟩), .pointer (some ⟨B + 3, 0, none⟩), .pointer (some ⟨B + 5, 0, none⟩)]) rfl trivial (enters_of Tryz.func122 (by kernel_rfl) rfl)
    (splitSeq_stops 2 (by omega) (B + 3) B 44 s (by omega) W1 (by omega) hsp) (fun b e => by cases e; omega) keepB_t (keepB_b (by omega) (by omega)) (fun _ => rfl)
    (FoldI B w) (FoldX ea B w)
    (fun _ _ _ _ h hg hr => foldI_later h hg (fun r e => ⟨by have := (hr r e).1; omega, .inr (hr r e).2⟩)) (fun _ _ _ _ _ h hg hr => foldX_later h hg (fun r e => by have := (hr r e).1; omega))
    (fun _ _ _ _ h hg hr => foldI_later h hg (fun r e => by have := Option.some.inj (hr r e); exact ⟨by omega, .inl (by omega)⟩)) (fun _ _ _ _ _ h hg hr => foldX_later h hg (fun r e => by have := Option.some.inj (hr r e); omega)) hI0
    (fun x a' _ => a' = { tmps := #[.string ⟨s.toArray⟩, undef, .pointer (some ⟨B, 0, none⟩), .pointer (some ⟨B + 1, 0, none⟩), .pointer (some ⟨B + 2, 0, none⟩), .string ⟨x.toArray⟩, undef, undef, undef, .string ⟨s.toArray⟩, .int .i64 s.length, .bool false, undef, .string ⟨s.toArray⟩, .bool false, .string ⟨s.toArray⟩, .func (.func 122) #[] #[.pointer (some ⟨B + 4, 0, none⟩), .pointer (some ⟨B + 3, 0, none⟩), .pointer (some ⟨B + 5, 0, none⟩)], .string ⟨x.toArray⟩, undef, undef, undef, undef, undef, undef, undef, undef, undef, undef, undef, undef, undef, undef, undef, undef, undef, undef, undef, undef, undef], defers := [] })
    (fun _ _ _ _ _ _ hs _ _ => hs) ?assign ?body ?done ?stop
  case assign =>
    intro l pre x W K hi hK
    gi_wp2
    exact hK _ _ (KeepsFrom.refl _ _) ⟨Below.refl _ _, fun _ _ => rfl⟩ hi rfl
  case body =>
    rintro l pre x a' W hi rfl hpre
    obtain ⟨⟨es, v, hacc, bx2, hown⟩, bx0, bx1, hbw, hsz⟩ := hi
    have hxl : x.length ≤ 4294967280 := Nat.le_trans (cutL_piece 44 s x (hpre.subset (by simp))) (by omega)
    have hmx : Tryz.prog.follows .mixedOrders = true := by kernel_rfl
    have hn1 : ¬ (1 = B) := by omega
    have hn2 : ¬ (B = 1) := by omega
    have K1 := Lib.hid (one_any x W (HT.out W hbw) hxl)
    have hel : es.length ≤ 4001 := by
      have h1 := histAcc_length pre es hacc.out
      have h2 := hpre.length_le
      have h3 := cutL_length 44 s
      simp at h2; omega
    clear hpre
    have hs1 : ¬ (B = W.heap.size) := by omega
    cases hx : oneB x
    · have HA : Hid (histAcc (pre ++ [x]) = none) := by unfold Hid; rw [histAcc_snoc, hacc.out, histStep, Option.bind_some, if_neg (by simp [hx])]
      rw [hx] at K1
      generalize (oneE x).frm = q1 at *
      generalize (oneE x).heard = q2 at *
      generalize (oneE x).value = q3 at *
      clear hx
      gi_wp2_with (first
        | (refine ⟨trivial, ?_⟩; gi_at_call 71; refine (CallsIn.inRound l (callsIn_wide.2 K1.out)).mono ?_; rintro e w1 ⟨rfl, hb1⟩)
        | (refine ⟨trivial, ?_⟩))
      obtain ⟨V, hV⟩ : ∃ V, V = w1.alloc (.cells #[.int .i64 0, .int .i64 q1, .bool q2, .int .i64 q3] 82) := ⟨_, rfl⟩
      have hb2 : Below W.heap.size W V := by rw [hV]; exact hb1.alloc hb1.size _
      rw [← hV]
      clear hV
      have hsz1 := hb2.size
      have hr1 := Rd.call (n₀ := B) (b0 := B + 3) hb2 (by omega) (by omega)
      have bx0 := boxed_call bx0 hb2
      have bx1 := boxed_call bx1 hb2
      have c0 := bx0.cell
      have f0 := bx0.frozen
      have c1 := bx1.cell
      have f1 := bx1.frozen
      have g1 := (HG.out _ (hbw.trans hr1.below)).cell 1 (by simp)
      simp only [gOf] at g1
      rw [errV_pos ea (by decide)] at g1
      gi_region_o
      all_goals gi_wp2
      all_goals
        first
          | (have hR := hr1.trans (((Rd.set V B (.slice none 0 0) (by omega) (by omega)).trans (Rd.set _ (B + 1) (.iface 215 (.pointer (some (ea 1)))) (by omega) (by omega))).trans (Rd.drew _)); exact ⟨hR.others.from _, rfl, HA.out, (bx0.set _).other (by omega) _, (bx1.other (by omega) _).set _, hbw.trans hR.below⟩)
          | (have hR := hr1.trans (((Rd.set V (B + 1) (.iface 215 (.pointer (some (ea 1)))) (by omega) (by omega)).trans (Rd.set _ B (.slice none 0 0) (by omega) (by omega))).trans (Rd.drew _)); exact ⟨hR.others.from _, rfl, HA.out, (bx0.other (by omega) _).set _, (bx1.set _).other (by omega) _, hbw.trans hR.below⟩)
    · have HA : Hid (histAcc (pre ++ [x]) = some (es ++ [⟨(es.length : Int), (oneE x).frm, (oneE x).heard, (oneE x).value⟩])) := by unfold Hid; rw [histAcc_snoc, hacc.out, histStep, Option.bind_some, if_pos hx]
      rw [hx] at K1
      obtain ⟨ao, co, rfl⟩ := owned_shape hown
      generalize hk : es.length = k at *
      generalize (oneE x).frm = q1 at *
      generalize (oneE x).heard = q2 at *
      generalize (oneE x).value = q3 at *
      clear hx
      gi_wp2
      refine ⟨trivial, ?_⟩
      gi_at_call 71
      refine (CallsIn.inRound l (callsIn_wide.2 K1.out)).mono ?_
      rintro e w1 ⟨rfl, hb1⟩
      have hsz1 := hb1.size
      have bx2 := boxed_call bx2 hb1
      have hlt2 : B + 2 < w1.heap.size := by omega
      have c2 := (bx2.alloc (.cells #[.int .i64 0, .int .i64 q1, .bool q2, .int .i64 q3] 82)).cell
      have c3 := (bx2.alloc (.cells #[.int .i64 k, .int .i64 q1, .bool q2, .int .i64 q3] 82)).cell
      have hown1 := ownsRow_below hown hb1
      obtain ⟨C, hC⟩ : ∃ C, C = Obj.cells #[.int .i64 k, .int .i64 q1, .bool q2, .int .i64 q3] 82 := ⟨_, rfl⟩
      obtain ⟨W4, hW4⟩ : ∃ W4, W4 = w1.alloc C := ⟨_, rfl⟩
      have hcn := cells_new W4 [.int .i64 k, .int .i64 q1, .bool q2, .int .i64 q3] 82
      have hz4 : W4.heap.size = w1.heap.size + 1 := by rw [hW4]; simp
      have hown4 : W4.ownsRow (B + 6) 82 4 (.slice ao k co) k (encEnts es) := by rw [hW4]; exact hown1.alloc _
      have hbW4 : Below W.heap.size W W4 := by rw [hW4]; exact hb1.alloc hb1.size _
      have bx4 : Boxed W4 (B + 2) 22 (.slice ao k co) := by rw [hW4]; exact bx2.alloc _
      have hrow4 := ownsRow_lower hown4 (base' := B) (by omega)
      rw [hz4] at hcn
      have HN := Lib.hid hcn
      have HO := Lib.hid (hown4.alloc C)
      have HE : Hid ((w1.alloc (.cells #[.int .i64 k, .int .i64 q1, .bool q2, .int .i64 q3] 82)) = W4) := by unfold Hid; rw [hW4, hC]
      have HE2 := Lib.hid hC.symm
      gi_wp2_with (gi_at_builtin; rw [HE.out]; refine wpListIn_append_own _ rfl _ _ 22 rfl (B + 6) 82 i0 (.agg #[.int .i64 0, .int .i64 0, .bool false, .int .i64 0]) 4 32 Tryz.underlying22 hi0 hz0 hz1 hz2 rfl (by decide) _ k (encEnts es) rfl (by rw [HE2.out]; exact HO.out) ⟨w1.heap.size + 1, 0, none⟩ 1 1 [.int .i64 k, .int .i64 q1, .bool q2, .int .i64 q3] rfl rfl HN.out (by simp [Value.oneCell']) (by unfold maxLen; omega) (by omega) (by simp; omega) ?_; rw [HE2.out]; intro v' w2 hown' hgrow _; obtain ⟨g', cap', rfl⟩ := ownsRow_succ hown'; have hown2 := ownsRow_lower hown' (base' := B) (by omega); obtain ⟨hv1, hv2, hr2, hk2, hb2⟩ := bx4.appended (by decide) hrow4 (by omega) (by omega) hown2 hgrow; have hc1 := hv1.cell; have hf1 := hv1.frozen)
      have q4 : Boxed W4 B 22 (.slice none 0 0) := boxed_call bx0 hbW4
      have q5 : Boxed W4 (B + 1) 29 .nilIface := boxed_call bx1 hbW4
      have q6 := ((q4.alloc C).kept hgrow (ownBlock_ge hown4 (by omega))).kept (grownBy_setCell' w2 (B + 2) (.slice (some ⟨g', 0, none⟩) (k + 1) cap')) (by simp)
      have q7 := ((q5.alloc C).kept hgrow (ownBlock_ge hown4 (by omega))).kept (grownBy_setCell' w2 (B + 2) (.slice (some ⟨g', 0, none⟩) (k + 1) cap')) (by simp)
      have q8 := hown'.kept (grownBy_setCell' w2 (B + 2) (.slice (some ⟨g', 0, none⟩) (k + 1) cap')) (.inr (hv1.not_row (by decide) hown').symm)
      have q9 : ∀ j, j < 3 → (w2.setCell ⟨B + 2, 0, none⟩ (.slice (some ⟨g', 0, none⟩) (k + 1) cap')).heap[B + 3 + j]? = W.heap[B + 3 + j]? := fun j hj => by
        have e1 : (w2.setCell ⟨B + 2, 0, none⟩ (.slice (some ⟨g', 0, none⟩) (k + 1) cap')).heap[B + 3 + j]? = w2.heap[B + 3 + j]? := Below.heap_setCell _ _ _ _ (by simp; omega)
        have e2 : w2.heap[B + 3 + j]? = (W4.alloc C).heap[B + 3 + j]? := hgrow.block (B + 3 + j) (by simp; omega) (ownBlock_ge hown4 (by omega))
        have e3 : (W4.alloc C).heap[B + 3 + j]? = W4.heap[B + 3 + j]? := Below.heap_alloc _ _ _ (by omega)
        rw [e1, e2, e3]
        exact hbW4.block _ (by omega)
      have hk4 : KeepsOthers W W4 := (Rd.call (n₀ := B) (b0 := B + 3) hbW4 (by omega) (by omega)).others
      have hbF := (hbW4.mono (by omega : B ≤ W.heap.size)).trans hb2
      exact ⟨(hk4.trans hk2).from _, ⟨hbF, q9⟩, ⟨⟨_, _, HA.out, hv2, by rw [encEnts_snoc, List.length_append, List.length_singleton, hk]; exact q8⟩, q6, q7, hbw.trans hbF, Nat.le_trans hsz hbF.size⟩⟩
  case done =>
    rintro D ys W hD rfl hi hK
    obtain ⟨⟨es, v, hacc, bx2, hown⟩, bx0, bx1, hbw, hsz⟩ := hi
    have hel : es.length ≤ 4001 := by
      have h1 := histAcc_length _ es hacc.out
      have h3 := cutL_length 44 s
      omega
    obtain ⟨ao, co, rfl⟩ := owned_shape hown
    obtain ⟨ra, _, na, _⟩ := RowAt.owned hown
    have KC := Lib.hid (check_any ea ao es.length co es W ((HG.out W hbw).sub (by simp)) rfl ra (by omega))
    have c2 := bx2.cell
    have hH := HF1.out es hacc.out
    by_cases h0 : (chk es).1 = 0
    · have HR : Hid (foldR s = ((0, -1), es)) := by unfold Hid; rw [hH, if_pos h0]
      rw [chk_zero h0] at KC
      clear hH h0
      gi_wp2
      refine ⟨trivial, ?_⟩
      gi_at_call 64
      refine (callsIn_wide.2 KC.out).mono ?_
      rintro e w1 ⟨v, rfl, hv, hb1⟩
      obtain rfl : v = .nilIface := hv.nil
      have hsz1 := hb1.size
      have bx0 := boxed_call bx0 hb1
      have bx1 := boxed_call bx1 hb1
      have bx2 := boxed_call bx2 hb1
      have hown := ownsRow_below hown hb1
      have hK1 : w1.heap[D]? = some (.deferred (some [])) := (hb1.block D (Array.getElem?_eq_some_iff.1 hK).1).trans hK
      have c0 := bx0.cell
      have f0 := bx0.frozen
      have c1 := bx1.cell
      have f1 := bx1.frozen
      have c2 := bx2.cell
      gi_wp2
      have hK' := ((KeepsOthers.setCell w1 ⟨B, 0, none⟩ (.slice ao es.length co)).trans (KeepsOthers.setCell _ ⟨B + 1, 0, none⟩ .nilIface)).same D _ hK1 rfl
      obtain ⟨V, hV⟩ : ∃ V, V = (w1.setCell ⟨B, 0, none⟩ (.slice ao es.length co)).setCell ⟨B + 1, 0, none⟩ .nilIface := ⟨_, rfl⟩
      have hownV : V.ownsRow (B + 6) 82 4 (.slice ao es.length co) es.length (encEnts es) := by rw [hV]; exact ownsRow_set (ownsRow_set hown (by omega) _) (by omega) _
      rw [← hV] at hK' ⊢
      have b0 : Boxed V B 22 (.slice ao es.length co) := by rw [hV]; exact (bx0.set _).other (by omega) _
      have b1 : Boxed V (B + 1) 29 .nilIface := by rw [hV]; exact (bx1.other (by omega) _).set _
      have hbV : Below B w V := by rw [hV]; exact ((hbw.trans (hb1.mono (by omega))).setCell (p := ⟨B, 0, none⟩) (Nat.le_refl _) _).setCell (p := ⟨B + 1, 0, none⟩) (by simp) _
      have p0 := b0.kept (grownBy_putObj' V D (.deferred none)) (fun e => by injection e with e; omega)
      have p1 := b1.kept (grownBy_putObj' V D (.deferred none)) (fun e => by injection e with e; omega)
      have hownF := ownsRow_putObj hownV (.deferred none) hK' rfl
      have hbF := hbV.trans (belowK_b (n₀ := B) (w := w) (by omega) V D _ (.deferred none) (by omega) hK' rfl rfl)
      refine ⟨by simp, .inl ⟨_, _, rfl, run_takeDeferred hK', ?_⟩⟩
      obtain ⟨rF, _, nF, _⟩ := RowAt.owned hownF
      refine ⟨.tuple #[.slice ao es.length co, .nilIface], by simp [results, Tryz.results17, go_sem, p0.cell, p1.cell], .nilIface, ao, es.length, co, rfl, ?_, ?_, ?_, nF, by rw [hB]; exact hbF⟩
      · rw [HR.out]; exact Or.inl ⟨rfl, (errV_zero ea).symm⟩
      · rw [HR.out]; exact rF
      · rw [HR.out]
    · have HR : Hid (foldR s = (chk es, [])) := by unfold Hid; rw [hH, if_neg h0]
      have H0 := Lib.hid h0
      clear hH h0
      gi_wp2
      refine ⟨trivial, ?_⟩
      gi_at_call 64
      refine (callsIn_wide.2 KC.out).mono ?_
      rintro e w1 ⟨v, rfl, hv, hb1⟩
      obtain ⟨vt, vx, rfl⟩ := hv.held H0.out
      have hsz1 := hb1.size
      have bx0 := boxed_call bx0 hb1
      have bx1 := boxed_call bx1 hb1
      have hK1 : w1.heap[D]? = some (.deferred (some [])) := (hb1.block D (Array.getElem?_eq_some_iff.1 hK).1).trans hK
      have c0 := bx0.cell
      have f0 := bx0.frozen
      have c1 := bx1.cell
      have f1 := bx1.frozen
      gi_wp2
      have hK' := ((KeepsOthers.setCell w1 ⟨B, 0, none⟩ (.slice none 0 0)).trans (KeepsOthers.setCell _ ⟨B + 1, 0, none⟩ (.iface vt vx))).same D _ hK1 rfl
      obtain ⟨V, hV⟩ : ∃ V, V = (w1.setCell ⟨B, 0, none⟩ (.slice none 0 0)).setCell ⟨B + 1, 0, none⟩ (.iface vt vx) := ⟨_, rfl⟩
      rw [← hV] at hK' ⊢
      have b0 : Boxed V B 22 (.slice none 0 0) := by rw [hV]; exact (bx0.set _).other (by omega) _
      have b1 : Boxed V (B + 1) 29 (.iface vt vx) := by rw [hV]; exact (bx1.other (by omega) _).set _
      have hvV : ErrIs ea V (.iface vt vx) (chk es).1 (chk es).2 := by rw [hV]; exact (hv.setBox (fun k i => by rw [c0]; simp) _).setBox (fun k i => by rw [(bx1.other (by omega) _).cell]; simp) _
      have hbV : Below B w V := by rw [hV]; exact ((hbw.trans (hb1.mono (by omega))).setCell (p := ⟨B, 0, none⟩) (Nat.le_refl _) _).setCell (p := ⟨B + 1, 0, none⟩) (by simp) _
      have p0 := b0.kept (grownBy_putObj' V D (.deferred none)) (fun e => by injection e with e; omega)
      have p1 := b1.kept (grownBy_putObj' V D (.deferred none)) (fun e => by injection e with e; omega)
      have hbF := hbV.trans (belowK_b (n₀ := B) (w := w) (by omega) V D _ (.deferred none) (by omega) hK' rfl rfl)
      have hvF := hvV.putD hK' (.deferred none)
      refine ⟨by simp, .inl ⟨_, _, rfl, run_takeDeferred hK', ?_⟩⟩
      refine ⟨.tuple #[.slice none 0 0, .iface vt vx], by simp [results, Tryz.results17, go_sem, p0.cell, p1.cell], .iface vt vx, none, 0, 0, rfl, ?_, ?_, ?_, Nat.le_refl _, by rw [hB]; exact hbF⟩
      · rw [HR.out]; exact hvF
      · rw [HR.out]; exact Or.inl rfl
      · rw [HR.out]; rfl
  case stop =>
    rintro D c pre W hD hpre ⟨rfl, hacc, bx0, bx1, hbw⟩ hK
    have HR : Hid (foldR s = ((1, -1), [])) := by
      obtain ⟨r, hr⟩ := hpre
      refine HF0.out ?_
      rw [← hr]; exact histAcc_none r hacc
    gi_wp2
    have hK' := hK
    have hbV := hbw
    have p0 := bx0.kept (grownBy_putObj' W D (.deferred none)) (fun e => by injection e with e; omega)
    have p1 := bx1.kept (grownBy_putObj' W D (.deferred none)) (fun e => by injection e with e; omega)
    have hbF := hbV.trans (belowK_b (n₀ := B) (w := w) (by omega) W D _ (.deferred none) (by omega) hK' rfl rfl)
    refine ⟨by simp, .inl ⟨_, _, rfl, run_takeDeferred hK', ?_⟩⟩
    refine ⟨.tuple #[.slice none 0 0, errV ea 1], by simp [results, Tryz.results17, go_sem, p0.cell, p1.cell, errV_pos ea (k := 1) (by decide)], errV ea 1, none, 0, 0, rfl, ?_, ?_, ?_, Nat.le_refl _, by rw [hB]; exact hbF⟩
    · rw [HR.out]; exact Or.inl ⟨rfl, rfl⟩
    · rw [HR.out]; exact Or.inl rfl
    · rw [HR.out]; rfl

theorem foldRead_any (ea : Nat → Addr) (s : List UInt8) (w : World) (hs : s.length ≤ 4294967280) (hg : Glob w ea [1, 2, 3, 4, 7, 10]) (hT : TxtEnv w) :
    Calls Tryz.prog 17 #[.string ⟨s.toArray⟩] w fun e W' => ∃ v a n cap, e = .returned (.tuple #[.slice a n cap, v]) ∧ ErrIs ea W' v (foldR s).1.1 (foldR s).1.2 ∧ RowAt W' a (encEnts (foldR s).2) ∧ (foldR s).2.length = n ∧ n ≤ cap ∧ Below w.heap.size w W' := by
  by_cases hl : 4000 < s.length
  · have HR : Hid (foldR s = ((2, -1), [])) := by unfold Hid; rw [foldR, if_pos hl]
    have g2 := hg.cell 2 (by simp)
    have l2 := hg.lt 2 (by simp)
    simp only [gOf] at g2 l2
    have hb0 : Below w.heap.size w ((w.alloc (.cells #[.slice none 0 0] 22)).alloc (.cells #[.nilIface] 29)) := ((Below.refl _ w).alloc (Nat.le_refl _) _).alloc (by simp) _
    have g3 := (hb0.cell (p := ⟨0, 0, none⟩) l2).trans g2
    have hl1 : w.heap.size + 1 < ((w.alloc (.cells #[.slice none 0 0] 22)).alloc (.cells #[.nilIface] 29)).heap.size := by simp
    rw [errV_pos ea (by decide)] at g3
    clear hb0
    have hlong : (4000 : Int) < (s.length : Int) := by omega
    clear hg hT
    go_enter Tryz.func17, Tryz.ntmps17
    go_wp2
    go_region
    all_goals
      go_wp2
      refine bodyPost_ret (v := .tuple #[.slice none 0 0, errV ea 2]) (by simp [results, Tryz.results17, go_sem, errV_pos ea (k := 2) (by decide)]) rfl ?_
      refine ⟨_, _, _, _, rfl, ?_, ?_, ?_, Nat.le_refl _, (((Below.refl _ w).alloc (Nat.le_refl _) _).alloc (by simp) _).drew⟩
      · rw [HR.out]; exact Or.inl ⟨rfl, rfl⟩
      · rw [HR.out]; exact Or.inl rfl
      · rw [HR.out]; rfl
  · by_cases h : s = [45]
    · subst h
      have HR : Hid (foldR [45] = ((0, -1), [])) := by unfold Hid; rfl
      clear hg hT
      go_enter Tryz.func17, Tryz.ntmps17
      go_wp2
      refine bodyPost_ret (v := .tuple #[.slice none 0 0, .nilIface]) (by simp [results, Tryz.results17, go_sem]) rfl ?_
      refine ⟨_, _, _, _, rfl, ?_, ?_, ?_, Nat.le_refl _, ((Below.refl _ w).alloc (Nat.le_refl _) _).alloc (by simp) _⟩
      · rw [HR.out]; exact Or.inl ⟨rfl, (errV_zero ea).symm⟩
      · rw [HR.out]; exact Or.inl rfl
      · rw [HR.out]; rfl
    · exact callsIn_wide.1 (foldRead_in ea s w (by omega) hg hT h)
end Go.Proofs.YtbfocagicagehaaGreatDoor
