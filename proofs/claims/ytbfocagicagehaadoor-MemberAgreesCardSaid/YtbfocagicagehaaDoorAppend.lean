/- append onto a slice of the call's own, from whatever slice, with where the result lies. No program in sight. -/
import Derived.Test.YtbfocagicagehaaDoorLib
namespace Go.Proofs.YtbfocagicagehaaDoor
open Go.RowKit

section
variable {P : Program} (w : World)

/-- Where a value's row lies after an append: as before, or in a new block. -/
def Moved (w : World) (v v' : Value) : Prop := v'.ownBlock = v.ownBlock ∨ ∃ k, w.heap.size ≤ k ∧ v'.ownBlock = some k

theorem run_append_own2 (base : Nat) (t ty e : TypeId) (i : TypeInfo) (z : Value) (size bytes : Nat) (ht : P.underlying t = some (.slice e)) (hi : P.info? e = some i) (hz : i.zero = some z)
    (hsize : i.size = size) (hby : i.bytes = bytes) (hzs : z.cells.size = size) (hsz : 0 < size)
    (v : Value) (n : Nat) (xs : List Value) (hown : w.ownsRow base e size v n xs)
    (sa : Option Addr) (m c : Nat) (news : List Value) (hl : news.length = m * size) (hnews : RowAt w sa news) (h1 : ∀ u ∈ news, u.oneCell' = true)
    (h63 : n + m ≤ maxLen) (hbytes : (n + m) * bytes ≤ 140737488355328) (hbase : base ≤ w.heap.size) :
    ∃ v' w', (Builtin.append_ #[t, t] ty #[v, .slice sa m c]).run P w = .ok v' w' ∧ w'.ownsRow base e size v' (n + m) (xs ++ news) ∧ w.grownBy w' v.ownBlock ∧
      (v' = .slice none 0 0 ↔ v = .slice none 0 0 ∧ m = 0) ∧ Moved w v v' := by
  by_cases hm : m = 0
  · subst hm
    have hn : news = [] := List.eq_nil_of_length_eq_zero (by simpa using hl)
    subst hn
    refine ⟨v, w, ?_, by simpa using hown, ⟨rfl, rfl, rfl, Nat.le_refl _, fun _ _ _ => rfl⟩, by simp, Or.inl rfl⟩
    rcases hown.2 with ⟨rfl, rfl⟩ | ⟨g, cap, cur, rfl, hbg, hg, hnc, hcm, hcs, htake⟩
    · cases sa <;> simp [Builtin.append_, run_underlying ht, sizeOf, typeInfo, hi, Builtin.lenOf, Builtin.firstCells, loadCells, loadCellsFrom]
    · cases sa <;> simp [Builtin.append_, run_underlying ht, sizeOf, typeInfo, hi, Builtin.lenOf, Builtin.firstCells, loadCells, loadCellsFrom, hnc, storeCells]
  have hne : news ≠ [] := fun e0 => by
    rw [e0] at hl
    have := Nat.pos_of_ne_zero hm
    have := Nat.mul_pos this hsz
    simp at hl; omega
  obtain ⟨b, off, rfl, _, hc⟩ := hnews.at hne
  have hnews' : ∀ j u, news[j]? = some u → w.cell? ((⟨b, off, none⟩ : Addr).add j) = some u := fun j u hu => by
    have hadd : (⟨b, off, none⟩ : Addr).add j = ⟨b, off + j, none⟩ := by unfold Addr.add; split <;> simp_all
    rw [hadd]; exact hc j u hu
  clear hc hnews
  obtain ⟨v', w', hr, h2, h3, h4⟩ := run_append_own (P := P) w base t ty e i z size bytes ht hi hz hsize hby hzs hsz v n xs hown ⟨b, off, none⟩ m c news hl hnews' h1 h63 hbytes hbase
  refine ⟨v', w', hr, h2, h3, h4, ?_⟩
  subst hsize
  subst hby
  have hsmall : n + m ≤ 9223372036854775807 := by simp only [maxLen] at h63; omega
  rcases hown.2 with ⟨rfl, rfl⟩ | ⟨g, cap, cur, rfl, hbg, hg, hnc, hcm, hcs, htake⟩
  · have hx : xs = [] := List.eq_nil_of_length_eq_zero (by simpa using hown.1)
    subst hx
    have hr2 := run_append_nil (P := P) w t ty e i z ht hi hz ⟨b, off, none⟩ m c news hl hnews' (by omega) (by omega) (by have hb := hbytes; simp only [Nat.zero_add] at hb; omega)
    rw [hr] at hr2
    injection hr2 with e1 e2
    subst e1
    exact Or.inr ⟨w.heap.size, Nat.le_refl _, rfl⟩
  · by_cases hroom : n + m ≤ cap
    · have hfit : n * i.size + news.length ≤ cur.size := by rw [hl, hcs, ← Nat.add_mul]; exact Nat.mul_le_mul_right _ hroom
      have hr2 := run_append_room (P := P) w t ty e i ht hi g n cap cur hg ⟨b, off, none⟩ m c news hl hnews' h1 hroom hfit
      rw [hr] at hr2
      injection hr2 with e1 e2
      subst e1
      exact Or.inl rfl
    · have holds : ∀ j u, xs[j]? = some u → w.cell? ((⟨g, 0, none⟩ : Addr).add j) = some u := hown.cells (g := g) rfl
      have hr2 := run_append_grow (P := P) w t ty e i z ht hi hz ⟨g, 0, none⟩ n cap xs hown.1 holds ⟨b, off, none⟩ m c news hl hnews' (by omega) (by omega) (growslice_fits (by omega) hbytes)
      rw [hr] at hr2
      injection hr2 with e1 e2
      subst e1
      exact Or.inr ⟨w.heap.size, Nat.le_refl _, rfl⟩

theorem wpList_append2 {ops : Array Oper} {rest : List Oper} {o : Oper} {a : Act} {Q : Exit → Act → World → Prop} (hgd : o.guard = none) (s x : Operand) (t : TypeId)
    (ho : o.op = .call { callee := .builtin .append, args := #[s, x], argTypes := #[t, t] })
    (base : Nat) (e : TypeId) (i : TypeInfo) (z : Value) (size bytes : Nat) (ht : P.underlying t = some (.slice e)) (hi : P.info? e = some i) (hz : i.zero = some z)
    (hsize : i.size = size) (hby : i.bytes = bytes) (hzs : z.cells.size = size) (hsz : 0 < size)
    (v : Value) (n : Nat) (xs : List Value) (hs : a.eval s = v) (hown : w.ownsRow base e size v n xs)
    (sa : Option Addr) (m c : Nat) (news : List Value) (hx : a.eval x = .slice sa m c) (hl : news.length = m * size) (hnews : RowAt w sa news) (h1 : ∀ u ∈ news, u.oneCell' = true)
    (h63 : n + m ≤ maxLen) (hbytes : (n + m) * bytes ≤ 140737488355328) (hbase : base ≤ w.heap.size)
    (h : ∀ v' w', w'.ownsRow base e size v' (n + m) (xs ++ news) → w.grownBy w' v.ownBlock → (v' = .slice none 0 0 ↔ v = .slice none 0 0 ∧ m = 0) → Moved w v v' → wpList P ops Q rest (a.put o.dst v') w') : wpList P ops Q (o :: rest) a w :=
  wpList_plain hgd fun K hK => by
    obtain ⟨v', w', hr, h2, h3, h4, h5⟩ := run_append_own2 (P := P) w base t o.type e i z size bytes ht hi hz hsize hby hzs hsz v n xs hown sa m c news hl hnews h1 h63 hbytes hbase
    unfold Oper.wp execOp
    simp only [ho, resolve, invoke, builtin, Sem.run_bind, Sem.run_pure, Result.andThen_ok, List.map_toArray, List.map_cons, List.map_nil, hs, hx, hr]
    exact hK _ _ (h v' w' h2 h3 h4 h5)
end

theorem RowAt.new_at (w : World) (cs : List Value) (t : TypeId) (n : Nat) (hn : n = w.heap.size) : RowAt (w.alloc (.cells cs.toArray t)) (some ⟨n, 0, none⟩) cs :=
  Or.inr ⟨n, 0, rfl, by simp [hn], fun i v hv => by rw [World.cell?_alloc_at _ _ _ _ hn]; simpa using hv⟩

/-- A new block's cells, behind an append to another row. -/
theorem grown_cell {W w' : World} {row : Option Nat} (hg : W.grownBy w' row) {b i : Nat} {v : Value} (hc : W.cell? ⟨b, i, none⟩ = some v) (hne : some b ≠ row) : w'.cell? ⟨b, i, none⟩ = some v := hg.cell hc hne

theorem own_ne {w : World} {base : Nat} {e : TypeId} {size : Nat} {v : Value} {n : Nat} {xs : List Value} (h : w.ownsRow base e size v n xs) {b : Nat} (hb : w.heap.size ≤ b) : some b ≠ v.ownBlock := fun e => by
  have := (h.lt b e.symm).2; omega

/-- Two rows that lie apart still do, behind an append to the first. -/
theorem apart_first {w W : World} {base : Nat} {e : TypeId} {size : Nat} {va vb va' : Value} {n : Nat} {xs : List Value} (hd : va.ownBlock = none ∨ va.ownBlock ≠ vb.ownBlock) (hb : w.ownsRow base e size vb n xs) (hw : w.heap.size ≤ W.heap.size) (hm : Moved W va va') :
    va'.ownBlock = none ∨ va'.ownBlock ≠ vb.ownBlock := by
  rcases hm with hm | ⟨k, hk, hm⟩
  · rw [hm]; exact hd
  · rw [hm]; exact Or.inr (own_ne hb (by omega))
/-- .. to the second. -/
theorem apart_second {w W : World} {base : Nat} {e : TypeId} {size : Nat} {va vb vb' : Value} {n : Nat} {xs : List Value} (hd : va.ownBlock = none ∨ va.ownBlock ≠ vb.ownBlock) (ha : w.ownsRow base e size va n xs) (hw : w.heap.size ≤ W.heap.size) (hm : Moved W vb vb') :
    va.ownBlock = none ∨ va.ownBlock ≠ vb'.ownBlock := by
  rcases hm with hm | ⟨k, hk, hm⟩
  · rw [hm]; exact hd
  · rw [hm]; exact Or.inr (fun e => own_ne ha (b := k) (by omega) e.symm)

theorem apart_symm {va vb : Value} (hd : va.ownBlock = none ∨ va.ownBlock ≠ vb.ownBlock) : vb.ownBlock = none ∨ vb.ownBlock ≠ va.ownBlock := by
  rcases hd with hd | hd
  · cases h : vb.ownBlock with
    | none => exact Or.inl rfl
    | some x => exact Or.inr (by rw [hd]; simp)
  · exact Or.inr (fun e => hd e.symm)
theorem encEnts_snoc (xs : List Ent) (e : Ent) : encEnts (xs ++ [e]) = encEnts xs ++ e.cells := by simp [encEnts]
theorem Ent.one (e : Ent) : ∀ u ∈ e.cells, u.oneCell' = true := by
  intro u hu; simp [Ent.cells] at hu; rcases hu with rfl | rfl | rfl | rfl <;> rfl

/-- An owned row reads as a slice. -/
theorem RowAt.owned {w : World} {base : Nat} {e : TypeId} {size : Nat} {a : Option Addr} {n n' cap : Nat} {xs : List Value} (h : w.ownsRow base e size (.slice a n' cap) n xs) : RowAt w a xs ∧ n' = n ∧ n ≤ cap ∧ cap ≤ maxLen := by
  obtain ⟨hl, h⟩ := h
  rcases h with ⟨h, rfl⟩ | ⟨g, cap', cur, h, _, hg, hc, hm, hs, ht⟩
  · injection h with h1 h2 h3
    subst h1; subst h2; subst h3
    exact ⟨Or.inl (List.eq_nil_of_length_eq_zero (by simpa using hl)), rfl, Nat.le_refl _, by simp [maxLen]⟩
  · injection h with h1 h2 h3
    subst h1; subst h2; subst h3
    refine ⟨Or.inr ⟨g, 0, rfl, (Array.getElem?_eq_some_iff.1 hg).1, fun i v hv => ?_⟩, rfl, hc, hm⟩
    rw [← ht, List.getElem?_take] at hv
    split at hv
    · rw [Nat.zero_add, cell_of_row w g i cur e (0, 0) hg]; simpa using hv
    · cases hv
theorem owned_shape {w : World} {base : Nat} {e : TypeId} {size : Nat} {v : Value} {n : Nat} {xs : List Value} (h : w.ownsRow base e size v n xs) : ∃ a cap, v = .slice a n cap := by
  rcases h.2 with ⟨rfl, rfl⟩ | ⟨g, cap, cur, rfl, _⟩
  · exact ⟨_, _, rfl⟩
  · exact ⟨_, _, rfl⟩
end Go.Proofs.YtbfocagicagehaaDoor
