/- mode: the map of allowed pairs, as a list of pairs. -/
import Derived.Test.YtmikeblbfmfimaaDoorProg
import Derived.Test.YtmikeblbfmfimaaDoorFlat
import Derived.Maps.Own
import Derived.Maps.OwnOps
import Derived.Maps.Views
import Derived.DeepKeys4
namespace Go.Proofs.YtmikeblbfmfimaaDoor
open Go.RowKit Go.Maps

/-- A pair, in memory and as a value. -/
def pairC (p : Int × Int) : List Value := [.int .i64 p.1, .int .i64 p.2]
theorem pairC_len (p : Int × Int) : (pairC p).length = 2 := rfl
def encPairs (l : List (Int × Int)) : List Value := l.flatMap pairC
theorem RowAt.pair {w : World} {a : Option Addr} {l : List (Int × Int)} (h : RowAt w a (encPairs l)) (k : Nat) (hk : k < l.length) :
    ∃ b off, a = some ⟨b, off, none⟩ ∧ b < w.heap.size ∧ w.cell? ⟨b, off + k * 2, none⟩ = some (.int .i64 l[k].1) ∧ w.cell? ⟨b, off + k * 2 + 1, none⟩ = some (.int .i64 l[k].2) := by
  obtain ⟨b, off, e, hlt, hc⟩ := h.flat 2 pairC_len (by omega) k hk
  exact ⟨b, off, e, hlt, by simpa using hc 0 _ rfl, hc 1 _ rfl⟩
theorem pairC_one (p : Int × Int) : ∀ u ∈ pairC p, u.oneCell' = true := by
  intro u hu; simp [pairC] at hu; rcases hu with rfl | rfl <;> rfl
theorem encPairs_snoc (xs : List (Int × Int)) (p : Int × Int) : encPairs (xs ++ [p]) = encPairs xs ++ pairC p := by simp [encPairs]

def pairV (a b : Int) : Value := .agg #[.int .i64 a, .int .i64 b]
def modeB (n : Int) : Bool := decide (0 ≤ n ∧ n < 4)
def pairB (p : Int × Int) : Bool := modeB p.1 && modeB p.2

theorem keyedPair : Keyed Tryd.prog 126 := Keyed.of_law (deep_law_laid (m := 9999) (by kernel_rfl) (by omega) (of_decide_eq_true (by kernel_rfl)) (by kernel_rfl) (by kernel_rfl))
theorem zeroBool (w : World) : (zeroValue 4).run Tryd.prog w = .ok (.bool false) w := by kernel_rfl

/-- What a pair of modes reads as, as a key. -/
noncomputable def keyL (a b : Int) : Lit := (keyOf Tryd.prog 126 (pairV a b)).getD (.bool false)
theorem key_all : ((List.range 4).all fun a => (List.range 4).all fun b => (keyOf Tryd.prog 126 (pairV (a : Int) (b : Int))).isSome) = true := by kernel_rfl
theorem key_at {a b : Int} (ha : modeB a = true) (hb : modeB b = true) : keyOf Tryd.prog 126 (pairV a b) = some (keyL a b) := by
  simp only [modeB, decide_eq_true_eq] at ha hb
  obtain ⟨m, rfl⟩ : ∃ m : Nat, a = m := ⟨a.toNat, by omega⟩
  obtain ⟨k, rfl⟩ : ∃ k : Nat, b = k := ⟨b.toNat, by omega⟩
  have h1 := List.all_eq_true.1 (List.all_eq_true.1 key_all m (List.mem_range.2 (by omega))) k (List.mem_range.2 (by omega))
  rw [keyL]
  cases h : keyOf Tryd.prog 126 (pairV (m : Int) (k : Int)) with
  | none => rw [h] at h1; simp at h1
  | some x => rfl
attribute [irreducible] keyL
set_option maxRecDepth 100000 in
theorem key_lit {a b : Int} (ha : modeB a = true) (hb : modeB b = true) : WideAt.IsKeyLit (keyL a b) := by
  have h := keyedPair.key (v := pairV a b) (l := keyL a b) (key_at ha hb)
  exact h
theorem key_inj {a b c d : Int} (ha : modeB a = true) (hb : modeB b = true) (hc : modeB c = true) (hd : modeB d = true) (h : keyL a b = keyL c d) : a = c ∧ b = d := by
  have h1 := key_at ha hb
  have h2 := key_at hc hd
  rw [← h] at h2
  have e := keyedPair.inj h1 h2
  simpa [pairV] using e

/-- The map's datum, of the pairs that were put. -/
noncomputable def mapD (l : List (Int × Int)) : DataW Unit := l.foldl (fun D p => D.put (keyL p.1 p.2) (.lit (.bool true))) (.map [])
theorem mapD_snoc (l : List (Int × Int)) (p : Int × Int) : mapD (l ++ [p]) = (mapD l).put (keyL p.1 p.2) (.lit (.bool true)) := by simp [mapD]
theorem isMap_mapD (l : List (Int × Int)) : IsMap (mapD l) := by
  unfold mapD
  suffices h : ∀ (l : List (Int × Int)) (D : DataW Unit), IsMap D → IsMap (l.foldl (fun D p => D.put (keyL p.1 p.2) (.lit (.bool true))) D) from h l _ ⟨[], rfl⟩
  intro l
  induction l with
  | nil => intro D h; exact h
  | cons p r ih => intro D h; obtain ⟨es, rfl⟩ := h; exact ih _ ⟨_, rfl⟩

theorem at_fold (a b : Int) (ha : modeB a = true) (hb : modeB b = true) : ∀ (l : List (Int × Int)) (D : DataW Unit), IsMap D → (∀ p ∈ l, pairB p = true) →
    (l.foldl (fun D p => D.put (keyL p.1 p.2) (.lit (.bool true))) D).atKey (keyL a b) (.lit (.bool false)) = if (a, b) ∈ l then .lit (.bool true) else D.atKey (keyL a b) (.lit (.bool false))
  | [], D, _, _ => by simp
  | p :: r, D, hD, hl => by
    have hp := hl p (by simp)
    simp only [pairB, Bool.and_eq_true] at hp
    have hD' : IsMap (D.put (keyL p.1 p.2) (.lit (.bool true))) := by obtain ⟨es, rfl⟩ := hD; exact ⟨_, rfl⟩
    rw [List.foldl_cons, at_fold a b ha hb r _ hD' (fun q hq => hl q (List.mem_cons_of_mem _ hq))]
    by_cases hr : (a, b) ∈ r
    · rw [if_pos hr, if_pos (List.mem_cons_of_mem _ hr)]
    · rw [if_neg hr]
      by_cases he : (a, b) = p
      · subst he
        rw [if_pos (by simp)]
        exact atKey_put_same hD (key_lit ha hb) _ _
      · rw [if_neg (by simp [he, hr])]
        refine atKey_put_other (fun e => he ?_) _ _
        obtain ⟨e1, e2⟩ := key_inj ha hb hp.1 hp.2 e
        exact Prod.ext e1 e2
theorem mapD_at {l : List (Int × Int)} (hl : ∀ p ∈ l, pairB p = true) {a b : Int} (ha : modeB a = true) (hb : modeB b = true) : (mapD l).atKey (keyL a b) (.lit (.bool false)) = .lit (.bool (decide ((a, b) ∈ l))) := by
  rw [mapD, at_fold a b ha hb l _ ⟨[], rfl⟩ hl]
  by_cases h : (a, b) ∈ l
  · rw [if_pos h, decide_eq_true h]
  · rw [if_neg h, decide_eq_false h]; rfl

/-- Block mb is the map of these pairs. -/
def PairMap (w : World) (mb : Nat) (l : List (Int × Int)) : Prop := ∃ n, n ≤ l.length ∧ w.ownsMap Tryd.prog 126 (plainElem Tryd.prog 4) mb n (mapD l)

theorem plainBool_inv {P : Program} {e : TypeId} (he : P.underlying e = some .bool) {v : Value} {d : DataW Unit} {ps : List MemPlace} (h : plainElem P e v = some (d, ps)) : ∃ x, v = .bool x ∧ d = .lit (.bool x) := by
  cases v <;> simp [plainElem, he] at h
  exact ⟨_, rfl, h.1.symm⟩

set_option maxRecDepth 100000 in
theorem pairMap_look {w : World} {mb : Nat} {l : List (Int × Int)} (h : PairMap w mb l) (hl : ∀ p ∈ l, pairB p = true) {a b : Int} (ha : modeB a = true) (hb : modeB b = true) :
    (Instr.lookup 127 (.map (some mb)) (pairV a b) false).run Tryd.prog w = .ok (.bool (decide ((a, b) ∈ l))) w := by
  obtain ⟨n, _, h⟩ := h
  obtain ⟨v, ps, hrun, hv⟩ := h.lookup keyedPair Tryd.underlying127 (zeroBool w) (plainElem_bool Tryd.underlying4 false) (key_at ha hb)
  rw [mapD_at hl ha hb] at hv
  obtain ⟨x, rfl, hx⟩ := plainBool_inv Tryd.underlying4 hv
  have hx' : decide ((a, b) ∈ l) = x := by simpa using hx
  rw [hrun, hx']

set_option maxRecDepth 100000 in
theorem pairMap_put {w : World} {mb : Nat} {l : List (Int × Int)} (h : PairMap w mb l) (hn : l.length < 1000) {a b : Int} (ha : modeB a = true) (hb : modeB b = true) :
    ∃ w', (Instr.mapUpdate 127 (.map (some mb)) (pairV a b) (.bool true)).run Tryd.prog w = .ok () w' ∧ PairMap w' mb (l ++ [(a, b)]) ∧ w.grownBy w' (some mb) := by
  obtain ⟨n, hle, h⟩ := h
  obtain ⟨w', hrun, ho, hg⟩ := h.update keyedPair Tryd.underlying127 (by unfold maxLen; omega) (key_at ha hb) (plainElem_bool Tryd.underlying4 true)
  exact ⟨w', hrun, ⟨n + 1, by simp; omega, by rw [mapD_snoc]; exact ho⟩, hg⟩
theorem PairMap.kept {w w' : World} {mb : Nat} {l : List (Int × Int)} (h : PairMap w mb l) {row : Option Nat} (hg : w.grownBy w' row) (hne : some mb ≠ row) : PairMap w' mb l := by
  obtain ⟨n, hle, h⟩ := h
  exact ⟨n, hle, h.kept hg hne⟩
theorem PairMap.lt {w : World} {mb : Nat} {l : List (Int × Int)} (h : PairMap w mb l) : mb < w.heap.size := by
  obtain ⟨n, hle, h⟩ := h
  exact h.lt
end Go.Proofs.YtmikeblbfmfimaaDoor
