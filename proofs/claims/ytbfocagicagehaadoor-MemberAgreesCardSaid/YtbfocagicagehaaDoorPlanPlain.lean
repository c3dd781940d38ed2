/- The plain law of PlanWaits: over a round, from whatever slot, each node has its share. -/
import Derived.Test.YtbfocagicagehaaDoorPlan2
namespace Go.Proofs.YtbfocagicagehaaDoor

theorem round_is (l : List Int) (s : Nat) (h : 0 < l.length) : (List.range l.length).map (fun j => whoV l (s + j)) = l.drop (s % l.length) ++ l.take (s % l.length) := by
  have hr : s % l.length < l.length := Nat.mod_lt _ h
  generalize hq : s % l.length = r at *
  refine List.ext_getElem (by simp; omega) (fun j h1 h2 => ?_)
  simp only [List.length_map, List.length_range] at h1
  rw [List.getElem_map, List.getElem_range, whoV]
  have e1 : (s + j) % l.length = (r + j) % l.length := by rw [← hq, Nat.mod_add_mod]
  rw [e1]
  by_cases hj : r + j < l.length
  · rw [Nat.mod_eq_of_lt hj, List.getElem_append_left (by simp; omega), List.getElem_drop, List.getD_eq_getElem?_getD, List.getElem?_eq_getElem hj]; rfl
  · have e2 : (r + j) % l.length = r + j - l.length := by
      rw [Nat.mod_eq_sub_mod (by omega), Nat.mod_eq_of_lt (by omega)]
    rw [e2, List.getElem_append_right (by simp; omega), List.getElem_take, List.getD_eq_getElem?_getD, List.getElem?_eq_getElem (by omega)]
    simp only [List.length_drop, Option.getD_some]
    congr 1
    omega

/-- How many of the first k slots from s on are the node's. -/
def had (l : List Int) (node : Int) (s k : Nat) : Nat := ((List.range k).map fun j => whoV l (s + j)).count node
theorem had_succ (l : List Int) (node : Int) (s k : Nat) : had l node s (k + 1) = had l node s k + (if whoV l (s + k) == node then 1 else 0) := by
  simp only [had, List.range_succ, List.map_append, List.count_append, List.map_cons, List.map_nil, List.count_singleton]
theorem had_le (l : List Int) (node : Int) (s k : Nat) : had l node s k ≤ k := by
  have := List.count_le_length (a := node) (l := (List.range k).map fun j => whoV l (s + j)); simpa [had] using this
theorem had_round (l : List Int) (node : Int) (s : Nat) (h : 0 < l.length) : had l node s l.length = l.count node := by
  rw [had, round_is l s h, List.count_append, Nat.add_comm, ← List.count_append, List.take_append_drop]

theorem whoV_mem (l : List Int) (s : Nat) (h : 0 < l.length) : whoV l s ∈ l := by
  rw [whoV, List.getD_eq_getElem?_getD, List.getElem?_eq_getElem (Nat.mod_lt _ h)]
  exact List.getElem_mem _
theorem mem_whoV (l : List Int) (s : Nat) (h : 0 < l.length) (x : Int) (hx : x ∈ l) : ∃ j, j < l.length ∧ whoV l (s + j) = x := by
  have : x ∈ (List.range l.length).map (fun j => whoV l (s + j)) := by
    rw [round_is l s h, List.mem_append, or_comm, ← List.mem_append, List.take_append_drop]; exact hx
  obtain ⟨j, hj, e⟩ := List.mem_map.1 this
  exact ⟨j, by simpa using hj, e⟩
end Go.Proofs.YtbfocagicagehaaDoor
