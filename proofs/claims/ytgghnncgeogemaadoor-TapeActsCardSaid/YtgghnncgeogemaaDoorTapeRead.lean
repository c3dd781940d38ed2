/- tape.record, tape.one, tape.Read. -/
import Derived.Test.YtgghnncgeogemaaDoorTapePlain
import Derived.Test.YtgghnncgeogemaaDoorLib
import Derived.Test.YtgghnncgeogemaaDoorTxt
import Derived.Lib.IndexBytes
import Derived.Lib.IndexMore
namespace Go.Proofs.YtgghnncgeogemaaDoor
open Go.RowKit

theorem bt_mid (l : List UInt8) (f k : Nat) : (⟨l.toArray⟩ : ByteArray).extract f k = ⟨((l.drop f).take (k - f)).toArray⟩ := by
  apply ByteArray.ext
  apply Array.ext'
  simp [ByteArray.data_extract, List.extract_eq_take_drop]
theorem run_addt (a b : List UInt8) (h : a.length + b.length ≤ 9223372036854775807) (W : World) : (Op.stringOp .add ⟨a.toArray⟩ ⟨b.toArray⟩).run Tryd.prog W = .ok (.string ⟨(a ++ b).toArray⟩) W := by
  have hs : ∀ l : List UInt8, (⟨l.toArray⟩ : ByteArray).size = l.length := fun l => rfl
  have h2 : ¬ (9223372036854775807 < ((a.length : Int) + (b.length : Int))) := by omega
  simp [Op.stringOp, hs, ba_append] <;> omega
theorem cutT_any (l p : List UInt8) (w : World) (hT : TxtEnv w) (hl : l.length ≤ 4294967280) :
    Calls Tryd.prog 27 #[.string ⟨l.toArray⟩, .string ⟨p.toArray⟩] w fun e w' => e = .returned (.tuple #[.string ⟨(Lib.cut l p).1.toArray⟩, .string ⟨(Lib.cut l p).2.1.toArray⟩, .bool (Lib.cut l p).2.2]) ∧ Below w.heap.size w w' := by
  obtain ⟨m, _, hm⟩ := hT.mx
  refine (Tryd.strings_Cut ⟨l.toArray⟩ ⟨p.toArray⟩ m w (by simp [ByteArray.size]; omega) hm).mono ?_
  rintro e w' ⟨rfl, k, rfl⟩
  exact ⟨rfl, below_drewN (Below.refl _ _) k⟩
theorem indexB_take : ∀ (b : List UInt8), ((headC b).length < b.length ∧ Lib.indexByte b 58 = ((headC b).length : Nat)) ∨ ((headC b).length = b.length ∧ Lib.indexByte b 58 = -1)
  | [] => Or.inr ⟨rfl, rfl⟩
  | c :: r => by
    by_cases hc : c = 58
    · subst hc
      left
      exact ⟨by simp [headC], by simp [headC, Lib.indexByte]⟩
    · have h1 : headC (c :: r) = c :: headC r := by unfold headC; rw [List.takeWhile_cons_of_pos (by simpa using hc)]
      have hb : (c == 58) = false := by simpa using hc
      rw [h1]
      rcases indexB_take r with ⟨h2, h3⟩ | ⟨h2, h3⟩
      · left
        refine ⟨by simp; omega, ?_⟩
        rw [Lib.indexByte, hb, h3]
        have e : ((((headC r).length : Nat) : Int) == -1) = false := by simp <;> omega
        simp [e]
      · right
        refine ⟨by simp; omega, ?_⟩
        rw [Lib.indexByte, hb, h3]; rfl
theorem cut_yes {b : List UInt8} (h : (headC b).length < b.length) : Lib.cut b [58] = (headC b, restC b, true) := by
  rcases indexB_take b with ⟨_, h2⟩ | ⟨h2, _⟩
  · rw [Lib.cut, Lib.index_one, h2, if_pos (by omega), Int.toNat_natCast]
    have e : b.take (headC b).length = headC b := (List.prefix_iff_eq_take.1 (List.takeWhile_prefix _)).symm
    rw [e]; rfl
  · omega
theorem cut_no {b : List UInt8} (h : ¬ (headC b).length < b.length) : Lib.cut b [58] = (b, [], false) := by
  rcases indexB_take b with ⟨h2, _⟩ | ⟨_, h2⟩
  · exact absurd h2 h
  · rw [Lib.cut, Lib.index_one, h2, if_neg (by omega)]
theorem itoa_le {n : Int} (h0 : -10000000 < n) (h1 : n < 10000000) : (Lib.itoa n).length ≤ 9 := by
  unfold Lib.itoa
  split
  · rename_i h
    have := (digits_le n.natAbs 8 (by omega)).2 (by simp only [Nat.reducePow]; omega)
    simp; omega
  · have := (digits_le n.toNat 8 (by omega)).2 (by simp only [Nat.reducePow]; omega)
    omega
/-- What tape.one asks of a number. -/
theorem one_bad {b : List UInt8} (h : ∀ n, Lib.atoiAll (headC b) ≠ .ok n) : oneF b = none := by
  unfold oneF
  split
  · have : numF (headC b) = none := by
      unfold numF
      split
      · rename_i n hn; exact absurd hn (h n)
      · rfl
    rw [this]
  · rfl
theorem one_good {b : List UInt8} {n : Int} (hl : (headC b).length < b.length) (h : Lib.atoiAll (headC b) = .ok n) :
    oneF b = if (headC b).length ≤ 9 ∧ 0 ≤ n ∧ Lib.itoa n = headC b ∧ n ≤ 4000 ∧ n.toNat + 2 ≤ (restC b).length ∧ ((restC b).drop n.toNat).take 2 = [10, 46] then some ((restC b).take n.toNat) else none := by
  unfold oneF
  rw [if_pos hl]
  cases hf : numF (headC b) with
  | none =>
    rw [if_neg]
    rintro ⟨_, h0, h1, h2, _⟩
    have := (numF_iff (headC b) n).2 ⟨h1.symm, by omega, by omega⟩
    rw [hf] at this; cases this
  | some m =>
    obtain ⟨e1, e2, e3⟩ := (numF_iff _ _).1 hf
    have e4 := atoiAll_itoa m (by omega) (by omega)
    rw [← e1, h] at e4
    obtain rfl : n = m := by injection e4
    have e5 := itoa_le e2 e3
    rw [← e1] at e5
    dsimp only
    by_cases hc : 0 ≤ n ∧ n ≤ 4000 ∧ n.toNat + 2 ≤ (restC b).length ∧ ((restC b).drop n.toNat).take 2 = [10, 46]
    · rw [if_pos hc, if_pos ⟨e5, hc.1, e1.symm, hc.2⟩]
    · rw [if_neg hc, if_neg (fun x => hc ⟨x.2.1, x.2.2.2⟩)]

theorem itoa_len20 (n : Nat) (h : n ≤ 4294967296) : (Lib.itoa ((n : Nat) : Int)).length ≤ 10 := by
  have e : Lib.itoa ((n : Nat) : Int) = Lib.decDigits n := by
    unfold Lib.itoa
    rw [if_neg (by omega)]
    simp
  rw [e]
  exact (digits_le n 10 (by omega)).2 (by simp only [Nat.reducePow]; omega)
theorem recB_le (s : List UInt8) (h : s.length ≤ 4294967280) : (recB s).length ≤ s.length + 13 := by
  have := itoa_len20 s.length (by omega)
  rw [recB]; simp; omega
theorem recB_eq (s : List UInt8) : recB s = ((Lib.itoa (s.length : Nat) ++ [58]) ++ s) ++ [10, 46] := by simp [recB]
set_option maxHeartbeats 800000 in
theorem record_any (s : List UInt8) (w : World) (hT : TxtEnv w) (hs : s.length ≤ 4294967280) :
    Calls Tryd.prog 20 #[.string ⟨s.toArray⟩] w fun e w' => e = .returned (.string ⟨(recB s).toArray⟩) ∧ Below w.heap.size w w' := by
  have KI := Lib.hid (itoa_any (s.length : Nat) w hT (by omega))
  have hl := itoa_len20 s.length (by omega)
  rw [recB_eq]
  generalize Lib.itoa ((s.length : Nat) : Int) = t at *
  have a1 := run_addt t [58] (by simp; omega)
  have a2 := run_addt (t ++ [58]) s (by simp; omega)
  have a3 := run_addt (t ++ [58] ++ s) [10, 46] (by simp; omega)
  clear hT
  go_enter Tryd.func20, Tryd.ntmps20
  go_wp2_with fail
  refine KI.out.mono ?_
  rintro e w1 ⟨rfl, hb⟩
  go_wp2
  go_ret
  refine ⟨?_, hb⟩
  show Ending.returned (.string ((⟨(t ++ 58 :: s).toArray⟩ : ByteArray) ++ ⟨[10, 46].toArray⟩)) = _
  rw [ba_append]
  simp


theorem atoi_v (l : List UInt8) (w : World) (hT : TxtEnv w) (hl : l.length ≤ 4294967280) :
    Calls Tryd.prog 28 #[.string ⟨l.toArray⟩] w fun e w' => (∃ m v, e = .returned (.tuple #[.int .i64 m, v])) ∧ Below w.heap.size w w' := by
  by_cases h : ∃ n, Lib.atoiAll l = .ok n
  · obtain ⟨n, hn⟩ := h
    exact (atoi_good l n w hl hn).mono fun e w' ⟨h1, h2⟩ => ⟨⟨n, .nilIface, h1⟩, h2⟩
  · exact (atoi_bad l w hT hl (fun n hn => h ⟨n, hn⟩)).mono fun e w' ⟨⟨m, t, x, h1⟩, h2⟩ => ⟨⟨m, .iface t x, h1⟩, h2⟩
set_option maxHeartbeats 800000 in
theorem one_none1 (b : List UInt8) (w : World) (hT : TxtEnv w) (hs : b.length ≤ 4294967280) (h : ¬ (headC b).length < b.length) :
    Calls Tryd.prog 22 #[.string ⟨b.toArray⟩] w fun e w' => e = .returned (.tuple #[.string ⟨#[]⟩, .bool false]) ∧ Below w.heap.size w w' := by
  have KC := Lib.hid (cutT_any b [58] w hT hs)
  rw [cut_no h] at KC
  have KA := Lib.hid (fun (W : World) (hb : Below w.heap.size w W) => atoi_v b W (hT.below hb) hs)
  clear hT h
  go_enter Tryd.func22, Tryd.ntmps22
  go_wp2_with fail
  refine KC.out.mono ?_
  rintro e w1 ⟨rfl, hb1⟩
  go_wp2_with fail
  refine (KA.out _ hb1).mono ?_
  rintro e w2 ⟨⟨m, v, rfl⟩, hb2⟩
  go_wp2
  go_ret2
  exact ⟨rfl, hb1.trans (hb2.mono hb1.size)⟩
set_option maxHeartbeats 800000 in
theorem one_none2 (b : List UInt8) (w : World) (hT : TxtEnv w) (hs : b.length ≤ 4294967280) (h : (headC b).length < b.length) (hn : ∀ n, Lib.atoiAll (headC b) ≠ .ok n) :
    Calls Tryd.prog 22 #[.string ⟨b.toArray⟩] w fun e w' => e = .returned (.tuple #[.string ⟨#[]⟩, .bool false]) ∧ Below w.heap.size w w' := by
  have KC := Lib.hid (cutT_any b [58] w hT hs)
  rw [cut_yes h] at KC
  have KA := Lib.hid (fun (W : World) (hb : Below w.heap.size w W) => atoi_bad (headC b) W (hT.below hb) (by omega) hn)
  clear hT h hn
  go_enter Tryd.func22, Tryd.ntmps22
  go_wp2_with fail
  refine KC.out.mono ?_
  rintro e w1 ⟨rfl, hb1⟩
  go_wp2_with fail
  refine (KA.out _ hb1).mono ?_
  rintro e w2 ⟨⟨m, t, x, rfl⟩, hb2⟩
  go_wp2
  go_ret2
  exact ⟨rfl, hb1.trans (hb2.mono hb1.size)⟩

set_option maxRecDepth 100000 in
set_option maxHeartbeats 800000 in
theorem one_case1 (b d r : List UInt8) (n : Int) (w : World) (hT : TxtEnv w) (hs : b.length ≤ 4294967280) (hl : d.length ≤ 4294967280) (_hrl : r.length ≤ 4294967280) (hc : Lib.cut b [58] = (d, r, true)) (hn : Lib.atoiAll d = .ok n) (h1 : 9 < d.length) :
    Calls Tryd.prog 22 #[.string ⟨b.toArray⟩] w fun e w' => e = .returned (.tuple #[.string ⟨#[]⟩, .bool false]) ∧ Below w.heap.size w w' := by
  have KC := Lib.hid (cutT_any b [58] w hT hs)
  rw [hc] at KC
  have KA := Lib.hid (fun (W : World) => atoi_good d n W hl hn)
  have hb := Lib.atoiAll_bounds hn
  have d9 : decide ((d.length : Int) ≤ 9) = false := decide_eq_false (by omega)
  clear hT hc hn
  go_enter Tryd.func22, Tryd.ntmps22
  go_wp2_with fail
  refine KC.out.mono ?_
  rintro e w1 ⟨rfl, hb1⟩
  go_wp2_with fail
  refine (KA.out _).mono ?_
  rintro e w2 ⟨rfl, hb2⟩
  have hv2 := hb1.trans (hb2.mono hb1.size)
  go_wp2
  go_ret2
  exact ⟨rfl, hv2⟩

set_option maxRecDepth 100000 in
set_option maxHeartbeats 800000 in
theorem one_case2 (b d r : List UInt8) (n : Int) (w : World) (hT : TxtEnv w) (hs : b.length ≤ 4294967280) (hl : d.length ≤ 4294967280) (_hrl : r.length ≤ 4294967280) (hc : Lib.cut b [58] = (d, r, true)) (hn : Lib.atoiAll d = .ok n) (h1 : d.length ≤ 9) (h2 : n < 0) :
    Calls Tryd.prog 22 #[.string ⟨b.toArray⟩] w fun e w' => e = .returned (.tuple #[.string ⟨#[]⟩, .bool false]) ∧ Below w.heap.size w w' := by
  have KC := Lib.hid (cutT_any b [58] w hT hs)
  rw [hc] at KC
  have KA := Lib.hid (fun (W : World) => atoi_good d n W hl hn)
  have hb := Lib.atoiAll_bounds hn
  have d9 : decide ((d.length : Int) ≤ 9) = true := decide_eq_true (by omega)
  have d0 : decide (0 ≤ n) = false := decide_eq_false (by omega)
  clear hT hc hn
  go_enter Tryd.func22, Tryd.ntmps22
  go_wp2_with fail
  refine KC.out.mono ?_
  rintro e w1 ⟨rfl, hb1⟩
  go_wp2_with fail
  refine (KA.out _).mono ?_
  rintro e w2 ⟨rfl, hb2⟩
  have hv2 := hb1.trans (hb2.mono hb1.size)
  go_wp2
  go_ret2
  exact ⟨rfl, hv2⟩

set_option maxRecDepth 100000 in
set_option maxHeartbeats 800000 in
theorem one_case3 (b d r : List UInt8) (n : Int) (w : World) (hT : TxtEnv w) (hs : b.length ≤ 4294967280) (hl : d.length ≤ 4294967280) (_hrl : r.length ≤ 4294967280) (hc : Lib.cut b [58] = (d, r, true)) (hn : Lib.atoiAll d = .ok n) (h1 : d.length ≤ 9) (h2 : 0 ≤ n) (h3 : Lib.itoa n ≠ d) :
    Calls Tryd.prog 22 #[.string ⟨b.toArray⟩] w fun e w' => e = .returned (.tuple #[.string ⟨#[]⟩, .bool false]) ∧ Below w.heap.size w w' := by
  have KC := Lib.hid (cutT_any b [58] w hT hs)
  rw [hc] at KC
  have KA := Lib.hid (fun (W : World) => atoi_good d n W hl hn)
  have hb := Lib.atoiAll_bounds hn
  have KI := Lib.hid (fun (W : World) (hb0 : Below w.heap.size w W) => itoa_any n W (hT.below hb0) hb)
  have d9 : decide ((d.length : Int) ≤ 9) = true := decide_eq_true (by omega)
  have d0 : decide (0 ≤ n) = true := decide_eq_true h2
  generalize Lib.itoa n = t at *
  clear hT hc hn
  go_enter Tryd.func22, Tryd.ntmps22
  go_wp2_with fail
  refine KC.out.mono ?_
  rintro e w1 ⟨rfl, hb1⟩
  go_wp2_with fail
  refine (KA.out _).mono ?_
  rintro e w2 ⟨rfl, hb2⟩
  have hv2 := hb1.trans (hb2.mono hb1.size)
  go_wp2_with fail
  refine (KI.out _ hv2).mono ?_
  rintro e w3 ⟨rfl, hb3⟩
  have hv3 := hv2.trans (hb3.mono hv2.size)
  go_wp2
  go_ret2
  exact ⟨rfl, hv3⟩

set_option maxRecDepth 100000 in
set_option maxHeartbeats 800000 in
theorem one_case4 (b d r : List UInt8) (n : Int) (w : World) (hT : TxtEnv w) (hs : b.length ≤ 4294967280) (hl : d.length ≤ 4294967280) (_hrl : r.length ≤ 4294967280) (hc : Lib.cut b [58] = (d, r, true)) (hn : Lib.atoiAll d = .ok n) (h1 : d.length ≤ 9) (h2 : 0 ≤ n) (h3 : Lib.itoa n = d) (h4 : 4000 < n) :
    Calls Tryd.prog 22 #[.string ⟨b.toArray⟩] w fun e w' => e = .returned (.tuple #[.string ⟨#[]⟩, .bool false]) ∧ Below w.heap.size w w' := by
  have KC := Lib.hid (cutT_any b [58] w hT hs)
  rw [hc] at KC
  have KA := Lib.hid (fun (W : World) => atoi_good d n W hl hn)
  have hb := Lib.atoiAll_bounds hn
  have KI := Lib.hid (fun (W : World) (hb0 : Below w.heap.size w W) => itoa_any n W (hT.below hb0) hb)
  have d9 : decide ((d.length : Int) ≤ 9) = true := decide_eq_true (by omega)
  have d0 : decide (0 ≤ n) = true := decide_eq_true h2
  rw [h3] at KI
  have d4 : decide (4000 < n) = true := decide_eq_true h4
  clear hT hc hn
  go_enter Tryd.func22, Tryd.ntmps22
  go_wp2_with fail
  refine KC.out.mono ?_
  rintro e w1 ⟨rfl, hb1⟩
  go_wp2_with fail
  refine (KA.out _).mono ?_
  rintro e w2 ⟨rfl, hb2⟩
  have hv2 := hb1.trans (hb2.mono hb1.size)
  go_wp2_with fail
  refine (KI.out _ hv2).mono ?_
  rintro e w3 ⟨rfl, hb3⟩
  have hv3 := hv2.trans (hb3.mono hv2.size)
  go_wp2
  go_ret2
  exact ⟨rfl, hv3⟩

set_option maxRecDepth 100000 in
set_option maxHeartbeats 800000 in
theorem one_case5 (b d r : List UInt8) (n : Int) (w : World) (hT : TxtEnv w) (hs : b.length ≤ 4294967280) (hl : d.length ≤ 4294967280) (_hrl : r.length ≤ 4294967280) (hc : Lib.cut b [58] = (d, r, true)) (hn : Lib.atoiAll d = .ok n) (h1 : d.length ≤ 9) (h2 : 0 ≤ n) (h3 : Lib.itoa n = d) (h4 : n ≤ 4000) (h5 : r.length < n.toNat + 2) :
    Calls Tryd.prog 22 #[.string ⟨b.toArray⟩] w fun e w' => e = .returned (.tuple #[.string ⟨#[]⟩, .bool false]) ∧ Below w.heap.size w w' := by
  have KC := Lib.hid (cutT_any b [58] w hT hs)
  rw [hc] at KC
  have KA := Lib.hid (fun (W : World) => atoi_good d n W hl hn)
  have hb := Lib.atoiAll_bounds hn
  have KI := Lib.hid (fun (W : World) (hb0 : Below w.heap.size w W) => itoa_any n W (hT.below hb0) hb)
  have d9 : decide ((d.length : Int) ≤ 9) = true := decide_eq_true (by omega)
  have d0 : decide (0 ≤ n) = true := decide_eq_true h2
  rw [h3] at KI
  have d4 : decide (4000 < n) = false := decide_eq_false (by omega)
  have d5 : decide ((r.length : Int) < n + 2) = true := decide_eq_true (by omega)
  clear hT hc hn
  go_enter Tryd.func22, Tryd.ntmps22
  go_wp2_with fail
  refine KC.out.mono ?_
  rintro e w1 ⟨rfl, hb1⟩
  go_wp2_with fail
  refine (KA.out _).mono ?_
  rintro e w2 ⟨rfl, hb2⟩
  have hv2 := hb1.trans (hb2.mono hb1.size)
  go_wp2_with fail
  refine (KI.out _ hv2).mono ?_
  rintro e w3 ⟨rfl, hb3⟩
  have hv3 := hv2.trans (hb3.mono hv2.size)
  go_wp2
  go_ret2
  exact ⟨rfl, hv3⟩

set_option maxRecDepth 100000 in
set_option maxHeartbeats 800000 in
theorem one_case6 (b d r : List UInt8) (n : Int) (w : World) (hT : TxtEnv w) (hs : b.length ≤ 4294967280) (hl : d.length ≤ 4294967280) (_hrl : r.length ≤ 4294967280) (hc : Lib.cut b [58] = (d, r, true)) (hn : Lib.atoiAll d = .ok n) (h1 : d.length ≤ 9) (h2 : 0 ≤ n) (h3 : Lib.itoa n = d) (h4 : n ≤ 4000) (h5 : n.toNat + 2 ≤ r.length) (h6 : (r.drop n.toNat).take 2 ≠ [10, 46]) :
    Calls Tryd.prog 22 #[.string ⟨b.toArray⟩] w fun e w' => e = .returned (.tuple #[.string ⟨#[]⟩, .bool false]) ∧ Below w.heap.size w w' := by
  have KC := Lib.hid (cutT_any b [58] w hT hs)
  rw [hc] at KC
  have KA := Lib.hid (fun (W : World) => atoi_good d n W hl hn)
  have hb := Lib.atoiAll_bounds hn
  have KI := Lib.hid (fun (W : World) (hb0 : Below w.heap.size w W) => itoa_any n W (hT.below hb0) hb)
  have d9 : decide ((d.length : Int) ≤ 9) = true := decide_eq_true (by omega)
  have d0 : decide (0 ≤ n) = true := decide_eq_true h2
  rw [h3] at KI
  have d4 : decide (4000 < n) = false := decide_eq_false (by omega)
  have d5 : decide ((r.length : Int) < n + 2) = false := decide_eq_false (by omega)
  have hx := fun W : World => run_slice_string (P := Tryd.prog) (w := W) 9 ⟨r.toArray⟩ .i64 .i64 n (n + 2) Tryd.underlying9 h2 (by omega) (by show n + 2 ≤ (r.length : Int); omega)
  rw [bt_mid, show (n + 2).toNat - n.toNat = 2 by omega] at hx
  generalize (r.drop n.toNat).take 2 = q at *
  have hqb : (q == [10, 46]) = false := by simpa using h6
  clear hT hc hn
  go_enter Tryd.func22, Tryd.ntmps22
  go_wp2_with fail
  refine KC.out.mono ?_
  rintro e w1 ⟨rfl, hb1⟩
  go_wp2_with fail
  refine (KA.out _).mono ?_
  rintro e w2 ⟨rfl, hb2⟩
  have hv2 := hb1.trans (hb2.mono hb1.size)
  go_wp2_with fail
  refine (KI.out _ hv2).mono ?_
  rintro e w3 ⟨rfl, hb3⟩
  have hv3 := hv2.trans (hb3.mono hv2.size)
  go_wp2
  go_ret2
  exact ⟨rfl, hv3⟩

set_option maxRecDepth 100000 in
set_option maxHeartbeats 800000 in
theorem one_case7 (b d r : List UInt8) (n : Int) (w : World) (hT : TxtEnv w) (hs : b.length ≤ 4294967280) (hl : d.length ≤ 4294967280) (_hrl : r.length ≤ 4294967280) (hc : Lib.cut b [58] = (d, r, true)) (hn : Lib.atoiAll d = .ok n) (h1 : d.length ≤ 9) (h2 : 0 ≤ n) (h3 : Lib.itoa n = d) (h4 : n ≤ 4000) (h5 : n.toNat + 2 ≤ r.length) (h6 : (r.drop n.toNat).take 2 = [10, 46]) :
    Calls Tryd.prog 22 #[.string ⟨b.toArray⟩] w fun e w' => e = .returned (.tuple #[.string ⟨(r.take n.toNat).toArray⟩, .bool true]) ∧ Below w.heap.size w w' := by
  have KC := Lib.hid (cutT_any b [58] w hT hs)
  rw [hc] at KC
  have KA := Lib.hid (fun (W : World) => atoi_good d n W hl hn)
  have hb := Lib.atoiAll_bounds hn
  have KI := Lib.hid (fun (W : World) (hb0 : Below w.heap.size w W) => itoa_any n W (hT.below hb0) hb)
  have d9 : decide ((d.length : Int) ≤ 9) = true := decide_eq_true (by omega)
  have d0 : decide (0 ≤ n) = true := decide_eq_true h2
  rw [h3] at KI
  have d4 : decide (4000 < n) = false := decide_eq_false (by omega)
  have d5 : decide ((r.length : Int) < n + 2) = false := decide_eq_false (by omega)
  have hx := fun W : World => run_slice_string (P := Tryd.prog) (w := W) 9 ⟨r.toArray⟩ .i64 .i64 n (n + 2) Tryd.underlying9 h2 (by omega) (by show n + 2 ≤ (r.length : Int); omega)
  rw [bt_mid, show (n + 2).toNat - n.toNat = 2 by omega] at hx
  rw [h6] at hx
  have hi0 : n ≤ (r.length : Int) := by omega
  clear hT hc hn
  go_enter Tryd.func22, Tryd.ntmps22
  go_wp2_with fail
  refine KC.out.mono ?_
  rintro e w1 ⟨rfl, hb1⟩
  go_wp2_with fail
  refine (KA.out _).mono ?_
  rintro e w2 ⟨rfl, hb2⟩
  have hv2 := hb1.trans (hb2.mono hb1.size)
  go_wp2_with fail
  refine (KI.out _ hv2).mono ?_
  rintro e w3 ⟨rfl, hb3⟩
  have hv3 := hv2.trans (hb3.mono hv2.size)
  go_wp2
  go_ret2
  exact ⟨by first | rfl | simp [bt_mid], hv3⟩


theorem headC_le (b : List UInt8) : (headC b).length ≤ b.length := (List.takeWhile_prefix _).length_le
theorem one_any (b : List UInt8) (w : World) (hT : TxtEnv w) (hs : b.length ≤ 4294967280) :
    Calls Tryd.prog 22 #[.string ⟨b.toArray⟩] w fun e w' => e = .returned (.tuple #[.string ⟨((oneF b).getD []).toArray⟩, .bool (oneF b).isSome]) ∧ Below w.heap.size w w' := by
  by_cases h : (headC b).length < b.length
  · by_cases hg : ∃ n, Lib.atoiAll (headC b) = .ok n
    · obtain ⟨n, hn⟩ := hg
      have hO := one_good h hn
      have hc := cut_yes h
      have hrl : (restC b).length ≤ 4294967280 := by unfold restC; rw [List.length_drop]; omega
      have hdl : (headC b).length ≤ 4294967280 := by omega
      rw [hO]
      by_cases h1 : (headC b).length ≤ 9
      · by_cases h2 : 0 ≤ n
        · by_cases h3 : Lib.itoa n = headC b
          · by_cases h4 : n ≤ 4000
            · by_cases h5 : n.toNat + 2 ≤ (restC b).length
              · by_cases h6 : ((restC b).drop n.toNat).take 2 = [10, 46]
                · rw [if_pos ⟨h1, h2, h3, h4, h5, h6⟩]
                  exact one_case7 b _ _ n w hT hs hdl hrl hc hn h1 h2 h3 h4 h5 h6
                · rw [if_neg (fun x => h6 x.2.2.2.2.2)]
                  exact one_case6 b _ _ n w hT hs hdl hrl hc hn h1 h2 h3 h4 h5 h6
              · rw [if_neg (fun x => h5 x.2.2.2.2.1)]
                exact one_case5 b _ _ n w hT hs hdl hrl hc hn h1 h2 h3 h4 (by omega)
            · rw [if_neg (fun x => h4 x.2.2.2.1)]
              exact one_case4 b _ _ n w hT hs hdl hrl hc hn h1 h2 h3 (by omega)
          · rw [if_neg (fun x => h3 x.2.2.1)]
            exact one_case3 b _ _ n w hT hs hdl hrl hc hn h1 h2 h3
        · rw [if_neg (fun x => h2 x.2.1)]
          exact one_case2 b _ _ n w hT hs hdl hrl hc hn h1 (by omega)
      · rw [if_neg (fun x => h1 x.1)]
        exact one_case1 b _ _ n w hT hs hdl hrl hc hn (by omega)
    · have hn : ∀ n, Lib.atoiAll (headC b) ≠ .ok n := fun n e => hg ⟨n, e⟩
      rw [one_bad hn]
      exact one_none2 b w hT hs h hn
  · have hO : oneF b = none := by unfold oneF; rw [if_neg h]
    rw [hO]
    exact one_none1 b w hT hs h

theorem flat_len : ∀ l : List (List UInt8), l.length ≤ (l.flatMap recB).length
  | [] => Nat.zero_le _
  | s :: l => by
    have := recB_len s
    have := flat_len l
    rw [List.flatMap_cons, List.length_append, List.length_cons]; omega
theorem encT_snoc (xs : List (List UInt8)) (x : List UInt8) : encTexts (xs ++ [x]) = encTexts xs ++ [.string ⟨x.toArray⟩] := by simp [encTexts]
set_option maxRecDepth 100000 in
set_option maxHeartbeats 1600000 in
theorem readT_any (b : List UInt8) (l : List (List UInt8)) (hP : Parse b l) (w : World) (hT : TxtEnv w) (hs : b.length ≤ 300000) :
    Calls Tryd.prog 12 #[.string ⟨b.toArray⟩] w fun e w' => ∃ v, e = .returned (.tuple #[v, .int .i64 ((l.flatMap recB).length : Nat)]) ∧ w'.ownsRow w.heap.size 9 1 v l.length (encTexts l) ∧ Below w.heap.size w w' := by
  obtain ⟨i0, hi, hz0, hz1, hz2⟩ := info_parts ct_info_string
  have hi' := Lib.hid hi
  have hz0' := Lib.hid hz0
  have hz1' := Lib.hid hz1
  have hz2' := Lib.hid hz2
  obtain ⟨hlen, r, hb, hr⟩ := hP
  have HA : Hid (∀ k, ((l.take k).flatMap recB).length ≤ b.length) := fun k => by
    conv => rhs; rw [hb, ← List.take_append_drop k l]
    rw [List.flatMap_append, List.append_assoc, List.length_append]; omega
  have HD : Hid (∀ k, b.drop ((l.take k).flatMap recB).length = (l.drop k).flatMap recB ++ r) := fun k => by
    conv => lhs; rw [hb, ← List.take_append_drop k l]
    rw [List.flatMap_append, List.append_assoc, List.take_append_drop, List.drop_left]
  have HO := Lib.hid (fun (c : List UInt8) (W : World) (h : Below w.heap.size w W) (hc : c.length ≤ 300000) => one_any c W (hT.below h) (by omega))
  have HR := Lib.hid (fun (c : List UInt8) (W : World) (h : Below w.heap.size w W) (hc : c.length ≤ 4000) => record_any c W (hT.below h) (by omega))
  have HL := Lib.hid hlen
  have hll : l.length ≤ 300000 := by
    have h1 := flat_len l
    have h2 := congrArg List.length hb
    rw [List.length_append] at h2; omega
  have HE := Lib.hid hr
  have HX := Lib.hid (fun (W : World) (k : Nat) (hk : k ≤ b.length) => show (Instr.slice 9 (.string ⟨b.toArray⟩) (some (.int .i64 k)) none none).run Tryd.prog W = .ok (.string ⟨(b.drop k).toArray⟩) W by
    rw [run_slice_string_l W 9 ⟨b.toArray⟩ Tryd.underlying9 .i64 k (by omega) (by show (k : Int) ≤ (b.length : Int); omega), Int.toNat_natCast, bt_mid]
    rw [List.take_of_length_le (by show (b.drop k).length ≤ b.length - k; simp)])
  clear hi hz0 hz1 hz2 hT hb hr hlen
  go_enter Tryd.func12, Tryd.ntmps12
  go_wp2
  go_loopw [4, 5] (fun v i wr => ∃ k : Nat, k ≤ l.length ∧ i = .int .i64 (((l.take k).flatMap recB).length : Nat) ∧ wr.ownsRow w.heap.size 9 1 v k (encTexts (l.take k)) ∧ Below w.heap.size w wr) (fun _ i _ => b.length + 1 - (intOf i).toNat)
  case atStart => exact ⟨0, Nat.zero_le _, rfl, World.ownsRow_nil _ _ _ _, Below.refl _ _⟩
  case round =>
    obtain ⟨k, hk, rfl, hown, hbw⟩ := hrel
    have hA := HA.out k
    have hdl : (b.drop ((l.take k).flatMap recB).length).length ≤ 300000 := by rw [List.length_drop]; omega
    have hx := fun W : World => HX.out W _ hA
    by_cases hlt : k < l.length
    · have hd : b.drop ((l.take k).flatMap recB).length = recB l[k] ++ ((l.drop (k + 1)).flatMap recB ++ r) := by
        rw [HD.out k, List.drop_eq_getElem_cons hlt, List.flatMap_cons, List.append_assoc]
      have hsl := HL.out _ (List.getElem_mem hlt)
      have ho := oneF_rec hsl ((l.drop (k + 1)).flatMap recB ++ r)
      rw [← hd] at ho
      have ht : l.take (k + 1) = l.take k ++ [l[k]] := List.take_succ_eq_append_getElem hlt
      have hn : ((l.take (k + 1)).flatMap recB).length = ((l.take k).flatMap recB).length + (recB l[k]).length := by rw [ht, List.flatMap_append, List.length_append, List.flatMap_cons, List.flatMap_nil, List.append_nil]
      have hA2 := HA.out (k + 1)
      have hr4 := recB_len l[k]
      have K1 := Lib.hid (fun W h => HO.out _ W h hdl)
      rw [ho] at K1
      have K2 := Lib.hid (fun W h => HR.out l[k] W h hsl)
      rw [hn] at hA2
      have HN := Lib.hid hn
      have HT := Lib.hid ht
      simp only [Option.getD_some, Option.isSome_some] at K1
      clear ht hn ho hd hsl
      generalize l[k] = s at *
      generalize b.drop ((l.take k).flatMap recB).length = c at *
      generalize recB s = rs at *
      generalize ((l.take k).flatMap recB).length = A at *
      go_wp2_with fail
      refine (K1.out _ hbw).mono ?_
      rintro e w2 ⟨rfl, hb2⟩
      have hv2 := hbw.trans (hb2.mono hbw.size)
      have hown := ownsRow_below hown hb2
      have HO2 := Lib.hid (hown.alloc (.cells #[.string ⟨s.toArray⟩] 9))
      have HW := Lib.hid (RowAt.new_at w2 [.string ⟨s.toArray⟩] 9 _ rfl)
      have HV := Lib.hid (hv2.alloc hv2.size (.cells #[.string ⟨s.toArray⟩] 9))
      clear hown hx
      go_wp2_with (at_builtin; refine wpList_append2 _ rfl (.tmp 19) (.tmp 21) 22 rfl w.heap.size 9 i0 _ 1 16 Tryd.underlying22 hi'.out hz0'.out hz1'.out hz2'.out rfl (by decide) _ k (encTexts (l.take k)) rfl HO2.out (some ⟨w2.heap.size, 0, none⟩) 1 1 [.string ⟨s.toArray⟩] rfl rfl HW.out ?_ ?_ ?_ ?_ ?_; (simp [Value.oneCell']); (unfold maxLen; omega); (omega); (exact HV.out.size); intro v1 w5 ho1 hg1 hq hm1; clear hq hm1)
      have hv5 := HV.out.grown hg1 HV.out.size (fun j e => (HO2.out.lt j e).1)
      go_wp2_with fail
      refine (K2.out _ hv5).mono ?_
      rintro e w6 ⟨rfl, hb6⟩
      have ho6 := ownsRow_below ho1 hb6
      have hv6 := hv5.trans (hb6.mono hv5.size)
      go_wp2
      go_roundw
      case rel => exact ⟨k + 1, by omega, by rw [HN.out]; go_num, by rw [HT.out, encT_snoc]; exact ho6, hv6⟩
      case measure => simp [intOf]; omega
    · obtain rfl : k = l.length := by omega
      have ho : oneF (b.drop ((l.take l.length).flatMap recB).length) = none := by rw [HD.out, List.drop_length]; exact HE.out
      have K1 := Lib.hid (fun W h => HO.out _ W h hdl)
      rw [ho] at K1
      simp only [Option.getD_none, Option.isSome_none] at K1
      clear ho
      generalize b.drop ((l.take l.length).flatMap recB).length = c at *
      rw [List.take_length] at *
      generalize hAq : (l.flatMap recB).length = A at *
      have HQ := Lib.hid hAq
      clear hAq
      go_wp2_with fail
      refine (K1.out _ hbw).mono ?_
      rintro e w2 ⟨rfl, hb2⟩
      have hv2 := hbw.trans (hb2.mono hbw.size)
      have hown := ownsRow_below hown hb2
      go_wp2
      go_ret2
      exact ⟨_, by rw [HQ.out]; rfl, hown, hv2⟩

end Go.Proofs.YtgghnncgeogemaaDoor
