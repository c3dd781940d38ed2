/- TapeActs: the law's walk. -/
import Derived.Test.YtgghnncgeogemaaDoorTapeRefR
import Derived.Test.YtgghnncgeogemaaDoorTapeCuts
import Derived.Test.YtgghnncgeogemaaDoorCoded
import Derived.Deep.RegionHeld3
namespace Go.Proofs.YtgghnncgeogemaaDoor
open Go.RowKit

set_option maxHeartbeats 800000 in
theorem refRecover_tape (T : Nat) (s : Dk) (l : List (List UInt8)) (hP : Parse s.b l) (w : World) (hT : TapeAt w T s) (hs : s.b.length ≤ 100000) :
    Calls Tryd.prog 18 #[.pointer (some ⟨T, 0, none⟩)] w fun e w' => ∃ v, e = .returned v ∧ w'.ownsRow w.heap.size 9 1 v l.length (encTexts l) ∧ TapeAt w' T ⟨s.b.take (l.flatMap recB).length, false, -1⟩ ∧ w.grownBy w' (some T) := by
  have KR := Lib.hid (refReadT_any s.b l hP w hs)
  obtain ⟨b, o, c⟩ := s
  have hK : Blok w T 41 #[.string ⟨b.toArray⟩, .bool o, .int .i64 c] := hT
  have hn : (l.flatMap recB).length ≤ b.length := by
    obtain ⟨_, r, hb, _⟩ := hP
    have := congrArg List.length hb
    rw [List.length_append] at this; dsimp only at this; omega
  dsimp only at KR hs ⊢
  generalize (l.flatMap recB).length = n at *
  have hsl : ∀ W : World, (Instr.slice 9 (.string ⟨b.toArray⟩) none (some (.int .i64 n)) none).run Tryd.prog W = .ok (.string ⟨(b.take n).toArray⟩) W := fun W => by
    rw [run_slice_string_h W 9 ⟨b.toArray⟩ Tryd.underlying9 .i64 n (by omega) (by show (n : Int) ≤ (b.length : Int); omega), Int.toNat_natCast]
    congr 2
    apply ByteArray.ext; apply Array.ext'; simp
  have c0 := hK.cell 0 rfl
  clear hT hP
  go_enter Tryd.func18, Tryd.ntmps18
  go_wp2_with fail
  refine KR.out.mono ?_
  rintro e w1 ⟨v, rfl, hown, hb1⟩
  have hK1 := hK.kept hb1
  have c0 := hK1.cell 0 rfl
  have c1 := hK1.cell 1 rfl
  have c2 := hK1.cell 2 rfl
  have q0 := hK1.frozen 0
  have q1 := hK1.frozen 1
  have q2 := hK1.frozen 2
  go_wp2
  go_ret
  have h5 := ((hK1.set 0 (.string ⟨(b.take n).toArray⟩)).set 1 (.bool false)).set 2 (.int .i64 (-1))
  refine ⟨_, rfl, ?_, by simpa [TapeAt] using h5, grownBy_trans (below_grows hb1 _) (grownBy_trans (grownBy_trans (setCell_grows _ _ _ _) (setCell_grows _ _ _ _)) (setCell_grows _ _ _ _))⟩
  have hno : v.ownBlock = none ∨ v.ownBlock ≠ some T := by
    cases hv : v.ownBlock with
    | none => exact Or.inl rfl
    | some g =>
      refine Or.inr fun e => ?_
      have := (hown.lt g hv).1
      have := hK.lt
      injection e; omega
  exact hown.kept (grownBy_trans (grownBy_trans (setCell_grows _ _ _ _) (setCell_grows _ _ _ _)) (setCell_grows _ _ _ _)) hno

/-- A write's three. -/
structure Wr where
  kind : List UInt8
  s : List UInt8
  n : Int
instance : Inhabited Wr := ⟨⟨[], [], 0⟩⟩
def Wr.cells (x : Wr) : List Value := [.string ⟨x.kind.toArray⟩, .string ⟨x.s.toArray⟩, .int .i64 x.n]
theorem Wr.len (x : Wr) : x.cells.length = 3 := rfl
def encWr (l : List Wr) : List Value := l.flatMap Wr.cells
theorem wr_at {w : World} {a : Option Addr} {l : List Wr} (h : RowAt w a (encWr l)) (k : Nat) (hk : k < l.length) :
    ∃ b off, a = some ⟨b, off, none⟩ ∧ b < w.heap.size ∧ w.cell? ⟨b, off + k * 3, none⟩ = some (.string ⟨l[k].kind.toArray⟩) ∧ w.cell? ⟨b, off + k * 3 + 1, none⟩ = some (.string ⟨l[k].s.toArray⟩) ∧ w.cell? ⟨b, off + k * 3 + 2, none⟩ = some (.int .i64 l[k].n) := by
  obtain ⟨b, off, e, hlt, hc⟩ := h.flat 3 Wr.len (by omega) k hk
  exact ⟨b, off, e, hlt, by simpa using hc 0 _ rfl, hc 1 _ rfl, hc 2 _ rfl⟩

theorem coded3_c (ea : Nat → Addr) (code : Nat) (w : World) (hG : GlobC w ea) (h11 : code ≤ 11) :
    Calls Tryd.prog 14 #[errV ea code, .int .i64 code] w fun e w' => e = .returned (.bool true) ∧ Below w.heap.size w w' :=
  coded3_yes ea (errV ea code) code code w hG (ErrIs.bare ea w code) h11 rfl
theorem wrF_le (s : Dk) (t : List UInt8) : (wrF s t).2 ≤ 11 := by unfold wrF; repeat (first | (dsimp only; omega) | split)
theorem apF_le (s : Dk) (t : List UInt8) : (apF s t).2 ≤ 11 := by
  unfold apF
  split
  · dsimp only; omega
  · split
    · dsimp only; omega
    · exact wrF_le _ _
theorem cutF_le (s : Dk) (n : Int) : (cutF s n).2 ≤ 11 := by unfold cutF; repeat (first | (dsimp only; omega) | split)
/-- What the law's loop keeps of the numbers. -/
structure InvA (k : Nat) (s : Dk) : Prop where
  size : s.b.length ≤ 2000 + 250 * k
  cut : -9223372036854775808 ≤ s.cut ∧ s.cut ≤ 9223372036854775807
theorem InvA.ap {k : Nat} {s : Dk} (h : InvA k s) {t : List UInt8} (ht : t.length ≤ 200 ∨ 4000 < t.length) : InvA (k + 1) (apF s t).1 := by
  obtain ⟨b, o, c⟩ := s
  obtain ⟨h1, h2⟩ := h
  dsimp only at h1 h2
  unfold apF
  split
  · exact ⟨by dsimp only; omega, h2⟩
  · split
    · exact ⟨by dsimp only; omega, h2⟩
    · have hr := recB_le t (by omega)
      unfold wrF
      split
      · exact ⟨by dsimp only; omega, h2⟩
      · split
        · exact ⟨by dsimp only; rw [List.length_append, List.length_take]; omega, h2⟩
        · refine ⟨by dsimp only; rw [List.length_append]; omega, ?_⟩
          dsimp only at *
          split <;> omega
theorem InvA.cutn {k : Nat} {s : Dk} (h : InvA k s) {n : Int} (hn : -9223372036854775808 ≤ n ∧ n ≤ 9223372036854775807) : InvA (k + 1) (cutF s n).1 := by
  obtain ⟨h1, h2⟩ := h
  unfold cutF
  split
  · exact ⟨by dsimp only; omega, h2⟩
  · split
    · exact ⟨by dsimp only; omega, h2⟩
    · exact ⟨by dsimp only; omega, hn⟩

theorem TapeAt.step {w w' : World} {base T : Nat} {s : Dk} (h : TapeAt w T s) (hs : Step base w w') : TapeAt w' T s := hs.kept T _ _ _ h (by decide) (by decide)
theorem TapeAt.below {w w' : World} {T : Nat} {s : Dk} (h : TapeAt w T s) (hb : Below w.heap.size w w') : TapeAt w' T s := Blok.kept h hb
theorem DiskAt.tape {w w' : World} {base D T : Nat} {s s2 : Dk} (h : DiskAt w base D s) (hT : TapeAt w T s2) (hg : w.grownBy w' (some T)) : DiskAt w' base D s := by
  obtain ⟨hB, hl, u, hK, hu⟩ := h
  have hno : ∀ (k : Nat) (c : Array Value) (t : TypeId) (fz : Nat × Nat), w.heap[k]? = some (Obj.cells c t fz) → t ≠ 41 → w'.heap[k]? = w.heap[k]? := fun k c t fz hk ht => by
    refine hg.block k (Array.getElem?_eq_some_iff.1 hk).1 (fun e => ?_)
    injection e with e
    subst e
    rw [show w.heap[k]? = _ from hT] at hk
    simp at hk
    exact ht hk.2.1.symm
  refine ⟨hB, hl, u, (hno D _ _ _ hK (by decide)).trans hK, hu.kept fun g hg2 => ?_⟩
  obtain ⟨_, cur, fz, hc⟩ := hu.bytes g hg2
  exact hno g _ _ _ hc (by decide)

theorem ownsRow_tape {w w' : World} {base size n T : Nat} {s : Dk} {v : Value} {xs : List Value} (h : w.ownsRow base 9 size v n xs) (hT : TapeAt w T s) (hg : w.grownBy w' (some T)) : w'.ownsRow base 9 size v n xs := by
  refine h.kept hg ?_
  cases hv : v.ownBlock with
  | none => exact Or.inl rfl
  | some g =>
    refine Or.inr fun e => ?_
    injection e with e
    subst e
    rcases h.2 with ⟨rfl, _⟩ | ⟨g', cap, cur, rfl, h2, h3, h4⟩
    · simp [Value.ownBlock] at hv
    · simp [Value.ownBlock] at hv
      subst hv
      rw [show w.heap[g']? = _ from hT] at h3
      simp at h3

set_option maxRecDepth 200000 in
set_option maxHeartbeats 6400000 in
theorem tapeActs_law (ea : Nat → Addr) (b0 : List UInt8) (a : Option Addr) (n cap : Nat) (l : List Wr) (w : World) (hG : GlobC w ea) (hT : TxtEnv w)
    (hb : b0.length ≤ 2000) (hn : l.length = n) (hr : RowAt w a (encWr l)) (hl : n ≤ 50) (hw : ∀ x ∈ l, -9223372036854775808 ≤ x.n ∧ x.n ≤ 9223372036854775807) :
    Calls Tryd.prog 4 #[.string ⟨b0.toArray⟩, .slice a n cap] w fun e w' => e = .returned (.bool true) ∧ Below w.heap.size w w' := by
  have hgb : gOf 11 < w.heap.size := hG.glob.lt 11 (by simp)
  have K0 := Lib.hid (taped_any ea w (hG.glob.sub (by simp)) hT)
  have KN := Lib.hid (fun W : World => newDisk_any b0 W (by omega))
  have KC := Lib.hid (fun (W : World) (D : Nat) (s : Dk) (m : Int) (hb : Below w.heap.size w W) (hD : DiskAt W w.heap.size D s) => diskCut_any ea w.heap.size D s m W ((hG.below hb).glob.sub (by simp)) hD)
  have KA := Lib.hid (fun (W : World) (D : Nat) (s : Dk) (t : List UInt8) (hb : Below w.heap.size w W) (hD : DiskAt W w.heap.size D s) (ht : t.length ≤ 4001) (hc : -9223372036854775808 ≤ s.cut ∧ s.cut ≤ 9223372036854775807) => tapeAppend_any ea w.heap.size D s t W ((hG.below hb).glob.sub (by simp)) (hT.below hb) hD hb.size (by omega) hgb hc)
  have KO := Lib.hid (fun (W : World) (D : Nat) (s : Dk) (hD : DiskAt W w.heap.size D s) => diskOn_any w.heap.size D s W hD)
  have KR := Lib.hid (fun (W : World) (D : Nat) (s : Dk) (m : List (List UInt8)) (hP : Parse s.b m) (hb : Below w.heap.size w W) (hD : DiskAt W w.heap.size D s) => recover_any w.heap.size D s m hP W hD hb.size (fun W' h => hT.below (hb.trans h.below)))
  have KB := Lib.hid (fun (W : World) (D : Nat) (s : Dk) (hD : DiskAt W w.heap.size D s) => diskBytes_any w.heap.size D s W hD)
  have KP := Lib.hid (fun (W : World) (D : Nat) (s : Dk) (hD : DiskAt W w.heap.size D s) => diskPower_any w.heap.size D s W hD)
  have KT := Lib.hid (fun (W : World) (b : List UInt8) (m : List (List UInt8)) (hP : Parse b m) (hb : Below w.heap.size w W) (hl : b.length ≤ 300000) => readT_any b m hP W (hT.below hb) hl)
  have C3 := Lib.hid (fun (W : World) (k : Nat) (hb : Below w.heap.size w W) (hk : k ≤ 11) => coded3_c ea k W (hG.below hb) hk)
  have HR := Lib.hid hr
  have HN := Lib.hid hn
  have HW := Lib.hid (fun (k : Nat) (hk : k < l.length) => hw l[k] (List.getElem_mem hk))
  have d1 : decide ((2000 : Int) < (b0.length : Int)) = false := decide_eq_false (by omega)
  have d2 : decide ((50 : Int) < (n : Int)) = false := decide_eq_false (by omega)
  have inv0 : InvA 0 ⟨b0, false, -1⟩ := ⟨by dsimp only; omega, by dsimp only; omega⟩
  clear hG hT hr hn hw
  go_enter Tryd.func4, Tryd.ntmps4
  go_wp2_with fail
  refine K0.out.mono ?_
  rintro e w1 ⟨rfl, hb1⟩
  go_wp2_with fail
  refine (KN.out _).mono ?_
  rintro e w2 ⟨D, rfl, hD2, hbB⟩
  have hD2 := hD2.weak hb1.size
  have hb2 := hb1.trans (hbB.mono hb1.size)
  have hal : Below w2.heap.size w2 (w2.alloc (.cells #[.string ⟨b0.toArray⟩, .bool false, .int .i64 (-1)] 41)) := (Below.refl _ _).alloc (Nat.le_refl _) _
  have hD3 := hD2.below hal
  have hT3 : TapeAt (w2.alloc (.cells #[.string ⟨b0.toArray⟩, .bool false, .int .i64 (-1)] 41)) w2.heap.size ⟨b0, false, -1⟩ := Blok.new _ _ _
  have hb3 := hb2.trans (hal.mono hb2.size)
  have hTb := hb2.size
  clear hb1 hbB hD2 hb2 hal K0 KN
  go_wp2
  generalize w2.alloc (.cells #[.string ⟨b0.toArray⟩, .bool false, .int .i64 (-1)] 41) = w3 at *
  generalize w2.heap.size = T at *
  go_loopw [9] (fun i wr => ∃ (k : Nat) (st : Dk), k ≤ n ∧ i = .int .i64 k ∧ InvA k st ∧ DiskAt wr w.heap.size D st ∧ TapeAt wr T st ∧ Below w.heap.size w wr) (fun i _ => n - (intOf i).toNat)
  case atStart => exact ⟨0, _, Nat.zero_le _, rfl, inv0, hD3, hT3, hb3⟩
  case round =>
    clear hD3 hT3 hb3 inv0
    obtain ⟨k, st, hk, rfl, inv, hD, hTp, hb⟩ := hrel
    by_cases hlt : k < n
    · have hkt : k < l.length := by have := HN.out; omega
      obtain ⟨bq, off, rfl, hbl, cw0, cw1, cw2⟩ := wr_at HR.out k hkt
      have c0 := (hb.cell (p := ⟨bq, off + k * 3, none⟩) hbl).trans cw0
      have c1 := (hb.cell (p := ⟨bq, off + k * 3 + 1, none⟩) hbl).trans cw1
      have c2 := (hb.cell (p := ⟨bq, off + k * 3 + 2, none⟩) hbl).trans cw2
      have hi0 : (0 : Int) ≤ (k : Int) := by omega
      have hi1 : (k : Int) < (n : Int) := by omega
      have hxn := HW.out k hkt
      generalize l[k] = x at *
      obtain ⟨kd, sx, nx⟩ := x
      dsimp only at hxn c0 c1 c2 cw0 cw1 cw2
      have hTlt := Blok.lt hTp
      have hal : Below wr.heap.size wr (wr.alloc (.cells #[.string ⟨kd.toArray⟩, .string ⟨sx.toArray⟩, .int .i64 nx] 43)) := (Below.refl _ _).alloc (Nat.le_refl _) _
      have bA := Blok.new wr 43 #[.string ⟨kd.toArray⟩, .string ⟨sx.toArray⟩, .int .i64 nx]
      have hD1 := hD.below hal
      have hT1 := hTp.below hal
      have hv1 := hb.trans (hal.mono hb.size)
      have k0 := bA.cell 0 rfl
      have k1 := bA.cell 1 rfl
      have k2 := bA.cell 2 rfl
      clear hD hTp hal cw0 cw1 cw2
      by_cases hlong : 200 < sx.length ∧ sx.length ≠ 4001
      · have ds : decide ((200 : Int) < (sx.length : Int)) = true := decide_eq_true (by omega)
        have ds2 : ((sx.length : Int) != 4001) = true := by simp; omega
        go_wp2
        go_ret
        exact ⟨rfl, hv1⟩
      · have hsl : sx.length ≤ 200 ∨ 4000 < sx.length := by omega
        have hs4 : sx.length ≤ 4001 := by omega
        have ds : decide ((200 : Int) < (sx.length : Int)) = false ∨ (decide ((200 : Int) < (sx.length : Int)) = true ∧ ((sx.length : Int) != 4001) = false) := by
          by_cases h : 200 < sx.length
          · exact Or.inr ⟨decide_eq_true (by omega), by simp; omega⟩
          · exact Or.inl (decide_eq_false (by omega))
        clear hlong
        rcases ds with ds | ⟨ds, ds2⟩
        all_goals
          by_cases h1 : kd = [97, 112, 112, 101, 110, 100]
          · subst h1
            have inv2 := inv.ap hsl
            have hle := apF_le st sx
            have RA := Lib.hid (fun (W : World) (h : TapeAt W T st) => refAppend_tape T st sx W h (by omega) hD1.2.1 inv.cut)
            have CC := Lib.hid (fun (W : World) (h : Below w.heap.size w W) => C3.out W (apF st sx).2 h hle)
            have hv2 := hv1.drew
            have hD2 := hD1.below (Below.refl _ _).drew
            have hT2 : TapeAt (wr.alloc (.cells #[.string ⟨([97, 112, 112, 101, 110, 100] : List UInt8).toArray⟩, .string ⟨sx.toArray⟩, .int .i64 nx] 43)).drew T st := hT1
            have bA2 : Blok (wr.alloc (.cells #[.string ⟨([97, 112, 112, 101, 110, 100] : List UInt8).toArray⟩, .string ⟨sx.toArray⟩, .int .i64 nx] 43)).drew wr.heap.size 43 #[.string ⟨([97, 112, 112, 101, 110, 100] : List UInt8).toArray⟩, .string ⟨sx.toArray⟩, .int .i64 nx] := bA
            have A1 := Lib.hid (KA.out _ D st sx hv2 hD2 hs4 inv.cut)
            generalize errV ea (apF st sx).2 = ev at *
            generalize ((apF st sx).2 : Int) = ci at *
            generalize (apF st sx).1 = st2 at *
            clear hle inv
            go_wp2
            generalize wr.alloc (.cells #[.string ⟨([97, 112, 112, 101, 110, 100] : List UInt8).toArray⟩, .string ⟨sx.toArray⟩, .int .i64 nx] 43) = W1 at *
            generalize wr.heap.size = A at *
            have hAT : ¬ (A = T) := by omega
            have kk := bA2.cell 1 rfl
            go_region_held3 (fun w' => w'.cell? ⟨A, 1, none⟩ = some (.string ⟨sx.toArray⟩)) (go_keep)
              (first
                | (go_at_call 8; (with_reducible refine A1.out.mono ?_); rintro e w4 ⟨rfl, hD4, hS4⟩; have hv4 := hv2.trans hS4.below; have hT4 := hT2.step hS4; have b4 := hS4.kept A _ _ _ bA2 (by decide) (by decide); have kk := Blok.cell b4 1 rfl; have A2 := Lib.hid (RA.out w4 hT4))
                | (go_at_call 15; (with_reducible refine A2.out.mono ?_); rintro e w5 ⟨rfl, hT5, hg5⟩; have hD5 := hD4.tape hT4 hg5; have hv5 := hv4.grown hg5 hv4.size (fun j e => by injection e with e; omega); have b5 := (hg5.block A (Blok.lt b4) (fun e => hAT (by injection e))).trans b4; have kk := Blok.cell b5 1 rfl; have A3 := Lib.hid (CC.out w5 hv5))
                | (go_at_call 14; (with_reducible refine A3.out.mono ?_); rintro e w6 ⟨rfl, hb6⟩; have hv6 := hv5.trans (hb6.mono hv5.size); have hD6 := hD5.below hb6; have hT6 := hT5.below hb6; have b6 := Blok.kept b5 hb6; have kk := Blok.cell b6 1 rfl))
            clear kk A1 RA CC hv2 hD2 hT2 bA2 hv1 hD1 hT1 bA k0 k1 k2
            have hvT := (hv6).drew
            have hDT := DiskAt.below hD6 (Below.refl _ _).drew
            have hTT : TapeAt w6.drew T st2 := hT6
            have kT : Blok w6.drew T 41 #[.string ⟨st2.b.toArray⟩, .bool st2.off, .int .i64 st2.cut] := hT6
            have t0 := kT.cell 0 rfl
            have t1 := kT.cell 1 rfl
            have Z1 := Lib.hid (KB.out _ D st2 hDT)
            have Z2 := Lib.hid (KP.out _ D st2 hDT)
            generalize st2.b = sb at *
            generalize st2.off = so at *
            go_wp2
            go_region_held3 (fun w' => w'.cell? ⟨T, 0, none⟩ = some (.string ⟨sb.toArray⟩) ∧ w'.cell? ⟨T, 1, none⟩ = some (.bool so)) (go_keep)
              (first
                | (go_at_call 13; (with_reducible refine Z1.out.mono ?_); rintro e w9 ⟨rfl, rfl⟩)
                | (go_at_call 11; (with_reducible refine Z2.out.mono ?_); rintro e w9 ⟨rfl, rfl⟩))
            go_wp2
            go_roundw
            case rel => exact ⟨k + 1, st2, by omega, by go_num, inv2, hDT, hTT, hvT⟩
            case measure => simp [intOf]; omega
          · by_cases h2 : kd = [99, 117, 116]
            · subst h2
              have inv2 := inv.cutn hxn
              have hle := cutF_le st nx
              have RA := Lib.hid (fun (W : World) (h : TapeAt W T st) => refCut_tape T st nx W h)
              have CC := Lib.hid (fun (W : World) (h : Below w.heap.size w W) => C3.out W (cutF st nx).2 h hle)
              have hv2 := hv1.drew
              have hD2 := hD1.below (Below.refl _ _).drew
              have hT2 : TapeAt (wr.alloc (.cells #[.string ⟨([99, 117, 116] : List UInt8).toArray⟩, .string ⟨sx.toArray⟩, .int .i64 nx] 43)).drew T st := hT1
              have bA2 : Blok (wr.alloc (.cells #[.string ⟨([99, 117, 116] : List UInt8).toArray⟩, .string ⟨sx.toArray⟩, .int .i64 nx] 43)).drew wr.heap.size 43 #[.string ⟨([99, 117, 116] : List UInt8).toArray⟩, .string ⟨sx.toArray⟩, .int .i64 nx] := bA
              have A1 := Lib.hid (KC.out _ D st nx hv2 hD2)
              generalize errV ea (cutF st nx).2 = ev at *
              generalize ((cutF st nx).2 : Int) = ci at *
              generalize (cutF st nx).1 = st2 at *
              clear hle inv
              go_wp2
              generalize wr.alloc (.cells #[.string ⟨([99, 117, 116] : List UInt8).toArray⟩, .string ⟨sx.toArray⟩, .int .i64 nx] 43) = W1 at *
              generalize wr.heap.size = A at *
              have hAT : ¬ (A = T) := by omega
              have kk := bA2.cell 2 rfl
              go_region_held3 (fun w' => w'.cell? ⟨A, 2, none⟩ = some (.int .i64 nx)) (go_keep)
                (first
                  | (go_at_call 7; (with_reducible refine A1.out.mono ?_); rintro e w4 ⟨rfl, hD4, hS4⟩; have hv4 := hv2.trans hS4.below; have hT4 := hT2.step hS4; have b4 := hS4.kept A _ _ _ bA2 (by decide) (by decide); have kk := Blok.cell b4 2 rfl; have A2 := Lib.hid (RA.out w4 hT4))
                  | (go_at_call 16; (with_reducible refine A2.out.mono ?_); rintro e w5 ⟨rfl, hT5, hg5⟩; have hD5 := hD4.tape hT4 hg5; have hv5 := hv4.grown hg5 hv4.size (fun j e => by injection e with e; omega); have b5 := (hg5.block A (Blok.lt b4) (fun e => hAT (by injection e))).trans b4; have kk := Blok.cell b5 2 rfl; have A3 := Lib.hid (CC.out w5 hv5))
                  | (go_at_call 14; (with_reducible refine A3.out.mono ?_); rintro e w6 ⟨rfl, hb6⟩; have hv6 := hv5.trans (hb6.mono hv5.size); have hD6 := hD5.below hb6; have hT6 := hT5.below hb6; have b6 := Blok.kept b5 hb6; have kk := Blok.cell b6 2 rfl))
              clear kk A1 RA CC hv2 hD2 hT2 bA2 hv1 hD1 hT1 bA k0 k1 k2
              have hvT := (hv6).drew
              have hDT := DiskAt.below hD6 (Below.refl _ _).drew
              have hTT : TapeAt w6.drew T st2 := hT6
              have kT : Blok w6.drew T 41 #[.string ⟨st2.b.toArray⟩, .bool st2.off, .int .i64 st2.cut] := hT6
              have t0 := kT.cell 0 rfl
              have t1 := kT.cell 1 rfl
              have Z1 := Lib.hid (KB.out _ D st2 hDT)
              have Z2 := Lib.hid (KP.out _ D st2 hDT)
              generalize st2.b = sb at *
              generalize st2.off = so at *
              go_wp2
              go_region_held3 (fun w' => w'.cell? ⟨T, 0, none⟩ = some (.string ⟨sb.toArray⟩) ∧ w'.cell? ⟨T, 1, none⟩ = some (.bool so)) (go_keep)
                (first
                  | (go_at_call 13; (with_reducible refine Z1.out.mono ?_); rintro e w9 ⟨rfl, rfl⟩)
                  | (go_at_call 11; (with_reducible refine Z2.out.mono ?_); rintro e w9 ⟨rfl, rfl⟩))
              go_wp2
              go_roundw
              case rel => exact ⟨k + 1, st2, by omega, by go_num, inv2, hDT, hTT, hvT⟩
              case measure => simp [intOf]; omega
            · by_cases h3 : kd = [111, 110]
              · subst h3
                have K1 := Lib.hid (KO.out _ D st hD1)
                have inv2 : InvA (k + 1) ⟨st.b, false, -1⟩ := ⟨by have := inv.size; dsimp only; omega, by dsimp only; omega⟩
                clear inv bA
                go_wp2_with fail
                generalize wr.alloc (.cells #[.string ⟨([111, 110] : List UInt8).toArray⟩, .string ⟨sx.toArray⟩, .int .i64 nx] 43) = W1 at *
                refine K1.out.mono ?_
                rintro e w4 ⟨rfl, hD4, hS4⟩
                have hv4 := hv1.trans hS4.below
                have hT4 : Blok w4 T 41 #[.string ⟨st.b.toArray⟩, .bool st.off, .int .i64 st.cut] := hT1.step hS4
                have m1 := hT4.cell 1 rfl
                have m2 := hT4.cell 2 rfl
                have q1 := hT4.frozen 1
                have q2 := hT4.frozen 2
                have b5 := hT4.set 1 (.bool false)
                have b6 := b5.set 2 (.int .i64 (-1))
                have hT6 : TapeAt ((w4.setCell ⟨T, 1, none⟩ (.bool false)).setCell ⟨T, 2, none⟩ (.int .i64 (-1))) T ⟨st.b, false, -1⟩ := by simpa [TapeAt] using b6
                have hg6 : w4.grownBy ((w4.setCell ⟨T, 1, none⟩ (.bool false)).setCell ⟨T, 2, none⟩ (.int .i64 (-1))) (some T) := grownBy_trans (setCell_grows _ _ _ _) (setCell_grows _ _ _ _)
                have hD6 := hD4.tape (s2 := st) hT4 hg6
                have hv6 := hv4.grown hg6 hv4.size (fun j e => by injection e with e; omega)
                clear K1 hv1 hD1 hT1 k0 k1 k2 b5 b6 hS4 hD4
                generalize hSt : (⟨st.b, false, -1⟩ : Dk) = st2 at *
                have kT : Blok ((w4.setCell ⟨T, 1, none⟩ (.bool false)).setCell ⟨T, 2, none⟩ (.int .i64 (-1))).drew T 41 #[.string ⟨st2.b.toArray⟩, .bool st2.off, .int .i64 st2.cut] := hT6
                have t0 := kT.cell 0 rfl
                have t1 := kT.cell 1 rfl
                clear hSt
                go_wp2
                generalize (w4.setCell ⟨T, 1, none⟩ (.bool false)).setCell ⟨T, 2, none⟩ (.int .i64 (-1)) = w6 at *
                clear m1 m2 q1 q2 hT4 hg6
                have hvT := (hv6).drew
                have hDT := DiskAt.below hD6 (Below.refl _ _).drew
                have hTT : TapeAt w6.drew T st2 := hT6
                have kT : Blok w6.drew T 41 #[.string ⟨st2.b.toArray⟩, .bool st2.off, .int .i64 st2.cut] := hT6
                have t0 := kT.cell 0 rfl
                have t1 := kT.cell 1 rfl
                have Z1 := Lib.hid (KB.out _ D st2 hDT)
                have Z2 := Lib.hid (KP.out _ D st2 hDT)
                generalize st2.b = sb at *
                generalize st2.off = so at *
                go_wp2
                go_region_held3 (fun w' => w'.cell? ⟨T, 0, none⟩ = some (.string ⟨sb.toArray⟩) ∧ w'.cell? ⟨T, 1, none⟩ = some (.bool so)) (go_keep)
                  (first
                    | (go_at_call 13; (with_reducible refine Z1.out.mono ?_); rintro e w9 ⟨rfl, rfl⟩)
                    | (go_at_call 11; (with_reducible refine Z2.out.mono ?_); rintro e w9 ⟨rfl, rfl⟩))
                go_wp2
                go_roundw
                case rel => exact ⟨k + 1, st2, by omega, by go_num, inv2, hDT, hTT, hvT⟩
                case measure => simp [intOf]; omega
              · obtain ⟨m, hP⟩ := parse_exists st.b.length st.b (Nat.le_refl _)
                have hbs : st.b.length ≤ 100000 := by have := inv.size; omega
                have K1 := Lib.hid (KR.out _ D st m hP hv1 hD1)
                have K2 := Lib.hid (fun (W : World) (h : TapeAt W T st) => refRecover_tape T st m hP W h hbs)
                have hmn : m.length ≤ 100000 := by
                  obtain ⟨_, r, hb2, _⟩ := hP
                  have h4 := flat_len m
                  have h5 := congrArg List.length hb2
                  rw [List.length_append] at h5; omega
                have inv2 : InvA (k + 1) ⟨st.b.take (m.flatMap recB).length, false, -1⟩ := ⟨by have := inv.size; dsimp only; rw [List.length_take]; omega, by dsimp only; omega⟩
                clear inv bA
                have g1 : (kd == [97, 112, 112, 101, 110, 100]) = false := by simpa using h1
                have g2 : (kd == [99, 117, 116]) = false := by simpa using h2
                have g3 : (kd == [111, 110]) = false := by simpa using h3
                generalize (⟨st.b.take (m.flatMap recB).length, false, -1⟩ : Dk) = st2 at *
                go_wp2_with fail
                generalize wr.alloc (.cells #[.string ⟨kd.toArray⟩, .string ⟨sx.toArray⟩, .int .i64 nx] 43) = W1 at *
                refine K1.out.mono ?_
                rintro e w4 ⟨rv, rfl, hrv, hD4, hS4⟩
                have hv4 := hv1.trans hS4.below
                have hT4 := hT1.step hS4
                obtain ⟨ar, cr, rfl⟩ := owned_shape hrv
                go_wp2_with fail
                refine (K2.out _ hT4).mono ?_
                rintro e w5 ⟨rv2, rfl, hrv2, hT5, hg5⟩
                have hD5 := hD4.tape hT4 hg5
                have hv5 := hv4.grown hg5 hv4.size (fun j e => by injection e with e; omega)
                have hrv5 := ownsRow_tape hrv hT4 hg5
                obtain ⟨ar2, cr2, rfl⟩ := owned_shape hrv2
                obtain ⟨r1, _, _, _⟩ := RowAt.owned hrv5
                obtain ⟨r2, _, _, _⟩ := RowAt.owned hrv2
                have KS := Lib.hid (sameT_any ar ar2 cr cr2 m w5 r1 r2 (by omega))
                go_wp2_with fail
                refine KS.out.mono ?_
                rintro e w6 ⟨rfl, hb6⟩
                have hv6 := hv5.trans (hb6.mono hv5.size)
                have hD6 := hD5.below hb6
                have hT6 := hT5.below hb6
                clear K1 K2 KS hv1 hD1 hT1 k0 k1 k2 hrv hrv2 hrv5 r1 r2 hS4 hD4 hT4 hg5 hD5 hT5 hv4 hv5 hb6 hP
                have hvT := (hv6).drew
                have hDT := DiskAt.below hD6 (Below.refl _ _).drew
                have hTT : TapeAt w6.drew T st2 := hT6
                have kT : Blok w6.drew T 41 #[.string ⟨st2.b.toArray⟩, .bool st2.off, .int .i64 st2.cut] := hT6
                have t0 := kT.cell 0 rfl
                have t1 := kT.cell 1 rfl
                have Z1 := Lib.hid (KB.out _ D st2 hDT)
                have Z2 := Lib.hid (KP.out _ D st2 hDT)
                generalize st2.b = sb at *
                generalize st2.off = so at *
                go_wp2
                go_region_held3 (fun w' => w'.cell? ⟨T, 0, none⟩ = some (.string ⟨sb.toArray⟩) ∧ w'.cell? ⟨T, 1, none⟩ = some (.bool so)) (go_keep)
                  (first
                    | (go_at_call 13; (with_reducible refine Z1.out.mono ?_); rintro e w9 ⟨rfl, rfl⟩)
                    | (go_at_call 11; (with_reducible refine Z2.out.mono ?_); rintro e w9 ⟨rfl, rfl⟩))
                go_wp2
                go_roundw
                case rel => exact ⟨k + 1, st2, by omega, by go_num, inv2, hDT, hTT, hvT⟩
                case measure => simp [intOf]; omega
    · obtain rfl : k = n := by omega
      obtain ⟨m, hP⟩ := parse_exists st.b.length st.b (Nat.le_refl _)
      have hbs : st.b.length ≤ 100000 := by have := inv.size; omega
      have hmn : m.length ≤ 100000 := by
        obtain ⟨_, r, hb2, _⟩ := hP
        have h4 := flat_len m
        have h5 := congrArg List.length hb2
        rw [List.length_append] at h5; omega
      have kT : Blok wr T 41 #[.string ⟨st.b.toArray⟩, .bool st.off, .int .i64 st.cut] := hTp
      have t0 := kT.cell 0 rfl
      have K1 := Lib.hid (KT.out wr st.b m hP hb (by omega))
      have K2 := Lib.hid (fun W : World => refReadT_any st.b m hP W hbs)
      generalize ((m.flatMap recB).length : Int) = q at *
      go_wp2_with fail
      refine K1.out.mono ?_
      rintro e w4 ⟨rv, rfl, hrv, hb4⟩
      have hv4 := hb.trans (hb4.mono hb.size)
      have kT4 := kT.kept hb4
      have t0 := kT4.cell 0 rfl
      obtain ⟨ar, cr, rfl⟩ := owned_shape hrv
      go_wp2_with fail
      refine (K2.out _).mono ?_
      rintro e w5 ⟨rv2, rfl, hrv2, hb5⟩
      have hv5 := hv4.trans (hb5.mono hv4.size)
      have hrv5 := ownsRow_below hrv hb5
      obtain ⟨ar2, cr2, rfl⟩ := owned_shape hrv2
      obtain ⟨r1, _, _, _⟩ := RowAt.owned hrv5
      obtain ⟨r2, _, _, _⟩ := RowAt.owned hrv2
      have KS := Lib.hid (sameT_any ar ar2 cr cr2 m w5 r1 r2 (by omega))
      go_wp2_with fail
      refine KS.out.mono ?_
      rintro e w6 ⟨rfl, hb6⟩
      go_wp2
      go_ret
      exact ⟨rfl, hv5.trans (hb6.mono hv5.size)⟩

theorem wr_bounds {n : Int} (h : (Lit.int .i64 n).wf = true) : -9223372036854775808 ≤ n ∧ n ≤ 9223372036854775807 := by
  simp [Lit.wf, IntKind.min, IntKind.max, IntKind.signed, IntKind.bits] at h
  omega
set_option maxRecDepth 100000 in
theorem walk_TapeActs (ea : Nat → Addr) (b0 : List UInt8) (a : Option Addr) (n cap : Nat) (l : List Wr) (w : World) (hG : GlobC w ea) (hT : TxtEnv w) (hb : b0.length ≤ maxLen)
    (hn : l.length = n) (hr : RowAt w a (encWr l)) (_hcap : n ≤ cap) (hm : n ≤ 4611686018427387904) (hw : ∀ x ∈ l, (Lit.int .i64 x.n).wf = true) :
    Calls Tryd.prog 4 #[.string ⟨b0.toArray⟩, .slice a n cap] w fun e w' => e = .returned (.bool true) ∧ Below w.heap.size w w' := by
  by_cases h1 : b0.length ≤ 2000 ∧ n ≤ 50
  · exact tapeActs_law ea b0 a n cap l w hG hT h1.1 hn hr h1.2 (fun x hx => wr_bounds (hw x hx))
  · have K0 := Lib.hid (taped_any ea w (hG.glob.sub (by simp)) hT)
    have hb2 : b0.length ≤ 9223372036854775807 := hb
    clear hG hT hn hr hw hb
    by_cases h2 : b0.length ≤ 2000
    · have d1 : decide ((2000 : Int) < (b0.length : Int)) = false := decide_eq_false (by omega)
      have d2 : decide ((50 : Int) < (n : Int)) = true := decide_eq_true (by omega)
      clear h1 h2
      go_enter Tryd.func4, Tryd.ntmps4
      go_wp2_with fail
      refine K0.out.mono ?_
      rintro e w1 ⟨rfl, hb1⟩
      go_wp2
      go_ret
      exact ⟨rfl, hb1⟩
    · have d1 : decide ((2000 : Int) < (b0.length : Int)) = true := decide_eq_true (by omega)
      clear h1 h2
      go_enter Tryd.func4, Tryd.ntmps4
      go_wp2_with fail
      refine K0.out.mono ?_
      rintro e w1 ⟨rfl, hb1⟩
      go_wp2
      go_ret
      exact ⟨rfl, hb1⟩
end Go.Proofs.YtgghnncgeogemaaDoor
