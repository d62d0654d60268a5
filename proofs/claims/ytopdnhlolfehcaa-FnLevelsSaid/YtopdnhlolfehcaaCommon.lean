/-
  Contracts of gaugeIndex, twoGauges, commonTimes and CommonTimes, the program's and the reference's.
  Conditions: none.
-/
import Derived.Test.YtopdnhlolfehcaaAreGauges
import Derived.Test.YtopdnhlolfehcaaHeight
import Derived.Test.YtopdnhlolfehcaaMark
import Derived.Maps.AppendAt
import Derived.Deep.AppendLies
namespace Go.Proofs.Ytopdnhlolfehcaa
open Go.ChangeShapes Go.WideShapes Go.ChangeAt Go.RowKit
set_option linter.unusedVariables false
set_option linter.unusedSimpArgs false

/-- Does the j-th gauge bear a number. -/
def idAt (gs : List Gz) (id : Int) (j : Nat) : Bool := (GZ gs j).id == id
def gI (gs : List Gz) (id : Int) : Option Nat := findTo (idAt gs id) gs.length
theorem closureId_any (x : Gz) (u : Value) (B : Nat) (id : Int) (w : World) (h1 : w.cell? ⟨B, 0, none⟩ = some (.int .i64 id)) : Calls Try.prog 110 #[.agg #[.int .i64 x.id, .string x.nm, .int .i64 x.z, u], .pointer (some ⟨B, 0, none⟩)] w fun e w' => e = .returned (.bool (x.id == id)) ∧ Kept w w' := by
  have hB := World.block_lt_of_cell? w _ h1
  simp only [] at hB
  have z1 : ¬ B = w.heap.size := by omega
  have z2 : ¬ w.heap.size = B := by omega
  go_enter Try.func110, Try.ntmps110
  go_wp2
  go_ret
  exact ⟨rfl, by (repeat (first | exact Kept.refl _ | assumption | refine Kept.alloc ?_ _ | refine Kept.drew ?_ | refine Kept.drewN ?_ _ | refine Kept.setCell ?_ (by first | (simp; done) | (simp; omega) | omega | exact Kept.size (by (repeat (first | exact Kept.refl _ | assumption | refine Kept.alloc ?_ _ | refine Kept.drew ?_ | refine Kept.drewN ?_ _ | refine Kept.trans ?_ (by assumption))))) _ | refine Kept.trans ?_ (by assumption)))⟩
theorem indexId_any (gs : List Gz) (n cap : Nat) (A : Option Addr) (B : Nat) (id : Int) (w : World) (hn : n ≤ gs.length) (hm : gs.length ≤ 9223372036854775807) (hA : 0 < gs.length → ∃ b off, A = some ⟨b, off, none⟩ ∧ ∀ i, i < gs.length → ∃ u, AtG w b (off + i * 4) (GZ gs i) u) (h1 : w.cell? ⟨B, 0, none⟩ = some (.int .i64 id)) : Calls Try.prog 105 #[.slice A n cap, .func (.func 110) #[] #[.pointer (some ⟨B, 0, none⟩)]] w fun e w' => e = .returned (.int .i64 (idxI (findTo (idAt gs id) n))) ∧ Kept w w' := by
  go_enter Try.func105, Try.ntmps105
  go_wp2
  go_loopw [5, 8] (fun _ s8 wr => ∃ k : Nat, k ≤ n ∧ s8 = .int .i64 k ∧ Kept w wr ∧ ∀ j, j < k → idAt gs id j = false) (fun _ s8 _ => n - (intOf s8).toNat)
  case atStart => exact ⟨0, Nat.zero_le _, rfl, Kept.refl _, fun j h => absurd h (by omega)⟩
  case round =>
    obtain ⟨k, hk, rfl, hkw, hall⟩ := hrel
    have HN := Lib.hid hall
    clear hall
    by_cases hlt : k < n
    · obtain ⟨b, off, rfl, hc⟩ := hA (by omega)
      obtain ⟨u, hu⟩ := hc k (by omega)
      obtain ⟨c0, c1, c2, c3, cl⟩ := hu.kept hkw
      have CL := Lib.hid cl
      obtain ⟨A2, n2, rfl, -, -, -⟩ := cl
      have hq := hkw.keep h1
      have hcall := fun W => closureId_any (GZ gs k) (.slice A2 (GZ gs k).xs.length n2) B id W
      clear hc hA hu
      cases hh : idAt gs id k
      · have HB := Lib.hid (upto_succ (p := fun j => idAt gs id j = false) HN.out hh)
        have hh' : ((GZ gs k).id == id) = false := hh
        rw [hh'] at hcall
        have HC := Lib.hid hcall
        clear hcall hh'
        go_wp2_with (go_at_call 110; refine (HC.out _ (by assumption)).mono ?_; rintro e w' ⟨rfl, hk'⟩)
        go_roundw
        case rel => exact ⟨k + 1, by omega, by go_num, by (repeat (first | exact Kept.refl _ | assumption | refine Kept.alloc ?_ _ | refine Kept.drew ?_ | refine Kept.drewN ?_ _ | refine Kept.setCell ?_ (by first | (simp; done) | (simp; omega) | omega | exact Kept.size (by (repeat (first | exact Kept.refl _ | assumption | refine Kept.alloc ?_ _ | refine Kept.drew ?_ | refine Kept.drewN ?_ _ | refine Kept.trans ?_ (by assumption))))) _ | refine Kept.trans ?_ (by assumption))), HB.out⟩
        case measure => simp [intOf]; omega
      · have HF := Lib.hid (show (k : Int) = idxI (findTo (idAt gs id) n) by rw [find_some hlt HN.out hh]; rfl)
        have hh' : ((GZ gs k).id == id) = true := hh
        rw [hh'] at hcall
        have HC := Lib.hid hcall
        clear hcall hh'
        go_wp2_with (go_at_call 110; refine (HC.out _ (by assumption)).mono ?_; rintro e w' ⟨rfl, hk'⟩)
        go_ret
        exact ⟨ret_int HF.out, by (repeat (first | exact Kept.refl _ | assumption | refine Kept.alloc ?_ _ | refine Kept.drew ?_ | refine Kept.drewN ?_ _ | refine Kept.setCell ?_ (by first | (simp; done) | (simp; omega) | omega | exact Kept.size (by (repeat (first | exact Kept.refl _ | assumption | refine Kept.alloc ?_ _ | refine Kept.drew ?_ | refine Kept.drewN ?_ _ | refine Kept.trans ?_ (by assumption))))) _ | refine Kept.trans ?_ (by assumption)))⟩
    · have HF := Lib.hid (show (-1 : Int) = idxI (findTo (idAt gs id) n) by rw [find_none (fun j hj => HN.out j (by omega))]; rfl)
      clear hA
      go_wp2
      go_ret
      exact ⟨ret_int HF.out, by (repeat (first | exact Kept.refl _ | assumption | refine Kept.alloc ?_ _ | refine Kept.drew ?_ | refine Kept.drewN ?_ _ | refine Kept.setCell ?_ (by first | (simp; done) | (simp; omega) | omega | exact Kept.size (by (repeat (first | exact Kept.refl _ | assumption | refine Kept.alloc ?_ _ | refine Kept.drew ?_ | refine Kept.drewN ?_ _ | refine Kept.trans ?_ (by assumption))))) _ | refine Kept.trans ?_ (by assumption)))⟩

theorem gaugeIndex_any (v : Value) (gs : List Gz) (id : Int) (w : World) (hL : GLies w v gs) : Calls Try.prog 106 #[v, .int .i64 id] w fun e w' => e = .returned (.int .i64 (idxI (gI gs id))) ∧ Kept w w' := by
  have hm := hL.len
  have K0 : Kept w (w.alloc (.cells #[.int .i64 id] 3)) := Kept.alloc (Kept.refl _) _
  obtain ⟨A, c, rfl, hlc, hcm, hA⟩ := hL
  have HF := Lib.hid (indexId_any gs gs.length c A w.heap.size id (w.alloc (.cells #[.int .i64 id] 3)) (Nat.le_refl _) (by unfold maxLen at hm; omega) (fun h => let ⟨b, off, e, hc⟩ := hA h; ⟨b, off, e, fun i hi => let ⟨u, hu⟩ := hc i hi; ⟨u, hu.kept K0⟩⟩) (by simp [go_sem]))
  clear hA
  go_enter Try.func106, Try.ntmps106
  go_wp2_with (go_at_call 105; refine HF.out.mono ?_; rintro e w' ⟨rfl, hk'⟩)
  go_ret
  exact ⟨rfl, K0.trans hk'⟩
theorem l3Find_any (v : Value) (gs : List Gz) (id : Int) (w : World) (hL : GLies w v gs) : Calls Try.prog 88 #[v, .int .i64 id] w fun e w' => e = .returned (.int .i64 (idxI (gI gs id))) ∧ Kept w w' := by
  have hm := hL.len
  unfold maxLen at hm
  obtain ⟨A, c, rfl, hlc, hcm, hA⟩ := hL
  go_enter Try.func88, Try.ntmps88
  go_wp2_with fail
  go_loopw [5] (fun i wr => ∃ k : Nat, k ≤ gs.length ∧ i = .int .i64 k ∧ (∀ j, j < k → idAt gs id j = false) ∧ wr = w) (fun i _ => gs.length - (intOf i).toNat)
  case atStart => exact ⟨0, Nat.zero_le _, rfl, fun j h => absurd h (by omega), rfl⟩
  case round =>
    obtain ⟨k, hk, rfl, hall, rfl⟩ := hrel
    have HN := Lib.hid hall
    clear hall
    by_cases hlt : k < gs.length
    · obtain ⟨b, off, rfl, hc⟩ := hA (by omega)
      obtain ⟨u, hu⟩ := hc k hlt
      have c0 := hu.c0
      have k0 : (0 : Int) ≤ (k : Int) := by omega
      have k1 : (k : Int) < (gs.length : Int) := by omega
      clear hc hA hu
      cases hh : idAt gs id k
      · have HB := Lib.hid (upto_succ (p := fun j => idAt gs id j = false) HN.out hh)
        have hh' : ((GZ gs k).id == id) = false := hh
        go_wp2_with fail
        go_roundw
        case rel => exact ⟨k + 1, by omega, by go_num, HB.out, by trivial⟩
        case measure => simp [intOf]; omega
      · have HF := Lib.hid (show (k : Int) = idxI (gI gs id) by rw [gI, find_some hlt HN.out hh]; rfl)
        have hh' : ((GZ gs k).id == id) = true := hh
        go_wp2_with fail
        go_ret
        exact ⟨ret_int HF.out, Kept.refl _⟩
    · have HF := Lib.hid (show (-1 : Int) = idxI (gI gs id) by rw [gI, find_none (fun j hj => HN.out j (by omega))]; rfl)
      clear hA
      go_wp2_with fail
      go_ret
      exact ⟨ret_int HF.out, Kept.refl _⟩
def twoOk (gs : List Gz) (a b : Int) : Bool := gaugesB gs && decide (0 ≤ idxI (gI gs a)) && decide (0 ≤ idxI (gI gs b)) && !(idxI (gI gs a) == idxI (gI gs b))
theorem idx_some {o : Option Nat} (h : 0 ≤ idxI o) : ∃ i : Nat, o = some i ∧ idxI o = (i : Int) := by
  cases o with
  | none => simp [idxI] at h
  | some i => exact ⟨i, rfl, rfl⟩
theorem gr_at {gs : List Gz} (h : gaugesB gs = true) {i : Nat} (hi : i < gs.length) : grB (GZ gs i) = true := by
  simp only [gaugesB, Bool.and_eq_true] at h
  have := allB_at h.1 hi
  simp only [gaugeAt, Bool.and_eq_true] at this
  exact this.1.1
theorem two_yes {gs : List Gz} {a b : Int} (h : twoOk gs a b = true) : ∃ i k : Nat, i < gs.length ∧ k < gs.length ∧ idxI (gI gs a) = (i : Int) ∧ idxI (gI gs b) = (k : Int) ∧ grB (GZ gs i) = true ∧ grB (GZ gs k) = true := by
  simp only [twoOk, Bool.and_eq_true, decide_eq_true_eq] at h
  obtain ⟨⟨⟨hg, ha⟩, hb⟩, -⟩ := h
  obtain ⟨i, ei, hi⟩ := idx_some ha
  obtain ⟨k, ek, hk⟩ := idx_some hb
  have li := (find_is ei).1
  have lk := (find_is ek).1
  exact ⟨i, k, li, lk, hi, hk, gr_at hg li, gr_at hg lk⟩
set_option maxHeartbeats 1000000 in
theorem twoGauges_any (v : Value) (gs : List Gz) (a b : Int) (w : World) (hL : GLies w v gs) (hz : GSized gs) : Calls Try.prog 90 #[v, .int .i64 a, .int .i64 b] w fun e w' => e = .returned (.tuple #[.int .i64 (idxI (gI gs a)), .int .i64 (idxI (gI gs b)), .bool (twoOk gs a b)]) ∧ Kept w w' := by
  have HL := Lib.hid hL
  have HZ := Lib.hid hz
  obtain ⟨A, c, rfl, -, -, -⟩ := hL
  have H1 := Lib.hid fun W (h : GLies W (.slice A gs.length c) gs) => gaugeIndex_any _ gs a W h
  have H2 := Lib.hid fun W (h : GLies W (.slice A gs.length c) gs) => gaugeIndex_any _ gs b W h
  have H3 := Lib.hid fun W (h : GLies W (.slice A gs.length c) gs) => areGauges_any _ gs W h hz
  have hT : twoOk gs a b = (gaugesB gs && decide (0 ≤ idxI (gI gs a)) && decide (0 ≤ idxI (gI gs b)) && !(idxI (gI gs a) == idxI (gI gs b))) := rfl
  generalize idxI (gI gs a) = x at H1 hT ⊢
  generalize idxI (gI gs b) = y at H2 hT ⊢
  generalize gaugesB gs = g at H3 hT
  generalize twoOk gs a b = ok at hT ⊢
  have HT := Lib.hid hT
  clear hT hz
  go_enter Try.func90, Try.ntmps90
  go_wp2_with fail
  refine (H1.out _ HL.out).mono ?_
  rintro e w1 ⟨rfl, k1⟩
  have K1 := Lib.hid k1
  clear k1
  go_wp2_with fail
  refine (H2.out _ (HL.out.kept K1.out)).mono ?_
  rintro e w2 ⟨rfl, k2⟩
  have K2 := Lib.hid (K1.out.trans k2)
  clear k2
  go_wp2_with fail
  refine (H3.out _ (HL.out.kept K2.out)).mono ?_
  rintro e w3 ⟨rfl, k3⟩
  have K3 := Lib.hid (K2.out.trans k3)
  clear k3 H1 H2 H3
  cases g
  · go_wp2_with fail
    go_ret3
    exact ⟨by rw [HT.out]; rfl, K3.out⟩
  · by_cases hx : 0 ≤ x
    · have dx : decide (0 ≤ x) = true := by simp [hx]
      by_cases hy : 0 ≤ y
      · have dy : decide (0 ≤ y) = true := by simp [hy]
        go_wp2_with fail
        go_ret3
        exact ⟨by rw [HT.out, dx, dy]; rfl, K3.out⟩
      · have dy : decide (0 ≤ y) = false := by simp [hy]
        go_wp2_with fail
        go_ret3
        exact ⟨by rw [HT.out, dx, dy]; rfl, K3.out⟩
    · have dx : decide (0 ≤ x) = false := by simp [hx]
      go_wp2_with fail
      go_ret3
      exact ⟨by rw [HT.out, dx]; rfl, K3.out⟩
/-- The indices of the readings of a whose time b has. -/
def cmI (xs ys : List (Int × Int)) (k : Nat) : List Nat := (List.range k).filter (fun j => (htI ys (P1 xs j)).isSome)
theorem cm_yes {xs ys : List (Int × Int)} {k : Nat} (h : (htI ys (P1 xs k)).isSome = true) : cmI xs ys (k + 1) = cmI xs ys k ++ [k] := by
  simp [cmI, List.range_succ, List.filter_append, h]
theorem cm_no {xs ys : List (Int × Int)} {k : Nat} (h : (htI ys (P1 xs k)).isSome = false) : cmI xs ys (k + 1) = cmI xs ys k := by
  simp [cmI, List.range_succ, List.filter_append, h]
theorem cm_len (xs ys : List (Int × Int)) (k : Nat) : (cmI xs ys k).length ≤ k := by
  have := List.length_filter_le (fun j => (htI ys (P1 xs j)).isSome) (List.range k)
  simpa [cmI] using this
def cmT (xs ys : List (Int × Int)) (k : Nat) : List Int := (cmI xs ys k).map (P1 xs)
def cmF (xs ys : List (Int × Int)) (z : Int) (k : Nat) : List Int := (cmI xs ys k).map (fun j => P2 xs j + z)
def cmS (xs ys : List (Int × Int)) (z2 : Int) (k : Nat) : List Int := (cmI xs ys k).map (fun j => htR ys z2 (P1 xs j))
theorem cmT_len (xs ys : List (Int × Int)) (k : Nat) : (cmT xs ys k).length = (cmI xs ys k).length := by simp [cmT]
theorem news_one (W : World) (x : Value) (t : TypeId) {g : Nat} (hg : W.heap.size = g) : ∀ (j : Nat) (u : Value), [x][j]? = some u → (W.alloc (.cells #[x] t)).cell? ((⟨g, 0, none⟩ : Addr).add j) = some u := by
  subst hg
  exact World.news_of_block (cs := #[x]) (t := t) (fr := (0, 0)) (heap_alloc_new W _)
theorem app_ne {W : World} {base s n : Nat} {e : TypeId} {u2 v1 u1 : Value} {xs : List Value} {b2 : Nat} (ho : W.ownsRow base e s u2 n xs) (hs : u2.ownBlock = some b2) (hne : u2.ownBlock ≠ u1.ownBlock) (hb : v1.ownBlock = u1.ownBlock ∨ v1.ownBlock = some W.heap.size) : u2.ownBlock ≠ v1.ownBlock := by
  rcases hb with e | e
  · rw [e]
    exact hne
  · rw [e, hs]
    intro h
    injection h with h
    have := (ho.lt b2 hs).2
    omega
end Go.Proofs.Ytopdnhlolfehcaa
