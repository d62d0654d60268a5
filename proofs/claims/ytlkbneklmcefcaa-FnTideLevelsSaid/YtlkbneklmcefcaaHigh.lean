/-
  Contracts of HighestLevel, the program's and the reference's, and the law.
  Conditions: none.
-/
import Derived.Test.YtlkbneklmcefcaaMinWith
import Derived.Test.YtlkbneklmcefcaaBetween
namespace Go.Proofs.Ytlkbneklmcefcaa
open Go.ChangeShapes Go.WideShapes Go.ChangeAt Go.RowKit
set_option linter.unusedVariables false

/-- A level lies between bounds of all levels of the curve. -/
theorem lv_between_all {xs : List (Int × Int)} {t lo hi : Int} (hlo : ∀ i, i < xs.length → lo ≤ P2 xs i) (hhi : ∀ i, i < xs.length → P2 xs i ≤ hi) (h : lvOk xs t = true) : lo * lvD xs t ≤ lvN xs t ∧ lvN xs t ≤ hi * lvD xs t := by
  unfold lvOk at h
  cases hl : lv xs t with
  | none => rw [hl] at h; cases h
  | some r =>
    rw [hl] at h
    have hr : r.2 ≤ 60 := by simpa using h
    have hv := lv_vals hl hr
    rw [hv.2.1, hv.2.2]
    obtain ⟨i, hi', hs⟩ := lvTo_some _ hl
    simp only [lvStep] at hs
    split at hs
    · injection hs with hs
      subst hs
      have := hlo i hi'
      have := hhi i hi'
      simp
      omega
    · split at hs
      · rename_i hc
        obtain ⟨c0, c1, c2⟩ := hc
        injection hs with hs
        subst hs
        have a1 := Int.mul_le_mul_of_nonneg_right (hlo i hi') (show 0 ≤ t - P1 xs (i - 1) by omega)
        have a2 := Int.mul_le_mul_of_nonneg_right (hhi i hi') (show 0 ≤ t - P1 xs (i - 1) by omega)
        have a3 := Int.mul_le_mul_of_nonneg_right (hlo (i - 1) (by omega)) (show 0 ≤ P1 xs i - t by omega)
        have a4 := Int.mul_le_mul_of_nonneg_right (hhi (i - 1) (by omega)) (show 0 ≤ P1 xs i - t by omega)
        have e1 : ∀ z : Int, z * (P1 xs i - P1 xs (i - 1)) = z * (t - P1 xs (i - 1)) + z * (P1 xs i - t) := fun z => by rw [← Int.mul_add]; congr 1; omega
        simp only [e1]
        omega
      · cases hs
theorem lv_low {xs : List (Int × Int)} {t : Int} (hB : tideB xs = true) (h : lvOk xs t = true) : -1000 * lvD xs t ≤ lvN xs t :=
  (lv_between_all (lo := -1000) (hi := 2000) (fun i hi => (tideB_at hB hi).2.1.1) (fun i hi => (tideB_at hB hi).2.1.2) h).1
/-- Comparing does not hang on lowest terms. -/
theorem red_lt {p q u v : Int} (hq : 0 < q) (hv : 0 < v) : (redN u v * redD p q < redN p q * redD u v) ↔ (u * q < p * v) := by
  have h1 := red_mul (a := p) hq
  have h2 := red_mul (a := u) hv
  have g1 := gcdI_pos (a := p) hq
  have g2 := gcdI_pos (a := u) hv
  generalize redN p q = n at *
  generalize redD p q = d at *
  generalize redN u v = m at *
  generalize redD u v = e at *
  have gg := Int.mul_pos g1 g2
  generalize gcdI p q = g at *
  generalize gcdI u v = h at *
  obtain ⟨rfl, rfl⟩ := h1
  obtain ⟨rfl, rfl⟩ := h2
  have e1 : m * h * (d * g) = m * d * (g * h) := by ac_rfl
  have e2 : n * g * (e * h) = n * e * (g * h) := by ac_rfl
  rw [e1, e2]
  exact ⟨fun h => Int.mul_lt_mul_of_pos_right h gg, fun h => Int.lt_of_mul_lt_mul_right h (Int.le_of_lt gg)⟩
/-- The highest level among the first k minutes from a time on, not in lowest terms. -/
def hiTo (xs : List (Int × Int)) (f : Int) : Nat → Int × Int
  | 0 => (0, 0)
  | k + 1 => if (hiTo xs f k).2 = 0 ∨ (hiTo xs f k).1 * lvD xs (f + k) < lvN xs (f + k) * (hiTo xs f k).2 then (lvN xs (f + k), lvD xs (f + k)) else hiTo xs f k
theorem hi_bd {xs : List (Int × Int)} {f : Int} (hB : tideB xs = true) (f0 : 0 ≤ f) : ∀ k : Nat, f + k ≤ 10001 → (∀ j : Nat, j < k → lvOk xs (f + j) = true) → (-40000000 ≤ (hiTo xs f k).1 ∧ (hiTo xs f k).1 ≤ 40000000) ∧ (0 ≤ (hiTo xs f k).2 ∧ (hiTo xs f k).2 ≤ 60) ∧ (0 < k → 1 ≤ (hiTo xs f k).2)
  | 0, _, _ => by simp [hiTo]
  | k + 1, h1, h2 => by
    have ih := hi_bd hB f0 k (by omega) (fun j hj => h2 j (by omega))
    have hb := lv_bd hB (timeB_2 (t := f + k) (by omega) (by omega)) (h2 k (by omega))
    rw [hiTo]
    split
    · simp only []
      omega
    · rename_i hn
      refine ⟨ih.1, ih.2.1, fun _ => ?_⟩
      have : (hiTo xs f k).2 ≠ 0 := fun e => hn (Or.inl e)
      omega
/-- What the program holds as the best after k minutes. -/
def BestIs (xs : List (Int × Int)) (f : Int) (k : Nat) (bn bd : Int) : Prop := if k = 0 then bn = -20000 ∧ bd = 1 else bn = redN (hiTo xs f k).1 (hiTo xs f k).2 ∧ bd = redD (hiTo xs f k).1 (hiTo xs f k).2
theorem best_bd {xs : List (Int × Int)} {f : Int} {k : Nat} {bn bd : Int} (hB : tideB xs = true) (f0 : 0 ≤ f) (h1 : f + k ≤ 10001) (h2 : ∀ j : Nat, j < k → lvOk xs (f + j) = true) (h : BestIs xs f k bn bd) : (-40000000 ≤ bn ∧ bn ≤ 40000000) ∧ (1 ≤ bd ∧ bd ≤ 60) := by
  unfold BestIs at h
  split at h
  · omega
  · obtain ⟨rfl, rfl⟩ := h
    have hb := hi_bd hB f0 k h1 h2
    exact red_bds hb.1 ⟨hb.2.2 (by omega), hb.2.1.2⟩
theorem best_step {xs : List (Int × Int)} {f : Int} {k : Nat} {bn bd : Int} (hB : tideB xs = true) (f0 : 0 ≤ f) (h1 : f + k ≤ 10000) (h2 : ∀ j : Nat, j < k → lvOk xs (f + j) = true) (hk : lvOk xs (f + k) = true) (h : BestIs xs f k bn bd) :
    ((bn * redD (lvN xs (f + k)) (lvD xs (f + k)) < redN (lvN xs (f + k)) (lvD xs (f + k)) * bd) → BestIs xs f (k + 1) (redN (lvN xs (f + k)) (lvD xs (f + k))) (redD (lvN xs (f + k)) (lvD xs (f + k)))) ∧
    (¬ (bn * redD (lvN xs (f + k)) (lvD xs (f + k)) < redN (lvN xs (f + k)) (lvD xs (f + k)) * bd) → BestIs xs f (k + 1) bn bd) := by
  have hb := lv_bd hB (timeB_2 (t := f + k) (by omega) (by omega)) hk
  have hi := hi_bd hB f0 k (by omega) h2
  have hl := lv_low hB hk
  have hd : 0 < lvD xs (f + k) := by omega
  unfold BestIs at h ⊢
  rw [if_neg (by omega), hiTo]
  by_cases h0 : k = 0
  · subst h0
    rw [if_pos rfl] at h
    obtain ⟨rfl, rfl⟩ := h
    have e2 : (hiTo xs f 0).2 = 0 := rfl
    rw [if_pos (Or.inl e2)]
    refine ⟨fun _ => ⟨rfl, rfl⟩, fun hn => absurd ?_ hn⟩
    have m := red_mul (a := lvN xs (f + (0 : Nat))) hd
    have g := gcdI_pos (a := lvN xs (f + (0 : Nat))) hd
    have p := redD_pos (a := lvN xs (f + (0 : Nat))) hd
    have : -1000 * redD (lvN xs (f + (0 : Nat))) (lvD xs (f + (0 : Nat))) ≤ redN (lvN xs (f + (0 : Nat))) (lvD xs (f + (0 : Nat))) := by
      refine Int.le_of_mul_le_mul_right ?_ g
      rw [Int.mul_assoc, m.1, m.2]
      exact hl
    omega
  · rw [if_neg h0] at h
    obtain ⟨rfl, rfl⟩ := h
    have hp := hi.2.2 (by omega)
    have hr := red_lt (p := lvN xs (f + k)) (q := lvD xs (f + k)) (u := (hiTo xs f k).1) (v := (hiTo xs f k).2) hd (by omega)
    rw [hr]
    refine ⟨fun h => ?_, fun h => ?_⟩
    · rw [if_pos (Or.inr h)]
      exact ⟨rfl, rfl⟩
    · have hn : ¬ ((hiTo xs f k).2 = 0 ∨ (hiTo xs f k).1 * lvD xs (f + k) < lvN xs (f + k) * (hiTo xs f k).2) := fun hh => by
        rcases hh with hh | hh
        · omega
        · exact h hh
      rw [if_neg hn]
      exact ⟨rfl, rfl⟩
def hlIn (xs : List (Int × Int)) (f t : Int) : Bool := tideB xs && spanB f t
def hlOk (xs : List (Int × Int)) (f t : Int) : Bool := hlIn xs f t && allB (t - f + 1).toNat (fun k => lvOk xs (f + k))
def hlN (xs : List (Int × Int)) (f t : Int) : Int := if hlOk xs f t = true then redN (hiTo xs f (t - f + 1).toNat).1 (hiTo xs f (t - f + 1).toNat).2 else 0
def hlD (xs : List (Int × Int)) (f t : Int) : Int := if hlOk xs f t = true then redD (hiTo xs f (t - f + 1).toNat).1 (hiTo xs f (t - f + 1).toNat).2 else 0
theorem hl_out {xs : List (Int × Int)} {f t : Int} (h : hlIn xs f t = false) : hlN xs f t = 0 ∧ hlD xs f t = 0 ∧ hlOk xs f t = false := by
  have : hlOk xs f t = false := by simp [hlOk, h]
  simp [hlN, hlD, this]
theorem hl_no {xs : List (Int × Int)} {f t : Int} (k : Nat) (hk : f + k ≤ t) (h : lvOk xs (f + k) = false) : hlN xs f t = 0 ∧ hlD xs f t = 0 ∧ hlOk xs f t = false := by
  have : hlOk xs f t = false := by
    rw [hlOk, allB_false (k := k) (by omega) h, Bool.and_false]
  simp [hlN, hlD, this]
theorem hl_yes {xs : List (Int × Int)} {f t : Int} {k : Nat} (hi : hlIn xs f t = true) (hk : f + k = t + 1) (h : ∀ j : Nat, j < k → lvOk xs (f + j) = true) : hlN xs f t = redN (hiTo xs f k).1 (hiTo xs f k).2 ∧ hlD xs f t = redD (hiTo xs f k).1 (hiTo xs f k).2 ∧ hlOk xs f t = true := by
  have e : (t - f + 1).toNat = k := by omega
  have : hlOk xs f t = true := by rw [hlOk, hi, e, allB_true h]; rfl
  rw [hlN, hlD, if_pos this, if_pos this, e]
  exact ⟨rfl, rfl, this⟩
theorem hl_best {xs : List (Int × Int)} {f t : Int} {k : Nat} {bn bd : Int} (hi : hlIn xs f t = true) (hk : f + k = t + 1) (h0 : 0 < k) (h : ∀ j : Nat, j < k → lvOk xs (f + j) = true) (hb : BestIs xs f k bn bd) : hlN xs f t = bn ∧ hlD xs f t = bd ∧ hlOk xs f t = true := by
  have hy := hl_yes hi hk h
  unfold BestIs at hb
  rw [if_neg (by omega)] at hb
  exact ⟨hy.1.trans hb.1.symm, hy.2.1.trans hb.2.symm, hy.2.2⟩
theorem hlIn_1 {xs : List (Int × Int)} {f t : Int} (h : hlIn xs f t = true) : tideB xs = true ∧ spanB f t = true := by simpa [hlIn] using h
end Go.Proofs.Ytlkbneklmcefcaa
