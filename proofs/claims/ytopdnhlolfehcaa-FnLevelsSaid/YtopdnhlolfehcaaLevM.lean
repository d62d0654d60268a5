/-
  Plain facts on the level of a curve at a time: no program in sight.
  Conditions: none.
-/
import Derived.Test.YtopdnhlolfehcaaMem
namespace Go.Proofs.Ytopdnhlolfehcaa
set_option linter.unusedVariables false

/-- What the i-th tide says of a time: its own level, or the one between it and the tide ahead of it. -/
def lvStep (xs : List (Int × Int)) (t : Int) (i : Nat) : Option (Int × Int) :=
  if P1 xs i = t then some (P2 xs i, 1)
  else if 0 < i ∧ P1 xs (i - 1) < t ∧ t < P1 xs i then some (P2 xs (i - 1) * (P1 xs i - t) + P2 xs i * (t - P1 xs (i - 1)), P1 xs i - P1 xs (i - 1))
  else none
def lvTo (xs : List (Int × Int)) (t : Int) : Nat → Option (Int × Int)
  | 0 => none
  | k + 1 => match lvTo xs t k with
    | some r => some r
    | none => lvStep xs t k
def lv (xs : List (Int × Int)) (t : Int) : Option (Int × Int) := lvTo xs t xs.length
/-- Is there a level at a time, and which, not in lowest terms. -/
def lvOk (xs : List (Int × Int)) (t : Int) : Bool := match lv xs t with
  | some r => decide (r.2 ≤ 60)
  | none => false
def lvN (xs : List (Int × Int)) (t : Int) : Int := if lvOk xs t = true then ((lv xs t).getD (0, 0)).1 else 0
def lvD (xs : List (Int × Int)) (t : Int) : Int := if lvOk xs t = true then ((lv xs t).getD (0, 0)).2 else 0

theorem lvTo_mono {xs : List (Int × Int)} {t : Int} {k : Nat} {r : Int × Int} (h : lvTo xs t k = some r) : ∀ m, k ≤ m → lvTo xs t m = some r
  | 0, hm => by
    obtain rfl : k = 0 := by omega
    exact h
  | m + 1, hm => by
    by_cases e : k = m + 1
    · subst e; exact h
    · rw [lvTo, lvTo_mono h m (by omega)]
theorem lv_found {xs : List (Int × Int)} {t : Int} {k : Nat} {r : Int × Int} (hk : k < xs.length) (h0 : lvTo xs t k = none) (h : lvStep xs t k = some r) : lv xs t = some r :=
  lvTo_mono (k := k + 1) (by rw [lvTo, h0]; exact h) _ hk
theorem lv_on {xs : List (Int × Int)} {t : Int} {k : Nat} (h0 : lvTo xs t k = none) (h : lvStep xs t k = none) : lvTo xs t (k + 1) = none := by rw [lvTo, h0]; exact h
theorem lvTo_some {xs : List (Int × Int)} {t : Int} {r : Int × Int} : ∀ k, lvTo xs t k = some r → ∃ i, i < k ∧ lvStep xs t i = some r
  | 0, h => by simp [lvTo] at h
  | k + 1, h => by
    rw [lvTo] at h
    cases h1 : lvTo xs t k with
    | none =>
      rw [h1] at h
      exact ⟨k, by omega, h⟩
    | some q =>
      rw [h1] at h
      obtain ⟨i, hi, hs⟩ := lvTo_some k (h1.trans h)
      exact ⟨i, by omega, hs⟩
/-- Ascending times. -/
def Asc (xs : List (Int × Int)) : Prop := ∀ i, i + 1 < xs.length → P1 xs i < P1 xs (i + 1)
theorem Asc.lt {xs : List (Int × Int)} (h : Asc xs) {i : Nat} : ∀ j, i < j → j < xs.length → P1 xs i < P1 xs j
  | 0, hj, _ => by omega
  | j + 1, hj, hl => by
    by_cases e : i = j
    · subst e; exact h i hl
    · exact Int.lt_trans (h.lt j (by omega) (by omega)) (h j hl)
theorem lvTo_none {xs : List (Int × Int)} {t : Int} : ∀ k, (∀ j, j < k → P1 xs j < t) → lvTo xs t k = none
  | 0, _ => rfl
  | k + 1, h => by
    rw [lvTo, lvTo_none k (fun j hj => h j (by omega))]
    have := h k (by omega)
    simp only [lvStep]
    rw [if_neg (by omega), if_neg (by omega)]
theorem lv_exact {xs : List (Int × Int)} {t : Int} {k : Nat} (ha : Asc xs) (hk : k < xs.length) (h : P1 xs k = t) : lv xs t = some (P2 xs k, 1) :=
  lv_found hk (lvTo_none k (fun j hj => by rw [← h]; exact ha.lt k hj hk)) (by simp [lvStep, h])
theorem lv_between {xs : List (Int × Int)} {t : Int} {k : Nat} (ha : Asc xs) (hk : k + 1 < xs.length) (h1 : P1 xs k < t) (h2 : t < P1 xs (k + 1)) :
    lv xs t = some (P2 xs k * (P1 xs (k + 1) - t) + P2 xs (k + 1) * (t - P1 xs k), P1 xs (k + 1) - P1 xs k) := by
  refine lv_found hk (lvTo_none _ (fun j hj => ?_)) ?_
  · by_cases e : j = k
    · subst e; exact h1
    · exact Int.lt_trans (ha.lt k (by omega) (by omega)) h1
  · simp only [lvStep]
    rw [if_neg (by omega), if_pos ⟨by omega, by simpa using h1, h2⟩]
    simp
theorem lv_no {xs : List (Int × Int)} {t : Int} (h1 : ∀ i, i < xs.length → P1 xs i ≠ t) (h2 : ∀ i, i + 1 < xs.length → ¬ (P1 xs i ≤ t ∧ t ≤ P1 xs (i + 1) ∧ P1 xs (i + 1) - P1 xs i ≤ 60)) : lvOk xs t = false := by
  unfold lvOk
  cases h : lv xs t with
  | none => rfl
  | some r =>
    obtain ⟨i, hi, hs⟩ := lvTo_some _ h
    simp only [lvStep] at hs
    rw [if_neg (h1 i hi)] at hs
    split at hs
    · rename_i hc
      obtain ⟨c0, c1, c2⟩ := hc
      obtain ⟨j, rfl⟩ : ∃ j, i = j + 1 := ⟨i - 1, by omega⟩
      have := h2 j hi
      injection hs with hs
      subst hs
      simp at c1 ⊢
      omega
    · cases hs
theorem lv_vals {xs : List (Int × Int)} {t : Int} {r : Int × Int} (h : lv xs t = some r) (hr : r.2 ≤ 60) : lvOk xs t = true ∧ lvN xs t = r.1 ∧ lvD xs t = r.2 := by
  have h1 : lvOk xs t = true := by simp [lvOk, h, hr]
  exact ⟨h1, by simp [lvN, h1, h], by simp [lvD, h1, h]⟩
theorem lv_vals_no {xs : List (Int × Int)} {t : Int} (h : lvOk xs t = false) : lvN xs t = 0 ∧ lvD xs t = 0 := by simp [lvN, lvD, h]

/-- A fraction in lowest terms. -/
def gcdI (a b : Int) : Int := (Nat.gcd a.natAbs b.natAbs : Nat)
def redN (a b : Int) : Int := a.tdiv (gcdI a b)
def redD (a b : Int) : Int := b / gcdI a b
theorem gcdI_pos {a b : Int} (h : 0 < b) : 0 < gcdI a b := by
  unfold gcdI
  have := Nat.gcd_pos_of_pos_right a.natAbs (n := b.natAbs) (by omega)
  omega
theorem red_mul {a b : Int} (h : 0 < b) : redN a b * gcdI a b = a ∧ redD a b * gcdI a b = b := by
  have h1 : gcdI a b ∣ a := Int.ofNat_dvd_left.2 (Nat.gcd_dvd_left _ _)
  have h2 : gcdI a b ∣ b := Int.ofNat_dvd_left.2 (Nat.gcd_dvd_right _ _)
  exact ⟨Int.tdiv_mul_cancel h1, Int.ediv_mul_cancel h2⟩
theorem redD_pos {a b : Int} (h : 0 < b) : 0 < redD a b := by
  have h1 := (red_mul (a := a) h).2
  have h2 := gcdI_pos (a := a) h
  rcases Int.lt_or_le 0 (redD a b) with h3 | h3
  · exact h3
  · have := Int.mul_nonpos_of_nonpos_of_nonneg h3 (Int.le_of_lt h2)
    omega
theorem gcdI_le {a b : Int} (h : 0 < b) : gcdI a b ≤ b := by
  unfold gcdI
  have := Nat.le_of_dvd (by omega) (Nat.gcd_dvd_right a.natAbs b.natAbs)
  omega
theorem red_bd (a : Int) {b : Int} (h : 0 < b) : (redN a b).natAbs ≤ a.natAbs ∧ redD a b ≤ b := by
  unfold redN redD
  rw [Int.natAbs_tdiv]
  exact ⟨Nat.div_le_self _ _, Int.ediv_le_self _ (by omega)⟩
theorem red_one (a : Int) : redN a 1 = a ∧ redD a 1 = 1 := by simp [redN, redD, gcdI]
end Go.Proofs.Ytopdnhlolfehcaa
