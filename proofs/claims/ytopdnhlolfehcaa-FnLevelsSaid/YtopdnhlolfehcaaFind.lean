/-
  The first index that satisfies a test: plain facts.
  Conditions: none.
-/
import Derived.Test.YtopdnhlolfehcaaMem
namespace Go.Proofs.Ytopdnhlolfehcaa
set_option linter.unusedVariables false
def findTo (p : Nat → Bool) : Nat → Option Nat
  | 0 => none
  | k + 1 => match findTo p k with
    | some i => some i
    | none => if p k = true then some k else none
theorem find_none {p : Nat → Bool} : ∀ {k : Nat}, (∀ j, j < k → p j = false) → findTo p k = none
  | 0, _ => rfl
  | k + 1, h => by
    rw [findTo, find_none (fun j hj => h j (by omega))]
    simp [h k (by omega)]
theorem find_mono {p : Nat → Bool} {k i : Nat} (h : findTo p k = some i) : ∀ {m : Nat}, k ≤ m → findTo p m = some i
  | 0, hm => by
    obtain rfl : k = 0 := by omega
    exact h
  | m + 1, hm => by
    by_cases e : k = m + 1
    · subst e; exact h
    · rw [findTo, find_mono h (m := m) (by omega)]
theorem find_some {p : Nat → Bool} {n k : Nat} (hk : k < n) (h0 : ∀ j, j < k → p j = false) (h : p k = true) : findTo p n = some k :=
  find_mono (k := k + 1) (by rw [findTo, find_none h0]; simp [h]) hk
theorem find_is {p : Nat → Bool} : ∀ {n k : Nat}, findTo p n = some k → k < n ∧ p k = true ∧ ∀ j, j < k → p j = false
  | 0, k, h => by simp [findTo] at h
  | n + 1, k, h => by
    rw [findTo] at h
    cases h1 : findTo p n with
    | some i =>
      rw [h1] at h
      injection h with h
      subst h
      have := find_is h1
      exact ⟨by omega, this.2.1, this.2.2⟩
    | none =>
      rw [h1] at h
      have hno : ∀ j, j < n → p j = false := fun j hj => by
        cases hp : p j with
        | false => rfl
        | true =>
          exfalso
          have : ∀ m, m ≤ n → findTo p m = none := fun m hm => by
            cases h2 : findTo p m with
            | none => rfl
            | some i => rw [find_mono h2 hm] at h1; cases h1
          have h3 := this (j + 1) (by omega)
          rw [findTo, this j (by omega)] at h3
          simp [hp] at h3
      cases hp : p n with
      | false => simp [hp] at h
      | true =>
        simp [hp] at h
        subst h
        exact ⟨by omega, hp, hno⟩
theorem find_no {p : Nat → Bool} {n : Nat} (h : findTo p n = none) : ∀ j, j < n → p j = false := fun j hj => by
  cases hp : p j with
  | false => rfl
  | true =>
    exfalso
    have : ∀ m, m ≤ n → findTo p m = none := fun m hm => by
      cases h2 : findTo p m with
      | none => rfl
      | some i => rw [find_mono h2 hm] at h; cases h
    have h3 := this (j + 1) (by omega)
    rw [findTo, this j (by omega)] at h3
    simp [hp] at h3
/-- The index as a number, -1 if there is none. -/
def idxI (o : Option Nat) : Int := match o with
  | some i => (i : Int)
  | none => -1
end Go.Proofs.Ytopdnhlolfehcaa
