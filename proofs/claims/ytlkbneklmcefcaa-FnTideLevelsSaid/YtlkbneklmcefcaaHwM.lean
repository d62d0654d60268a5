/-
  Plain facts for the drawn law FnHighWaters: the highest level is above all and one of them; the first minute; counts.
  Conditions: none.
-/
import Derived.Test.YtlkbneklmcefcaaHigh2
import Derived.Test.YtlkbneklmcefcaaFirst
import Derived.Test.YtlkbneklmcefcaaLevel
namespace Go.Proofs.Ytlkbneklmcefcaa
open Go.ChangeShapes Go.WideShapes Go.ChangeAt Go.RowKit
set_option linter.unusedVariables false

theorem fr_trans {a b p q u v : Int} (hv : 0 < v) (hb : 0 < b) (hq : 0 < q) (h1 : a * v ≤ u * b) (h2 : u * q < p * v) : a * q ≤ p * b := by
  have e1 : a * q * v = a * v * q := by ac_rfl
  have e2 : u * b * q = u * q * b := by ac_rfl
  have e3 : p * v * b = p * b * v := by ac_rfl
  have s1 := Int.mul_le_mul_of_nonneg_right h1 (Int.le_of_lt hq)
  have s2 := Int.mul_le_mul_of_nonneg_right (Int.le_of_lt h2) (Int.le_of_lt hb)
  exact Int.le_of_mul_le_mul_right (a := v) (by omega) hv
theorem hi_all {xs : List (Int × Int)} {f : Int} (hB : tideB xs = true) (f0 : 0 ≤ f) : ∀ k : Nat, f + k ≤ 10001 → (∀ j : Nat, j < k → lvOk xs (f + j) = true) → ∀ j : Nat, j < k → lvN xs (f + j) * (hiTo xs f k).2 ≤ (hiTo xs f k).1 * lvD xs (f + j)
  | 0, _, _ => fun j hj => absurd hj (by omega)
  | k + 1, h1, h2 => fun j hj => by
    have ih := hi_all hB f0 k (by omega) (fun j hj => h2 j (by omega))
    have hbd := hi_bd hB f0 k (by omega) (fun j hj => h2 j (by omega))
    have hk := lv_bd hB (timeB_2 (t := f + k) (by omega) (by omega)) (h2 k (by omega))
    have hjb := lv_bd hB (timeB_2 (t := f + j) (by omega) (by omega)) (h2 j hj)
    rw [hiTo]
    split
    · rename_i hc
      simp only []
      by_cases e : j = k
      · subst e
        omega
      · have hz := hbd.2.2 (by omega)
        rcases hc with hc | hc
        · omega
        · exact fr_trans (by omega) (by omega) (by omega) (ih j (by omega)) hc
    · rename_i hc
      by_cases e : j = k
      · subst e
        omega
      · exact ih j (by omega)
theorem hi_one (xs : List (Int × Int)) (f : Int) : ∀ k : Nat, 0 < k → ∃ j : Nat, j < k ∧ hiTo xs f k = (lvN xs (f + j), lvD xs (f + j))
  | 0, h => absurd h (by omega)
  | k + 1, _ => by
    rw [hiTo]
    split
    · exact ⟨k, by omega, rfl⟩
    · rename_i hc
      by_cases h0 : 0 < k
      · obtain ⟨j, hj, he⟩ := hi_one xs f k h0
        exact ⟨j, by omega, he⟩
      · have e : k = 0 := by omega
        subst e
        exact absurd (Or.inl rfl) hc
theorem redN_bd {a b : Int} (B : Int) (hb : 0 < b) (h1 : -B ≤ a) (h2 : a ≤ B) : -B ≤ redN a b ∧ redN a b ≤ B := by
  have := (red_bd a hb).1
  omega
/-- What the law asks of the highest level. -/
theorem high_fact {xs : List (Int × Int)} {f t : Int} (h : hlOk xs f t = true) :
    (0 ≤ f ∧ f ≤ t ∧ t ≤ 10000) ∧ ((-40000000 ≤ hlN xs f t ∧ hlN xs f t ≤ 40000000) ∧ (1 ≤ hlD xs f t ∧ hlD xs f t ≤ 60)) ∧
    (∀ j : Nat, f + j ≤ t → lvlOk xs (f + j) = true ∧ ((-40000000 ≤ lvlN xs (f + j) ∧ lvlN xs (f + j) ≤ 40000000) ∧ (1 ≤ lvlD xs (f + j) ∧ lvlD xs (f + j) ≤ 60)) ∧ lvlN xs (f + j) * hlD xs f t ≤ hlN xs f t * lvlD xs (f + j)) ∧
    ∃ j : Nat, f + j ≤ t ∧ lvlN xs (f + j) = hlN xs f t ∧ lvlD xs (f + j) = hlD xs f t := by
  have h0 := h
  simp only [hlOk, Bool.and_eq_true] at h0
  obtain ⟨hin, hall⟩ := h0
  obtain ⟨hB, hsp⟩ := hlIn_1 hin
  simp only [spanB, timeB, Bool.and_eq_true, decide_eq_true_eq, inB_true] at hsp
  obtain ⟨⟨⟨f0, f1⟩, ⟨t0, t1⟩⟩, hft⟩ := hsp
  have hn : f + ((t - f + 1).toNat : Int) = t + 1 := by omega
  have hok : ∀ j : Nat, j < (t - f + 1).toNat → lvOk xs (f + j) = true := fun j hj => allB_at hall hj
  have hbd := hi_bd hB f0 (t - f + 1).toNat (by omega) hok
  have hall2 := hi_all hB f0 (t - f + 1).toNat (by omega) hok
  obtain ⟨j0, hj0, he0⟩ := hi_one xs f (t - f + 1).toNat (by omega)
  have hN : hlN xs f t = redN (hiTo xs f (t - f + 1).toNat).1 (hiTo xs f (t - f + 1).toNat).2 := by rw [hlN, if_pos h]
  have hD : hlD xs f t = redD (hiTo xs f (t - f + 1).toNat).1 (hiTo xs f (t - f + 1).toNat).2 := by rw [hlD, if_pos h]
  have hd1 := hbd.2.2 (by omega)
  rw [hN, hD]
  have each : ∀ j : Nat, f + j ≤ t → lvlOk xs (f + j) = true := fun j hj => by
    simp only [lvlOk, askB, Bool.and_eq_true]
    exact ⟨⟨hB, timeB_2 (by omega) (by omega)⟩, hok j (by omega)⟩
  refine ⟨⟨f0, hft, t1⟩, ⟨redN_bd _ (by omega) hbd.1.1 hbd.1.2, ?_⟩, fun j hj => ⟨each j hj, ?_⟩, j0, by omega, ?_⟩
  · have := (red_bd (hiTo xs f (t - f + 1).toNat).1 (b := (hiTo xs f (t - f + 1).toNat).2) (by omega)).2
    have := redD_pos (a := (hiTo xs f (t - f + 1).toNat).1) (b := (hiTo xs f (t - f + 1).toNat).2) (by omega)
    omega
  · have hlb := lv_bd hB (timeB_2 (t := f + j) (by omega) (by omega)) (hok j (by omega))
    obtain ⟨eN, eD⟩ := lvl_yes (each j hj)
    rw [eN, eD]
    have := (red_bd (lvN xs (f + j)) (b := lvD xs (f + j)) (by omega)).2
    have := redD_pos (a := lvN xs (f + j)) (b := lvD xs (f + j)) (by omega)
    refine ⟨⟨redN_bd _ (by omega) hlb.1.1 hlb.1.2, by omega, by omega⟩, ?_⟩
    have ha := hall2 j (by omega)
    have hr := red_lt (p := lvN xs (f + j)) (q := lvD xs (f + j)) (u := (hiTo xs f (t - f + 1).toNat).1) (v := (hiTo xs f (t - f + 1).toNat).2) (by omega) (by omega)
    have : ¬ redN (hiTo xs f (t - f + 1).toNat).1 (hiTo xs f (t - f + 1).toNat).2 * redD (lvN xs (f + j)) (lvD xs (f + j)) < redN (lvN xs (f + j)) (lvD xs (f + j)) * redD (hiTo xs f (t - f + 1).toNat).1 (hiTo xs f (t - f + 1).toNat).2 := fun hc => by
      have := hr.1 hc
      omega
    omega
  · obtain ⟨eN, eD⟩ := lvl_yes (each j0 (by omega))
    rw [eN, eD, he0]
    exact ⟨rfl, rfl⟩
theorem first_spec {xs : List (Int × Int)} {l f r : Int} : ∀ K : Nat, firstTo xs l f K = some r → ∃ k : Nat, k < K ∧ r = f + k ∧ hasB xs l (f + k) = true ∧ ∀ j : Nat, j < k → hasB xs l (f + j) = false
  | 0, h => by simp [firstTo] at h
  | K + 1, h => by
    cases h0 : firstTo xs l f K with
    | some s =>
      have h1 := first_mono h0 (K + 1) (by omega)
      rw [h] at h1
      injection h1 with h1
      subst h1
      obtain ⟨k, hk, e, ha, hb⟩ := first_spec K h0
      exact ⟨k, by omega, e, ha, hb⟩
    | none =>
      have hn : ∀ j : Nat, j < K → hasB xs l (f + j) = false := fun j hj => by
        cases hh : hasB xs l (f + j) with
        | false => rfl
        | true =>
          exfalso
          have : ∀ m : Nat, j < m → (∃ s, firstTo xs l f m = some s) := by
            intro m hm
            induction m with
            | zero => omega
            | succ m ih =>
              by_cases e : j < m
              · obtain ⟨s, hs⟩ := ih e
                exact ⟨s, first_mono hs _ (by omega)⟩
              · have e : j = m := by omega
                subst e
                cases hm0 : firstTo xs l f j with
                | some s => exact ⟨s, first_mono hm0 _ (by omega)⟩
                | none => exact ⟨f + j, by rw [firstTo, hm0]; simp [hh]⟩
          obtain ⟨s, hs⟩ := this K hj
          rw [hs] at h0
          cases h0
      rw [firstTo, h0] at h
      simp only [] at h
      split at h
      · rename_i hh
        injection h with h
        exact ⟨K, by omega, h.symm, hh, hn⟩
      · cases h
theorem cnt_zero {xs : List (Int × Int)} {l f : Int} : ∀ k : Nat, (∀ j : Nat, j < k → hasB xs l (f + j) = false) → cntTo xs l f k = 0
  | 0, _ => rfl
  | k + 1, h => by
    rw [cntTo, cnt_zero k (fun j hj => h j (by omega)), h k (by omega)]
    rfl
/-- What the law asks of the first minute. -/
theorem first_fact {xs : List (Int × Int)} {l f : Int} (h : fmOk xs l f = true) : ∃ k : Nat, fmV xs l f = f + k ∧ (0 ≤ f ∧ f + k ≤ 10000) ∧ mwOk xs l f (f + k) = true ∧ mwV xs l f (f + k) = 1 := by
  by_cases hin : fmIn xs l f = true
  · obtain ⟨hB, hl, hf⟩ := fmIn_1 hin
    have hf2 := inB_true.1 hf
    unfold fmOk at h
    unfold fmR at h
    rw [if_pos hin] at h
    cases hr : firstTo xs l f (10001 - f).toNat with
    | none => rw [hr] at h; cases h
    | some r =>
      obtain ⟨k, hk, e, ha, hb⟩ := first_spec _ hr
      refine ⟨k, (fm_yes hin (by omega) hb ha).1, ⟨hf2.1, by omega⟩, ?_, ?_⟩
      · simp only [mwOk, spanB, Bool.and_eq_true, decide_eq_true_eq]
        exact ⟨⟨hB, hl⟩, ⟨hf, timeB_2 (by omega) (by omega)⟩, by omega⟩
      · have hok : mwOk xs l f (f + k) = true := by
          simp only [mwOk, spanB, Bool.and_eq_true, decide_eq_true_eq]
          exact ⟨⟨hB, hl⟩, ⟨hf, timeB_2 (by omega) (by omega)⟩, by omega⟩
        rw [mw_yes hok (k + 1) (by omega), cntTo, cnt_zero k hb, if_pos ha]
        rfl
  · have := (fm_out (by simpa using hin)).2
    rw [this] at h
    cases h
theorem minutes_fact {xs : List (Int × Int)} {l f t : Int} (h : mwOk xs l f t = true) : (0 ≤ f ∧ f ≤ t ∧ t ≤ 10000) ∧ 0 ≤ mwV xs l f t ∧ mwV xs l f t ≤ t - f + 1 := by
  have h0 := h
  simp only [mwOk, spanB, timeB, Bool.and_eq_true, decide_eq_true_eq, inB_true] at h0
  obtain ⟨-, ⟨⟨f0, f1⟩, ⟨t0, t1⟩⟩, hft⟩ := h0
  rw [mw_yes h (t - f + 1).toNat (by omega)]
  have := cntTo_le xs l f (t - f + 1).toNat
  omega
/-- Has one of the first k minutes exactly this level. -/
def hitTo (xs : List (Int × Int)) (f n d : Int) (k : Nat) : Bool := (List.range k).any (fun j => (lvlN xs (f + j) == n) && (lvlD xs (f + j) == d))
theorem hit_step (xs : List (Int × Int)) (f n d : Int) (k : Nat) : hitTo xs f n d (k + 1) = (hitTo xs f n d k || ((lvlN xs (f + k) == n) && (lvlD xs (f + k) == d))) := by
  simp [hitTo, List.range_succ, List.any_append]
theorem hit_all {xs : List (Int × Int)} {f n d : Int} {k j : Nat} (hj : j < k) (h1 : lvlN xs (f + j) = n) (h2 : lvlD xs (f + j) = d) : hitTo xs f n d k = true := by
  rw [hitTo, List.any_eq_true]
  exact ⟨j, List.mem_range.2 hj, by simp [h1, h2]⟩
end Go.Proofs.Ytlkbneklmcefcaa
